/- Written by a program of this session (wip/handprint, over the kit's printer): what Go functions of the program come to, each by a contract of its own; Lean checks all of it. -/
import Derived.Test.YthkepoimagnagaaKx0
import Derived.Test.YthkepoimagnagaaKx9
import Derived.Test.YthkepoimagnagaaKx16
import Derived.Test.YthkepoimagnagaaKx20
import Derived.Test.YthkepoimagnagaaKx25
namespace Go.Proofs.Ythkepoimagnagaa.K
open Go.RowKit Go.Proofs.YthkepoimagnagaaW.PrintWords Go.Proofs.YthkepoimagnagaaW.PrintLast Go.Proofs.YthkepoimagnagaaW.PrintMore
attribute [local go_sem] max2_int min2_int max_two min_two max_three min_three max_four min_four   -- for this text's walks alone
set_option linter.unusedVariables false
set_option linter.unusedSimpArgs false

/-! ### cachetlaw05_CodeSpoilt: function 8 -/
mutual
def cachetlaw05_CodeSpoilt.j0 : Nat → Int → Bool → Int → List (S26) → Int → Int → Int → Option (Bool)
 | 0, _, _, _, _, _, _, _ => none
 | k + 1, x1, x17, x373000, x373001, x374000, x374001, x374002 => if x17 = true then ((cachetlaw05_known.f).bind fun t375 => (some t375)) else ((cachetref05_Bytes.f k x373000 x373001).bind fun t376 => (if x1 ≥ 0 then (if (t376.length : Int) = 0 then (none) else (if 0 ≤ (Int.tmod x1 (t376.length : Int)) then (if (Int.tmod x1 (t376.length : Int)) < (t376.length : Int) then (cachetlaw05_CodeSpoilt.j1 k (t376.set ((Int.tmod x1 (t376.length : Int)) : Int).toNat x374000) x374000 x374001 x374002) else (none)) else (none))) else (cachetlaw05_CodeSpoilt.j1 k t376 x374000 x374001 x374002)))
def cachetlaw05_CodeSpoilt.j1 : Nat → List Int → Int → Int → Int → Option (Bool)
 | 0, _, _, _, _ => none
 | k + 1, x7, x374000, x374001, x374002 => if x374001 ≥ 0 then (cachetlaw05_CodeSpoilt.j2 k x7 (decide (x374001 < (x7.length : Int))) x374000 x374001 x374002) else (cachetlaw05_CodeSpoilt.j2 k x7 false x374000 x374001 x374002)
def cachetlaw05_CodeSpoilt.j2 : Nat → List Int → Bool → Int → Int → Int → Option (Bool)
 | 0, _, _, _, _, _ => none
 | k + 1, x7, x40, x374000, x374001, x374002 => if x40 = true then (if 0 ≤ x374001 then (if x374001 ≤ (x7.length : Int) then (cachetlaw05_CodeSpoilt.j3 k (x7.take (x374001 : Int).toNat) x374000 x374001 x374002) else (none)) else (none)) else (cachetlaw05_CodeSpoilt.j3 k x7 x374000 x374001 x374002)
def cachetlaw05_CodeSpoilt.j3 : Nat → List Int → Int → Int → Int → Option (Bool)
 | 0, _, _, _, _ => none
 | k + 1, x7, x374000, x374001, x374002 => cachetlaw05_CodeSpoilt.l0 k x7 0 x374000 x374001 x374002
def cachetlaw05_CodeSpoilt.l0 : Nat → List Int → Int → Int → Int → Int → Option (Bool)
 | 0, _, _, _, _, _ => none
 | k + 1, x7, x8, x374000, x374001, x374002 => if x8 < (Int.tmod x374002 9) then (if x7.length < 140737488355328 then (cachetlaw05_CodeSpoilt.l0 k (x7 ++ [x374000]) ((x8 + 1) % 256) x374000 x374001 x374002) else (none)) else ((cachetlaw05_CodeReads.f k x7).bind fun t386 => (some t386))
end
def cachetlaw05_CodeSpoilt.f (k : Nat) (a0_0 : Int) (l0_1 : List (S26)) (a1 : Int) (a2_0 : Int) (a2_1 : Int) (a2_2 : Int) : Option (Bool) := if (l0_1.length : Int) > 40 then (cachetlaw05_CodeSpoilt.j0 k a1 true a0_0 l0_1 a2_0 a2_1 a2_2) else ((cachetref05_Check.f k a0_0 l0_1).bind fun t374 => (cachetlaw05_CodeSpoilt.j0 k a1 (t374 != 0) a0_0 l0_1 a2_0 a2_1 a2_2))
theorem cachetlaw05_CodeSpoilt.mono_l : ∀ k, (∀ y0 y1 y2 y3 y4 y5 y6, LeO (cachetlaw05_CodeSpoilt.j0 k y0 y1 y2 y3 y4 y5 y6) (cachetlaw05_CodeSpoilt.j0 (k + 1) y0 y1 y2 y3 y4 y5 y6)) ∧ (∀ y0 y1 y2 y3, LeO (cachetlaw05_CodeSpoilt.j1 k y0 y1 y2 y3) (cachetlaw05_CodeSpoilt.j1 (k + 1) y0 y1 y2 y3)) ∧ (∀ y0 y1 y2 y3 y4, LeO (cachetlaw05_CodeSpoilt.j2 k y0 y1 y2 y3 y4) (cachetlaw05_CodeSpoilt.j2 (k + 1) y0 y1 y2 y3 y4)) ∧ (∀ y0 y1 y2 y3, LeO (cachetlaw05_CodeSpoilt.j3 k y0 y1 y2 y3) (cachetlaw05_CodeSpoilt.j3 (k + 1) y0 y1 y2 y3)) ∧ (∀ y0 y1 y2 y3 y4, LeO (cachetlaw05_CodeSpoilt.l0 k y0 y1 y2 y3 y4) (cachetlaw05_CodeSpoilt.l0 (k + 1) y0 y1 y2 y3 y4))
 | 0 => ⟨fun _ _ _ _ _ _ _ r h => by simp [cachetlaw05_CodeSpoilt.j0] at h, fun _ _ _ _ r h => by simp [cachetlaw05_CodeSpoilt.j1] at h, fun _ _ _ _ _ r h => by simp [cachetlaw05_CodeSpoilt.j2] at h, fun _ _ _ _ r h => by simp [cachetlaw05_CodeSpoilt.j3] at h, fun _ _ _ _ _ r h => by simp [cachetlaw05_CodeSpoilt.l0] at h⟩
 | k + 1 => by
  obtain ⟨ih0, ih1, ih2, ih3, ih4⟩ := cachetlaw05_CodeSpoilt.mono_l k
  refine ⟨?_, ?_, ?_, ?_, ?_⟩
  ·intro y0 y1 y2 y3 y4 y5 y6
   unfold cachetlaw05_CodeSpoilt.j0
   repeat' first
   | (with_reducible exact ih0 _ _ _ _ _ _ _)
   | (with_reducible exact ih1 _ _ _ _)
   | (with_reducible exact ih2 _ _ _ _ _)
   | (with_reducible exact ih3 _ _ _ _)
   | (with_reducible exact ih4 _ _ _ _ _)
   | (with_reducible exact cachetlaw05_CodeReads.mono _ _)
   | (with_reducible exact cachetref05_Bytes.mono _ _ _)
   | (with_reducible exact cachetref05_Check.mono _ _ _)
   | (with_reducible exact LeO.refl _)
   | (with_reducible exact LeO.none _)
   | (with_reducible refine LeO.ite ?_ ?_)
   | (with_reducible refine LeO.bind ?_ (fun _ => ?_))
   | exact ih0 _ _ _ _ _ _ _
   | exact ih1 _ _ _ _
   | exact ih2 _ _ _ _ _
   | exact ih3 _ _ _ _
   | exact ih4 _ _ _ _ _
   | exact cachetlaw05_CodeReads.mono _ _
   | exact cachetref05_Bytes.mono _ _ _
   | exact cachetref05_Check.mono _ _ _
   | exact LeO.none _
   | refine LeO.ite ?_ ?_
   | refine LeO.bind ?_ (fun _ => ?_)
  ·intro y0 y1 y2 y3
   unfold cachetlaw05_CodeSpoilt.j1
   repeat' first
   | (with_reducible exact ih0 _ _ _ _ _ _ _)
   | (with_reducible exact ih1 _ _ _ _)
   | (with_reducible exact ih2 _ _ _ _ _)
   | (with_reducible exact ih3 _ _ _ _)
   | (with_reducible exact ih4 _ _ _ _ _)
   | (with_reducible exact cachetlaw05_CodeReads.mono _ _)
   | (with_reducible exact cachetref05_Bytes.mono _ _ _)
   | (with_reducible exact cachetref05_Check.mono _ _ _)
   | (with_reducible exact LeO.refl _)
   | (with_reducible exact LeO.none _)
   | (with_reducible refine LeO.ite ?_ ?_)
   | (with_reducible refine LeO.bind ?_ (fun _ => ?_))
   | exact ih0 _ _ _ _ _ _ _
   | exact ih1 _ _ _ _
   | exact ih2 _ _ _ _ _
   | exact ih3 _ _ _ _
   | exact ih4 _ _ _ _ _
   | exact cachetlaw05_CodeReads.mono _ _
   | exact cachetref05_Bytes.mono _ _ _
   | exact cachetref05_Check.mono _ _ _
   | exact LeO.none _
   | refine LeO.ite ?_ ?_
   | refine LeO.bind ?_ (fun _ => ?_)
  ·intro y0 y1 y2 y3 y4
   unfold cachetlaw05_CodeSpoilt.j2
   repeat' first
   | (with_reducible exact ih0 _ _ _ _ _ _ _)
   | (with_reducible exact ih1 _ _ _ _)
   | (with_reducible exact ih2 _ _ _ _ _)
   | (with_reducible exact ih3 _ _ _ _)
   | (with_reducible exact ih4 _ _ _ _ _)
   | (with_reducible exact cachetlaw05_CodeReads.mono _ _)
   | (with_reducible exact cachetref05_Bytes.mono _ _ _)
   | (with_reducible exact cachetref05_Check.mono _ _ _)
   | (with_reducible exact LeO.refl _)
   | (with_reducible exact LeO.none _)
   | (with_reducible refine LeO.ite ?_ ?_)
   | (with_reducible refine LeO.bind ?_ (fun _ => ?_))
   | exact ih0 _ _ _ _ _ _ _
   | exact ih1 _ _ _ _
   | exact ih2 _ _ _ _ _
   | exact ih3 _ _ _ _
   | exact ih4 _ _ _ _ _
   | exact cachetlaw05_CodeReads.mono _ _
   | exact cachetref05_Bytes.mono _ _ _
   | exact cachetref05_Check.mono _ _ _
   | exact LeO.none _
   | refine LeO.ite ?_ ?_
   | refine LeO.bind ?_ (fun _ => ?_)
  ·intro y0 y1 y2 y3
   unfold cachetlaw05_CodeSpoilt.j3
   repeat' first
   | (with_reducible exact ih0 _ _ _ _ _ _ _)
   | (with_reducible exact ih1 _ _ _ _)
   | (with_reducible exact ih2 _ _ _ _ _)
   | (with_reducible exact ih3 _ _ _ _)
   | (with_reducible exact ih4 _ _ _ _ _)
   | (with_reducible exact cachetlaw05_CodeReads.mono _ _)
   | (with_reducible exact cachetref05_Bytes.mono _ _ _)
   | (with_reducible exact cachetref05_Check.mono _ _ _)
   | (with_reducible exact LeO.refl _)
   | (with_reducible exact LeO.none _)
   | (with_reducible refine LeO.ite ?_ ?_)
   | (with_reducible refine LeO.bind ?_ (fun _ => ?_))
   | exact ih0 _ _ _ _ _ _ _
   | exact ih1 _ _ _ _
   | exact ih2 _ _ _ _ _
   | exact ih3 _ _ _ _
   | exact ih4 _ _ _ _ _
   | exact cachetlaw05_CodeReads.mono _ _
   | exact cachetref05_Bytes.mono _ _ _
   | exact cachetref05_Check.mono _ _ _
   | exact LeO.none _
   | refine LeO.ite ?_ ?_
   | refine LeO.bind ?_ (fun _ => ?_)
  ·intro y0 y1 y2 y3 y4
   unfold cachetlaw05_CodeSpoilt.l0
   repeat' first
   | (with_reducible exact ih0 _ _ _ _ _ _ _)
   | (with_reducible exact ih1 _ _ _ _)
   | (with_reducible exact ih2 _ _ _ _ _)
   | (with_reducible exact ih3 _ _ _ _)
   | (with_reducible exact ih4 _ _ _ _ _)
   | (with_reducible exact cachetlaw05_CodeReads.mono _ _)
   | (with_reducible exact cachetref05_Bytes.mono _ _ _)
   | (with_reducible exact cachetref05_Check.mono _ _ _)
   | (with_reducible exact LeO.refl _)
   | (with_reducible exact LeO.none _)
   | (with_reducible refine LeO.ite ?_ ?_)
   | (with_reducible refine LeO.bind ?_ (fun _ => ?_))
   | exact ih0 _ _ _ _ _ _ _
   | exact ih1 _ _ _ _
   | exact ih2 _ _ _ _ _
   | exact ih3 _ _ _ _
   | exact ih4 _ _ _ _ _
   | exact cachetlaw05_CodeReads.mono _ _
   | exact cachetref05_Bytes.mono _ _ _
   | exact cachetref05_Check.mono _ _ _
   | exact LeO.none _
   | refine LeO.ite ?_ ?_
   | refine LeO.bind ?_ (fun _ => ?_)
theorem cachetlaw05_CodeSpoilt.mono : ∀ a0 a1 a2 a3 a4 a5 k, LeO (cachetlaw05_CodeSpoilt.f k a0 a1 a2 a3 a4 a5) (cachetlaw05_CodeSpoilt.f (k + 1) a0 a1 a2 a3 a4 a5) := by
 intro a0 a1 a2 a3 a4 a5 k
 obtain ⟨ih0, ih1, ih2, ih3, ih4⟩ := cachetlaw05_CodeSpoilt.mono_l k
 unfold cachetlaw05_CodeSpoilt.f
 repeat' first
   | (with_reducible exact ih0 _ _ _ _ _ _ _)
   | (with_reducible exact ih1 _ _ _ _)
   | (with_reducible exact ih2 _ _ _ _ _)
   | (with_reducible exact ih3 _ _ _ _)
   | (with_reducible exact ih4 _ _ _ _ _)
   | (with_reducible exact cachetlaw05_CodeReads.mono _ _)
   | (with_reducible exact cachetref05_Bytes.mono _ _ _)
   | (with_reducible exact cachetref05_Check.mono _ _ _)
   | (with_reducible exact LeO.refl _)
   | (with_reducible exact LeO.none _)
   | (with_reducible refine LeO.ite ?_ ?_)
   | (with_reducible refine LeO.bind ?_ (fun _ => ?_))
   | exact ih0 _ _ _ _ _ _ _
   | exact ih1 _ _ _ _
   | exact ih2 _ _ _ _ _
   | exact ih3 _ _ _ _
   | exact ih4 _ _ _ _ _
   | exact cachetlaw05_CodeReads.mono _ _
   | exact cachetref05_Bytes.mono _ _ _
   | exact cachetref05_Check.mono _ _ _
   | exact LeO.none _
   | refine LeO.ite ?_ ?_
   | refine LeO.bind ?_ (fun _ => ?_)
def cachetlaw05_CodeSpoilt.T5 : Bool × List (List Nat × List Nat) := (true, [([], []), ([], []), ([], []), ([2], [2]), ([1, 3], [1, 3]), ([], []), ([5], [5]), ([0, 4, 0, 1, 2, 3, 4, 5, 6], [0, 4]), ([7, 6, 0, 1, 2, 3, 4, 5, 6], [6, 7])])
def cachetlaw05_CodeSpoilt.B5 : List Nat := [0, 0, 0, 4, 14, 0, 32, 127, 255]
theorem cachetlaw05_CodeSpoilt.tab5 : rtab .any (opsOf Try.f8 5) = cachetlaw05_CodeSpoilt.T5 := by kernel_rfl
theorem cachetlaw05_CodeSpoilt.bits5 : waitsOk cachetlaw05_CodeSpoilt.T5.2 cachetlaw05_CodeSpoilt.B5 = true := by kernel_rfl
set_option maxHeartbeats 8000000 in
set_option maxRecDepth 100000 in
theorem cachetlaw05_CodeSpoilt.calls (k : Nat) (a0_0 : Int) (A0_1 : Option Addr) (c0_1 : Nat) (l0_1 : List (S26)) (a1 : Int) (a2_0 : Int) (a2_1 : Int) (a2_2 : Int) (r : Bool) (w : World) (hr0_1 : Kd.C k26 w A0_1 l0_1.length l0_1) (hc0_1 : l0_1.length ≤ c0_1) (h : cachetlaw05_CodeSpoilt.f k a0_0 l0_1 a1 a2_0 a2_1 a2_2 = some r) :
  Calls Try.prog 8 #[.agg #[.int .i64 a0_0, .slice A0_1 l0_1.length c0_1], .int .i64 a1, .agg #[.int .u8 a2_0, .int .i64 a2_1, .int .u8 a2_2]] w fun e w' => e = .returned (.bool r) ∧ Below w.heap.size w w' := by
 have hu32 := Try.underlying32
 have hu53 := Try.underlying53
 have HR0_1 := Aside0.mk hr0_1
 have HC0_1 := Aside0.mk hc0_1
 clear hr0_1 hc0_1
 have HB := Aside0.mk (Below.refl w.heap.size w)
 have H : (if (l0_1.length : Int) > 40 then (cachetlaw05_CodeSpoilt.j0 k a1 true a0_0 l0_1 a2_0 a2_1 a2_2) else ((cachetref05_Check.f k a0_0 l0_1).bind fun t374 => (cachetlaw05_CodeSpoilt.j0 k a1 (t374 != 0) a0_0 l0_1 a2_0 a2_1 a2_2))) = some r := h
 clear h
 have HC4 := Aside0.mk H
 clear H
 go_enter Try.func8, Try.ntmps8
 go_upto_region 1 with (first | ((with_reducible refine gate_dst (N := 3) rfl ?_); (try (refine gate_guard (by rfl) ?_; dsimp only)); refine box_event ?hg (N := 3) ?hd (cs := #[.int .i64 a0_0, .slice A0_1 l0_1.length c0_1]) (t := 32) ?hr ?_; (case hd => rfl); (case hg => rfl); (case hr => first | (go_simp; done) | (go_simp; rfl)); intro gb372 hg w5 hbox hb; have n0_ := Aside0.mk (below_step (by repeat (first | (with_reducible first | exact HB.out | apply below_alloc | apply pw_below_drewN | apply below_drew1) | exact HB.out)) hb); have n1_ := Aside0.mk (hbox); have n2_ := Aside0.mk ((by rw [hg]; exact (below_size (by repeat (first | (with_reducible first | exact HB.out | apply below_alloc | apply pw_below_drewN | apply below_drew1) | exact HB.out))) : w.heap.size ≤ gb372)); have n3_ := Aside0.mk ((by rw [hg]; exact (below_size (by repeat (first | (with_reducible first | exact HB.out | apply below_alloc | apply pw_below_drewN | apply below_drew1) | exact HB.out))) : w.heap.size ≤ gb372)); clear HB; have HB := n0_; have BK372 := n1_; have GW372 := n2_; have GE372 := n3_; clear n0_ n1_ n2_ n3_; clear hb hbox hg) | ((with_reducible refine gate_dst (N := 5) rfl ?_); (try (refine gate_guard (by rfl) ?_; dsimp only)); refine box_event ?hg (N := 5) ?hd (cs := #[.int .u8 a2_0, .int .i64 a2_1, .int .u8 a2_2]) (t := 53) ?hr ?_; (case hd => rfl); (case hg => rfl); (case hr => first | (go_simp; done) | (go_simp; rfl)); intro gb373 hg w6 hbox hb; have n0_ := Aside0.mk (blk_below (g := gb372) (o := .cells #[.int .i64 a0_0, .slice A0_1 l0_1.length c0_1] 32 (0, 0)) (by (with_reducible repeat (first | refine blk_drewN ?_ _ | refine blk_drew ?_ | refine blk_alloc ?_ _)); exact BK372.out) hb); have n1_ := Aside0.mk (below_step (by repeat (first | (with_reducible first | exact HB.out | apply below_alloc | apply pw_below_drewN | apply below_drew1 | refine below_set ?_ GE372.out) | exact HB.out)) hb); have n2_ := Aside0.mk (hbox); have n3_ := Aside0.mk ((by rw [hg]; exact (below_size (by repeat (first | (with_reducible first | exact HB.out | apply below_alloc | apply pw_below_drewN | apply below_drew1 | refine below_set ?_ GE372.out) | exact HB.out))) : w.heap.size ≤ gb373)); have n4_ := Aside0.mk ((by rw [hg]; exact (below_size (by repeat (first | (with_reducible first | exact HB.out | apply below_alloc | apply pw_below_drewN | apply below_drew1 | refine below_set ?_ GE372.out) | exact HB.out))) : w.heap.size ≤ gb373)); have n5_ := Aside0.mk ((by rw [hg]; exact Nat.ne_of_lt (blk_lt (g := gb372) (o := .cells #[.int .i64 a0_0, .slice A0_1 l0_1.length c0_1] 32 (0, 0)) (by (with_reducible repeat (first | refine blk_drewN ?_ _ | refine blk_drew ?_ | refine blk_alloc ?_ _)); exact BK372.out)) : gb372 ≠ gb373)); have n6_ := Aside0.mk ((by rw [hg]; exact Nat.ne_of_gt (blk_lt (g := gb372) (o := .cells #[.int .i64 a0_0, .slice A0_1 l0_1.length c0_1] 32 (0, 0)) (by (with_reducible repeat (first | refine blk_drewN ?_ _ | refine blk_drew ?_ | refine blk_alloc ?_ _)); exact BK372.out)) : gb373 ≠ gb372)); clear BK372; clear HB; have BK372 := n0_; have HB := n1_; have BK373 := n2_; have GW373 := n3_; have GE373 := n4_; have NB372_373 := n5_; have NB373_372 := n6_; clear n0_ n1_ n2_ n3_ n4_ n5_ n6_; clear hb hbox hg))
 (try simp only [Act.put, List.setIfInBounds_toArray, List.set_cons_zero, List.set_cons_succ])
 go_cut [17] (fun v17 wc => ∃ (kq : Nat) (x17_3 : Bool), v17 = .bool x17_3 ∧ Aside0 (cachetlaw05_CodeSpoilt.j0 kq a1 x17_3 a0_0 l0_1 a2_0 a2_1 a2_2 = some r) ∧ Aside0 (kq ≤ k) ∧ Aside0 (wc.heap[gb372]? = some (.cells #[.int .i64 a0_0, (.slice A0_1 l0_1.length c0_1)] 32 (0, 0))) ∧ Aside0 (wc.heap[gb373]? = some (.cells #[.int .u8 a2_0, .int .i64 a2_1, .int .u8 a2_2] 53 (0, 0))) ∧ Aside0 (Below w.heap.size w wc))
 case first =>
  have H := HC4.out
  clear HC4
  by_cases c7 : (l0_1.length : Int) > 40
  ·rw [if_pos c7] at H
   have c7b0 : decide (40 < (l0_1.length : Int)) = true := decide_eq_true c7
   have c7b1 : decide (40 < l0_1.length) = true := decide_eq_true (by omega)
   clear c7
   (first | rw [c7b0] | (simp only [i64_w, i32_w]; rw [c7b0]) | skip)
   have H' := Aside0.mk H
   clear H
   have hnb8 := NB372_373.out
   have hnc8 := NB373_372.out
   have hcz9_0 : w6.cell? ⟨gb372, 0, none⟩ = some (.int .i64 a0_0) := (blk_cell BK372.out 0).trans rfl
   have hcz9_1 : w6.cell? ⟨gb372, 1, none⟩ = some (.slice A0_1 l0_1.length c0_1) := (blk_cell BK372.out 1).trans rfl
   have hfz9_0 := blk_frozen BK372.out 0
   have hfz9_1 := blk_frozen BK372.out 1
   go_wp2
   go_meet
   case rel => exact ⟨_, (true), (by first | rfl | (simp; done) | (simp [*]; done)), H', ⟨by first | omega | exact Nat.le_refl _⟩, ⟨by (with_reducible repeat (first | refine blk_drewN ?_ _ | refine blk_drew ?_ | refine blk_alloc ?_ _)); exact BK372.out⟩, ⟨by (with_reducible repeat (first | refine blk_drewN ?_ _ | refine blk_drew ?_ | refine blk_alloc ?_ _)); exact BK373.out⟩, ⟨by repeat (first | (with_reducible first | exact HB.out | apply below_alloc | apply pw_below_drewN | apply below_drew1 | refine below_set ?_ GE372.out | refine below_set ?_ GE373.out) | exact HB.out)⟩⟩
  ·rw [if_neg c7] at H
   have c7b0 : decide (40 < (l0_1.length : Int)) = false := decide_eq_false c7
   have c7b1 : decide (40 < l0_1.length) = false := decide_eq_false (by omega)
   clear c7
   (first | rw [c7b0] | (simp only [i64_w, i32_w]; rw [c7b0]) | skip)
   replace H := Option.bind_eq_some_iff.mp H
   obtain ⟨t374, A100, H⟩ := H
   replace H : (cachetlaw05_CodeSpoilt.j0 k a1 (t374 != 0) a0_0 l0_1 a2_0 a2_1 a2_2) = some r := H
   have A10 := Aside0.mk A100
   clear A100
   have H' := Aside0.mk H
   clear H
   have hnb11 := NB372_373.out
   have hnc11 := NB373_372.out
   have hcz12_0 : w6.cell? ⟨gb372, 0, none⟩ = some (.int .i64 a0_0) := (blk_cell BK372.out 0).trans rfl
   have hcz12_1 : w6.cell? ⟨gb372, 1, none⟩ = some (.slice A0_1 l0_1.length c0_1) := (blk_cell BK372.out 1).trans rfl
   have hfz12_0 := blk_frozen BK372.out 0
   have hfz12_1 := blk_frozen BK372.out 1
   go_wp2_with (first | (go_at_call 14; (with_reducible refine (cachetref05_Check.calls k a0_0 _ _ l0_1 t374 _ ?side1 ?side2 A10.out).mono ?_); (case side1 => repeat (first | exact (Kd.C_below HR0_1.out HB.out) | (with_reducible refine Kd.C_alloc ?_ _) | (with_reducible refine Kd.C_drewN ?_ _) | (with_reducible refine Kd.C_drew ?_))); (case side2 => exact HC0_1.out); rintro e w13 ⟨rfl, hb⟩; have n0_ := Aside0.mk (blk_below (g := gb372) (o := .cells #[.int .i64 a0_0, .slice A0_1 l0_1.length c0_1] 32 (0, 0)) (by (with_reducible repeat (first | refine blk_drewN ?_ _ | refine blk_drew ?_ | refine blk_alloc ?_ _)); exact BK372.out) hb); have n1_ := Aside0.mk (blk_below (g := gb373) (o := .cells #[.int .u8 a2_0, .int .i64 a2_1, .int .u8 a2_2] 53 (0, 0)) (by (with_reducible repeat (first | refine blk_drewN ?_ _ | refine blk_drew ?_ | refine blk_alloc ?_ _)); exact BK373.out) hb); have n2_ := Aside0.mk (below_step (by repeat (first | (with_reducible first | exact HB.out | apply below_alloc | apply pw_below_drewN | apply below_drew1 | refine below_set ?_ GE372.out | refine below_set ?_ GE373.out) | exact HB.out)) hb); clear BK372; clear BK373; clear HB; have BK372 := n0_; have BK373 := n1_; have HB := n2_; clear n0_ n1_ n2_; (try clear hb); (try clear hb2); (try clear hk); (try clear hi)))
   go_meet
   case rel => exact ⟨_, ((t374 != 0)), (by first | rfl | (simp; done) | (simp [*]; done)), H', ⟨by first | omega | exact Nat.le_refl _⟩, ⟨by (with_reducible repeat (first | refine blk_drewN ?_ _ | refine blk_drew ?_ | refine blk_alloc ?_ _)); exact BK372.out⟩, ⟨by (with_reducible repeat (first | refine blk_drewN ?_ _ | refine blk_drew ?_ | refine blk_alloc ?_ _)); exact BK373.out⟩, ⟨by repeat (first | (with_reducible first | exact HB.out | apply below_alloc | apply pw_below_drewN | apply below_drew1 | refine below_set ?_ GE372.out | refine below_set ?_ GE373.out) | exact HB.out)⟩⟩
 case rest =>
  clear HC4
  try clear c1
  try clear p2
  try clear c7
  try clear c7b0
  try clear c7b1
  try clear c8
  try clear c11
  try clear hcz12_0
  try clear hcz12_1
  try clear hcz9_0
  try clear hcz9_1
  try clear hfz12_0
  try clear hfz12_1
  try clear hfz9_0
  try clear hfz9_1
  obtain ⟨kq, x17_3, rfl, HA, HJ3, BK372, BK373, HB⟩ := hcut
  cases kq with
  | zero => exact absurd HA.out (by simp [cachetlaw05_CodeSpoilt.j0])
  | succ kj3 =>
   have H := HA.out
   clear HA
   simp only [cachetlaw05_CodeSpoilt.j0] at H
   by_cases c14 : x17_3 = true
   ·subst c14
    have H1 : ((cachetlaw05_known.f).bind fun t375 => (some t375)) = some r := by rw [if_pos rfl] at H; exact H
    clear H
    have H := H1
    clear H1
    replace H := Option.bind_eq_some_iff.mp H
    obtain ⟨t375, A150, H⟩ := H
    replace H : (some t375) = some r := H
    have A15 := Aside0.mk A150
    clear A150
    obtain rfl := Option.some.inj H
    go_wp2_with (first | ((with_reducible refine gate_callee (f := 9) rfl ?_); refine goesL_ (some 18) rfl rfl Try.func9 (by kernel_rfl) rfl #[] rfl (by (try simp only [List.map_toArray, List.map_cons, List.map_nil]); first | done | rfl | (simp only [List.length_drop, List.length_take]; rfl)) ?_; (with_reducible refine (cachetlaw05_known.calls  t375 _ A15.out).mono ?_); rintro e w16 ⟨rfl, hb⟩; refine ⟨_, rfl, ?_⟩; have n0_ := Aside0.mk (blk_below (g := gb372) (o := .cells #[.int .i64 a0_0, .slice A0_1 l0_1.length c0_1] 32 (0, 0)) (by (with_reducible repeat (first | refine blk_drewN ?_ _ | refine blk_drew ?_ | refine blk_alloc ?_ _)); exact BK372.out) hb); have n1_ := Aside0.mk (blk_below (g := gb373) (o := .cells #[.int .u8 a2_0, .int .i64 a2_1, .int .u8 a2_2] 53 (0, 0)) (by (with_reducible repeat (first | refine blk_drewN ?_ _ | refine blk_drew ?_ | refine blk_alloc ?_ _)); exact BK373.out) hb); have n2_ := Aside0.mk (below_step (by repeat (first | (with_reducible first | exact HB.out | apply below_alloc | apply pw_below_drewN | apply below_drew1 | refine below_set ?_ GE372.out | refine below_set ?_ GE373.out) | exact HB.out)) hb); clear BK372; clear BK373; clear HB; have BK372 := n0_; have BK373 := n1_; have HB := n2_; clear n0_ n1_ n2_; (try clear hb); (try clear hb2); (try clear hk); (try clear hi)))
    go_ret
    exact ⟨by first | rfl | (simp [errW_none, errW_some] <;> rfl) | (simp [*, errW_none, errW_some] <;> rfl), by repeat (first | (with_reducible first | exact HB.out | apply below_alloc | apply pw_below_drewN | apply below_drew1 | refine below_set ?_ GE372.out | refine below_set ?_ GE373.out) | exact HB.out)⟩
   ·replace c14 := Bool.eq_false_iff.mpr c14
    subst c14
    have H1 : ((cachetref05_Bytes.f kj3 a0_0 l0_1).bind fun t376 => (if a1 ≥ 0 then (if (t376.length : Int) = 0 then (none) else (if 0 ≤ (Int.tmod a1 (t376.length : Int)) then (if (Int.tmod a1 (t376.length : Int)) < (t376.length : Int) then (cachetlaw05_CodeSpoilt.j1 kj3 (t376.set ((Int.tmod a1 (t376.length : Int)) : Int).toNat a2_0) a2_0 a2_1 a2_2) else (none)) else (none))) else (cachetlaw05_CodeSpoilt.j1 kj3 t376 a2_0 a2_1 a2_2))) = some r := by rw [if_neg (show ¬ (false = true) by decide)] at H; exact H
    clear H
    have H := H1
    clear H1
    replace H := Option.bind_eq_some_iff.mp H
    obtain ⟨t376, A170, H⟩ := H
    replace H : (if a1 ≥ 0 then (if (t376.length : Int) = 0 then (none) else (if 0 ≤ (Int.tmod a1 (t376.length : Int)) then (if (Int.tmod a1 (t376.length : Int)) < (t376.length : Int) then (cachetlaw05_CodeSpoilt.j1 kj3 (t376.set ((Int.tmod a1 (t376.length : Int)) : Int).toNat a2_0) a2_0 a2_1 a2_2) else (none)) else (none))) else (cachetlaw05_CodeSpoilt.j1 kj3 t376 a2_0 a2_1 a2_2)) = some r := H
    have A17 := Aside0.mk A170
    clear A170
    have HC18 := Aside0.mk H
    clear H
    have hnb19 := NB372_373.out
    have hnc19 := NB373_372.out
    have hcz20_0 : wc.cell? ⟨gb372, 0, none⟩ = some (.int .i64 a0_0) := (blk_cell BK372.out 0).trans rfl
    have hcz20_1 : wc.cell? ⟨gb372, 1, none⟩ = some (.slice A0_1 l0_1.length c0_1) := (blk_cell BK372.out 1).trans rfl
    have hfz20_0 := blk_frozen BK372.out 0
    have hfz20_1 := blk_frozen BK372.out 1
    go_upto_if 22 with (first | ((with_reducible refine gate_callee (f := 17) rfl ?_); refine goesL_ (some 20) rfl rfl Try.func17 (by kernel_rfl) rfl #[.agg #[.int .i64 a0_0, .slice A0_1 l0_1.length c0_1]] rfl (by (try simp only [List.map_toArray, List.map_cons, List.map_nil]); first | done | rfl | (simp only [List.length_drop, List.length_take]; rfl)) ?_; (with_reducible refine (cachetref05_Bytes.calls kj3 a0_0 _ _ l0_1 t376 _ ?side1 ?side2 A17.out).mono ?_); (case side1 => repeat (first | exact (Kd.C_below HR0_1.out HB.out) | (with_reducible refine Kd.C_alloc ?_ _) | (with_reducible refine Kd.C_drewN ?_ _) | (with_reducible refine Kd.C_drew ?_))); (case side2 => exact HC0_1.out); rintro e w21 ⟨v377, rfl, ho0, hb⟩; refine ⟨_, rfl, ?_⟩; have n0_ := Aside0.mk (Kd.R_lower ho0 (below_size (by repeat (first | (with_reducible first | exact HB.out | apply below_alloc | apply pw_below_drewN | apply below_drew1 | refine below_set ?_ GE372.out | refine below_set ?_ GE373.out) | exact HB.out)))); have n1_ := Aside0.mk (blk_below (g := gb372) (o := .cells #[.int .i64 a0_0, .slice A0_1 l0_1.length c0_1] 32 (0, 0)) (by (with_reducible repeat (first | refine blk_drewN ?_ _ | refine blk_drew ?_ | refine blk_alloc ?_ _)); exact BK372.out) hb); have n2_ := Aside0.mk (blk_below (g := gb373) (o := .cells #[.int .u8 a2_0, .int .i64 a2_1, .int .u8 a2_2] 53 (0, 0)) (by (with_reducible repeat (first | refine blk_drewN ?_ _ | refine blk_drew ?_ | refine blk_alloc ?_ _)); exact BK373.out) hb); have n3_ := Aside0.mk (below_step (by repeat (first | (with_reducible first | exact HB.out | apply below_alloc | apply pw_below_drewN | apply below_drew1 | refine below_set ?_ GE372.out | refine below_set ?_ GE373.out) | exact HB.out)) hb); clear BK372; clear BK373; clear HB; have HO378 := n0_; have BK372 := n1_; have BK373 := n2_; have HB := n3_; clear n0_ n1_ n2_ n3_; (try clear hb); (try clear hb2); (try clear hk); (try clear hi); (try clear ho0)))
    (try simp only [Act.put, List.setIfInBounds_toArray, List.set_cons_zero, List.set_cons_succ])
    go_cut [] (fun wc => ∃ (kq : Nat) (x7_17 : List Int), Aside0 (cachetlaw05_CodeSpoilt.j1 kq x7_17 a2_0 a2_1 a2_2 = some r) ∧ Aside0 (kq ≤ kj3) ∧ Aside0 (Kd.R (Kd.int .u8) 5 wc w.heap.size (fun _ => True) v377 x7_17) ∧ Aside0 (wc.heap[gb372]? = some (.cells #[.int .i64 a0_0, (.slice A0_1 l0_1.length c0_1)] 32 (0, 0))) ∧ Aside0 (wc.heap[gb373]? = some (.cells #[.int .u8 a2_0, .int .i64 a2_1, .int .u8 a2_2] 53 (0, 0))) ∧ Aside0 (Below w.heap.size w wc))
    case first =>
     have H := HC18.out
     clear HC18
     by_cases c22 : a1 ≥ 0
     ·rw [if_pos c22] at H
      have c22b0 : decide (0 ≤ a1) = true := decide_eq_true c22
      clear c22
      (first | rw [c22b0] | (simp only [i64_w, i32_w]; rw [c22b0]) | skip)
      by_cases c23 : (t376.length : Int) = 0
      ·rw [if_pos c23] at H
       exact absurd H (by simp)
      ·rw [if_neg c23] at H
       have c23b0 : ((t376.length : Int) == 0) = false := beq_eq_false_iff_ne.mpr c23
       have c23b1 : ((t376.length : Int) != 0) = true := bne_iff_ne.mpr c23
       have c23b2 : ¬ (t376 = []) := fun h_ => c23 (by rw [h_]; rfl)
       obtain ⟨ji24, hji24⟩ : ∃ j_ : Int, (Int.tmod a1 (t376.length : Int)) = j_ := ⟨_, rfl⟩
       replace H : (if 0 ≤ (ji24) then (if (ji24) < (t376.length : Int) then (cachetlaw05_CodeSpoilt.j1 kj3 (t376.set ((ji24) : Int).toNat a2_0) a2_0 a2_1 a2_2) else (none)) else (none)) = some r := by first | (rw [hji24] at H; exact H) | (simp only [hji24] at H ⊢; exact H)
       by_cases c25 : 0 ≤ (ji24)
       ·rw [if_pos c25] at H
        have c25b0 : decide (0 ≤ (ji24)) = true := decide_eq_true c25
        clear c25
        by_cases c26 : (ji24) < (t376.length : Int)
        ·rw [if_pos c26] at H
         have c26b0 : decide ((ji24) < (t376.length : Int)) = true := decide_eq_true c26
         clear c26
         obtain ⟨y379, hy379⟩ : ∃ y_ : List Int, y_ = (t376.set ((ji24) : Int).toNat a2_0) := ⟨_, rfl⟩
         replace H : (cachetlaw05_CodeSpoilt.j1 kj3 y379 a2_0 a2_1 a2_2) = some r := by first | (rw [hy379]; with_reducible exact H) | (have H2_ := (Option.bind_some _ _).symm.trans H; rw [hy379]; with_reducible exact H2_) | (have H2_ := (Option.bind_some _ _).symm.trans H; with_reducible exact H2_) | with_reducible exact H | (rw [hy379]; exact H) | exact H
         have Ny379 := Aside0.mk hy379
         clear hy379
         have H' := Aside0.mk H
         clear H
         try go_wp2
         have n0_ := Aside0.mk (Kd.R_drew HO378.out)
         have n1_ := Aside0.mk (blk_drew BK372.out)
         have n2_ := Aside0.mk (blk_drew BK373.out)
         have n3_ := Aside0.mk (below_drew1 HB.out)
         clear HO378
         clear BK372
         clear BK373
         clear HB
         have HO378 := n0_
         have BK372 := n1_
         have BK373 := n2_
         have HB := n3_
         clear n0_ n1_ n2_ n3_
         obtain ⟨Ao29, co29, eo29⟩ := Kd.R_slice HO378.out
         (first | subst eo29 | (injection eo29 with f1_ f2_ f3_; have f4_ := f1_.symm; have f5_ := f3_.symm; clear f1_ f2_ f3_; subst f4_; subst f5_))
         have p27 : 0 ≤ ((ji24) : Int) := of_decide_eq_true (by first | (with_reducible assumption) | assumption)
         have q27 : ((ji24) : Int) < ((t376.length : Int) : Int) := of_decide_eq_true (by first | (with_reducible assumption) | assumption)
         obtain ⟨go27, co27, eo27, gb27, gl27, cl27, HG27⟩ := Kd.R_form HO378.out (by omega)
         (first | cases eo27 | (injection eo27 with ea_ en_ ec_; (first | subst ea_ | (injection ea_ with ea_; subst ea_)); subst ec_; clear en_))
         have GB27 := Aside0.mk gb27
         have GG27 := Aside0.mk HG27
         clear gb27 gl27 HG27
         obtain ⟨hx27_0, hf27_0⟩ := Kd.R_celln 0 HO378.out ((ji24) : Int) p27 q27
         replace p27 := eq_true p27
         replace q27 := eq_true q27
         have HP30 := Kd.R_putn HO378.out ((ji24) : Int) a2_0
         rw [← Ny379.out] at HP30
         have HQ30 := Aside0.mk HP30
         clear HP30
         refine start_ (n := 9) (S := fun w' => w'.cell? ⟨gb373, 0, none⟩ = some (.int .u8 a2_0) ∧ w'.cell? ⟨gb373, 1, none⟩ = some (.int .i64 a2_1) ∧ w'.cell? ⟨gb373, 2, none⟩ = some (.int .u8 a2_2)) (ds := [8]) #[false, false, false, false, false, false, false, false, false] (by kernel_rfl) rfl rfl ⟨(blk_cell BK373.out 0).trans rfl, (blk_cell BK373.out 1).trans rfl, (blk_cell BK373.out 2).trans rfl⟩ (fun hHeld => ?_); refine with_tabW cachetlaw05_CodeSpoilt.tab5 cachetlaw05_CodeSpoilt.bits5 (fun HT_ HW_ => ?_)
         generalize w21.drew = w28 at HO378 BK372 BK373 HB GG27 HQ30 hf27_0 hx27_0 hHeld ⊢
         refine pure_ (i := 0) (N := some 23) (v := ?_) (a' := ?_) #[true, false, false, false, false, false, false, false, false] rfl rfl (any_of HT_.out (by kernel_rfl)) (fun _ _ _ h => h) (Or.inl ⟨by rfl, ?_⟩) ?_ ?_
         rotate_left
         ·intro w'
          go_simp
          with_reducible rfl
         rotate_left
         ·simp only [Act.put, List.setIfInBounds_toArray, List.set_cons_zero, List.set_cons_succ, i64_w, i32_w]
          rfl
         refine pure_ (i := 1) (N := some 24) (v := ?_) (a' := ?_) #[true, true, false, false, false, false, false, false, false] rfl rfl (any_of HT_.out (by kernel_rfl)) (fun _ _ _ h => h) (Or.inl ⟨by rfl, ?_⟩) ?_ ?_
         rotate_left
         ·intro w'
          go_simp
          with_reducible rfl
         rotate_left
         ·simp only [Act.put, List.setIfInBounds_toArray, List.set_cons_zero, List.set_cons_succ, i64_w, i32_w]
          rfl
         refine pure_ (i := 2) (N := some 25) (v := ?_) (a' := ?_) #[true, true, true, false, false, false, false, false, false] rfl rfl (any_of HT_.out (by kernel_rfl)) (fun _ _ _ h => h) (Or.inl ⟨by rfl, ?_⟩) ?_ ?_
         rotate_left
         ·intro w'
          go_simp
          with_reducible rfl
         rotate_left
         ·simp only [Act.put, List.setIfInBounds_toArray, List.set_cons_zero, List.set_cons_succ, i64_w, i32_w]
          rfl
         refine pure_ (i := 3) (N := some 26) (v := ?_) (a' := ?_) #[true, true, true, true, false, false, false, false, false] rfl rfl (any_of HT_.out (by kernel_rfl)) (fun _ _ _ h => h) (Or.inl ⟨by rfl, ?_⟩) ?_ ?_
         rotate_left
         ·intro w'
          go_simp
          with_reducible rfl
         rotate_left
         ·simp only [Act.put, List.setIfInBounds_toArray, List.set_cons_zero, List.set_cons_succ, i64_w, i32_w]
          rfl
         refine pure_ (i := 4) (N := some 27) (v := ?_) (a' := ?_) #[true, true, true, true, true, false, false, false, false] rfl rfl (any_of HT_.out (by kernel_rfl)) (fun _ _ _ h => h) (Or.inl ⟨by rfl, ?_⟩) ?_ ?_
         rotate_left
         ·intro w'
          go_simp
          with_reducible rfl
         rotate_left
         ·simp only [Act.put, List.setIfInBounds_toArray, List.set_cons_zero, List.set_cons_succ, i64_w, i32_w]
          rfl
         refine pure_ (i := 5) (N := some 28) (v := ?_) (a' := ?_) #[true, true, true, true, true, true, false, false, false] rfl rfl (any_of HT_.out (by kernel_rfl)) (fun _ _ _ h => h) (Or.inl ⟨by rfl, ?_⟩) ?_ ?_
         rotate_left
         ·intro w'
          go_simp
          with_reducible rfl
         rotate_left
         ·simp only [Act.put, List.setIfInBounds_toArray, List.set_cons_zero, List.set_cons_succ, i64_w, i32_w]
          rfl
         refine take_ (i := 6) (N := some 29) (v := ?_) (a' := ?_) #[true, true, true, true, true, true, true, false, false] rfl rfl (take_ofW HT_.out HW_.out (by kernel_rfl)) (fun _ _ _ h => h) (Or.inl ⟨by rfl, ?_⟩) hHeld ?_ ?_
         rotate_left
         ·rintro w' ⟨s0, s1, s2⟩
          go_simp
          with_reducible rfl
         rotate_left
         ·simp only [Act.put, List.setIfInBounds_toArray, List.set_cons_zero, List.set_cons_succ, i64_w, i32_w]
          rfl
         refine pure_ (i := 7) (N := some 30) (v := ?_) (a' := ?_) #[true, true, true, true, true, true, true, true, false] rfl rfl (any_of HT_.out (by kernel_rfl)) (fun _ _ _ h => h) (Or.inl ⟨by rfl, ?_⟩) ?_ ?_
         rotate_left
         ·intro w'
          go_simp
          with_reducible rfl
         rotate_left
         ·simp only [Act.put, List.setIfInBounds_toArray, List.set_cons_zero, List.set_cons_succ, i64_w, i32_w]
          rfl
         refine last_ (i := 8) (N := none) #[true, true, true, true, true, true, true, true, true] rfl rfl (one_of HT_.out (by kernel_rfl)) (by decide) (fun K hK => ?_)
         refine skip_ (w1 := ?_) (by rfl) rfl ?_ ?_
         rotate_left
         ·go_simp
          rfl
         refine hK.out _ _ ?_
         clear hK K
         refine done_ (done_of HT_.out (by kernel_rfl)) ?_
         try go_wp2
         go_meet
         case rel => exact ⟨_, (y379), H', ⟨by have := HJ3.out; first | omega | exact Nat.le_refl _⟩, ⟨by (with_reducible repeat (first | apply Kd.R_alloc | apply Kd.R_drewN | apply Kd.R_drew)); exact HQ30.out⟩, ⟨by (with_reducible repeat (first | refine blk_drewN ?_ _ | refine blk_drew ?_ | refine blk_alloc ?_ _)); refine blk_far ?_ (by have h_ := Kd.R_ne HO378.out BK372.out (by decide); intro e_; exact h_ (by rw [e_]; rfl)) _; (with_reducible repeat (first | refine blk_drewN ?_ _ | refine blk_drew ?_ | refine blk_alloc ?_ _)); exact BK372.out⟩, ⟨by (with_reducible repeat (first | refine blk_drewN ?_ _ | refine blk_drew ?_ | refine blk_alloc ?_ _)); refine blk_far ?_ (by have h_ := Kd.R_ne HO378.out BK373.out (by decide); intro e_; exact h_ (by rw [e_]; rfl)) _; (with_reducible repeat (first | refine blk_drewN ?_ _ | refine blk_drew ?_ | refine blk_alloc ?_ _)); exact BK373.out⟩, ⟨by repeat (first | (with_reducible first | exact HB.out | apply below_alloc | apply pw_below_drewN | apply below_drew1 | refine below_set ?_ GB27.out | refine below_set ?_ GE372.out | refine below_set ?_ GE373.out) | exact HB.out)⟩⟩
        ·rw [if_neg c26] at H
         exact absurd H (by simp)
       ·rw [if_neg c25] at H
        exact absurd H (by simp)
     ·rw [if_neg c22] at H
      have c22b0 : decide (0 ≤ a1) = false := decide_eq_false c22
      clear c22
      (first | rw [c22b0] | (simp only [i64_w, i32_w]; rw [c22b0]) | skip)
      have H' := Aside0.mk H
      clear H
      go_wp2
      go_meet
      case rel => exact ⟨_, (t376), H', ⟨by have := HJ3.out; first | omega | exact Nat.le_refl _⟩, ⟨by (with_reducible repeat (first | apply Kd.R_alloc | apply Kd.R_drewN | apply Kd.R_drew)); exact HO378.out⟩, ⟨by (with_reducible repeat (first | refine blk_drewN ?_ _ | refine blk_drew ?_ | refine blk_alloc ?_ _)); exact BK372.out⟩, ⟨by (with_reducible repeat (first | refine blk_drewN ?_ _ | refine blk_drew ?_ | refine blk_alloc ?_ _)); exact BK373.out⟩, ⟨by repeat (first | (with_reducible first | exact HB.out | apply below_alloc | apply pw_below_drewN | apply below_drew1 | refine below_set ?_ GE372.out | refine below_set ?_ GE373.out) | exact HB.out)⟩⟩
    case rest =>
     clear HC18
     try clear c1
     try clear c2
     try clear p2
     try clear q2
     try clear hx2
     try clear c7
     try clear c7b0
     try clear c7b1
     try clear c8
     try clear c9
     try clear c11
     try clear c14
     try clear c17
     try clear c19
     try clear c22
     try clear c22b0
     try clear c23
     try clear c23b0
     try clear c23b1
     try clear c23b2
     try clear c25
     try clear c25b0
     try clear c26
     try clear c26b0
     try clear p27
     try clear q27
     try clear hx27
     try clear hf27
     try clear hcz12_0
     try clear hcz12_1
     try clear hcz20_0
     try clear hcz20_1
     try clear hcz9_0
     try clear hcz9_1
     try clear hfz12_0
     try clear hfz12_1
     try clear hfz20_0
     try clear hfz20_1
     try clear hfz9_0
     try clear hfz9_1
     try clear hx27_0
     try clear p2
     try clear p27
     try clear q27
     obtain ⟨kq, x7_17, HA, HJ17, HO_7, BK372, BK373, HB⟩ := hcut
     cases kq with
     | zero => exact absurd HA.out (by simp [cachetlaw05_CodeSpoilt.j1])
     | succ kj17 =>
      have H := HA.out
      clear HA
      simp only [cachetlaw05_CodeSpoilt.j1] at H
      have HC31 := Aside0.mk H
      clear H
      go_upto_region 6 with (fail)
      go_cut [40] (fun v40 wc => ∃ (kq : Nat) (x40_30 : Bool), v40 = .bool x40_30 ∧ Aside0 (cachetlaw05_CodeSpoilt.j2 kq x7_17 x40_30 a2_0 a2_1 a2_2 = some r) ∧ Aside0 (kq ≤ kj17) ∧ Aside0 (Kd.R (Kd.int .u8) 5 wc w.heap.size (fun _ => True) v377 x7_17) ∧ Aside0 (wc.heap[gb372]? = some (.cells #[.int .i64 a0_0, (.slice A0_1 l0_1.length c0_1)] 32 (0, 0))) ∧ Aside0 (wc.heap[gb373]? = some (.cells #[.int .u8 a2_0, .int .i64 a2_1, .int .u8 a2_2] 53 (0, 0))) ∧ Aside0 (Below w.heap.size w wc))
      case first =>
       have H := HC31.out
       clear HC31
       by_cases c32 : a2_1 ≥ 0
       ·rw [if_pos c32] at H
        have c32b0 : decide (0 ≤ a2_1) = true := decide_eq_true c32
        clear c32
        (first | rw [c32b0] | (simp only [i64_w, i32_w]; rw [c32b0]) | skip)
        have H' := Aside0.mk H
        clear H
        have hnb33 := NB373_372.out
        have hnc33 := NB372_373.out
        have hcz34_0 : wc.cell? ⟨gb373, 0, none⟩ = some (.int .u8 a2_0) := (blk_cell BK373.out 0).trans rfl
        have hcz34_1 : wc.cell? ⟨gb373, 1, none⟩ = some (.int .i64 a2_1) := (blk_cell BK373.out 1).trans rfl
        have hcz34_2 : wc.cell? ⟨gb373, 2, none⟩ = some (.int .u8 a2_2) := (blk_cell BK373.out 2).trans rfl
        have hfz34_0 := blk_frozen BK373.out 0
        have hfz34_1 := blk_frozen BK373.out 1
        have hfz34_2 := blk_frozen BK373.out 2
        obtain ⟨Ao35, co35, eo35⟩ := Kd.R_slice HO_7.out
        subst eo35
        go_wp2
        go_meet
        case rel => exact ⟨_, (decide (a2_1 < (x7_17.length : Int))), (by first | rfl | (simp; done) | (simp [*]; done)), H', ⟨by have := HJ3.out; have := HJ17.out; first | omega | exact Nat.le_refl _⟩, ⟨by (with_reducible repeat (first | apply Kd.R_alloc | apply Kd.R_drewN | apply Kd.R_drew)); exact HO_7.out⟩, ⟨by (with_reducible repeat (first | refine blk_drewN ?_ _ | refine blk_drew ?_ | refine blk_alloc ?_ _)); exact BK372.out⟩, ⟨by (with_reducible repeat (first | refine blk_drewN ?_ _ | refine blk_drew ?_ | refine blk_alloc ?_ _)); exact BK373.out⟩, ⟨by repeat (first | (with_reducible first | exact HB.out | apply below_alloc | apply pw_below_drewN | apply below_drew1 | refine below_set ?_ GE372.out | refine below_set ?_ GE373.out) | exact HB.out)⟩⟩
       ·rw [if_neg c32] at H
        have c32b0 : decide (0 ≤ a2_1) = false := decide_eq_false c32
        clear c32
        (first | rw [c32b0] | (simp only [i64_w, i32_w]; rw [c32b0]) | skip)
        have H' := Aside0.mk H
        clear H
        have hnb36 := NB373_372.out
        have hnc36 := NB372_373.out
        have hcz37_0 : wc.cell? ⟨gb373, 0, none⟩ = some (.int .u8 a2_0) := (blk_cell BK373.out 0).trans rfl
        have hcz37_1 : wc.cell? ⟨gb373, 1, none⟩ = some (.int .i64 a2_1) := (blk_cell BK373.out 1).trans rfl
        have hcz37_2 : wc.cell? ⟨gb373, 2, none⟩ = some (.int .u8 a2_2) := (blk_cell BK373.out 2).trans rfl
        have hfz37_0 := blk_frozen BK373.out 0
        have hfz37_1 := blk_frozen BK373.out 1
        have hfz37_2 := blk_frozen BK373.out 2
        go_wp2
        go_meet
        case rel => exact ⟨_, (false), (by first | rfl | (simp; done) | (simp [*]; done)), H', ⟨by have := HJ3.out; have := HJ17.out; first | omega | exact Nat.le_refl _⟩, ⟨by (with_reducible repeat (first | apply Kd.R_alloc | apply Kd.R_drewN | apply Kd.R_drew)); exact HO_7.out⟩, ⟨by (with_reducible repeat (first | refine blk_drewN ?_ _ | refine blk_drew ?_ | refine blk_alloc ?_ _)); exact BK372.out⟩, ⟨by (with_reducible repeat (first | refine blk_drewN ?_ _ | refine blk_drew ?_ | refine blk_alloc ?_ _)); exact BK373.out⟩, ⟨by repeat (first | (with_reducible first | exact HB.out | apply below_alloc | apply pw_below_drewN | apply below_drew1 | refine below_set ?_ GE372.out | refine below_set ?_ GE373.out) | exact HB.out)⟩⟩
      case rest =>
       clear HC31
       try clear c1
       try clear c2
       try clear p2
       try clear q2
       try clear hx2
       try clear c3
       try clear c7
       try clear c7b0
       try clear c7b1
       try clear c8
       try clear c9
       try clear c11
       try clear c14
       try clear c17
       try clear c19
       try clear c22
       try clear c22b0
       try clear c23
       try clear c23b0
       try clear c23b1
       try clear c23b2
       try clear c25
       try clear c25b0
       try clear c26
       try clear c26b0
       try clear p27
       try clear q27
       try clear hx27
       try clear hf27
       try clear c32
       try clear c32b0
       try clear c33
       try clear c36
       try clear hcz12_0
       try clear hcz12_1
       try clear hcz20_0
       try clear hcz20_1
       try clear hcz34_0
       try clear hcz34_1
       try clear hcz34_2
       try clear hcz37_0
       try clear hcz37_1
       try clear hcz37_2
       try clear hcz9_0
       try clear hcz9_1
       try clear hfz12_0
       try clear hfz12_1
       try clear hfz20_0
       try clear hfz20_1
       try clear hfz34_0
       try clear hfz34_1
       try clear hfz34_2
       try clear hfz37_0
       try clear hfz37_1
       try clear hfz37_2
       try clear hfz9_0
       try clear hfz9_1
       try clear hx27_0
       try clear p2
       try clear p27
       try clear q2
       try clear q27
       obtain ⟨kq, x40_30, rfl, HA, HJ30, HO_7, BK372, BK373, HB⟩ := hcut
       cases kq with
       | zero => exact absurd HA.out (by simp [cachetlaw05_CodeSpoilt.j2])
       | succ kj30 =>
        have H := HA.out
        clear HA
        simp only [cachetlaw05_CodeSpoilt.j2] at H
        have HC38 := Aside0.mk H
        clear H
        go_upto_if 40 with (fail)
        go_cut [7] (fun v7 wc => ∃ (kq : Nat) (x7_37 : List Int), Aside0 (cachetlaw05_CodeSpoilt.j3 kq x7_37 a2_0 a2_1 a2_2 = some r) ∧ Aside0 (kq ≤ kj30) ∧ Aside0 (Kd.R (Kd.int .u8) 5 wc w.heap.size (fun _ => True) v7 x7_37) ∧ Aside0 (wc.heap[gb372]? = some (.cells #[.int .i64 a0_0, (.slice A0_1 l0_1.length c0_1)] 32 (0, 0))) ∧ Aside0 (wc.heap[gb373]? = some (.cells #[.int .u8 a2_0, .int .i64 a2_1, .int .u8 a2_2] 53 (0, 0))) ∧ Aside0 (Below w.heap.size w wc))
        case first =>
         have H := HC38.out
         clear HC38
         by_cases c39 : x40_30 = true
         ·subst c39
          have H1 : (if 0 ≤ a2_1 then (if a2_1 ≤ (x7_17.length : Int) then (cachetlaw05_CodeSpoilt.j3 kj30 (x7_17.take (a2_1 : Int).toNat) a2_0 a2_1 a2_2) else (none)) else (none)) = some r := by rw [if_pos rfl] at H; exact H
          clear H
          have H := H1
          clear H1
          by_cases c40 : 0 ≤ a2_1
          ·rw [if_pos c40] at H
           have c40b0 := eq_true c40
           have c40b1 : decide (0 ≤ a2_1) = true := decide_eq_true c40
           clear c40
           by_cases c41 : a2_1 ≤ (x7_17.length : Int)
           ·rw [if_pos c41] at H
            have c41b0 := eq_true c41
            have c41b1 : decide (a2_1 ≤ (x7_17.length : Int)) = true := decide_eq_true c41
            clear c41
            obtain ⟨y380, hy380⟩ : ∃ y_ : List Int, y_ = (x7_17.take (a2_1 : Int).toNat) := ⟨_, rfl⟩
            replace H : (cachetlaw05_CodeSpoilt.j3 kj30 y380 a2_0 a2_1 a2_2) = some r := by first | (rw [hy380]; with_reducible exact H) | (have H2_ := (Option.bind_some _ _).symm.trans H; rw [hy380]; with_reducible exact H2_) | (have H2_ := (Option.bind_some _ _).symm.trans H; with_reducible exact H2_) | with_reducible exact H | (rw [hy380]; exact H) | exact H
            have Ny380 := Aside0.mk hy380
            clear hy380
            have H' := Aside0.mk H
            clear H
            have hnb42 := NB373_372.out
            have hnc42 := NB372_373.out
            have hcz43_0 : wc.cell? ⟨gb373, 0, none⟩ = some (.int .u8 a2_0) := (blk_cell BK373.out 0).trans rfl
            have hcz43_1 : wc.cell? ⟨gb373, 1, none⟩ = some (.int .i64 a2_1) := (blk_cell BK373.out 1).trans rfl
            have hcz43_2 : wc.cell? ⟨gb373, 2, none⟩ = some (.int .u8 a2_2) := (blk_cell BK373.out 2).trans rfl
            have hfz43_0 := blk_frozen BK373.out 0
            have hfz43_1 := blk_frozen BK373.out 1
            have hfz43_2 := blk_frozen BK373.out 2
            obtain ⟨Ao44, co44, eo44⟩ := Kd.R_slice HO_7.out
            subst eo44
            have q45 : (a2_1 : Int) ≤ ((x7_17.length : Int) : Int) := of_decide_eq_true (by first | (with_reducible assumption) | assumption)
            obtain ⟨i045, hi045, _, hsz45, _⟩ := info_parts info5
            have hcut45 := cut_to (P := Try.prog) 40 5 .i64 Try.underlying40 hi045 Ao44 x7_17.length co44 a2_1 (of_decide_eq_true (by first | (with_reducible assumption) | assumption)) q45 (Kd.R_reads' HO_7.out).2.1
            have hr45 := Kd.R_take (m := (a2_1 : Int).toNat) HO_7.out (by omega)
            have hy45 : y380.length = (a2_1 : Int).toNat := (by rw [Ny380.out, List.length_take]; omega)
            rw [← Ny380.out] at hr45
            rw [← hy45] at hr45 hcut45
            clear hy45 hi045 hsz45 HO_7
            have HO382 := Aside0.mk hr45
            clear hr45
            replace q45 := eq_true q45
            go_wp2
            go_meet
            case rel => exact ⟨_, (y380), H', ⟨by have := HJ3.out; have := HJ17.out; have := HJ30.out; first | omega | exact Nat.le_refl _⟩, ⟨by (with_reducible repeat (first | apply Kd.R_alloc | apply Kd.R_drewN | apply Kd.R_drew)); exact HO382.out⟩, ⟨by (with_reducible repeat (first | refine blk_drewN ?_ _ | refine blk_drew ?_ | refine blk_alloc ?_ _)); exact BK372.out⟩, ⟨by (with_reducible repeat (first | refine blk_drewN ?_ _ | refine blk_drew ?_ | refine blk_alloc ?_ _)); exact BK373.out⟩, ⟨by repeat (first | (with_reducible first | exact HB.out | apply below_alloc | apply pw_below_drewN | apply below_drew1 | refine below_set ?_ GE372.out | refine below_set ?_ GE373.out) | exact HB.out)⟩⟩
           ·rw [if_neg c41] at H
            exact absurd H (by simp)
          ·rw [if_neg c40] at H
           exact absurd H (by simp)
         ·replace c39 := Bool.eq_false_iff.mpr c39
          subst c39
          have H1 : (cachetlaw05_CodeSpoilt.j3 kj30 x7_17 a2_0 a2_1 a2_2) = some r := by rw [if_neg (show ¬ (false = true) by decide)] at H; exact H
          clear H
          have H := H1
          clear H1
          have H' := Aside0.mk H
          clear H
          go_wp2
          go_meet
          case rel => exact ⟨_, (x7_17), H', ⟨by have := HJ3.out; have := HJ17.out; have := HJ30.out; first | omega | exact Nat.le_refl _⟩, ⟨by (with_reducible repeat (first | apply Kd.R_alloc | apply Kd.R_drewN | apply Kd.R_drew)); exact HO_7.out⟩, ⟨by (with_reducible repeat (first | refine blk_drewN ?_ _ | refine blk_drew ?_ | refine blk_alloc ?_ _)); exact BK372.out⟩, ⟨by (with_reducible repeat (first | refine blk_drewN ?_ _ | refine blk_drew ?_ | refine blk_alloc ?_ _)); exact BK373.out⟩, ⟨by repeat (first | (with_reducible first | exact HB.out | apply below_alloc | apply pw_below_drewN | apply below_drew1 | refine below_set ?_ GE372.out | refine below_set ?_ GE373.out) | exact HB.out)⟩⟩
        case rest =>
         clear HC38
         try clear c1
         try clear c2
         try clear p2
         try clear q2
         try clear hx2
         try clear c3
         try clear c4
         try clear q4
         try clear c7
         try clear c7b0
         try clear c7b1
         try clear c8
         try clear c9
         try clear c11
         try clear c14
         try clear c17
         try clear c19
         try clear c22
         try clear c22b0
         try clear c23
         try clear c23b0
         try clear c23b1
         try clear c23b2
         try clear c25
         try clear c25b0
         try clear c26
         try clear c26b0
         try clear p27
         try clear q27
         try clear hx27
         try clear hf27
         try clear c32
         try clear c32b0
         try clear c33
         try clear c36
         try clear c39
         try clear c40
         try clear c40b0
         try clear c40b1
         try clear c41
         try clear c41b0
         try clear c41b1
         try clear c42
         try clear q45
         try clear hcz12_0
         try clear hcz12_1
         try clear hcz20_0
         try clear hcz20_1
         try clear hcz34_0
         try clear hcz34_1
         try clear hcz34_2
         try clear hcz37_0
         try clear hcz37_1
         try clear hcz37_2
         try clear hcz43_0
         try clear hcz43_1
         try clear hcz43_2
         try clear hcz9_0
         try clear hcz9_1
         try clear hfz12_0
         try clear hfz12_1
         try clear hfz20_0
         try clear hfz20_1
         try clear hfz34_0
         try clear hfz34_1
         try clear hfz34_2
         try clear hfz37_0
         try clear hfz37_1
         try clear hfz37_2
         try clear hfz43_0
         try clear hfz43_1
         try clear hfz43_2
         try clear hfz9_0
         try clear hfz9_1
         try clear hx27_0
         try clear p2
         try clear p27
         try clear q2
         try clear q27
         try clear q45
         obtain ⟨kq, x7_37, HA, HJ37, HO_7, BK372, BK373, HB⟩ := hcut
         cases kq with
         | zero => exact absurd HA.out (by simp [cachetlaw05_CodeSpoilt.j3])
         | succ kj37 =>
          have H := HA.out
          clear HA
          simp only [cachetlaw05_CodeSpoilt.j3] at H
          have H' := Aside0.mk H
          clear H
          go_wp2
          go_loopg [7, 8] kj37 (fun kq v7 v8 w' => ∃ (x7_5 : List Int) (x8_5 : Int), v8 = .int .u8 x8_5 ∧ Aside0 (cachetlaw05_CodeSpoilt.l0 kq x7_5 x8_5 a2_0 a2_1 a2_2 = some r) ∧ Aside0 (kq ≤ kj37) ∧ Aside0 (Kd.R (Kd.int .u8) 5 w' w.heap.size (fun _ => True) v7 x7_5) ∧ Aside0 (w'.heap[gb372]? = some (.cells #[.int .i64 a0_0, (.slice A0_1 l0_1.length c0_1)] 32 (0, 0))) ∧ Aside0 (w'.heap[gb373]? = some (.cells #[.int .u8 a2_0, .int .i64 a2_1, .int .u8 a2_2] 53 (0, 0))) ∧ Aside0 (Below w.heap.size w w'))
          case atStart => exact ⟨(x7_37), (0), (by first | rfl | (simp; done) | (simp [*]; done)), H', ⟨Nat.le_refl _⟩, ⟨by (with_reducible repeat (first | apply Kd.R_alloc | apply Kd.R_drewN | apply Kd.R_drew)); exact HO_7.out⟩, ⟨by (with_reducible repeat (first | refine blk_drewN ?_ _ | refine blk_drew ?_ | refine blk_alloc ?_ _)); exact BK372.out⟩, ⟨by (with_reducible repeat (first | refine blk_drewN ?_ _ | refine blk_drew ?_ | refine blk_alloc ?_ _)); exact BK373.out⟩, ⟨by repeat (first | (with_reducible first | exact HB.out | apply below_alloc | apply pw_below_drewN | apply below_drew1 | refine below_set ?_ GE372.out | refine below_set ?_ GE373.out) | exact HB.out)⟩⟩
          case round =>
           clear H'
           try clear c1
           try clear c2
           try clear p2
           try clear q2
           try clear hx2
           try clear c3
           try clear c4
           try clear q4
           try clear c7
           try clear c7b0
           try clear c7b1
           try clear c8
           try clear c9
           try clear c11
           try clear c14
           try clear c17
           try clear c19
           try clear c22
           try clear c22b0
           try clear c23
           try clear c23b0
           try clear c23b1
           try clear c23b2
           try clear c25
           try clear c25b0
           try clear c26
           try clear c26b0
           try clear p27
           try clear q27
           try clear hx27
           try clear hf27
           try clear c32
           try clear c32b0
           try clear c33
           try clear c36
           try clear c39
           try clear c40
           try clear c40b0
           try clear c40b1
           try clear c41
           try clear c41b0
           try clear c41b1
           try clear c42
           try clear q45
           try clear hcz12_0
           try clear hcz12_1
           try clear hcz20_0
           try clear hcz20_1
           try clear hcz34_0
           try clear hcz34_1
           try clear hcz34_2
           try clear hcz37_0
           try clear hcz37_1
           try clear hcz37_2
           try clear hcz43_0
           try clear hcz43_1
           try clear hcz43_2
           try clear hcz9_0
           try clear hcz9_1
           try clear hfz12_0
           try clear hfz12_1
           try clear hfz20_0
           try clear hfz20_1
           try clear hfz34_0
           try clear hfz34_1
           try clear hfz34_2
           try clear hfz37_0
           try clear hfz37_1
           try clear hfz37_2
           try clear hfz43_0
           try clear hfz43_1
           try clear hfz43_2
           try clear hfz9_0
           try clear hfz9_1
           try clear hx27_0
           try clear p2
           try clear p27
           try clear q2
           try clear q27
           try clear q4
           try clear q45
           obtain ⟨x7_5, x8_5, rfl, HA, HK5, HO_7, BK372, BK373, HB⟩ := hrel
           cases gk with
           | zero => exact absurd HA.out (by simp [cachetlaw05_CodeSpoilt.l0])
           | succ k5 =>
            have H := HA.out
            clear HA
            simp only [cachetlaw05_CodeSpoilt.l0] at H
            by_cases c46 : x8_5 < (Int.tmod a2_2 9)
            ·rw [if_pos c46] at H
             have c46b0 : decide (x8_5 < (Int.tmod a2_2 9)) = true := decide_eq_true c46
             clear c46
             by_cases c47 : x7_5.length < 140737488355328
             ·rw [if_pos c47] at H
              have LMc47 := Aside0.mk c47
              clear c47
              obtain ⟨y383, hy383⟩ : ∃ y_ : List Int, y_ = (x7_5 ++ [a2_0]) := ⟨_, rfl⟩
              replace H : (cachetlaw05_CodeSpoilt.l0 k5 y383 ((x8_5 + 1) % 256) a2_0 a2_1 a2_2) = some r := by first | (rw [hy383]; with_reducible exact H) | (have H2_ := (Option.bind_some _ _).symm.trans H; rw [hy383]; with_reducible exact H2_) | (have H2_ := (Option.bind_some _ _).symm.trans H; with_reducible exact H2_) | with_reducible exact H | (rw [hy383]; exact H) | exact H
              have Ny383 := Aside0.mk hy383
              clear hy383
              have H' := Aside0.mk H
              clear H
              have hnb48 := NB373_372.out
              have hnc48 := NB372_373.out
              have hcz49_0 : wr.cell? ⟨gb373, 0, none⟩ = some (.int .u8 a2_0) := (blk_cell BK373.out 0).trans rfl
              have hcz49_1 : wr.cell? ⟨gb373, 1, none⟩ = some (.int .i64 a2_1) := (blk_cell BK373.out 1).trans rfl
              have hcz49_2 : wr.cell? ⟨gb373, 2, none⟩ = some (.int .u8 a2_2) := (blk_cell BK373.out 2).trans rfl
              have hfz49_0 := blk_frozen BK373.out 0
              have hfz49_1 := blk_frozen BK373.out 1
              have hfz49_2 := blk_frozen BK373.out 2
              go_wp2_with (first | ((with_reducible refine gate_builtin (b := .append) (xs := #[.tmp 52, .tmp 55]) rfl ?_); (try (refine gate_guard (by rfl) ?_; dsimp only)); at_builtin; refine Kd.R_append (Kd.int .u8) (w0 := w) w.heap.size rfl (.tmp 52) (.tmp 55) 40 5 (.int .u8 0) 1 rfl Try.underlying40 info5 rfl (by decide) (by omega) u7 x7_5 a2_0 [.int .u8 a2_0] (fun _ => True) (fun _ => False) rfl rfl ?aP (fun _ hk => hk.elim) ?aF ?aO ?aB ?aS ?aL ?_; (case aP => exact rfl); (case aB => exact (by repeat (first | (with_reducible first | exact HB.out | apply below_alloc | apply pw_below_drewN | apply below_drew1 | refine below_set ?_ GE372.out | refine below_set ?_ GE373.out) | exact HB.out))); (case aF => exact (fun _ _ => trivial)); (case aO => exact (by (with_reducible repeat (first | apply Kd.R_alloc | apply Kd.R_drewN | apply Kd.R_drew)); exact HO_7.out)); (case aS => exact (below_size (by repeat (first | (with_reducible first | exact HB.out | apply below_alloc | apply pw_below_drewN | apply below_drew1 | refine below_set ?_ GE372.out | refine below_set ?_ GE373.out) | exact HB.out)))); (case aL => have := LMc47.out; omega); intro v384 w50 ho hb hg hat; rw [← Ny383.out] at ho; have n0_ := Aside0.mk (blk_grown (g := gb372) (o := .cells #[.int .i64 a0_0, .slice A0_1 l0_1.length c0_1] 32 (0, 0)) (by (with_reducible repeat (first | refine blk_drewN ?_ _ | refine blk_drew ?_ | refine blk_alloc ?_ _)); exact BK372.out) hg (Kd.R_ne HO_7.out BK372.out (by decide))); have n1_ := Aside0.mk (blk_grown (g := gb373) (o := .cells #[.int .u8 a2_0, .int .i64 a2_1, .int .u8 a2_2] 53 (0, 0)) (by (with_reducible repeat (first | refine blk_drewN ?_ _ | refine blk_drew ?_ | refine blk_alloc ?_ _)); exact BK373.out) hg (Kd.R_ne HO_7.out BK373.out (by decide))); have n2_ := Aside0.mk (hb); have n3_ := Aside0.mk (ho); clear BK372; clear BK373; clear HB; clear HO_7; have BK372 := n0_; have BK373 := n1_; have HB := n2_; have HO385 := n3_; clear n0_ n1_ n2_ n3_; clear ho hb hg hat))
              go_roundg k5
              case measure => have := HJ3.out; have := HJ17.out; have := HJ30.out; have := HJ37.out; have := HK5.out; omega
              case rel => exact ⟨(y383), ((x8_5 + 1) % 256), (by first | rfl | (simp; done) | (simp [*]; done)), H', ⟨by have := HJ3.out; have := HJ17.out; have := HJ30.out; have := HJ37.out; have := HK5.out; omega⟩, ⟨by (with_reducible repeat (first | apply Kd.R_alloc | apply Kd.R_drewN | apply Kd.R_drew)); exact HO385.out⟩, ⟨by (with_reducible repeat (first | refine blk_drewN ?_ _ | refine blk_drew ?_ | refine blk_alloc ?_ _)); exact BK372.out⟩, ⟨by (with_reducible repeat (first | refine blk_drewN ?_ _ | refine blk_drew ?_ | refine blk_alloc ?_ _)); exact BK373.out⟩, ⟨by repeat (first | (with_reducible first | exact HB.out | apply below_alloc | apply pw_below_drewN | apply below_drew1 | refine below_set ?_ GE372.out | refine below_set ?_ GE373.out) | exact HB.out)⟩⟩
             ·rw [if_neg c47] at H
              exact absurd H (by simp)
            ·rw [if_neg c46] at H
             have c46b0 : decide (x8_5 < (Int.tmod a2_2 9)) = false := decide_eq_false c46
             clear c46
             replace H := Option.bind_eq_some_iff.mp H
             obtain ⟨t386, A510, H⟩ := H
             replace H : (some t386) = some r := H
             have A51 := Aside0.mk A510
             clear A510
             obtain rfl := Option.some.inj H
             have hnb52 := NB373_372.out
             have hnc52 := NB372_373.out
             have hcz53_0 : wr.cell? ⟨gb373, 0, none⟩ = some (.int .u8 a2_0) := (blk_cell BK373.out 0).trans rfl
             have hcz53_1 : wr.cell? ⟨gb373, 1, none⟩ = some (.int .i64 a2_1) := (blk_cell BK373.out 1).trans rfl
             have hcz53_2 : wr.cell? ⟨gb373, 2, none⟩ = some (.int .u8 a2_2) := (blk_cell BK373.out 2).trans rfl
             have hfz53_0 := blk_frozen BK373.out 0
             have hfz53_1 := blk_frozen BK373.out 1
             have hfz53_2 := blk_frozen BK373.out 2
             obtain ⟨Ao54, co54, eo54⟩ := Kd.R_slice HO_7.out
             subst eo54
             go_wp2_with (first | ((with_reducible refine gate_callee (f := 6) rfl ?_); refine goesL_ (some 58) rfl rfl Try.func6 (by kernel_rfl) rfl #[.slice Ao54 x7_5.length co54] rfl (by (try simp only [List.map_toArray, List.map_cons, List.map_nil]); first | done | rfl | (simp only [List.length_drop, List.length_take]; rfl)) ?_; (with_reducible refine (cachetlaw05_CodeReads.calls k5 _ _ x7_5 t386 _ ?side1 ?side2 A51.out).mono ?_); (case side1 => repeat (first | exact (Kd.R_reads' HO_7.out).2.2 | (with_reducible refine Kd.C_alloc ?_ _) | (with_reducible refine Kd.C_drewN ?_ _) | (with_reducible refine Kd.C_drew ?_))); (case side2 => exact (Kd.R_reads' HO_7.out).2.1); rintro e w55 ⟨rfl, hb⟩; refine ⟨_, rfl, ?_⟩; have n0_ := Aside0.mk (Kd.R_below (by (with_reducible repeat (first | apply Kd.R_alloc | apply Kd.R_drewN | apply Kd.R_drew)); exact HO_7.out) hb); have n1_ := Aside0.mk (blk_below (g := gb372) (o := .cells #[.int .i64 a0_0, .slice A0_1 l0_1.length c0_1] 32 (0, 0)) (by (with_reducible repeat (first | refine blk_drewN ?_ _ | refine blk_drew ?_ | refine blk_alloc ?_ _)); exact BK372.out) hb); have n2_ := Aside0.mk (blk_below (g := gb373) (o := .cells #[.int .u8 a2_0, .int .i64 a2_1, .int .u8 a2_2] 53 (0, 0)) (by (with_reducible repeat (first | refine blk_drewN ?_ _ | refine blk_drew ?_ | refine blk_alloc ?_ _)); exact BK373.out) hb); have n3_ := Aside0.mk (below_step (by repeat (first | (with_reducible first | exact HB.out | apply below_alloc | apply pw_below_drewN | apply below_drew1 | refine below_set ?_ GE372.out | refine below_set ?_ GE373.out) | exact HB.out)) hb); clear HO_7; clear BK372; clear BK373; clear HB; have HO_7 := n0_; have BK372 := n1_; have BK373 := n2_; have HB := n3_; clear n0_ n1_ n2_ n3_; (try clear hb); (try clear hb2); (try clear hk); (try clear hi)))
             go_ret
             exact ⟨by first | rfl | (simp [errW_none, errW_some] <;> rfl) | (simp [*, errW_none, errW_some] <;> rfl), by repeat (first | (with_reducible first | exact HB.out | apply below_alloc | apply pw_below_drewN | apply below_drew1 | refine below_set ?_ GE372.out | refine below_set ?_ GE373.out) | exact HB.out)⟩

end Go.Proofs.Ythkepoimagnagaa.K
