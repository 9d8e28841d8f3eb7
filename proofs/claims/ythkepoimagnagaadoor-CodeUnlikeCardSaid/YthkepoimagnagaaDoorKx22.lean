/- Written by a program of this session (wip/handprint, over the kit's printer): what Go functions of the program come to, each by a contract of its own; Lean checks all of it. -/
import Derived.Test.YthkepoimagnagaaDoorKx0
import Derived.Test.YthkepoimagnagaaDoorKx20
namespace Go.Proofs.YthkepoimagnagaaDoor.K
open Go.RowKit Go.Proofs.YthkepoimagnagaaDoorW.PrintWords Go.Proofs.YthkepoimagnagaaDoorW.PrintLast Go.Proofs.YthkepoimagnagaaDoorW.PrintMore
attribute [local go_sem] max2_int min2_int max_two min_two max_three min_three max_four min_four   -- for this text's walks alone
set_option linter.unusedVariables false
set_option linter.unusedSimpArgs false

/-! ### cachetref05_May: function 11 -/
mutual
def cachetref05_May.j0 : Nat → Int → Bool → Int → Int → Int → Int → Int → Option (Bool)
 | 0, _, _, _, _, _, _, _ => none
 | k + 1, x3, x56, x150000, x150001, x150002, x150003, x150004 => if x56 = true then (some false) else (if x150001 < 0 then (cachetref05_May.j1 k x3 true x150000 x150001 x150002 x150003 x150004) else (if x150001 > 9 then (cachetref05_May.j1 k x3 true x150000 x150001 x150002 x150003 x150004) else (if x150002 < 0 then (cachetref05_May.j1 k x3 true x150000 x150001 x150002 x150003 x150004) else (cachetref05_May.j1 k x3 (decide (x150002 > 9)) x150000 x150001 x150002 x150003 x150004))))
def cachetref05_May.j1 : Nat → Int → Bool → Int → Int → Int → Int → Int → Option (Bool)
 | 0, _, _, _, _, _, _, _ => none
 | k + 1, x3, x74, x150000, x150001, x150002, x150003, x150004 => if x74 = true then (some false) else (if x3 ≥ 16 then (if x3 ≤ 18 then (if x150003 < (-32768) then (cachetref05_May.j2 k x3 true x150000 x150001 x150002 x150003 x150004) else (if x150003 > 32767 then (cachetref05_May.j2 k x3 true x150000 x150001 x150002 x150003 x150004) else (if x3 ≥ 19 then (if x150003 < 0 then (cachetref05_May.j2 k x3 true x150000 x150001 x150002 x150003 x150004) else (cachetref05_May.j2 k x3 (decide (x150003 > 255)) x150000 x150001 x150002 x150003 x150004)) else (cachetref05_May.j2 k x3 false x150000 x150001 x150002 x150003 x150004)))) else (if x3 ≥ 19 then (if x150003 < 0 then (cachetref05_May.j2 k x3 true x150000 x150001 x150002 x150003 x150004) else (cachetref05_May.j2 k x3 (decide (x150003 > 255)) x150000 x150001 x150002 x150003 x150004)) else (cachetref05_May.j2 k x3 false x150000 x150001 x150002 x150003 x150004))) else (if x3 ≥ 19 then (if x150003 < 0 then (cachetref05_May.j2 k x3 true x150000 x150001 x150002 x150003 x150004) else (cachetref05_May.j2 k x3 (decide (x150003 > 255)) x150000 x150001 x150002 x150003 x150004)) else (cachetref05_May.j2 k x3 false x150000 x150001 x150002 x150003 x150004)))
def cachetref05_May.j2 : Nat → Int → Bool → Int → Int → Int → Int → Int → Option (Bool)
 | 0, _, _, _, _, _, _, _ => none
 | k + 1, x3, x104, x150000, x150001, x150002, x150003, x150004 => if x104 = true then (some false) else (if x3 = 12 then (if x150004 > 31 then (some false) else (if x3 = 23 then (some (decide (x150004 < 8))) else (some true))) else (if x3 = 13 then (if x150004 > 31 then (some false) else (if x3 = 23 then (some (decide (x150004 < 8))) else (some true))) else (if x3 = 23 then (some (decide (x150004 < 8))) else (some true))))
end
def cachetref05_May.f (k : Nat) (a0_0 : Int) (a0_1 : Int) (a0_2 : Int) (a0_3 : Int) (a0_4 : Int) : Option (Bool) := (cachetref05_Uses.f k a0_0).bind fun bt150 => (if bt150.2.2.2.2 = true then (if bt150.1 = true then (if bt150.2.1 = true then (if bt150.2.2.1 = true then (if bt150.2.2.2.1 = true then (cachetref05_May.j0 k a0_0 false a0_0 a0_1 a0_2 a0_3 a0_4) else (cachetref05_May.j0 k a0_0 (a0_4 != 0) a0_0 a0_1 a0_2 a0_3 a0_4)) else (if a0_3 = 0 then (if bt150.2.2.2.1 = true then (cachetref05_May.j0 k a0_0 false a0_0 a0_1 a0_2 a0_3 a0_4) else (cachetref05_May.j0 k a0_0 (a0_4 != 0) a0_0 a0_1 a0_2 a0_3 a0_4)) else (cachetref05_May.j0 k a0_0 true a0_0 a0_1 a0_2 a0_3 a0_4))) else (if a0_2 = 0 then (if bt150.2.2.1 = true then (if bt150.2.2.2.1 = true then (cachetref05_May.j0 k a0_0 false a0_0 a0_1 a0_2 a0_3 a0_4) else (cachetref05_May.j0 k a0_0 (a0_4 != 0) a0_0 a0_1 a0_2 a0_3 a0_4)) else (if a0_3 = 0 then (if bt150.2.2.2.1 = true then (cachetref05_May.j0 k a0_0 false a0_0 a0_1 a0_2 a0_3 a0_4) else (cachetref05_May.j0 k a0_0 (a0_4 != 0) a0_0 a0_1 a0_2 a0_3 a0_4)) else (cachetref05_May.j0 k a0_0 true a0_0 a0_1 a0_2 a0_3 a0_4))) else (cachetref05_May.j0 k a0_0 true a0_0 a0_1 a0_2 a0_3 a0_4))) else (if a0_1 = 0 then (if bt150.2.1 = true then (if bt150.2.2.1 = true then (if bt150.2.2.2.1 = true then (cachetref05_May.j0 k a0_0 false a0_0 a0_1 a0_2 a0_3 a0_4) else (cachetref05_May.j0 k a0_0 (a0_4 != 0) a0_0 a0_1 a0_2 a0_3 a0_4)) else (if a0_3 = 0 then (if bt150.2.2.2.1 = true then (cachetref05_May.j0 k a0_0 false a0_0 a0_1 a0_2 a0_3 a0_4) else (cachetref05_May.j0 k a0_0 (a0_4 != 0) a0_0 a0_1 a0_2 a0_3 a0_4)) else (cachetref05_May.j0 k a0_0 true a0_0 a0_1 a0_2 a0_3 a0_4))) else (if a0_2 = 0 then (if bt150.2.2.1 = true then (if bt150.2.2.2.1 = true then (cachetref05_May.j0 k a0_0 false a0_0 a0_1 a0_2 a0_3 a0_4) else (cachetref05_May.j0 k a0_0 (a0_4 != 0) a0_0 a0_1 a0_2 a0_3 a0_4)) else (if a0_3 = 0 then (if bt150.2.2.2.1 = true then (cachetref05_May.j0 k a0_0 false a0_0 a0_1 a0_2 a0_3 a0_4) else (cachetref05_May.j0 k a0_0 (a0_4 != 0) a0_0 a0_1 a0_2 a0_3 a0_4)) else (cachetref05_May.j0 k a0_0 true a0_0 a0_1 a0_2 a0_3 a0_4))) else (cachetref05_May.j0 k a0_0 true a0_0 a0_1 a0_2 a0_3 a0_4))) else (cachetref05_May.j0 k a0_0 true a0_0 a0_1 a0_2 a0_3 a0_4))) else (cachetref05_May.j0 k a0_0 true a0_0 a0_1 a0_2 a0_3 a0_4))
theorem cachetref05_May.mono_l : ∀ k, (∀ y0 y1 y2 y3 y4 y5 y6, LeO (cachetref05_May.j0 k y0 y1 y2 y3 y4 y5 y6) (cachetref05_May.j0 (k + 1) y0 y1 y2 y3 y4 y5 y6)) ∧ (∀ y0 y1 y2 y3 y4 y5 y6, LeO (cachetref05_May.j1 k y0 y1 y2 y3 y4 y5 y6) (cachetref05_May.j1 (k + 1) y0 y1 y2 y3 y4 y5 y6)) ∧ (∀ y0 y1 y2 y3 y4 y5 y6, LeO (cachetref05_May.j2 k y0 y1 y2 y3 y4 y5 y6) (cachetref05_May.j2 (k + 1) y0 y1 y2 y3 y4 y5 y6))
 | 0 => ⟨fun _ _ _ _ _ _ _ r h => by simp [cachetref05_May.j0] at h, fun _ _ _ _ _ _ _ r h => by simp [cachetref05_May.j1] at h, fun _ _ _ _ _ _ _ r h => by simp [cachetref05_May.j2] at h⟩
 | k + 1 => by
  obtain ⟨ih0, ih1, ih2⟩ := cachetref05_May.mono_l k
  refine ⟨?_, ?_, ?_⟩
  ·intro y0 y1 y2 y3 y4 y5 y6
   unfold cachetref05_May.j0
   repeat' first
   | (with_reducible exact ih0 _ _ _ _ _ _ _)
   | (with_reducible exact ih1 _ _ _ _ _ _ _)
   | (with_reducible exact ih2 _ _ _ _ _ _ _)
   | (with_reducible exact cachetref05_Uses.mono _ _)
   | (with_reducible exact LeO.refl _)
   | (with_reducible exact LeO.none _)
   | (with_reducible refine LeO.ite ?_ ?_)
   | (with_reducible refine LeO.bind ?_ (fun _ => ?_))
   | exact ih0 _ _ _ _ _ _ _
   | exact ih1 _ _ _ _ _ _ _
   | exact ih2 _ _ _ _ _ _ _
   | exact cachetref05_Uses.mono _ _
   | exact LeO.none _
   | refine LeO.ite ?_ ?_
   | refine LeO.bind ?_ (fun _ => ?_)
  ·intro y0 y1 y2 y3 y4 y5 y6
   unfold cachetref05_May.j1
   repeat' first
   | (with_reducible exact ih0 _ _ _ _ _ _ _)
   | (with_reducible exact ih1 _ _ _ _ _ _ _)
   | (with_reducible exact ih2 _ _ _ _ _ _ _)
   | (with_reducible exact cachetref05_Uses.mono _ _)
   | (with_reducible exact LeO.refl _)
   | (with_reducible exact LeO.none _)
   | (with_reducible refine LeO.ite ?_ ?_)
   | (with_reducible refine LeO.bind ?_ (fun _ => ?_))
   | exact ih0 _ _ _ _ _ _ _
   | exact ih1 _ _ _ _ _ _ _
   | exact ih2 _ _ _ _ _ _ _
   | exact cachetref05_Uses.mono _ _
   | exact LeO.none _
   | refine LeO.ite ?_ ?_
   | refine LeO.bind ?_ (fun _ => ?_)
  ·intro y0 y1 y2 y3 y4 y5 y6
   unfold cachetref05_May.j2
   repeat' first
   | (with_reducible exact ih0 _ _ _ _ _ _ _)
   | (with_reducible exact ih1 _ _ _ _ _ _ _)
   | (with_reducible exact ih2 _ _ _ _ _ _ _)
   | (with_reducible exact cachetref05_Uses.mono _ _)
   | (with_reducible exact LeO.refl _)
   | (with_reducible exact LeO.none _)
   | (with_reducible refine LeO.ite ?_ ?_)
   | (with_reducible refine LeO.bind ?_ (fun _ => ?_))
   | exact ih0 _ _ _ _ _ _ _
   | exact ih1 _ _ _ _ _ _ _
   | exact ih2 _ _ _ _ _ _ _
   | exact cachetref05_Uses.mono _ _
   | exact LeO.none _
   | refine LeO.ite ?_ ?_
   | refine LeO.bind ?_ (fun _ => ?_)
theorem cachetref05_May.mono : ∀ a0 a1 a2 a3 a4 k, LeO (cachetref05_May.f k a0 a1 a2 a3 a4) (cachetref05_May.f (k + 1) a0 a1 a2 a3 a4) := by
 intro a0 a1 a2 a3 a4 k
 obtain ⟨ih0, ih1, ih2⟩ := cachetref05_May.mono_l k
 unfold cachetref05_May.f
 repeat' first
   | (with_reducible exact ih0 _ _ _ _ _ _ _)
   | (with_reducible exact ih1 _ _ _ _ _ _ _)
   | (with_reducible exact ih2 _ _ _ _ _ _ _)
   | (with_reducible exact cachetref05_Uses.mono _ _)
   | (with_reducible exact LeO.refl _)
   | (with_reducible exact LeO.none _)
   | (with_reducible refine LeO.ite ?_ ?_)
   | (with_reducible refine LeO.bind ?_ (fun _ => ?_))
   | exact ih0 _ _ _ _ _ _ _
   | exact ih1 _ _ _ _ _ _ _
   | exact ih2 _ _ _ _ _ _ _
   | exact cachetref05_Uses.mono _ _
   | exact LeO.none _
   | refine LeO.ite ?_ ?_
   | refine LeO.bind ?_ (fun _ => ?_)
set_option maxHeartbeats 8000000 in
set_option maxRecDepth 100000 in
theorem cachetref05_May.calls (k : Nat) (a0_0 : Int) (a0_1 : Int) (a0_2 : Int) (a0_3 : Int) (a0_4 : Int) (r : Bool) (w : World) (h : cachetref05_May.f k a0_0 a0_1 a0_2 a0_3 a0_4 = some r) :
  Calls Tryd.prog 11 #[.agg #[.int .i64 a0_0, .int .i64 a0_1, .int .i64 a0_2, .int .i64 a0_3, .int .u32 a0_4]] w fun e w' => e = .returned (.bool r) ∧ Below w.heap.size w w' := by
 have hu36 := Tryd.underlying36
 have HB := Aside0.mk (Below.refl w.heap.size w)
 have H : ((cachetref05_Uses.f k a0_0).bind fun bt150 => (if bt150.2.2.2.2 = true then (if bt150.1 = true then (if bt150.2.1 = true then (if bt150.2.2.1 = true then (if bt150.2.2.2.1 = true then (cachetref05_May.j0 k a0_0 false a0_0 a0_1 a0_2 a0_3 a0_4) else (cachetref05_May.j0 k a0_0 (a0_4 != 0) a0_0 a0_1 a0_2 a0_3 a0_4)) else (if a0_3 = 0 then (if bt150.2.2.2.1 = true then (cachetref05_May.j0 k a0_0 false a0_0 a0_1 a0_2 a0_3 a0_4) else (cachetref05_May.j0 k a0_0 (a0_4 != 0) a0_0 a0_1 a0_2 a0_3 a0_4)) else (cachetref05_May.j0 k a0_0 true a0_0 a0_1 a0_2 a0_3 a0_4))) else (if a0_2 = 0 then (if bt150.2.2.1 = true then (if bt150.2.2.2.1 = true then (cachetref05_May.j0 k a0_0 false a0_0 a0_1 a0_2 a0_3 a0_4) else (cachetref05_May.j0 k a0_0 (a0_4 != 0) a0_0 a0_1 a0_2 a0_3 a0_4)) else (if a0_3 = 0 then (if bt150.2.2.2.1 = true then (cachetref05_May.j0 k a0_0 false a0_0 a0_1 a0_2 a0_3 a0_4) else (cachetref05_May.j0 k a0_0 (a0_4 != 0) a0_0 a0_1 a0_2 a0_3 a0_4)) else (cachetref05_May.j0 k a0_0 true a0_0 a0_1 a0_2 a0_3 a0_4))) else (cachetref05_May.j0 k a0_0 true a0_0 a0_1 a0_2 a0_3 a0_4))) else (if a0_1 = 0 then (if bt150.2.1 = true then (if bt150.2.2.1 = true then (if bt150.2.2.2.1 = true then (cachetref05_May.j0 k a0_0 false a0_0 a0_1 a0_2 a0_3 a0_4) else (cachetref05_May.j0 k a0_0 (a0_4 != 0) a0_0 a0_1 a0_2 a0_3 a0_4)) else (if a0_3 = 0 then (if bt150.2.2.2.1 = true then (cachetref05_May.j0 k a0_0 false a0_0 a0_1 a0_2 a0_3 a0_4) else (cachetref05_May.j0 k a0_0 (a0_4 != 0) a0_0 a0_1 a0_2 a0_3 a0_4)) else (cachetref05_May.j0 k a0_0 true a0_0 a0_1 a0_2 a0_3 a0_4))) else (if a0_2 = 0 then (if bt150.2.2.1 = true then (if bt150.2.2.2.1 = true then (cachetref05_May.j0 k a0_0 false a0_0 a0_1 a0_2 a0_3 a0_4) else (cachetref05_May.j0 k a0_0 (a0_4 != 0) a0_0 a0_1 a0_2 a0_3 a0_4)) else (if a0_3 = 0 then (if bt150.2.2.2.1 = true then (cachetref05_May.j0 k a0_0 false a0_0 a0_1 a0_2 a0_3 a0_4) else (cachetref05_May.j0 k a0_0 (a0_4 != 0) a0_0 a0_1 a0_2 a0_3 a0_4)) else (cachetref05_May.j0 k a0_0 true a0_0 a0_1 a0_2 a0_3 a0_4))) else (cachetref05_May.j0 k a0_0 true a0_0 a0_1 a0_2 a0_3 a0_4))) else (cachetref05_May.j0 k a0_0 true a0_0 a0_1 a0_2 a0_3 a0_4))) else (cachetref05_May.j0 k a0_0 true a0_0 a0_1 a0_2 a0_3 a0_4))) = some r := h
 clear h
 replace H := Option.bind_eq_some_iff.mp H
 obtain ⟨⟨t150, t151, t152, t153, t154⟩, A20, H⟩ := H
 replace H : (if t154 = true then (if t150 = true then (if t151 = true then (if t152 = true then (if t153 = true then (cachetref05_May.j0 k a0_0 false a0_0 a0_1 a0_2 a0_3 a0_4) else (cachetref05_May.j0 k a0_0 (a0_4 != 0) a0_0 a0_1 a0_2 a0_3 a0_4)) else (if a0_3 = 0 then (if t153 = true then (cachetref05_May.j0 k a0_0 false a0_0 a0_1 a0_2 a0_3 a0_4) else (cachetref05_May.j0 k a0_0 (a0_4 != 0) a0_0 a0_1 a0_2 a0_3 a0_4)) else (cachetref05_May.j0 k a0_0 true a0_0 a0_1 a0_2 a0_3 a0_4))) else (if a0_2 = 0 then (if t152 = true then (if t153 = true then (cachetref05_May.j0 k a0_0 false a0_0 a0_1 a0_2 a0_3 a0_4) else (cachetref05_May.j0 k a0_0 (a0_4 != 0) a0_0 a0_1 a0_2 a0_3 a0_4)) else (if a0_3 = 0 then (if t153 = true then (cachetref05_May.j0 k a0_0 false a0_0 a0_1 a0_2 a0_3 a0_4) else (cachetref05_May.j0 k a0_0 (a0_4 != 0) a0_0 a0_1 a0_2 a0_3 a0_4)) else (cachetref05_May.j0 k a0_0 true a0_0 a0_1 a0_2 a0_3 a0_4))) else (cachetref05_May.j0 k a0_0 true a0_0 a0_1 a0_2 a0_3 a0_4))) else (if a0_1 = 0 then (if t151 = true then (if t152 = true then (if t153 = true then (cachetref05_May.j0 k a0_0 false a0_0 a0_1 a0_2 a0_3 a0_4) else (cachetref05_May.j0 k a0_0 (a0_4 != 0) a0_0 a0_1 a0_2 a0_3 a0_4)) else (if a0_3 = 0 then (if t153 = true then (cachetref05_May.j0 k a0_0 false a0_0 a0_1 a0_2 a0_3 a0_4) else (cachetref05_May.j0 k a0_0 (a0_4 != 0) a0_0 a0_1 a0_2 a0_3 a0_4)) else (cachetref05_May.j0 k a0_0 true a0_0 a0_1 a0_2 a0_3 a0_4))) else (if a0_2 = 0 then (if t152 = true then (if t153 = true then (cachetref05_May.j0 k a0_0 false a0_0 a0_1 a0_2 a0_3 a0_4) else (cachetref05_May.j0 k a0_0 (a0_4 != 0) a0_0 a0_1 a0_2 a0_3 a0_4)) else (if a0_3 = 0 then (if t153 = true then (cachetref05_May.j0 k a0_0 false a0_0 a0_1 a0_2 a0_3 a0_4) else (cachetref05_May.j0 k a0_0 (a0_4 != 0) a0_0 a0_1 a0_2 a0_3 a0_4)) else (cachetref05_May.j0 k a0_0 true a0_0 a0_1 a0_2 a0_3 a0_4))) else (cachetref05_May.j0 k a0_0 true a0_0 a0_1 a0_2 a0_3 a0_4))) else (cachetref05_May.j0 k a0_0 true a0_0 a0_1 a0_2 a0_3 a0_4))) else (cachetref05_May.j0 k a0_0 true a0_0 a0_1 a0_2 a0_3 a0_4)) = some r := H
 have A2 := Aside0.mk A20
 clear A20
 have HC3 := Aside0.mk H
 clear H
 go_enter Tryd.func11, Tryd.ntmps11
 go_upto_region 3 with (first | ((with_reducible refine gate_dst (N := 1) rfl ?_); refine box_event ?hg (N := 1) ?hd (cs := #[.int .i64 a0_0, .int .i64 a0_1, .int .i64 a0_2, .int .i64 a0_3, .int .u32 a0_4]) (t := 36) ?hr ?_; (case hd => rfl); (case hg => rfl); (case hr => first | (go_simp; done) | (go_simp; rfl)); intro gb149 hg w4 hbox hb; have n0_ := Aside0.mk (below_step (by repeat (first | (with_reducible first | exact HB.out | apply below_alloc | apply pw_below_drewN | apply below_drew1) | exact HB.out)) hb); have n1_ := Aside0.mk (hbox); have n2_ := Aside0.mk ((by rw [hg]; exact (below_size (by repeat (first | (with_reducible first | exact HB.out | apply below_alloc | apply pw_below_drewN | apply below_drew1) | exact HB.out))) : w.heap.size ≤ gb149)); have n3_ := Aside0.mk ((by rw [hg]; exact (below_size (by repeat (first | (with_reducible first | exact HB.out | apply below_alloc | apply pw_below_drewN | apply below_drew1) | exact HB.out))) : w.heap.size ≤ gb149)); clear HB; have HB := n0_; have BK149 := n1_; have GW149 := n2_; have GE149 := n3_; clear n0_ n1_ n2_ n3_; clear hb hbox hg; have hcz5_0 : w4.cell? ⟨gb149, 0, none⟩ = some (.int .i64 a0_0) := (blk_cell BK149.out 0).trans rfl; have hcz5_1 : w4.cell? ⟨gb149, 1, none⟩ = some (.int .i64 a0_1) := (blk_cell BK149.out 1).trans rfl; have hcz5_2 : w4.cell? ⟨gb149, 2, none⟩ = some (.int .i64 a0_2) := (blk_cell BK149.out 2).trans rfl; have hcz5_3 : w4.cell? ⟨gb149, 3, none⟩ = some (.int .i64 a0_3) := (blk_cell BK149.out 3).trans rfl; have hcz5_4 : w4.cell? ⟨gb149, 4, none⟩ = some (.int .u32 a0_4) := (blk_cell BK149.out 4).trans rfl; have hfz5_0 := blk_frozen BK149.out 0; have hfz5_1 := blk_frozen BK149.out 1; have hfz5_2 := blk_frozen BK149.out 2; have hfz5_3 := blk_frozen BK149.out 3; have hfz5_4 := blk_frozen BK149.out 4) | ((with_reducible refine gate_callee (f := 25) rfl ?_); refine goesL_ (some 13) rfl rfl Tryd.func25 (by kernel_rfl) rfl #[.int .i64 a0_0] rfl (by (try simp only [List.map_toArray, List.map_cons, List.map_nil]); first | done | rfl | (simp only [List.length_drop, List.length_take]; rfl)) ?_; (with_reducible refine (cachetref05_Uses.calls k a0_0 t150 t151 t152 t153 t154 _ A2.out).mono ?_); rintro e w' ⟨rfl, ⟨nd, rfl⟩⟩; refine ⟨_, rfl, ?_⟩))
 (try simp only [Act.put, List.setIfInBounds_toArray, List.set_cons_zero, List.set_cons_succ])
 go_cut [56] (fun v56 wc => ∃ (kq : Nat) (x56_2 : Bool), v56 = .bool x56_2 ∧ Aside0 (cachetref05_May.j0 kq a0_0 x56_2 a0_0 a0_1 a0_2 a0_3 a0_4 = some r) ∧ Aside0 (kq ≤ k) ∧ Aside0 (wc.heap[gb149]? = some (.cells #[.int .i64 a0_0, .int .i64 a0_1, .int .i64 a0_2, .int .i64 a0_3, .int .u32 a0_4] 36 (0, 0))) ∧ Aside0 (Below w.heap.size w wc))
 case first =>
  have H := HC3.out
  clear HC3
  by_cases c6 : t154 = true
  ·subst c6
   have H1 : (if t150 = true then (if t151 = true then (if t152 = true then (if t153 = true then (cachetref05_May.j0 k a0_0 false a0_0 a0_1 a0_2 a0_3 a0_4) else (cachetref05_May.j0 k a0_0 (a0_4 != 0) a0_0 a0_1 a0_2 a0_3 a0_4)) else (if a0_3 = 0 then (if t153 = true then (cachetref05_May.j0 k a0_0 false a0_0 a0_1 a0_2 a0_3 a0_4) else (cachetref05_May.j0 k a0_0 (a0_4 != 0) a0_0 a0_1 a0_2 a0_3 a0_4)) else (cachetref05_May.j0 k a0_0 true a0_0 a0_1 a0_2 a0_3 a0_4))) else (if a0_2 = 0 then (if t152 = true then (if t153 = true then (cachetref05_May.j0 k a0_0 false a0_0 a0_1 a0_2 a0_3 a0_4) else (cachetref05_May.j0 k a0_0 (a0_4 != 0) a0_0 a0_1 a0_2 a0_3 a0_4)) else (if a0_3 = 0 then (if t153 = true then (cachetref05_May.j0 k a0_0 false a0_0 a0_1 a0_2 a0_3 a0_4) else (cachetref05_May.j0 k a0_0 (a0_4 != 0) a0_0 a0_1 a0_2 a0_3 a0_4)) else (cachetref05_May.j0 k a0_0 true a0_0 a0_1 a0_2 a0_3 a0_4))) else (cachetref05_May.j0 k a0_0 true a0_0 a0_1 a0_2 a0_3 a0_4))) else (if a0_1 = 0 then (if t151 = true then (if t152 = true then (if t153 = true then (cachetref05_May.j0 k a0_0 false a0_0 a0_1 a0_2 a0_3 a0_4) else (cachetref05_May.j0 k a0_0 (a0_4 != 0) a0_0 a0_1 a0_2 a0_3 a0_4)) else (if a0_3 = 0 then (if t153 = true then (cachetref05_May.j0 k a0_0 false a0_0 a0_1 a0_2 a0_3 a0_4) else (cachetref05_May.j0 k a0_0 (a0_4 != 0) a0_0 a0_1 a0_2 a0_3 a0_4)) else (cachetref05_May.j0 k a0_0 true a0_0 a0_1 a0_2 a0_3 a0_4))) else (if a0_2 = 0 then (if t152 = true then (if t153 = true then (cachetref05_May.j0 k a0_0 false a0_0 a0_1 a0_2 a0_3 a0_4) else (cachetref05_May.j0 k a0_0 (a0_4 != 0) a0_0 a0_1 a0_2 a0_3 a0_4)) else (if a0_3 = 0 then (if t153 = true then (cachetref05_May.j0 k a0_0 false a0_0 a0_1 a0_2 a0_3 a0_4) else (cachetref05_May.j0 k a0_0 (a0_4 != 0) a0_0 a0_1 a0_2 a0_3 a0_4)) else (cachetref05_May.j0 k a0_0 true a0_0 a0_1 a0_2 a0_3 a0_4))) else (cachetref05_May.j0 k a0_0 true a0_0 a0_1 a0_2 a0_3 a0_4))) else (cachetref05_May.j0 k a0_0 true a0_0 a0_1 a0_2 a0_3 a0_4))) = some r := by rw [if_pos rfl] at H; exact H
   clear H
   have H := H1
   clear H1
   by_cases c7 : t150 = true
   ·subst c7
    have H1 : (if t151 = true then (if t152 = true then (if t153 = true then (cachetref05_May.j0 k a0_0 false a0_0 a0_1 a0_2 a0_3 a0_4) else (cachetref05_May.j0 k a0_0 (a0_4 != 0) a0_0 a0_1 a0_2 a0_3 a0_4)) else (if a0_3 = 0 then (if t153 = true then (cachetref05_May.j0 k a0_0 false a0_0 a0_1 a0_2 a0_3 a0_4) else (cachetref05_May.j0 k a0_0 (a0_4 != 0) a0_0 a0_1 a0_2 a0_3 a0_4)) else (cachetref05_May.j0 k a0_0 true a0_0 a0_1 a0_2 a0_3 a0_4))) else (if a0_2 = 0 then (if t152 = true then (if t153 = true then (cachetref05_May.j0 k a0_0 false a0_0 a0_1 a0_2 a0_3 a0_4) else (cachetref05_May.j0 k a0_0 (a0_4 != 0) a0_0 a0_1 a0_2 a0_3 a0_4)) else (if a0_3 = 0 then (if t153 = true then (cachetref05_May.j0 k a0_0 false a0_0 a0_1 a0_2 a0_3 a0_4) else (cachetref05_May.j0 k a0_0 (a0_4 != 0) a0_0 a0_1 a0_2 a0_3 a0_4)) else (cachetref05_May.j0 k a0_0 true a0_0 a0_1 a0_2 a0_3 a0_4))) else (cachetref05_May.j0 k a0_0 true a0_0 a0_1 a0_2 a0_3 a0_4))) = some r := by rw [if_pos rfl] at H; exact H
    clear H
    have H := H1
    clear H1
    by_cases c8 : t151 = true
    ·subst c8
     have H1 : (if t152 = true then (if t153 = true then (cachetref05_May.j0 k a0_0 false a0_0 a0_1 a0_2 a0_3 a0_4) else (cachetref05_May.j0 k a0_0 (a0_4 != 0) a0_0 a0_1 a0_2 a0_3 a0_4)) else (if a0_3 = 0 then (if t153 = true then (cachetref05_May.j0 k a0_0 false a0_0 a0_1 a0_2 a0_3 a0_4) else (cachetref05_May.j0 k a0_0 (a0_4 != 0) a0_0 a0_1 a0_2 a0_3 a0_4)) else (cachetref05_May.j0 k a0_0 true a0_0 a0_1 a0_2 a0_3 a0_4))) = some r := by rw [if_pos rfl] at H; exact H
     clear H
     have H := H1
     clear H1
     by_cases c9 : t152 = true
     ·subst c9
      have H1 : (if t153 = true then (cachetref05_May.j0 k a0_0 false a0_0 a0_1 a0_2 a0_3 a0_4) else (cachetref05_May.j0 k a0_0 (a0_4 != 0) a0_0 a0_1 a0_2 a0_3 a0_4)) = some r := by rw [if_pos rfl] at H; exact H
      clear H
      have H := H1
      clear H1
      by_cases c10 : t153 = true
      ·subst c10
       have H1 : (cachetref05_May.j0 k a0_0 false a0_0 a0_1 a0_2 a0_3 a0_4) = some r := by rw [if_pos rfl] at H; exact H
       clear H
       have H := H1
       clear H1
       have H' := Aside0.mk H
       clear H
       go_wp2
       go_meet
       case rel => exact ⟨_, (false), (by first | rfl | (simp; done) | (simp [*]; done)), H', ⟨by first | omega | exact Nat.le_refl _⟩, ⟨by (with_reducible repeat (first | refine blk_drewN ?_ _ | refine blk_drew ?_ | refine blk_alloc ?_ _)); exact BK149.out⟩, ⟨by repeat (first | (with_reducible first | exact HB.out | apply below_alloc | apply pw_below_drewN | apply below_drew1 | refine below_set ?_ GE149.out) | exact HB.out)⟩⟩
      ·replace c10 := Bool.eq_false_iff.mpr c10
       subst c10
       have H1 : (cachetref05_May.j0 k a0_0 (a0_4 != 0) a0_0 a0_1 a0_2 a0_3 a0_4) = some r := by rw [if_neg (show ¬ (false = true) by decide)] at H; exact H
       clear H
       have H := H1
       clear H1
       have H' := Aside0.mk H
       clear H
       have hcz11_0 : w4.cell? ⟨gb149, 0, none⟩ = some (.int .i64 a0_0) := (blk_cell BK149.out 0).trans rfl
       have hcz11_1 : w4.cell? ⟨gb149, 1, none⟩ = some (.int .i64 a0_1) := (blk_cell BK149.out 1).trans rfl
       have hcz11_2 : w4.cell? ⟨gb149, 2, none⟩ = some (.int .i64 a0_2) := (blk_cell BK149.out 2).trans rfl
       have hcz11_3 : w4.cell? ⟨gb149, 3, none⟩ = some (.int .i64 a0_3) := (blk_cell BK149.out 3).trans rfl
       have hcz11_4 : w4.cell? ⟨gb149, 4, none⟩ = some (.int .u32 a0_4) := (blk_cell BK149.out 4).trans rfl
       have hfz11_0 := blk_frozen BK149.out 0
       have hfz11_1 := blk_frozen BK149.out 1
       have hfz11_2 := blk_frozen BK149.out 2
       have hfz11_3 := blk_frozen BK149.out 3
       have hfz11_4 := blk_frozen BK149.out 4
       go_wp2
       go_meet
       case rel => exact ⟨_, ((a0_4 != 0)), (by first | rfl | (simp; done) | (simp [*]; done)), H', ⟨by first | omega | exact Nat.le_refl _⟩, ⟨by (with_reducible repeat (first | refine blk_drewN ?_ _ | refine blk_drew ?_ | refine blk_alloc ?_ _)); exact BK149.out⟩, ⟨by repeat (first | (with_reducible first | exact HB.out | apply below_alloc | apply pw_below_drewN | apply below_drew1 | refine below_set ?_ GE149.out) | exact HB.out)⟩⟩
     ·replace c9 := Bool.eq_false_iff.mpr c9
      subst c9
      have H1 : (if a0_3 = 0 then (if t153 = true then (cachetref05_May.j0 k a0_0 false a0_0 a0_1 a0_2 a0_3 a0_4) else (cachetref05_May.j0 k a0_0 (a0_4 != 0) a0_0 a0_1 a0_2 a0_3 a0_4)) else (cachetref05_May.j0 k a0_0 true a0_0 a0_1 a0_2 a0_3 a0_4)) = some r := by rw [if_neg (show ¬ (false = true) by decide)] at H; exact H
      clear H
      have H := H1
      clear H1
      by_cases c12 : a0_3 = 0
      ·rw [if_pos c12] at H
       have c12b0 : (a0_3 == 0) = true := beq_iff_eq.mpr c12
       have c12b1 : (a0_3 != 0) = false := bne_eq_false_iff_eq.mpr c12
       clear c12
       (first | rw [c12b0] | (simp only [i64_w, i32_w]; rw [c12b0]) | skip)
       by_cases c13 : t153 = true
       ·subst c13
        have H1 : (cachetref05_May.j0 k a0_0 false a0_0 a0_1 a0_2 a0_3 a0_4) = some r := by rw [if_pos rfl] at H; exact H
        clear H
        have H := H1
        clear H1
        have H' := Aside0.mk H
        clear H
        have hcz14_0 : w4.cell? ⟨gb149, 0, none⟩ = some (.int .i64 a0_0) := (blk_cell BK149.out 0).trans rfl
        have hcz14_1 : w4.cell? ⟨gb149, 1, none⟩ = some (.int .i64 a0_1) := (blk_cell BK149.out 1).trans rfl
        have hcz14_2 : w4.cell? ⟨gb149, 2, none⟩ = some (.int .i64 a0_2) := (blk_cell BK149.out 2).trans rfl
        have hcz14_3 : w4.cell? ⟨gb149, 3, none⟩ = some (.int .i64 a0_3) := (blk_cell BK149.out 3).trans rfl
        have hcz14_4 : w4.cell? ⟨gb149, 4, none⟩ = some (.int .u32 a0_4) := (blk_cell BK149.out 4).trans rfl
        have hfz14_0 := blk_frozen BK149.out 0
        have hfz14_1 := blk_frozen BK149.out 1
        have hfz14_2 := blk_frozen BK149.out 2
        have hfz14_3 := blk_frozen BK149.out 3
        have hfz14_4 := blk_frozen BK149.out 4
        go_wp2
        go_meet
        case rel => exact ⟨_, (false), (by first | rfl | (simp; done) | (simp [*]; done)), H', ⟨by first | omega | exact Nat.le_refl _⟩, ⟨by (with_reducible repeat (first | refine blk_drewN ?_ _ | refine blk_drew ?_ | refine blk_alloc ?_ _)); exact BK149.out⟩, ⟨by repeat (first | (with_reducible first | exact HB.out | apply below_alloc | apply pw_below_drewN | apply below_drew1 | refine below_set ?_ GE149.out) | exact HB.out)⟩⟩
       ·replace c13 := Bool.eq_false_iff.mpr c13
        subst c13
        have H1 : (cachetref05_May.j0 k a0_0 (a0_4 != 0) a0_0 a0_1 a0_2 a0_3 a0_4) = some r := by rw [if_neg (show ¬ (false = true) by decide)] at H; exact H
        clear H
        have H := H1
        clear H1
        have H' := Aside0.mk H
        clear H
        have hcz15_0 : w4.cell? ⟨gb149, 0, none⟩ = some (.int .i64 a0_0) := (blk_cell BK149.out 0).trans rfl
        have hcz15_1 : w4.cell? ⟨gb149, 1, none⟩ = some (.int .i64 a0_1) := (blk_cell BK149.out 1).trans rfl
        have hcz15_2 : w4.cell? ⟨gb149, 2, none⟩ = some (.int .i64 a0_2) := (blk_cell BK149.out 2).trans rfl
        have hcz15_3 : w4.cell? ⟨gb149, 3, none⟩ = some (.int .i64 a0_3) := (blk_cell BK149.out 3).trans rfl
        have hcz15_4 : w4.cell? ⟨gb149, 4, none⟩ = some (.int .u32 a0_4) := (blk_cell BK149.out 4).trans rfl
        have hfz15_0 := blk_frozen BK149.out 0
        have hfz15_1 := blk_frozen BK149.out 1
        have hfz15_2 := blk_frozen BK149.out 2
        have hfz15_3 := blk_frozen BK149.out 3
        have hfz15_4 := blk_frozen BK149.out 4
        go_wp2
        go_meet
        case rel => exact ⟨_, ((a0_4 != 0)), (by first | rfl | (simp; done) | (simp [*]; done)), H', ⟨by first | omega | exact Nat.le_refl _⟩, ⟨by (with_reducible repeat (first | refine blk_drewN ?_ _ | refine blk_drew ?_ | refine blk_alloc ?_ _)); exact BK149.out⟩, ⟨by repeat (first | (with_reducible first | exact HB.out | apply below_alloc | apply pw_below_drewN | apply below_drew1 | refine below_set ?_ GE149.out) | exact HB.out)⟩⟩
      ·rw [if_neg c12] at H
       have c12b0 : (a0_3 == 0) = false := beq_eq_false_iff_ne.mpr c12
       have c12b1 : (a0_3 != 0) = true := bne_iff_ne.mpr c12
       (first | rw [c12b0] | (simp only [i64_w, i32_w]; rw [c12b0]) | skip)
       have H' := Aside0.mk H
       clear H
       have hcz16_0 : w4.cell? ⟨gb149, 0, none⟩ = some (.int .i64 a0_0) := (blk_cell BK149.out 0).trans rfl
       have hcz16_1 : w4.cell? ⟨gb149, 1, none⟩ = some (.int .i64 a0_1) := (blk_cell BK149.out 1).trans rfl
       have hcz16_2 : w4.cell? ⟨gb149, 2, none⟩ = some (.int .i64 a0_2) := (blk_cell BK149.out 2).trans rfl
       have hcz16_3 : w4.cell? ⟨gb149, 3, none⟩ = some (.int .i64 a0_3) := (blk_cell BK149.out 3).trans rfl
       have hcz16_4 : w4.cell? ⟨gb149, 4, none⟩ = some (.int .u32 a0_4) := (blk_cell BK149.out 4).trans rfl
       have hfz16_0 := blk_frozen BK149.out 0
       have hfz16_1 := blk_frozen BK149.out 1
       have hfz16_2 := blk_frozen BK149.out 2
       have hfz16_3 := blk_frozen BK149.out 3
       have hfz16_4 := blk_frozen BK149.out 4
       go_wp2
       go_meet
       case rel => exact ⟨_, (true), (by first | rfl | (simp; done) | (simp [*]; done)), H', ⟨by first | omega | exact Nat.le_refl _⟩, ⟨by (with_reducible repeat (first | refine blk_drewN ?_ _ | refine blk_drew ?_ | refine blk_alloc ?_ _)); exact BK149.out⟩, ⟨by repeat (first | (with_reducible first | exact HB.out | apply below_alloc | apply pw_below_drewN | apply below_drew1 | refine below_set ?_ GE149.out) | exact HB.out)⟩⟩
    ·replace c8 := Bool.eq_false_iff.mpr c8
     subst c8
     have H1 : (if a0_2 = 0 then (if t152 = true then (if t153 = true then (cachetref05_May.j0 k a0_0 false a0_0 a0_1 a0_2 a0_3 a0_4) else (cachetref05_May.j0 k a0_0 (a0_4 != 0) a0_0 a0_1 a0_2 a0_3 a0_4)) else (if a0_3 = 0 then (if t153 = true then (cachetref05_May.j0 k a0_0 false a0_0 a0_1 a0_2 a0_3 a0_4) else (cachetref05_May.j0 k a0_0 (a0_4 != 0) a0_0 a0_1 a0_2 a0_3 a0_4)) else (cachetref05_May.j0 k a0_0 true a0_0 a0_1 a0_2 a0_3 a0_4))) else (cachetref05_May.j0 k a0_0 true a0_0 a0_1 a0_2 a0_3 a0_4)) = some r := by rw [if_neg (show ¬ (false = true) by decide)] at H; exact H
     clear H
     have H := H1
     clear H1
     by_cases c17 : a0_2 = 0
     ·rw [if_pos c17] at H
      have c17b0 : (a0_2 == 0) = true := beq_iff_eq.mpr c17
      have c17b1 : (a0_2 != 0) = false := bne_eq_false_iff_eq.mpr c17
      clear c17
      by_cases c18 : t152 = true
      ·subst c18
       have H1 : (if t153 = true then (cachetref05_May.j0 k a0_0 false a0_0 a0_1 a0_2 a0_3 a0_4) else (cachetref05_May.j0 k a0_0 (a0_4 != 0) a0_0 a0_1 a0_2 a0_3 a0_4)) = some r := by rw [if_pos rfl] at H; exact H
       clear H
       have H := H1
       clear H1
       by_cases c19 : t153 = true
       ·subst c19
        have H1 : (cachetref05_May.j0 k a0_0 false a0_0 a0_1 a0_2 a0_3 a0_4) = some r := by rw [if_pos rfl] at H; exact H
        clear H
        have H := H1
        clear H1
        have H' := Aside0.mk H
        clear H
        have hcz20_0 : w4.cell? ⟨gb149, 0, none⟩ = some (.int .i64 a0_0) := (blk_cell BK149.out 0).trans rfl
        have hcz20_1 : w4.cell? ⟨gb149, 1, none⟩ = some (.int .i64 a0_1) := (blk_cell BK149.out 1).trans rfl
        have hcz20_2 : w4.cell? ⟨gb149, 2, none⟩ = some (.int .i64 a0_2) := (blk_cell BK149.out 2).trans rfl
        have hcz20_3 : w4.cell? ⟨gb149, 3, none⟩ = some (.int .i64 a0_3) := (blk_cell BK149.out 3).trans rfl
        have hcz20_4 : w4.cell? ⟨gb149, 4, none⟩ = some (.int .u32 a0_4) := (blk_cell BK149.out 4).trans rfl
        have hfz20_0 := blk_frozen BK149.out 0
        have hfz20_1 := blk_frozen BK149.out 1
        have hfz20_2 := blk_frozen BK149.out 2
        have hfz20_3 := blk_frozen BK149.out 3
        have hfz20_4 := blk_frozen BK149.out 4
        go_wp2
        go_meet
        case rel => exact ⟨_, (false), (by first | rfl | (simp; done) | (simp [*]; done)), H', ⟨by first | omega | exact Nat.le_refl _⟩, ⟨by (with_reducible repeat (first | refine blk_drewN ?_ _ | refine blk_drew ?_ | refine blk_alloc ?_ _)); exact BK149.out⟩, ⟨by repeat (first | (with_reducible first | exact HB.out | apply below_alloc | apply pw_below_drewN | apply below_drew1 | refine below_set ?_ GE149.out) | exact HB.out)⟩⟩
       ·replace c19 := Bool.eq_false_iff.mpr c19
        subst c19
        have H1 : (cachetref05_May.j0 k a0_0 (a0_4 != 0) a0_0 a0_1 a0_2 a0_3 a0_4) = some r := by rw [if_neg (show ¬ (false = true) by decide)] at H; exact H
        clear H
        have H := H1
        clear H1
        have H' := Aside0.mk H
        clear H
        have hcz21_0 : w4.cell? ⟨gb149, 0, none⟩ = some (.int .i64 a0_0) := (blk_cell BK149.out 0).trans rfl
        have hcz21_1 : w4.cell? ⟨gb149, 1, none⟩ = some (.int .i64 a0_1) := (blk_cell BK149.out 1).trans rfl
        have hcz21_2 : w4.cell? ⟨gb149, 2, none⟩ = some (.int .i64 a0_2) := (blk_cell BK149.out 2).trans rfl
        have hcz21_3 : w4.cell? ⟨gb149, 3, none⟩ = some (.int .i64 a0_3) := (blk_cell BK149.out 3).trans rfl
        have hcz21_4 : w4.cell? ⟨gb149, 4, none⟩ = some (.int .u32 a0_4) := (blk_cell BK149.out 4).trans rfl
        have hfz21_0 := blk_frozen BK149.out 0
        have hfz21_1 := blk_frozen BK149.out 1
        have hfz21_2 := blk_frozen BK149.out 2
        have hfz21_3 := blk_frozen BK149.out 3
        have hfz21_4 := blk_frozen BK149.out 4
        go_wp2
        go_meet
        case rel => exact ⟨_, ((a0_4 != 0)), (by first | rfl | (simp; done) | (simp [*]; done)), H', ⟨by first | omega | exact Nat.le_refl _⟩, ⟨by (with_reducible repeat (first | refine blk_drewN ?_ _ | refine blk_drew ?_ | refine blk_alloc ?_ _)); exact BK149.out⟩, ⟨by repeat (first | (with_reducible first | exact HB.out | apply below_alloc | apply pw_below_drewN | apply below_drew1 | refine below_set ?_ GE149.out) | exact HB.out)⟩⟩
      ·replace c18 := Bool.eq_false_iff.mpr c18
       subst c18
       have H1 : (if a0_3 = 0 then (if t153 = true then (cachetref05_May.j0 k a0_0 false a0_0 a0_1 a0_2 a0_3 a0_4) else (cachetref05_May.j0 k a0_0 (a0_4 != 0) a0_0 a0_1 a0_2 a0_3 a0_4)) else (cachetref05_May.j0 k a0_0 true a0_0 a0_1 a0_2 a0_3 a0_4)) = some r := by rw [if_neg (show ¬ (false = true) by decide)] at H; exact H
       clear H
       have H := H1
       clear H1
       by_cases c22 : a0_3 = 0
       ·rw [if_pos c22] at H
        have c22b0 : (a0_3 == 0) = true := beq_iff_eq.mpr c22
        have c22b1 : (a0_3 != 0) = false := bne_eq_false_iff_eq.mpr c22
        clear c22
        by_cases c23 : t153 = true
        ·subst c23
         have H1 : (cachetref05_May.j0 k a0_0 false a0_0 a0_1 a0_2 a0_3 a0_4) = some r := by rw [if_pos rfl] at H; exact H
         clear H
         have H := H1
         clear H1
         have H' := Aside0.mk H
         clear H
         have hcz24_0 : w4.cell? ⟨gb149, 0, none⟩ = some (.int .i64 a0_0) := (blk_cell BK149.out 0).trans rfl
         have hcz24_1 : w4.cell? ⟨gb149, 1, none⟩ = some (.int .i64 a0_1) := (blk_cell BK149.out 1).trans rfl
         have hcz24_2 : w4.cell? ⟨gb149, 2, none⟩ = some (.int .i64 a0_2) := (blk_cell BK149.out 2).trans rfl
         have hcz24_3 : w4.cell? ⟨gb149, 3, none⟩ = some (.int .i64 a0_3) := (blk_cell BK149.out 3).trans rfl
         have hcz24_4 : w4.cell? ⟨gb149, 4, none⟩ = some (.int .u32 a0_4) := (blk_cell BK149.out 4).trans rfl
         have hfz24_0 := blk_frozen BK149.out 0
         have hfz24_1 := blk_frozen BK149.out 1
         have hfz24_2 := blk_frozen BK149.out 2
         have hfz24_3 := blk_frozen BK149.out 3
         have hfz24_4 := blk_frozen BK149.out 4
         go_wp2
         go_meet
         case rel => exact ⟨_, (false), (by first | rfl | (simp; done) | (simp [*]; done)), H', ⟨by first | omega | exact Nat.le_refl _⟩, ⟨by (with_reducible repeat (first | refine blk_drewN ?_ _ | refine blk_drew ?_ | refine blk_alloc ?_ _)); exact BK149.out⟩, ⟨by repeat (first | (with_reducible first | exact HB.out | apply below_alloc | apply pw_below_drewN | apply below_drew1 | refine below_set ?_ GE149.out) | exact HB.out)⟩⟩
        ·replace c23 := Bool.eq_false_iff.mpr c23
         subst c23
         have H1 : (cachetref05_May.j0 k a0_0 (a0_4 != 0) a0_0 a0_1 a0_2 a0_3 a0_4) = some r := by rw [if_neg (show ¬ (false = true) by decide)] at H; exact H
         clear H
         have H := H1
         clear H1
         have H' := Aside0.mk H
         clear H
         have hcz25_0 : w4.cell? ⟨gb149, 0, none⟩ = some (.int .i64 a0_0) := (blk_cell BK149.out 0).trans rfl
         have hcz25_1 : w4.cell? ⟨gb149, 1, none⟩ = some (.int .i64 a0_1) := (blk_cell BK149.out 1).trans rfl
         have hcz25_2 : w4.cell? ⟨gb149, 2, none⟩ = some (.int .i64 a0_2) := (blk_cell BK149.out 2).trans rfl
         have hcz25_3 : w4.cell? ⟨gb149, 3, none⟩ = some (.int .i64 a0_3) := (blk_cell BK149.out 3).trans rfl
         have hcz25_4 : w4.cell? ⟨gb149, 4, none⟩ = some (.int .u32 a0_4) := (blk_cell BK149.out 4).trans rfl
         have hfz25_0 := blk_frozen BK149.out 0
         have hfz25_1 := blk_frozen BK149.out 1
         have hfz25_2 := blk_frozen BK149.out 2
         have hfz25_3 := blk_frozen BK149.out 3
         have hfz25_4 := blk_frozen BK149.out 4
         go_wp2
         go_meet
         case rel => exact ⟨_, ((a0_4 != 0)), (by first | rfl | (simp; done) | (simp [*]; done)), H', ⟨by first | omega | exact Nat.le_refl _⟩, ⟨by (with_reducible repeat (first | refine blk_drewN ?_ _ | refine blk_drew ?_ | refine blk_alloc ?_ _)); exact BK149.out⟩, ⟨by repeat (first | (with_reducible first | exact HB.out | apply below_alloc | apply pw_below_drewN | apply below_drew1 | refine below_set ?_ GE149.out) | exact HB.out)⟩⟩
       ·rw [if_neg c22] at H
        have c22b0 : (a0_3 == 0) = false := beq_eq_false_iff_ne.mpr c22
        have c22b1 : (a0_3 != 0) = true := bne_iff_ne.mpr c22
        have H' := Aside0.mk H
        clear H
        have hcz26_0 : w4.cell? ⟨gb149, 0, none⟩ = some (.int .i64 a0_0) := (blk_cell BK149.out 0).trans rfl
        have hcz26_1 : w4.cell? ⟨gb149, 1, none⟩ = some (.int .i64 a0_1) := (blk_cell BK149.out 1).trans rfl
        have hcz26_2 : w4.cell? ⟨gb149, 2, none⟩ = some (.int .i64 a0_2) := (blk_cell BK149.out 2).trans rfl
        have hcz26_3 : w4.cell? ⟨gb149, 3, none⟩ = some (.int .i64 a0_3) := (blk_cell BK149.out 3).trans rfl
        have hcz26_4 : w4.cell? ⟨gb149, 4, none⟩ = some (.int .u32 a0_4) := (blk_cell BK149.out 4).trans rfl
        have hfz26_0 := blk_frozen BK149.out 0
        have hfz26_1 := blk_frozen BK149.out 1
        have hfz26_2 := blk_frozen BK149.out 2
        have hfz26_3 := blk_frozen BK149.out 3
        have hfz26_4 := blk_frozen BK149.out 4
        go_wp2
        go_meet
        case rel => exact ⟨_, (true), (by first | rfl | (simp; done) | (simp [*]; done)), H', ⟨by first | omega | exact Nat.le_refl _⟩, ⟨by (with_reducible repeat (first | refine blk_drewN ?_ _ | refine blk_drew ?_ | refine blk_alloc ?_ _)); exact BK149.out⟩, ⟨by repeat (first | (with_reducible first | exact HB.out | apply below_alloc | apply pw_below_drewN | apply below_drew1 | refine below_set ?_ GE149.out) | exact HB.out)⟩⟩
     ·rw [if_neg c17] at H
      have c17b0 : (a0_2 == 0) = false := beq_eq_false_iff_ne.mpr c17
      have c17b1 : (a0_2 != 0) = true := bne_iff_ne.mpr c17
      have H' := Aside0.mk H
      clear H
      have hcz27_0 : w4.cell? ⟨gb149, 0, none⟩ = some (.int .i64 a0_0) := (blk_cell BK149.out 0).trans rfl
      have hcz27_1 : w4.cell? ⟨gb149, 1, none⟩ = some (.int .i64 a0_1) := (blk_cell BK149.out 1).trans rfl
      have hcz27_2 : w4.cell? ⟨gb149, 2, none⟩ = some (.int .i64 a0_2) := (blk_cell BK149.out 2).trans rfl
      have hcz27_3 : w4.cell? ⟨gb149, 3, none⟩ = some (.int .i64 a0_3) := (blk_cell BK149.out 3).trans rfl
      have hcz27_4 : w4.cell? ⟨gb149, 4, none⟩ = some (.int .u32 a0_4) := (blk_cell BK149.out 4).trans rfl
      have hfz27_0 := blk_frozen BK149.out 0
      have hfz27_1 := blk_frozen BK149.out 1
      have hfz27_2 := blk_frozen BK149.out 2
      have hfz27_3 := blk_frozen BK149.out 3
      have hfz27_4 := blk_frozen BK149.out 4
      go_wp2
      go_meet
      case rel => exact ⟨_, (true), (by first | rfl | (simp; done) | (simp [*]; done)), H', ⟨by first | omega | exact Nat.le_refl _⟩, ⟨by (with_reducible repeat (first | refine blk_drewN ?_ _ | refine blk_drew ?_ | refine blk_alloc ?_ _)); exact BK149.out⟩, ⟨by repeat (first | (with_reducible first | exact HB.out | apply below_alloc | apply pw_below_drewN | apply below_drew1 | refine below_set ?_ GE149.out) | exact HB.out)⟩⟩
   ·replace c7 := Bool.eq_false_iff.mpr c7
    subst c7
    have H1 : (if a0_1 = 0 then (if t151 = true then (if t152 = true then (if t153 = true then (cachetref05_May.j0 k a0_0 false a0_0 a0_1 a0_2 a0_3 a0_4) else (cachetref05_May.j0 k a0_0 (a0_4 != 0) a0_0 a0_1 a0_2 a0_3 a0_4)) else (if a0_3 = 0 then (if t153 = true then (cachetref05_May.j0 k a0_0 false a0_0 a0_1 a0_2 a0_3 a0_4) else (cachetref05_May.j0 k a0_0 (a0_4 != 0) a0_0 a0_1 a0_2 a0_3 a0_4)) else (cachetref05_May.j0 k a0_0 true a0_0 a0_1 a0_2 a0_3 a0_4))) else (if a0_2 = 0 then (if t152 = true then (if t153 = true then (cachetref05_May.j0 k a0_0 false a0_0 a0_1 a0_2 a0_3 a0_4) else (cachetref05_May.j0 k a0_0 (a0_4 != 0) a0_0 a0_1 a0_2 a0_3 a0_4)) else (if a0_3 = 0 then (if t153 = true then (cachetref05_May.j0 k a0_0 false a0_0 a0_1 a0_2 a0_3 a0_4) else (cachetref05_May.j0 k a0_0 (a0_4 != 0) a0_0 a0_1 a0_2 a0_3 a0_4)) else (cachetref05_May.j0 k a0_0 true a0_0 a0_1 a0_2 a0_3 a0_4))) else (cachetref05_May.j0 k a0_0 true a0_0 a0_1 a0_2 a0_3 a0_4))) else (cachetref05_May.j0 k a0_0 true a0_0 a0_1 a0_2 a0_3 a0_4)) = some r := by rw [if_neg (show ¬ (false = true) by decide)] at H; exact H
    clear H
    have H := H1
    clear H1
    by_cases c28 : a0_1 = 0
    ·rw [if_pos c28] at H
     have c28b0 : (a0_1 == 0) = true := beq_iff_eq.mpr c28
     have c28b1 : (a0_1 != 0) = false := bne_eq_false_iff_eq.mpr c28
     clear c28
     by_cases c29 : t151 = true
     ·subst c29
      have H1 : (if t152 = true then (if t153 = true then (cachetref05_May.j0 k a0_0 false a0_0 a0_1 a0_2 a0_3 a0_4) else (cachetref05_May.j0 k a0_0 (a0_4 != 0) a0_0 a0_1 a0_2 a0_3 a0_4)) else (if a0_3 = 0 then (if t153 = true then (cachetref05_May.j0 k a0_0 false a0_0 a0_1 a0_2 a0_3 a0_4) else (cachetref05_May.j0 k a0_0 (a0_4 != 0) a0_0 a0_1 a0_2 a0_3 a0_4)) else (cachetref05_May.j0 k a0_0 true a0_0 a0_1 a0_2 a0_3 a0_4))) = some r := by rw [if_pos rfl] at H; exact H
      clear H
      have H := H1
      clear H1
      by_cases c30 : t152 = true
      ·subst c30
       have H1 : (if t153 = true then (cachetref05_May.j0 k a0_0 false a0_0 a0_1 a0_2 a0_3 a0_4) else (cachetref05_May.j0 k a0_0 (a0_4 != 0) a0_0 a0_1 a0_2 a0_3 a0_4)) = some r := by rw [if_pos rfl] at H; exact H
       clear H
       have H := H1
       clear H1
       by_cases c31 : t153 = true
       ·subst c31
        have H1 : (cachetref05_May.j0 k a0_0 false a0_0 a0_1 a0_2 a0_3 a0_4) = some r := by rw [if_pos rfl] at H; exact H
        clear H
        have H := H1
        clear H1
        have H' := Aside0.mk H
        clear H
        have hcz32_0 : w4.cell? ⟨gb149, 0, none⟩ = some (.int .i64 a0_0) := (blk_cell BK149.out 0).trans rfl
        have hcz32_1 : w4.cell? ⟨gb149, 1, none⟩ = some (.int .i64 a0_1) := (blk_cell BK149.out 1).trans rfl
        have hcz32_2 : w4.cell? ⟨gb149, 2, none⟩ = some (.int .i64 a0_2) := (blk_cell BK149.out 2).trans rfl
        have hcz32_3 : w4.cell? ⟨gb149, 3, none⟩ = some (.int .i64 a0_3) := (blk_cell BK149.out 3).trans rfl
        have hcz32_4 : w4.cell? ⟨gb149, 4, none⟩ = some (.int .u32 a0_4) := (blk_cell BK149.out 4).trans rfl
        have hfz32_0 := blk_frozen BK149.out 0
        have hfz32_1 := blk_frozen BK149.out 1
        have hfz32_2 := blk_frozen BK149.out 2
        have hfz32_3 := blk_frozen BK149.out 3
        have hfz32_4 := blk_frozen BK149.out 4
        go_wp2
        go_meet
        case rel => exact ⟨_, (false), (by first | rfl | (simp; done) | (simp [*]; done)), H', ⟨by first | omega | exact Nat.le_refl _⟩, ⟨by (with_reducible repeat (first | refine blk_drewN ?_ _ | refine blk_drew ?_ | refine blk_alloc ?_ _)); exact BK149.out⟩, ⟨by repeat (first | (with_reducible first | exact HB.out | apply below_alloc | apply pw_below_drewN | apply below_drew1 | refine below_set ?_ GE149.out) | exact HB.out)⟩⟩
       ·replace c31 := Bool.eq_false_iff.mpr c31
        subst c31
        have H1 : (cachetref05_May.j0 k a0_0 (a0_4 != 0) a0_0 a0_1 a0_2 a0_3 a0_4) = some r := by rw [if_neg (show ¬ (false = true) by decide)] at H; exact H
        clear H
        have H := H1
        clear H1
        have H' := Aside0.mk H
        clear H
        have hcz33_0 : w4.cell? ⟨gb149, 0, none⟩ = some (.int .i64 a0_0) := (blk_cell BK149.out 0).trans rfl
        have hcz33_1 : w4.cell? ⟨gb149, 1, none⟩ = some (.int .i64 a0_1) := (blk_cell BK149.out 1).trans rfl
        have hcz33_2 : w4.cell? ⟨gb149, 2, none⟩ = some (.int .i64 a0_2) := (blk_cell BK149.out 2).trans rfl
        have hcz33_3 : w4.cell? ⟨gb149, 3, none⟩ = some (.int .i64 a0_3) := (blk_cell BK149.out 3).trans rfl
        have hcz33_4 : w4.cell? ⟨gb149, 4, none⟩ = some (.int .u32 a0_4) := (blk_cell BK149.out 4).trans rfl
        have hfz33_0 := blk_frozen BK149.out 0
        have hfz33_1 := blk_frozen BK149.out 1
        have hfz33_2 := blk_frozen BK149.out 2
        have hfz33_3 := blk_frozen BK149.out 3
        have hfz33_4 := blk_frozen BK149.out 4
        go_wp2
        go_meet
        case rel => exact ⟨_, ((a0_4 != 0)), (by first | rfl | (simp; done) | (simp [*]; done)), H', ⟨by first | omega | exact Nat.le_refl _⟩, ⟨by (with_reducible repeat (first | refine blk_drewN ?_ _ | refine blk_drew ?_ | refine blk_alloc ?_ _)); exact BK149.out⟩, ⟨by repeat (first | (with_reducible first | exact HB.out | apply below_alloc | apply pw_below_drewN | apply below_drew1 | refine below_set ?_ GE149.out) | exact HB.out)⟩⟩
      ·replace c30 := Bool.eq_false_iff.mpr c30
       subst c30
       have H1 : (if a0_3 = 0 then (if t153 = true then (cachetref05_May.j0 k a0_0 false a0_0 a0_1 a0_2 a0_3 a0_4) else (cachetref05_May.j0 k a0_0 (a0_4 != 0) a0_0 a0_1 a0_2 a0_3 a0_4)) else (cachetref05_May.j0 k a0_0 true a0_0 a0_1 a0_2 a0_3 a0_4)) = some r := by rw [if_neg (show ¬ (false = true) by decide)] at H; exact H
       clear H
       have H := H1
       clear H1
       by_cases c34 : a0_3 = 0
       ·rw [if_pos c34] at H
        have c34b0 : (a0_3 == 0) = true := beq_iff_eq.mpr c34
        have c34b1 : (a0_3 != 0) = false := bne_eq_false_iff_eq.mpr c34
        clear c34
        by_cases c35 : t153 = true
        ·subst c35
         have H1 : (cachetref05_May.j0 k a0_0 false a0_0 a0_1 a0_2 a0_3 a0_4) = some r := by rw [if_pos rfl] at H; exact H
         clear H
         have H := H1
         clear H1
         have H' := Aside0.mk H
         clear H
         have hcz36_0 : w4.cell? ⟨gb149, 0, none⟩ = some (.int .i64 a0_0) := (blk_cell BK149.out 0).trans rfl
         have hcz36_1 : w4.cell? ⟨gb149, 1, none⟩ = some (.int .i64 a0_1) := (blk_cell BK149.out 1).trans rfl
         have hcz36_2 : w4.cell? ⟨gb149, 2, none⟩ = some (.int .i64 a0_2) := (blk_cell BK149.out 2).trans rfl
         have hcz36_3 : w4.cell? ⟨gb149, 3, none⟩ = some (.int .i64 a0_3) := (blk_cell BK149.out 3).trans rfl
         have hcz36_4 : w4.cell? ⟨gb149, 4, none⟩ = some (.int .u32 a0_4) := (blk_cell BK149.out 4).trans rfl
         have hfz36_0 := blk_frozen BK149.out 0
         have hfz36_1 := blk_frozen BK149.out 1
         have hfz36_2 := blk_frozen BK149.out 2
         have hfz36_3 := blk_frozen BK149.out 3
         have hfz36_4 := blk_frozen BK149.out 4
         go_wp2
         go_meet
         case rel => exact ⟨_, (false), (by first | rfl | (simp; done) | (simp [*]; done)), H', ⟨by first | omega | exact Nat.le_refl _⟩, ⟨by (with_reducible repeat (first | refine blk_drewN ?_ _ | refine blk_drew ?_ | refine blk_alloc ?_ _)); exact BK149.out⟩, ⟨by repeat (first | (with_reducible first | exact HB.out | apply below_alloc | apply pw_below_drewN | apply below_drew1 | refine below_set ?_ GE149.out) | exact HB.out)⟩⟩
        ·replace c35 := Bool.eq_false_iff.mpr c35
         subst c35
         have H1 : (cachetref05_May.j0 k a0_0 (a0_4 != 0) a0_0 a0_1 a0_2 a0_3 a0_4) = some r := by rw [if_neg (show ¬ (false = true) by decide)] at H; exact H
         clear H
         have H := H1
         clear H1
         have H' := Aside0.mk H
         clear H
         have hcz37_0 : w4.cell? ⟨gb149, 0, none⟩ = some (.int .i64 a0_0) := (blk_cell BK149.out 0).trans rfl
         have hcz37_1 : w4.cell? ⟨gb149, 1, none⟩ = some (.int .i64 a0_1) := (blk_cell BK149.out 1).trans rfl
         have hcz37_2 : w4.cell? ⟨gb149, 2, none⟩ = some (.int .i64 a0_2) := (blk_cell BK149.out 2).trans rfl
         have hcz37_3 : w4.cell? ⟨gb149, 3, none⟩ = some (.int .i64 a0_3) := (blk_cell BK149.out 3).trans rfl
         have hcz37_4 : w4.cell? ⟨gb149, 4, none⟩ = some (.int .u32 a0_4) := (blk_cell BK149.out 4).trans rfl
         have hfz37_0 := blk_frozen BK149.out 0
         have hfz37_1 := blk_frozen BK149.out 1
         have hfz37_2 := blk_frozen BK149.out 2
         have hfz37_3 := blk_frozen BK149.out 3
         have hfz37_4 := blk_frozen BK149.out 4
         go_wp2
         go_meet
         case rel => exact ⟨_, ((a0_4 != 0)), (by first | rfl | (simp; done) | (simp [*]; done)), H', ⟨by first | omega | exact Nat.le_refl _⟩, ⟨by (with_reducible repeat (first | refine blk_drewN ?_ _ | refine blk_drew ?_ | refine blk_alloc ?_ _)); exact BK149.out⟩, ⟨by repeat (first | (with_reducible first | exact HB.out | apply below_alloc | apply pw_below_drewN | apply below_drew1 | refine below_set ?_ GE149.out) | exact HB.out)⟩⟩
       ·rw [if_neg c34] at H
        have c34b0 : (a0_3 == 0) = false := beq_eq_false_iff_ne.mpr c34
        have c34b1 : (a0_3 != 0) = true := bne_iff_ne.mpr c34
        have H' := Aside0.mk H
        clear H
        have hcz38_0 : w4.cell? ⟨gb149, 0, none⟩ = some (.int .i64 a0_0) := (blk_cell BK149.out 0).trans rfl
        have hcz38_1 : w4.cell? ⟨gb149, 1, none⟩ = some (.int .i64 a0_1) := (blk_cell BK149.out 1).trans rfl
        have hcz38_2 : w4.cell? ⟨gb149, 2, none⟩ = some (.int .i64 a0_2) := (blk_cell BK149.out 2).trans rfl
        have hcz38_3 : w4.cell? ⟨gb149, 3, none⟩ = some (.int .i64 a0_3) := (blk_cell BK149.out 3).trans rfl
        have hcz38_4 : w4.cell? ⟨gb149, 4, none⟩ = some (.int .u32 a0_4) := (blk_cell BK149.out 4).trans rfl
        have hfz38_0 := blk_frozen BK149.out 0
        have hfz38_1 := blk_frozen BK149.out 1
        have hfz38_2 := blk_frozen BK149.out 2
        have hfz38_3 := blk_frozen BK149.out 3
        have hfz38_4 := blk_frozen BK149.out 4
        go_wp2
        go_meet
        case rel => exact ⟨_, (true), (by first | rfl | (simp; done) | (simp [*]; done)), H', ⟨by first | omega | exact Nat.le_refl _⟩, ⟨by (with_reducible repeat (first | refine blk_drewN ?_ _ | refine blk_drew ?_ | refine blk_alloc ?_ _)); exact BK149.out⟩, ⟨by repeat (first | (with_reducible first | exact HB.out | apply below_alloc | apply pw_below_drewN | apply below_drew1 | refine below_set ?_ GE149.out) | exact HB.out)⟩⟩
     ·replace c29 := Bool.eq_false_iff.mpr c29
      subst c29
      have H1 : (if a0_2 = 0 then (if t152 = true then (if t153 = true then (cachetref05_May.j0 k a0_0 false a0_0 a0_1 a0_2 a0_3 a0_4) else (cachetref05_May.j0 k a0_0 (a0_4 != 0) a0_0 a0_1 a0_2 a0_3 a0_4)) else (if a0_3 = 0 then (if t153 = true then (cachetref05_May.j0 k a0_0 false a0_0 a0_1 a0_2 a0_3 a0_4) else (cachetref05_May.j0 k a0_0 (a0_4 != 0) a0_0 a0_1 a0_2 a0_3 a0_4)) else (cachetref05_May.j0 k a0_0 true a0_0 a0_1 a0_2 a0_3 a0_4))) else (cachetref05_May.j0 k a0_0 true a0_0 a0_1 a0_2 a0_3 a0_4)) = some r := by rw [if_neg (show ¬ (false = true) by decide)] at H; exact H
      clear H
      have H := H1
      clear H1
      by_cases c39 : a0_2 = 0
      ·rw [if_pos c39] at H
       have c39b0 : (a0_2 == 0) = true := beq_iff_eq.mpr c39
       have c39b1 : (a0_2 != 0) = false := bne_eq_false_iff_eq.mpr c39
       clear c39
       by_cases c40 : t152 = true
       ·subst c40
        have H1 : (if t153 = true then (cachetref05_May.j0 k a0_0 false a0_0 a0_1 a0_2 a0_3 a0_4) else (cachetref05_May.j0 k a0_0 (a0_4 != 0) a0_0 a0_1 a0_2 a0_3 a0_4)) = some r := by rw [if_pos rfl] at H; exact H
        clear H
        have H := H1
        clear H1
        by_cases c41 : t153 = true
        ·subst c41
         have H1 : (cachetref05_May.j0 k a0_0 false a0_0 a0_1 a0_2 a0_3 a0_4) = some r := by rw [if_pos rfl] at H; exact H
         clear H
         have H := H1
         clear H1
         have H' := Aside0.mk H
         clear H
         have hcz42_0 : w4.cell? ⟨gb149, 0, none⟩ = some (.int .i64 a0_0) := (blk_cell BK149.out 0).trans rfl
         have hcz42_1 : w4.cell? ⟨gb149, 1, none⟩ = some (.int .i64 a0_1) := (blk_cell BK149.out 1).trans rfl
         have hcz42_2 : w4.cell? ⟨gb149, 2, none⟩ = some (.int .i64 a0_2) := (blk_cell BK149.out 2).trans rfl
         have hcz42_3 : w4.cell? ⟨gb149, 3, none⟩ = some (.int .i64 a0_3) := (blk_cell BK149.out 3).trans rfl
         have hcz42_4 : w4.cell? ⟨gb149, 4, none⟩ = some (.int .u32 a0_4) := (blk_cell BK149.out 4).trans rfl
         have hfz42_0 := blk_frozen BK149.out 0
         have hfz42_1 := blk_frozen BK149.out 1
         have hfz42_2 := blk_frozen BK149.out 2
         have hfz42_3 := blk_frozen BK149.out 3
         have hfz42_4 := blk_frozen BK149.out 4
         go_wp2
         go_meet
         case rel => exact ⟨_, (false), (by first | rfl | (simp; done) | (simp [*]; done)), H', ⟨by first | omega | exact Nat.le_refl _⟩, ⟨by (with_reducible repeat (first | refine blk_drewN ?_ _ | refine blk_drew ?_ | refine blk_alloc ?_ _)); exact BK149.out⟩, ⟨by repeat (first | (with_reducible first | exact HB.out | apply below_alloc | apply pw_below_drewN | apply below_drew1 | refine below_set ?_ GE149.out) | exact HB.out)⟩⟩
        ·replace c41 := Bool.eq_false_iff.mpr c41
         subst c41
         have H1 : (cachetref05_May.j0 k a0_0 (a0_4 != 0) a0_0 a0_1 a0_2 a0_3 a0_4) = some r := by rw [if_neg (show ¬ (false = true) by decide)] at H; exact H
         clear H
         have H := H1
         clear H1
         have H' := Aside0.mk H
         clear H
         have hcz43_0 : w4.cell? ⟨gb149, 0, none⟩ = some (.int .i64 a0_0) := (blk_cell BK149.out 0).trans rfl
         have hcz43_1 : w4.cell? ⟨gb149, 1, none⟩ = some (.int .i64 a0_1) := (blk_cell BK149.out 1).trans rfl
         have hcz43_2 : w4.cell? ⟨gb149, 2, none⟩ = some (.int .i64 a0_2) := (blk_cell BK149.out 2).trans rfl
         have hcz43_3 : w4.cell? ⟨gb149, 3, none⟩ = some (.int .i64 a0_3) := (blk_cell BK149.out 3).trans rfl
         have hcz43_4 : w4.cell? ⟨gb149, 4, none⟩ = some (.int .u32 a0_4) := (blk_cell BK149.out 4).trans rfl
         have hfz43_0 := blk_frozen BK149.out 0
         have hfz43_1 := blk_frozen BK149.out 1
         have hfz43_2 := blk_frozen BK149.out 2
         have hfz43_3 := blk_frozen BK149.out 3
         have hfz43_4 := blk_frozen BK149.out 4
         go_wp2
         go_meet
         case rel => exact ⟨_, ((a0_4 != 0)), (by first | rfl | (simp; done) | (simp [*]; done)), H', ⟨by first | omega | exact Nat.le_refl _⟩, ⟨by (with_reducible repeat (first | refine blk_drewN ?_ _ | refine blk_drew ?_ | refine blk_alloc ?_ _)); exact BK149.out⟩, ⟨by repeat (first | (with_reducible first | exact HB.out | apply below_alloc | apply pw_below_drewN | apply below_drew1 | refine below_set ?_ GE149.out) | exact HB.out)⟩⟩
       ·replace c40 := Bool.eq_false_iff.mpr c40
        subst c40
        have H1 : (if a0_3 = 0 then (if t153 = true then (cachetref05_May.j0 k a0_0 false a0_0 a0_1 a0_2 a0_3 a0_4) else (cachetref05_May.j0 k a0_0 (a0_4 != 0) a0_0 a0_1 a0_2 a0_3 a0_4)) else (cachetref05_May.j0 k a0_0 true a0_0 a0_1 a0_2 a0_3 a0_4)) = some r := by rw [if_neg (show ¬ (false = true) by decide)] at H; exact H
        clear H
        have H := H1
        clear H1
        by_cases c44 : a0_3 = 0
        ·rw [if_pos c44] at H
         have c44b0 : (a0_3 == 0) = true := beq_iff_eq.mpr c44
         have c44b1 : (a0_3 != 0) = false := bne_eq_false_iff_eq.mpr c44
         clear c44
         by_cases c45 : t153 = true
         ·subst c45
          have H1 : (cachetref05_May.j0 k a0_0 false a0_0 a0_1 a0_2 a0_3 a0_4) = some r := by rw [if_pos rfl] at H; exact H
          clear H
          have H := H1
          clear H1
          have H' := Aside0.mk H
          clear H
          have hcz46_0 : w4.cell? ⟨gb149, 0, none⟩ = some (.int .i64 a0_0) := (blk_cell BK149.out 0).trans rfl
          have hcz46_1 : w4.cell? ⟨gb149, 1, none⟩ = some (.int .i64 a0_1) := (blk_cell BK149.out 1).trans rfl
          have hcz46_2 : w4.cell? ⟨gb149, 2, none⟩ = some (.int .i64 a0_2) := (blk_cell BK149.out 2).trans rfl
          have hcz46_3 : w4.cell? ⟨gb149, 3, none⟩ = some (.int .i64 a0_3) := (blk_cell BK149.out 3).trans rfl
          have hcz46_4 : w4.cell? ⟨gb149, 4, none⟩ = some (.int .u32 a0_4) := (blk_cell BK149.out 4).trans rfl
          have hfz46_0 := blk_frozen BK149.out 0
          have hfz46_1 := blk_frozen BK149.out 1
          have hfz46_2 := blk_frozen BK149.out 2
          have hfz46_3 := blk_frozen BK149.out 3
          have hfz46_4 := blk_frozen BK149.out 4
          go_wp2
          go_meet
          case rel => exact ⟨_, (false), (by first | rfl | (simp; done) | (simp [*]; done)), H', ⟨by first | omega | exact Nat.le_refl _⟩, ⟨by (with_reducible repeat (first | refine blk_drewN ?_ _ | refine blk_drew ?_ | refine blk_alloc ?_ _)); exact BK149.out⟩, ⟨by repeat (first | (with_reducible first | exact HB.out | apply below_alloc | apply pw_below_drewN | apply below_drew1 | refine below_set ?_ GE149.out) | exact HB.out)⟩⟩
         ·replace c45 := Bool.eq_false_iff.mpr c45
          subst c45
          have H1 : (cachetref05_May.j0 k a0_0 (a0_4 != 0) a0_0 a0_1 a0_2 a0_3 a0_4) = some r := by rw [if_neg (show ¬ (false = true) by decide)] at H; exact H
          clear H
          have H := H1
          clear H1
          have H' := Aside0.mk H
          clear H
          have hcz47_0 : w4.cell? ⟨gb149, 0, none⟩ = some (.int .i64 a0_0) := (blk_cell BK149.out 0).trans rfl
          have hcz47_1 : w4.cell? ⟨gb149, 1, none⟩ = some (.int .i64 a0_1) := (blk_cell BK149.out 1).trans rfl
          have hcz47_2 : w4.cell? ⟨gb149, 2, none⟩ = some (.int .i64 a0_2) := (blk_cell BK149.out 2).trans rfl
          have hcz47_3 : w4.cell? ⟨gb149, 3, none⟩ = some (.int .i64 a0_3) := (blk_cell BK149.out 3).trans rfl
          have hcz47_4 : w4.cell? ⟨gb149, 4, none⟩ = some (.int .u32 a0_4) := (blk_cell BK149.out 4).trans rfl
          have hfz47_0 := blk_frozen BK149.out 0
          have hfz47_1 := blk_frozen BK149.out 1
          have hfz47_2 := blk_frozen BK149.out 2
          have hfz47_3 := blk_frozen BK149.out 3
          have hfz47_4 := blk_frozen BK149.out 4
          go_wp2
          go_meet
          case rel => exact ⟨_, ((a0_4 != 0)), (by first | rfl | (simp; done) | (simp [*]; done)), H', ⟨by first | omega | exact Nat.le_refl _⟩, ⟨by (with_reducible repeat (first | refine blk_drewN ?_ _ | refine blk_drew ?_ | refine blk_alloc ?_ _)); exact BK149.out⟩, ⟨by repeat (first | (with_reducible first | exact HB.out | apply below_alloc | apply pw_below_drewN | apply below_drew1 | refine below_set ?_ GE149.out) | exact HB.out)⟩⟩
        ·rw [if_neg c44] at H
         have c44b0 : (a0_3 == 0) = false := beq_eq_false_iff_ne.mpr c44
         have c44b1 : (a0_3 != 0) = true := bne_iff_ne.mpr c44
         have H' := Aside0.mk H
         clear H
         have hcz48_0 : w4.cell? ⟨gb149, 0, none⟩ = some (.int .i64 a0_0) := (blk_cell BK149.out 0).trans rfl
         have hcz48_1 : w4.cell? ⟨gb149, 1, none⟩ = some (.int .i64 a0_1) := (blk_cell BK149.out 1).trans rfl
         have hcz48_2 : w4.cell? ⟨gb149, 2, none⟩ = some (.int .i64 a0_2) := (blk_cell BK149.out 2).trans rfl
         have hcz48_3 : w4.cell? ⟨gb149, 3, none⟩ = some (.int .i64 a0_3) := (blk_cell BK149.out 3).trans rfl
         have hcz48_4 : w4.cell? ⟨gb149, 4, none⟩ = some (.int .u32 a0_4) := (blk_cell BK149.out 4).trans rfl
         have hfz48_0 := blk_frozen BK149.out 0
         have hfz48_1 := blk_frozen BK149.out 1
         have hfz48_2 := blk_frozen BK149.out 2
         have hfz48_3 := blk_frozen BK149.out 3
         have hfz48_4 := blk_frozen BK149.out 4
         go_wp2
         go_meet
         case rel => exact ⟨_, (true), (by first | rfl | (simp; done) | (simp [*]; done)), H', ⟨by first | omega | exact Nat.le_refl _⟩, ⟨by (with_reducible repeat (first | refine blk_drewN ?_ _ | refine blk_drew ?_ | refine blk_alloc ?_ _)); exact BK149.out⟩, ⟨by repeat (first | (with_reducible first | exact HB.out | apply below_alloc | apply pw_below_drewN | apply below_drew1 | refine below_set ?_ GE149.out) | exact HB.out)⟩⟩
      ·rw [if_neg c39] at H
       have c39b0 : (a0_2 == 0) = false := beq_eq_false_iff_ne.mpr c39
       have c39b1 : (a0_2 != 0) = true := bne_iff_ne.mpr c39
       have H' := Aside0.mk H
       clear H
       have hcz49_0 : w4.cell? ⟨gb149, 0, none⟩ = some (.int .i64 a0_0) := (blk_cell BK149.out 0).trans rfl
       have hcz49_1 : w4.cell? ⟨gb149, 1, none⟩ = some (.int .i64 a0_1) := (blk_cell BK149.out 1).trans rfl
       have hcz49_2 : w4.cell? ⟨gb149, 2, none⟩ = some (.int .i64 a0_2) := (blk_cell BK149.out 2).trans rfl
       have hcz49_3 : w4.cell? ⟨gb149, 3, none⟩ = some (.int .i64 a0_3) := (blk_cell BK149.out 3).trans rfl
       have hcz49_4 : w4.cell? ⟨gb149, 4, none⟩ = some (.int .u32 a0_4) := (blk_cell BK149.out 4).trans rfl
       have hfz49_0 := blk_frozen BK149.out 0
       have hfz49_1 := blk_frozen BK149.out 1
       have hfz49_2 := blk_frozen BK149.out 2
       have hfz49_3 := blk_frozen BK149.out 3
       have hfz49_4 := blk_frozen BK149.out 4
       go_wp2
       go_meet
       case rel => exact ⟨_, (true), (by first | rfl | (simp; done) | (simp [*]; done)), H', ⟨by first | omega | exact Nat.le_refl _⟩, ⟨by (with_reducible repeat (first | refine blk_drewN ?_ _ | refine blk_drew ?_ | refine blk_alloc ?_ _)); exact BK149.out⟩, ⟨by repeat (first | (with_reducible first | exact HB.out | apply below_alloc | apply pw_below_drewN | apply below_drew1 | refine below_set ?_ GE149.out) | exact HB.out)⟩⟩
    ·rw [if_neg c28] at H
     have c28b0 : (a0_1 == 0) = false := beq_eq_false_iff_ne.mpr c28
     have c28b1 : (a0_1 != 0) = true := bne_iff_ne.mpr c28
     have H' := Aside0.mk H
     clear H
     have hcz50_0 : w4.cell? ⟨gb149, 0, none⟩ = some (.int .i64 a0_0) := (blk_cell BK149.out 0).trans rfl
     have hcz50_1 : w4.cell? ⟨gb149, 1, none⟩ = some (.int .i64 a0_1) := (blk_cell BK149.out 1).trans rfl
     have hcz50_2 : w4.cell? ⟨gb149, 2, none⟩ = some (.int .i64 a0_2) := (blk_cell BK149.out 2).trans rfl
     have hcz50_3 : w4.cell? ⟨gb149, 3, none⟩ = some (.int .i64 a0_3) := (blk_cell BK149.out 3).trans rfl
     have hcz50_4 : w4.cell? ⟨gb149, 4, none⟩ = some (.int .u32 a0_4) := (blk_cell BK149.out 4).trans rfl
     have hfz50_0 := blk_frozen BK149.out 0
     have hfz50_1 := blk_frozen BK149.out 1
     have hfz50_2 := blk_frozen BK149.out 2
     have hfz50_3 := blk_frozen BK149.out 3
     have hfz50_4 := blk_frozen BK149.out 4
     go_wp2
     go_meet
     case rel => exact ⟨_, (true), (by first | rfl | (simp; done) | (simp [*]; done)), H', ⟨by first | omega | exact Nat.le_refl _⟩, ⟨by (with_reducible repeat (first | refine blk_drewN ?_ _ | refine blk_drew ?_ | refine blk_alloc ?_ _)); exact BK149.out⟩, ⟨by repeat (first | (with_reducible first | exact HB.out | apply below_alloc | apply pw_below_drewN | apply below_drew1 | refine below_set ?_ GE149.out) | exact HB.out)⟩⟩
  ·replace c6 := Bool.eq_false_iff.mpr c6
   subst c6
   have H1 : (cachetref05_May.j0 k a0_0 true a0_0 a0_1 a0_2 a0_3 a0_4) = some r := by rw [if_neg (show ¬ (false = true) by decide)] at H; exact H
   clear H
   have H := H1
   clear H1
   have H' := Aside0.mk H
   clear H
   go_wp2
   go_meet
   case rel => exact ⟨_, (true), (by first | rfl | (simp; done) | (simp [*]; done)), H', ⟨by first | omega | exact Nat.le_refl _⟩, ⟨by (with_reducible repeat (first | refine blk_drewN ?_ _ | refine blk_drew ?_ | refine blk_alloc ?_ _)); exact BK149.out⟩, ⟨by repeat (first | (with_reducible first | exact HB.out | apply below_alloc | apply pw_below_drewN | apply below_drew1 | refine below_set ?_ GE149.out) | exact HB.out)⟩⟩
 case rest =>
  clear HC3
  try clear c1
  try clear c2
  try clear p2
  try clear c3
  try clear c4
  try clear c6
  try clear c7
  try clear c8
  try clear c9
  try clear c10
  try clear c11
  try clear c12
  try clear c12b0
  try clear c12b1
  try clear c13
  try clear c17
  try clear c17b0
  try clear c17b1
  try clear c18
  try clear c19
  try clear c22
  try clear c22b0
  try clear c22b1
  try clear c23
  try clear c25
  try clear c28
  try clear c28b0
  try clear c28b1
  try clear c29
  try clear c30
  try clear c31
  try clear c34
  try clear c34b0
  try clear c34b1
  try clear c35
  try clear c39
  try clear c39b0
  try clear c39b1
  try clear c40
  try clear c41
  try clear c44
  try clear c44b0
  try clear c44b1
  try clear c45
  try clear hcz11_0
  try clear hcz11_1
  try clear hcz11_2
  try clear hcz11_3
  try clear hcz11_4
  try clear hcz14_0
  try clear hcz14_1
  try clear hcz14_2
  try clear hcz14_3
  try clear hcz14_4
  try clear hcz15_0
  try clear hcz15_1
  try clear hcz15_2
  try clear hcz15_3
  try clear hcz15_4
  try clear hcz16_0
  try clear hcz16_1
  try clear hcz16_2
  try clear hcz16_3
  try clear hcz16_4
  try clear hcz20_0
  try clear hcz20_1
  try clear hcz20_2
  try clear hcz20_3
  try clear hcz20_4
  try clear hcz21_0
  try clear hcz21_1
  try clear hcz21_2
  try clear hcz21_3
  try clear hcz21_4
  try clear hcz24_0
  try clear hcz24_1
  try clear hcz24_2
  try clear hcz24_3
  try clear hcz24_4
  try clear hcz25_0
  try clear hcz25_1
  try clear hcz25_2
  try clear hcz25_3
  try clear hcz25_4
  try clear hcz26_0
  try clear hcz26_1
  try clear hcz26_2
  try clear hcz26_3
  try clear hcz26_4
  try clear hcz27_0
  try clear hcz27_1
  try clear hcz27_2
  try clear hcz27_3
  try clear hcz27_4
  try clear hcz32_0
  try clear hcz32_1
  try clear hcz32_2
  try clear hcz32_3
  try clear hcz32_4
  try clear hcz33_0
  try clear hcz33_1
  try clear hcz33_2
  try clear hcz33_3
  try clear hcz33_4
  try clear hcz36_0
  try clear hcz36_1
  try clear hcz36_2
  try clear hcz36_3
  try clear hcz36_4
  try clear hcz37_0
  try clear hcz37_1
  try clear hcz37_2
  try clear hcz37_3
  try clear hcz37_4
  try clear hcz38_0
  try clear hcz38_1
  try clear hcz38_2
  try clear hcz38_3
  try clear hcz38_4
  try clear hcz42_0
  try clear hcz42_1
  try clear hcz42_2
  try clear hcz42_3
  try clear hcz42_4
  try clear hcz43_0
  try clear hcz43_1
  try clear hcz43_2
  try clear hcz43_3
  try clear hcz43_4
  try clear hcz46_0
  try clear hcz46_1
  try clear hcz46_2
  try clear hcz46_3
  try clear hcz46_4
  try clear hcz47_0
  try clear hcz47_1
  try clear hcz47_2
  try clear hcz47_3
  try clear hcz47_4
  try clear hcz48_0
  try clear hcz48_1
  try clear hcz48_2
  try clear hcz48_3
  try clear hcz48_4
  try clear hcz49_0
  try clear hcz49_1
  try clear hcz49_2
  try clear hcz49_3
  try clear hcz49_4
  try clear hcz50_0
  try clear hcz50_1
  try clear hcz50_2
  try clear hcz50_3
  try clear hcz50_4
  try clear hcz5_0
  try clear hcz5_1
  try clear hcz5_2
  try clear hcz5_3
  try clear hcz5_4
  try clear hfz11_0
  try clear hfz11_1
  try clear hfz11_2
  try clear hfz11_3
  try clear hfz11_4
  try clear hfz14_0
  try clear hfz14_1
  try clear hfz14_2
  try clear hfz14_3
  try clear hfz14_4
  try clear hfz15_0
  try clear hfz15_1
  try clear hfz15_2
  try clear hfz15_3
  try clear hfz15_4
  try clear hfz16_0
  try clear hfz16_1
  try clear hfz16_2
  try clear hfz16_3
  try clear hfz16_4
  try clear hfz20_0
  try clear hfz20_1
  try clear hfz20_2
  try clear hfz20_3
  try clear hfz20_4
  try clear hfz21_0
  try clear hfz21_1
  try clear hfz21_2
  try clear hfz21_3
  try clear hfz21_4
  try clear hfz24_0
  try clear hfz24_1
  try clear hfz24_2
  try clear hfz24_3
  try clear hfz24_4
  try clear hfz25_0
  try clear hfz25_1
  try clear hfz25_2
  try clear hfz25_3
  try clear hfz25_4
  try clear hfz26_0
  try clear hfz26_1
  try clear hfz26_2
  try clear hfz26_3
  try clear hfz26_4
  try clear hfz27_0
  try clear hfz27_1
  try clear hfz27_2
  try clear hfz27_3
  try clear hfz27_4
  try clear hfz32_0
  try clear hfz32_1
  try clear hfz32_2
  try clear hfz32_3
  try clear hfz32_4
  try clear hfz33_0
  try clear hfz33_1
  try clear hfz33_2
  try clear hfz33_3
  try clear hfz33_4
  try clear hfz36_0
  try clear hfz36_1
  try clear hfz36_2
  try clear hfz36_3
  try clear hfz36_4
  try clear hfz37_0
  try clear hfz37_1
  try clear hfz37_2
  try clear hfz37_3
  try clear hfz37_4
  try clear hfz38_0
  try clear hfz38_1
  try clear hfz38_2
  try clear hfz38_3
  try clear hfz38_4
  try clear hfz42_0
  try clear hfz42_1
  try clear hfz42_2
  try clear hfz42_3
  try clear hfz42_4
  try clear hfz43_0
  try clear hfz43_1
  try clear hfz43_2
  try clear hfz43_3
  try clear hfz43_4
  try clear hfz46_0
  try clear hfz46_1
  try clear hfz46_2
  try clear hfz46_3
  try clear hfz46_4
  try clear hfz47_0
  try clear hfz47_1
  try clear hfz47_2
  try clear hfz47_3
  try clear hfz47_4
  try clear hfz48_0
  try clear hfz48_1
  try clear hfz48_2
  try clear hfz48_3
  try clear hfz48_4
  try clear hfz49_0
  try clear hfz49_1
  try clear hfz49_2
  try clear hfz49_3
  try clear hfz49_4
  try clear hfz50_0
  try clear hfz50_1
  try clear hfz50_2
  try clear hfz50_3
  try clear hfz50_4
  try clear hfz5_0
  try clear hfz5_1
  try clear hfz5_2
  try clear hfz5_3
  try clear hfz5_4
  obtain ⟨kq, x56_2, rfl, HA, HJ2, BK149, HB⟩ := hcut
  cases kq with
  | zero => exact absurd HA.out (by simp [cachetref05_May.j0])
  | succ kj2 =>
   have H := HA.out
   clear HA
   simp only [cachetref05_May.j0] at H
   by_cases c51 : x56_2 = true
   ·subst c51
    have H1 : (some false) = some r := by rw [if_pos rfl] at H; exact H
    clear H
    have H := H1
    clear H1
    obtain rfl := Option.some.inj H
    go_wp2
    go_ret
    exact ⟨by first | rfl | (simp [errW_none, errW_some] <;> rfl) | (simp [*, errW_none, errW_some] <;> rfl), by repeat (first | (with_reducible first | exact HB.out | apply below_alloc | apply pw_below_drewN | apply below_drew1 | refine below_set ?_ GE149.out) | exact HB.out)⟩
   ·replace c51 := Bool.eq_false_iff.mpr c51
    subst c51
    have H1 : (if a0_1 < 0 then (cachetref05_May.j1 kj2 a0_0 true a0_0 a0_1 a0_2 a0_3 a0_4) else (if a0_1 > 9 then (cachetref05_May.j1 kj2 a0_0 true a0_0 a0_1 a0_2 a0_3 a0_4) else (if a0_2 < 0 then (cachetref05_May.j1 kj2 a0_0 true a0_0 a0_1 a0_2 a0_3 a0_4) else (cachetref05_May.j1 kj2 a0_0 (decide (a0_2 > 9)) a0_0 a0_1 a0_2 a0_3 a0_4)))) = some r := by rw [if_neg (show ¬ (false = true) by decide)] at H; exact H
    clear H
    have H := H1
    clear H1
    have HC52 := Aside0.mk H
    clear H
    go_upto_region 5 with (fail)
    go_cut [74] (fun v74 wc => ∃ (kq : Nat) (x74_51 : Bool), v74 = .bool x74_51 ∧ Aside0 (cachetref05_May.j1 kq a0_0 x74_51 a0_0 a0_1 a0_2 a0_3 a0_4 = some r) ∧ Aside0 (kq ≤ kj2) ∧ Aside0 (wc.heap[gb149]? = some (.cells #[.int .i64 a0_0, .int .i64 a0_1, .int .i64 a0_2, .int .i64 a0_3, .int .u32 a0_4] 36 (0, 0))) ∧ Aside0 (Below w.heap.size w wc))
    case first =>
     have H := HC52.out
     clear HC52
     by_cases c53 : a0_1 < 0
     ·rw [if_pos c53] at H
      have c53b0 : decide (a0_1 < 0) = true := decide_eq_true c53
      clear c53
      (first | rw [c53b0] | (simp only [i64_w, i32_w]; rw [c53b0]) | skip)
      have H' := Aside0.mk H
      clear H
      have hcz54_0 : wc.cell? ⟨gb149, 0, none⟩ = some (.int .i64 a0_0) := (blk_cell BK149.out 0).trans rfl
      have hcz54_1 : wc.cell? ⟨gb149, 1, none⟩ = some (.int .i64 a0_1) := (blk_cell BK149.out 1).trans rfl
      have hcz54_2 : wc.cell? ⟨gb149, 2, none⟩ = some (.int .i64 a0_2) := (blk_cell BK149.out 2).trans rfl
      have hcz54_3 : wc.cell? ⟨gb149, 3, none⟩ = some (.int .i64 a0_3) := (blk_cell BK149.out 3).trans rfl
      have hcz54_4 : wc.cell? ⟨gb149, 4, none⟩ = some (.int .u32 a0_4) := (blk_cell BK149.out 4).trans rfl
      have hfz54_0 := blk_frozen BK149.out 0
      have hfz54_1 := blk_frozen BK149.out 1
      have hfz54_2 := blk_frozen BK149.out 2
      have hfz54_3 := blk_frozen BK149.out 3
      have hfz54_4 := blk_frozen BK149.out 4
      go_wp2
      go_meet
      case rel => exact ⟨_, (true), (by first | rfl | (simp; done) | (simp [*]; done)), H', ⟨by have := HJ2.out; first | omega | exact Nat.le_refl _⟩, ⟨by (with_reducible repeat (first | refine blk_drewN ?_ _ | refine blk_drew ?_ | refine blk_alloc ?_ _)); exact BK149.out⟩, ⟨by repeat (first | (with_reducible first | exact HB.out | apply below_alloc | apply pw_below_drewN | apply below_drew1 | refine below_set ?_ GE149.out) | exact HB.out)⟩⟩
     ·rw [if_neg c53] at H
      have c53b0 : decide (a0_1 < 0) = false := decide_eq_false c53
      clear c53
      (first | rw [c53b0] | (simp only [i64_w, i32_w]; rw [c53b0]) | skip)
      by_cases c55 : a0_1 > 9
      ·rw [if_pos c55] at H
       have c55b0 : decide (9 < a0_1) = true := decide_eq_true c55
       clear c55
       have H' := Aside0.mk H
       clear H
       have hcz56_0 : wc.cell? ⟨gb149, 0, none⟩ = some (.int .i64 a0_0) := (blk_cell BK149.out 0).trans rfl
       have hcz56_1 : wc.cell? ⟨gb149, 1, none⟩ = some (.int .i64 a0_1) := (blk_cell BK149.out 1).trans rfl
       have hcz56_2 : wc.cell? ⟨gb149, 2, none⟩ = some (.int .i64 a0_2) := (blk_cell BK149.out 2).trans rfl
       have hcz56_3 : wc.cell? ⟨gb149, 3, none⟩ = some (.int .i64 a0_3) := (blk_cell BK149.out 3).trans rfl
       have hcz56_4 : wc.cell? ⟨gb149, 4, none⟩ = some (.int .u32 a0_4) := (blk_cell BK149.out 4).trans rfl
       have hfz56_0 := blk_frozen BK149.out 0
       have hfz56_1 := blk_frozen BK149.out 1
       have hfz56_2 := blk_frozen BK149.out 2
       have hfz56_3 := blk_frozen BK149.out 3
       have hfz56_4 := blk_frozen BK149.out 4
       go_wp2
       go_meet
       case rel => exact ⟨_, (true), (by first | rfl | (simp; done) | (simp [*]; done)), H', ⟨by have := HJ2.out; first | omega | exact Nat.le_refl _⟩, ⟨by (with_reducible repeat (first | refine blk_drewN ?_ _ | refine blk_drew ?_ | refine blk_alloc ?_ _)); exact BK149.out⟩, ⟨by repeat (first | (with_reducible first | exact HB.out | apply below_alloc | apply pw_below_drewN | apply below_drew1 | refine below_set ?_ GE149.out) | exact HB.out)⟩⟩
      ·rw [if_neg c55] at H
       have c55b0 : decide (9 < a0_1) = false := decide_eq_false c55
       clear c55
       by_cases c57 : a0_2 < 0
       ·rw [if_pos c57] at H
        have c57b0 : decide (a0_2 < 0) = true := decide_eq_true c57
        clear c57
        have H' := Aside0.mk H
        clear H
        have hcz58_0 : wc.cell? ⟨gb149, 0, none⟩ = some (.int .i64 a0_0) := (blk_cell BK149.out 0).trans rfl
        have hcz58_1 : wc.cell? ⟨gb149, 1, none⟩ = some (.int .i64 a0_1) := (blk_cell BK149.out 1).trans rfl
        have hcz58_2 : wc.cell? ⟨gb149, 2, none⟩ = some (.int .i64 a0_2) := (blk_cell BK149.out 2).trans rfl
        have hcz58_3 : wc.cell? ⟨gb149, 3, none⟩ = some (.int .i64 a0_3) := (blk_cell BK149.out 3).trans rfl
        have hcz58_4 : wc.cell? ⟨gb149, 4, none⟩ = some (.int .u32 a0_4) := (blk_cell BK149.out 4).trans rfl
        have hfz58_0 := blk_frozen BK149.out 0
        have hfz58_1 := blk_frozen BK149.out 1
        have hfz58_2 := blk_frozen BK149.out 2
        have hfz58_3 := blk_frozen BK149.out 3
        have hfz58_4 := blk_frozen BK149.out 4
        go_wp2
        go_meet
        case rel => exact ⟨_, (true), (by first | rfl | (simp; done) | (simp [*]; done)), H', ⟨by have := HJ2.out; first | omega | exact Nat.le_refl _⟩, ⟨by (with_reducible repeat (first | refine blk_drewN ?_ _ | refine blk_drew ?_ | refine blk_alloc ?_ _)); exact BK149.out⟩, ⟨by repeat (first | (with_reducible first | exact HB.out | apply below_alloc | apply pw_below_drewN | apply below_drew1 | refine below_set ?_ GE149.out) | exact HB.out)⟩⟩
       ·rw [if_neg c57] at H
        have c57b0 : decide (a0_2 < 0) = false := decide_eq_false c57
        clear c57
        have H' := Aside0.mk H
        clear H
        have hcz59_0 : wc.cell? ⟨gb149, 0, none⟩ = some (.int .i64 a0_0) := (blk_cell BK149.out 0).trans rfl
        have hcz59_1 : wc.cell? ⟨gb149, 1, none⟩ = some (.int .i64 a0_1) := (blk_cell BK149.out 1).trans rfl
        have hcz59_2 : wc.cell? ⟨gb149, 2, none⟩ = some (.int .i64 a0_2) := (blk_cell BK149.out 2).trans rfl
        have hcz59_3 : wc.cell? ⟨gb149, 3, none⟩ = some (.int .i64 a0_3) := (blk_cell BK149.out 3).trans rfl
        have hcz59_4 : wc.cell? ⟨gb149, 4, none⟩ = some (.int .u32 a0_4) := (blk_cell BK149.out 4).trans rfl
        have hfz59_0 := blk_frozen BK149.out 0
        have hfz59_1 := blk_frozen BK149.out 1
        have hfz59_2 := blk_frozen BK149.out 2
        have hfz59_3 := blk_frozen BK149.out 3
        have hfz59_4 := blk_frozen BK149.out 4
        go_wp2
        go_meet
        case rel => exact ⟨_, (decide (a0_2 > 9)), (by first | rfl | (simp; done) | (simp [*]; done)), H', ⟨by have := HJ2.out; first | omega | exact Nat.le_refl _⟩, ⟨by (with_reducible repeat (first | refine blk_drewN ?_ _ | refine blk_drew ?_ | refine blk_alloc ?_ _)); exact BK149.out⟩, ⟨by repeat (first | (with_reducible first | exact HB.out | apply below_alloc | apply pw_below_drewN | apply below_drew1 | refine below_set ?_ GE149.out) | exact HB.out)⟩⟩
    case rest =>
     clear HC52
     try clear c1
     try clear c2
     try clear p2
     try clear c3
     try clear c4
     try clear c5
     try clear c6
     try clear c7
     try clear c8
     try clear c9
     try clear c10
     try clear c11
     try clear c12
     try clear c12b0
     try clear c12b1
     try clear c13
     try clear c17
     try clear c17b0
     try clear c17b1
     try clear c18
     try clear c19
     try clear c22
     try clear c22b0
     try clear c22b1
     try clear c23
     try clear c25
     try clear c28
     try clear c28b0
     try clear c28b1
     try clear c29
     try clear c30
     try clear c31
     try clear c34
     try clear c34b0
     try clear c34b1
     try clear c35
     try clear c39
     try clear c39b0
     try clear c39b1
     try clear c40
     try clear c41
     try clear c44
     try clear c44b0
     try clear c44b1
     try clear c45
     try clear c51
     try clear c53
     try clear c53b0
     try clear c55
     try clear c55b0
     try clear c57
     try clear c57b0
     try clear hcz11_0
     try clear hcz11_1
     try clear hcz11_2
     try clear hcz11_3
     try clear hcz11_4
     try clear hcz14_0
     try clear hcz14_1
     try clear hcz14_2
     try clear hcz14_3
     try clear hcz14_4
     try clear hcz15_0
     try clear hcz15_1
     try clear hcz15_2
     try clear hcz15_3
     try clear hcz15_4
     try clear hcz16_0
     try clear hcz16_1
     try clear hcz16_2
     try clear hcz16_3
     try clear hcz16_4
     try clear hcz20_0
     try clear hcz20_1
     try clear hcz20_2
     try clear hcz20_3
     try clear hcz20_4
     try clear hcz21_0
     try clear hcz21_1
     try clear hcz21_2
     try clear hcz21_3
     try clear hcz21_4
     try clear hcz24_0
     try clear hcz24_1
     try clear hcz24_2
     try clear hcz24_3
     try clear hcz24_4
     try clear hcz25_0
     try clear hcz25_1
     try clear hcz25_2
     try clear hcz25_3
     try clear hcz25_4
     try clear hcz26_0
     try clear hcz26_1
     try clear hcz26_2
     try clear hcz26_3
     try clear hcz26_4
     try clear hcz27_0
     try clear hcz27_1
     try clear hcz27_2
     try clear hcz27_3
     try clear hcz27_4
     try clear hcz32_0
     try clear hcz32_1
     try clear hcz32_2
     try clear hcz32_3
     try clear hcz32_4
     try clear hcz33_0
     try clear hcz33_1
     try clear hcz33_2
     try clear hcz33_3
     try clear hcz33_4
     try clear hcz36_0
     try clear hcz36_1
     try clear hcz36_2
     try clear hcz36_3
     try clear hcz36_4
     try clear hcz37_0
     try clear hcz37_1
     try clear hcz37_2
     try clear hcz37_3
     try clear hcz37_4
     try clear hcz38_0
     try clear hcz38_1
     try clear hcz38_2
     try clear hcz38_3
     try clear hcz38_4
     try clear hcz42_0
     try clear hcz42_1
     try clear hcz42_2
     try clear hcz42_3
     try clear hcz42_4
     try clear hcz43_0
     try clear hcz43_1
     try clear hcz43_2
     try clear hcz43_3
     try clear hcz43_4
     try clear hcz46_0
     try clear hcz46_1
     try clear hcz46_2
     try clear hcz46_3
     try clear hcz46_4
     try clear hcz47_0
     try clear hcz47_1
     try clear hcz47_2
     try clear hcz47_3
     try clear hcz47_4
     try clear hcz48_0
     try clear hcz48_1
     try clear hcz48_2
     try clear hcz48_3
     try clear hcz48_4
     try clear hcz49_0
     try clear hcz49_1
     try clear hcz49_2
     try clear hcz49_3
     try clear hcz49_4
     try clear hcz50_0
     try clear hcz50_1
     try clear hcz50_2
     try clear hcz50_3
     try clear hcz50_4
     try clear hcz54_0
     try clear hcz54_1
     try clear hcz54_2
     try clear hcz54_3
     try clear hcz54_4
     try clear hcz56_0
     try clear hcz56_1
     try clear hcz56_2
     try clear hcz56_3
     try clear hcz56_4
     try clear hcz58_0
     try clear hcz58_1
     try clear hcz58_2
     try clear hcz58_3
     try clear hcz58_4
     try clear hcz59_0
     try clear hcz59_1
     try clear hcz59_2
     try clear hcz59_3
     try clear hcz59_4
     try clear hcz5_0
     try clear hcz5_1
     try clear hcz5_2
     try clear hcz5_3
     try clear hcz5_4
     try clear hfz11_0
     try clear hfz11_1
     try clear hfz11_2
     try clear hfz11_3
     try clear hfz11_4
     try clear hfz14_0
     try clear hfz14_1
     try clear hfz14_2
     try clear hfz14_3
     try clear hfz14_4
     try clear hfz15_0
     try clear hfz15_1
     try clear hfz15_2
     try clear hfz15_3
     try clear hfz15_4
     try clear hfz16_0
     try clear hfz16_1
     try clear hfz16_2
     try clear hfz16_3
     try clear hfz16_4
     try clear hfz20_0
     try clear hfz20_1
     try clear hfz20_2
     try clear hfz20_3
     try clear hfz20_4
     try clear hfz21_0
     try clear hfz21_1
     try clear hfz21_2
     try clear hfz21_3
     try clear hfz21_4
     try clear hfz24_0
     try clear hfz24_1
     try clear hfz24_2
     try clear hfz24_3
     try clear hfz24_4
     try clear hfz25_0
     try clear hfz25_1
     try clear hfz25_2
     try clear hfz25_3
     try clear hfz25_4
     try clear hfz26_0
     try clear hfz26_1
     try clear hfz26_2
     try clear hfz26_3
     try clear hfz26_4
     try clear hfz27_0
     try clear hfz27_1
     try clear hfz27_2
     try clear hfz27_3
     try clear hfz27_4
     try clear hfz32_0
     try clear hfz32_1
     try clear hfz32_2
     try clear hfz32_3
     try clear hfz32_4
     try clear hfz33_0
     try clear hfz33_1
     try clear hfz33_2
     try clear hfz33_3
     try clear hfz33_4
     try clear hfz36_0
     try clear hfz36_1
     try clear hfz36_2
     try clear hfz36_3
     try clear hfz36_4
     try clear hfz37_0
     try clear hfz37_1
     try clear hfz37_2
     try clear hfz37_3
     try clear hfz37_4
     try clear hfz38_0
     try clear hfz38_1
     try clear hfz38_2
     try clear hfz38_3
     try clear hfz38_4
     try clear hfz42_0
     try clear hfz42_1
     try clear hfz42_2
     try clear hfz42_3
     try clear hfz42_4
     try clear hfz43_0
     try clear hfz43_1
     try clear hfz43_2
     try clear hfz43_3
     try clear hfz43_4
     try clear hfz46_0
     try clear hfz46_1
     try clear hfz46_2
     try clear hfz46_3
     try clear hfz46_4
     try clear hfz47_0
     try clear hfz47_1
     try clear hfz47_2
     try clear hfz47_3
     try clear hfz47_4
     try clear hfz48_0
     try clear hfz48_1
     try clear hfz48_2
     try clear hfz48_3
     try clear hfz48_4
     try clear hfz49_0
     try clear hfz49_1
     try clear hfz49_2
     try clear hfz49_3
     try clear hfz49_4
     try clear hfz50_0
     try clear hfz50_1
     try clear hfz50_2
     try clear hfz50_3
     try clear hfz50_4
     try clear hfz54_0
     try clear hfz54_1
     try clear hfz54_2
     try clear hfz54_3
     try clear hfz54_4
     try clear hfz56_0
     try clear hfz56_1
     try clear hfz56_2
     try clear hfz56_3
     try clear hfz56_4
     try clear hfz58_0
     try clear hfz58_1
     try clear hfz58_2
     try clear hfz58_3
     try clear hfz58_4
     try clear hfz59_0
     try clear hfz59_1
     try clear hfz59_2
     try clear hfz59_3
     try clear hfz59_4
     try clear hfz5_0
     try clear hfz5_1
     try clear hfz5_2
     try clear hfz5_3
     try clear hfz5_4
     try clear p2
     obtain ⟨kq, x74_51, rfl, HA, HJ51, BK149, HB⟩ := hcut
     cases kq with
     | zero => exact absurd HA.out (by simp [cachetref05_May.j1])
     | succ kj51 =>
      have H := HA.out
      clear HA
      simp only [cachetref05_May.j1] at H
      by_cases c60 : x74_51 = true
      ·subst c60
       have H1 : (some false) = some r := by rw [if_pos rfl] at H; exact H
       clear H
       have H := H1
       clear H1
       obtain rfl := Option.some.inj H
       go_wp2
       go_ret
       exact ⟨by first | rfl | (simp [errW_none, errW_some] <;> rfl) | (simp [*, errW_none, errW_some] <;> rfl), by repeat (first | (with_reducible first | exact HB.out | apply below_alloc | apply pw_below_drewN | apply below_drew1 | refine below_set ?_ GE149.out) | exact HB.out)⟩
      ·replace c60 := Bool.eq_false_iff.mpr c60
       subst c60
       have H1 : (if a0_0 ≥ 16 then (if a0_0 ≤ 18 then (if a0_3 < (-32768) then (cachetref05_May.j2 kj51 a0_0 true a0_0 a0_1 a0_2 a0_3 a0_4) else (if a0_3 > 32767 then (cachetref05_May.j2 kj51 a0_0 true a0_0 a0_1 a0_2 a0_3 a0_4) else (if a0_0 ≥ 19 then (if a0_3 < 0 then (cachetref05_May.j2 kj51 a0_0 true a0_0 a0_1 a0_2 a0_3 a0_4) else (cachetref05_May.j2 kj51 a0_0 (decide (a0_3 > 255)) a0_0 a0_1 a0_2 a0_3 a0_4)) else (cachetref05_May.j2 kj51 a0_0 false a0_0 a0_1 a0_2 a0_3 a0_4)))) else (if a0_0 ≥ 19 then (if a0_3 < 0 then (cachetref05_May.j2 kj51 a0_0 true a0_0 a0_1 a0_2 a0_3 a0_4) else (cachetref05_May.j2 kj51 a0_0 (decide (a0_3 > 255)) a0_0 a0_1 a0_2 a0_3 a0_4)) else (cachetref05_May.j2 kj51 a0_0 false a0_0 a0_1 a0_2 a0_3 a0_4))) else (if a0_0 ≥ 19 then (if a0_3 < 0 then (cachetref05_May.j2 kj51 a0_0 true a0_0 a0_1 a0_2 a0_3 a0_4) else (cachetref05_May.j2 kj51 a0_0 (decide (a0_3 > 255)) a0_0 a0_1 a0_2 a0_3 a0_4)) else (cachetref05_May.j2 kj51 a0_0 false a0_0 a0_1 a0_2 a0_3 a0_4))) = some r := by rw [if_neg (show ¬ (false = true) by decide)] at H; exact H
       clear H
       have H := H1
       clear H1
       have HC61 := Aside0.mk H
       clear H
       go_upto_region 7 with (fail)
       go_cut [104] (fun v104 wc => ∃ (kq : Nat) (x104_60 : Bool), v104 = .bool x104_60 ∧ Aside0 (cachetref05_May.j2 kq a0_0 x104_60 a0_0 a0_1 a0_2 a0_3 a0_4 = some r) ∧ Aside0 (kq ≤ kj51) ∧ Aside0 (wc.heap[gb149]? = some (.cells #[.int .i64 a0_0, .int .i64 a0_1, .int .i64 a0_2, .int .i64 a0_3, .int .u32 a0_4] 36 (0, 0))) ∧ Aside0 (Below w.heap.size w wc))
       case first =>
        have H := HC61.out
        clear HC61
        by_cases c62 : a0_0 ≥ 16
        ·rw [if_pos c62] at H
         have c62b0 : decide (16 ≤ a0_0) = true := decide_eq_true c62
         clear c62
         (first | rw [c62b0] | (simp only [i64_w, i32_w]; rw [c62b0]) | skip)
         by_cases c63 : a0_0 ≤ 18
         ·rw [if_pos c63] at H
          have c63b0 : decide (a0_0 ≤ 18) = true := decide_eq_true c63
          clear c63
          by_cases c64 : a0_3 < (-32768)
          ·rw [if_pos c64] at H
           have c64b0 : decide (a0_3 < (-32768)) = true := decide_eq_true c64
           clear c64
           have H' := Aside0.mk H
           clear H
           have hcz65_0 : wc.cell? ⟨gb149, 0, none⟩ = some (.int .i64 a0_0) := (blk_cell BK149.out 0).trans rfl
           have hcz65_1 : wc.cell? ⟨gb149, 1, none⟩ = some (.int .i64 a0_1) := (blk_cell BK149.out 1).trans rfl
           have hcz65_2 : wc.cell? ⟨gb149, 2, none⟩ = some (.int .i64 a0_2) := (blk_cell BK149.out 2).trans rfl
           have hcz65_3 : wc.cell? ⟨gb149, 3, none⟩ = some (.int .i64 a0_3) := (blk_cell BK149.out 3).trans rfl
           have hcz65_4 : wc.cell? ⟨gb149, 4, none⟩ = some (.int .u32 a0_4) := (blk_cell BK149.out 4).trans rfl
           have hfz65_0 := blk_frozen BK149.out 0
           have hfz65_1 := blk_frozen BK149.out 1
           have hfz65_2 := blk_frozen BK149.out 2
           have hfz65_3 := blk_frozen BK149.out 3
           have hfz65_4 := blk_frozen BK149.out 4
           go_wp2
           go_meet
           case rel => exact ⟨_, (true), (by first | rfl | (simp; done) | (simp [*]; done)), H', ⟨by have := HJ2.out; have := HJ51.out; first | omega | exact Nat.le_refl _⟩, ⟨by (with_reducible repeat (first | refine blk_drewN ?_ _ | refine blk_drew ?_ | refine blk_alloc ?_ _)); exact BK149.out⟩, ⟨by repeat (first | (with_reducible first | exact HB.out | apply below_alloc | apply pw_below_drewN | apply below_drew1 | refine below_set ?_ GE149.out) | exact HB.out)⟩⟩
          ·rw [if_neg c64] at H
           have c64b0 : decide (a0_3 < (-32768)) = false := decide_eq_false c64
           clear c64
           by_cases c66 : a0_3 > 32767
           ·rw [if_pos c66] at H
            have c66b0 : decide (32767 < a0_3) = true := decide_eq_true c66
            clear c66
            have H' := Aside0.mk H
            clear H
            have hcz67_0 : wc.cell? ⟨gb149, 0, none⟩ = some (.int .i64 a0_0) := (blk_cell BK149.out 0).trans rfl
            have hcz67_1 : wc.cell? ⟨gb149, 1, none⟩ = some (.int .i64 a0_1) := (blk_cell BK149.out 1).trans rfl
            have hcz67_2 : wc.cell? ⟨gb149, 2, none⟩ = some (.int .i64 a0_2) := (blk_cell BK149.out 2).trans rfl
            have hcz67_3 : wc.cell? ⟨gb149, 3, none⟩ = some (.int .i64 a0_3) := (blk_cell BK149.out 3).trans rfl
            have hcz67_4 : wc.cell? ⟨gb149, 4, none⟩ = some (.int .u32 a0_4) := (blk_cell BK149.out 4).trans rfl
            have hfz67_0 := blk_frozen BK149.out 0
            have hfz67_1 := blk_frozen BK149.out 1
            have hfz67_2 := blk_frozen BK149.out 2
            have hfz67_3 := blk_frozen BK149.out 3
            have hfz67_4 := blk_frozen BK149.out 4
            go_wp2
            go_meet
            case rel => exact ⟨_, (true), (by first | rfl | (simp; done) | (simp [*]; done)), H', ⟨by have := HJ2.out; have := HJ51.out; first | omega | exact Nat.le_refl _⟩, ⟨by (with_reducible repeat (first | refine blk_drewN ?_ _ | refine blk_drew ?_ | refine blk_alloc ?_ _)); exact BK149.out⟩, ⟨by repeat (first | (with_reducible first | exact HB.out | apply below_alloc | apply pw_below_drewN | apply below_drew1 | refine below_set ?_ GE149.out) | exact HB.out)⟩⟩
           ·rw [if_neg c66] at H
            have c66b0 : decide (32767 < a0_3) = false := decide_eq_false c66
            clear c66
            by_cases c68 : a0_0 ≥ 19
            ·rw [if_pos c68] at H
             have c68b0 : decide (19 ≤ a0_0) = true := decide_eq_true c68
             clear c68
             by_cases c69 : a0_3 < 0
             ·rw [if_pos c69] at H
              have c69b0 : decide (a0_3 < 0) = true := decide_eq_true c69
              clear c69
              have H' := Aside0.mk H
              clear H
              have hcz70_0 : wc.cell? ⟨gb149, 0, none⟩ = some (.int .i64 a0_0) := (blk_cell BK149.out 0).trans rfl
              have hcz70_1 : wc.cell? ⟨gb149, 1, none⟩ = some (.int .i64 a0_1) := (blk_cell BK149.out 1).trans rfl
              have hcz70_2 : wc.cell? ⟨gb149, 2, none⟩ = some (.int .i64 a0_2) := (blk_cell BK149.out 2).trans rfl
              have hcz70_3 : wc.cell? ⟨gb149, 3, none⟩ = some (.int .i64 a0_3) := (blk_cell BK149.out 3).trans rfl
              have hcz70_4 : wc.cell? ⟨gb149, 4, none⟩ = some (.int .u32 a0_4) := (blk_cell BK149.out 4).trans rfl
              have hfz70_0 := blk_frozen BK149.out 0
              have hfz70_1 := blk_frozen BK149.out 1
              have hfz70_2 := blk_frozen BK149.out 2
              have hfz70_3 := blk_frozen BK149.out 3
              have hfz70_4 := blk_frozen BK149.out 4
              go_wp2
              go_meet
              case rel => exact ⟨_, (true), (by first | rfl | (simp; done) | (simp [*]; done)), H', ⟨by have := HJ2.out; have := HJ51.out; first | omega | exact Nat.le_refl _⟩, ⟨by (with_reducible repeat (first | refine blk_drewN ?_ _ | refine blk_drew ?_ | refine blk_alloc ?_ _)); exact BK149.out⟩, ⟨by repeat (first | (with_reducible first | exact HB.out | apply below_alloc | apply pw_below_drewN | apply below_drew1 | refine below_set ?_ GE149.out) | exact HB.out)⟩⟩
             ·rw [if_neg c69] at H
              have c69b0 : decide (a0_3 < 0) = false := decide_eq_false c69
              clear c69
              have H' := Aside0.mk H
              clear H
              have hcz71_0 : wc.cell? ⟨gb149, 0, none⟩ = some (.int .i64 a0_0) := (blk_cell BK149.out 0).trans rfl
              have hcz71_1 : wc.cell? ⟨gb149, 1, none⟩ = some (.int .i64 a0_1) := (blk_cell BK149.out 1).trans rfl
              have hcz71_2 : wc.cell? ⟨gb149, 2, none⟩ = some (.int .i64 a0_2) := (blk_cell BK149.out 2).trans rfl
              have hcz71_3 : wc.cell? ⟨gb149, 3, none⟩ = some (.int .i64 a0_3) := (blk_cell BK149.out 3).trans rfl
              have hcz71_4 : wc.cell? ⟨gb149, 4, none⟩ = some (.int .u32 a0_4) := (blk_cell BK149.out 4).trans rfl
              have hfz71_0 := blk_frozen BK149.out 0
              have hfz71_1 := blk_frozen BK149.out 1
              have hfz71_2 := blk_frozen BK149.out 2
              have hfz71_3 := blk_frozen BK149.out 3
              have hfz71_4 := blk_frozen BK149.out 4
              go_wp2
              go_meet
              case rel => exact ⟨_, (decide (a0_3 > 255)), (by first | rfl | (simp; done) | (simp [*]; done)), H', ⟨by have := HJ2.out; have := HJ51.out; first | omega | exact Nat.le_refl _⟩, ⟨by (with_reducible repeat (first | refine blk_drewN ?_ _ | refine blk_drew ?_ | refine blk_alloc ?_ _)); exact BK149.out⟩, ⟨by repeat (first | (with_reducible first | exact HB.out | apply below_alloc | apply pw_below_drewN | apply below_drew1 | refine below_set ?_ GE149.out) | exact HB.out)⟩⟩
            ·rw [if_neg c68] at H
             have c68b0 : decide (19 ≤ a0_0) = false := decide_eq_false c68
             clear c68
             have H' := Aside0.mk H
             clear H
             have hcz72_0 : wc.cell? ⟨gb149, 0, none⟩ = some (.int .i64 a0_0) := (blk_cell BK149.out 0).trans rfl
             have hcz72_1 : wc.cell? ⟨gb149, 1, none⟩ = some (.int .i64 a0_1) := (blk_cell BK149.out 1).trans rfl
             have hcz72_2 : wc.cell? ⟨gb149, 2, none⟩ = some (.int .i64 a0_2) := (blk_cell BK149.out 2).trans rfl
             have hcz72_3 : wc.cell? ⟨gb149, 3, none⟩ = some (.int .i64 a0_3) := (blk_cell BK149.out 3).trans rfl
             have hcz72_4 : wc.cell? ⟨gb149, 4, none⟩ = some (.int .u32 a0_4) := (blk_cell BK149.out 4).trans rfl
             have hfz72_0 := blk_frozen BK149.out 0
             have hfz72_1 := blk_frozen BK149.out 1
             have hfz72_2 := blk_frozen BK149.out 2
             have hfz72_3 := blk_frozen BK149.out 3
             have hfz72_4 := blk_frozen BK149.out 4
             go_wp2
             go_meet
             case rel => exact ⟨_, (false), (by first | rfl | (simp; done) | (simp [*]; done)), H', ⟨by have := HJ2.out; have := HJ51.out; first | omega | exact Nat.le_refl _⟩, ⟨by (with_reducible repeat (first | refine blk_drewN ?_ _ | refine blk_drew ?_ | refine blk_alloc ?_ _)); exact BK149.out⟩, ⟨by repeat (first | (with_reducible first | exact HB.out | apply below_alloc | apply pw_below_drewN | apply below_drew1 | refine below_set ?_ GE149.out) | exact HB.out)⟩⟩
         ·rw [if_neg c63] at H
          have c63b0 : decide (a0_0 ≤ 18) = false := decide_eq_false c63
          clear c63
          by_cases c73 : a0_0 ≥ 19
          ·rw [if_pos c73] at H
           have c73b0 : decide (19 ≤ a0_0) = true := decide_eq_true c73
           clear c73
           by_cases c74 : a0_3 < 0
           ·rw [if_pos c74] at H
            have c74b0 : decide (a0_3 < 0) = true := decide_eq_true c74
            clear c74
            have H' := Aside0.mk H
            clear H
            have hcz75_0 : wc.cell? ⟨gb149, 0, none⟩ = some (.int .i64 a0_0) := (blk_cell BK149.out 0).trans rfl
            have hcz75_1 : wc.cell? ⟨gb149, 1, none⟩ = some (.int .i64 a0_1) := (blk_cell BK149.out 1).trans rfl
            have hcz75_2 : wc.cell? ⟨gb149, 2, none⟩ = some (.int .i64 a0_2) := (blk_cell BK149.out 2).trans rfl
            have hcz75_3 : wc.cell? ⟨gb149, 3, none⟩ = some (.int .i64 a0_3) := (blk_cell BK149.out 3).trans rfl
            have hcz75_4 : wc.cell? ⟨gb149, 4, none⟩ = some (.int .u32 a0_4) := (blk_cell BK149.out 4).trans rfl
            have hfz75_0 := blk_frozen BK149.out 0
            have hfz75_1 := blk_frozen BK149.out 1
            have hfz75_2 := blk_frozen BK149.out 2
            have hfz75_3 := blk_frozen BK149.out 3
            have hfz75_4 := blk_frozen BK149.out 4
            go_wp2
            go_meet
            case rel => exact ⟨_, (true), (by first | rfl | (simp; done) | (simp [*]; done)), H', ⟨by have := HJ2.out; have := HJ51.out; first | omega | exact Nat.le_refl _⟩, ⟨by (with_reducible repeat (first | refine blk_drewN ?_ _ | refine blk_drew ?_ | refine blk_alloc ?_ _)); exact BK149.out⟩, ⟨by repeat (first | (with_reducible first | exact HB.out | apply below_alloc | apply pw_below_drewN | apply below_drew1 | refine below_set ?_ GE149.out) | exact HB.out)⟩⟩
           ·rw [if_neg c74] at H
            have c74b0 : decide (a0_3 < 0) = false := decide_eq_false c74
            clear c74
            have H' := Aside0.mk H
            clear H
            have hcz76_0 : wc.cell? ⟨gb149, 0, none⟩ = some (.int .i64 a0_0) := (blk_cell BK149.out 0).trans rfl
            have hcz76_1 : wc.cell? ⟨gb149, 1, none⟩ = some (.int .i64 a0_1) := (blk_cell BK149.out 1).trans rfl
            have hcz76_2 : wc.cell? ⟨gb149, 2, none⟩ = some (.int .i64 a0_2) := (blk_cell BK149.out 2).trans rfl
            have hcz76_3 : wc.cell? ⟨gb149, 3, none⟩ = some (.int .i64 a0_3) := (blk_cell BK149.out 3).trans rfl
            have hcz76_4 : wc.cell? ⟨gb149, 4, none⟩ = some (.int .u32 a0_4) := (blk_cell BK149.out 4).trans rfl
            have hfz76_0 := blk_frozen BK149.out 0
            have hfz76_1 := blk_frozen BK149.out 1
            have hfz76_2 := blk_frozen BK149.out 2
            have hfz76_3 := blk_frozen BK149.out 3
            have hfz76_4 := blk_frozen BK149.out 4
            go_wp2
            go_meet
            case rel => exact ⟨_, (decide (a0_3 > 255)), (by first | rfl | (simp; done) | (simp [*]; done)), H', ⟨by have := HJ2.out; have := HJ51.out; first | omega | exact Nat.le_refl _⟩, ⟨by (with_reducible repeat (first | refine blk_drewN ?_ _ | refine blk_drew ?_ | refine blk_alloc ?_ _)); exact BK149.out⟩, ⟨by repeat (first | (with_reducible first | exact HB.out | apply below_alloc | apply pw_below_drewN | apply below_drew1 | refine below_set ?_ GE149.out) | exact HB.out)⟩⟩
          ·rw [if_neg c73] at H
           have c73b0 : decide (19 ≤ a0_0) = false := decide_eq_false c73
           clear c73
           have H' := Aside0.mk H
           clear H
           go_wp2
           go_meet
           case rel => exact ⟨_, (false), (by first | rfl | (simp; done) | (simp [*]; done)), H', ⟨by have := HJ2.out; have := HJ51.out; first | omega | exact Nat.le_refl _⟩, ⟨by (with_reducible repeat (first | refine blk_drewN ?_ _ | refine blk_drew ?_ | refine blk_alloc ?_ _)); exact BK149.out⟩, ⟨by repeat (first | (with_reducible first | exact HB.out | apply below_alloc | apply pw_below_drewN | apply below_drew1 | refine below_set ?_ GE149.out) | exact HB.out)⟩⟩
        ·rw [if_neg c62] at H
         have c62b0 : decide (16 ≤ a0_0) = false := decide_eq_false c62
         clear c62
         (first | rw [c62b0] | (simp only [i64_w, i32_w]; rw [c62b0]) | skip)
         by_cases c77 : a0_0 ≥ 19
         ·rw [if_pos c77] at H
          have c77b0 : decide (19 ≤ a0_0) = true := decide_eq_true c77
          clear c77
          by_cases c78 : a0_3 < 0
          ·rw [if_pos c78] at H
           have c78b0 : decide (a0_3 < 0) = true := decide_eq_true c78
           clear c78
           have H' := Aside0.mk H
           clear H
           have hcz79_0 : wc.cell? ⟨gb149, 0, none⟩ = some (.int .i64 a0_0) := (blk_cell BK149.out 0).trans rfl
           have hcz79_1 : wc.cell? ⟨gb149, 1, none⟩ = some (.int .i64 a0_1) := (blk_cell BK149.out 1).trans rfl
           have hcz79_2 : wc.cell? ⟨gb149, 2, none⟩ = some (.int .i64 a0_2) := (blk_cell BK149.out 2).trans rfl
           have hcz79_3 : wc.cell? ⟨gb149, 3, none⟩ = some (.int .i64 a0_3) := (blk_cell BK149.out 3).trans rfl
           have hcz79_4 : wc.cell? ⟨gb149, 4, none⟩ = some (.int .u32 a0_4) := (blk_cell BK149.out 4).trans rfl
           have hfz79_0 := blk_frozen BK149.out 0
           have hfz79_1 := blk_frozen BK149.out 1
           have hfz79_2 := blk_frozen BK149.out 2
           have hfz79_3 := blk_frozen BK149.out 3
           have hfz79_4 := blk_frozen BK149.out 4
           go_wp2
           go_meet
           case rel => exact ⟨_, (true), (by first | rfl | (simp; done) | (simp [*]; done)), H', ⟨by have := HJ2.out; have := HJ51.out; first | omega | exact Nat.le_refl _⟩, ⟨by (with_reducible repeat (first | refine blk_drewN ?_ _ | refine blk_drew ?_ | refine blk_alloc ?_ _)); exact BK149.out⟩, ⟨by repeat (first | (with_reducible first | exact HB.out | apply below_alloc | apply pw_below_drewN | apply below_drew1 | refine below_set ?_ GE149.out) | exact HB.out)⟩⟩
          ·rw [if_neg c78] at H
           have c78b0 : decide (a0_3 < 0) = false := decide_eq_false c78
           clear c78
           have H' := Aside0.mk H
           clear H
           have hcz80_0 : wc.cell? ⟨gb149, 0, none⟩ = some (.int .i64 a0_0) := (blk_cell BK149.out 0).trans rfl
           have hcz80_1 : wc.cell? ⟨gb149, 1, none⟩ = some (.int .i64 a0_1) := (blk_cell BK149.out 1).trans rfl
           have hcz80_2 : wc.cell? ⟨gb149, 2, none⟩ = some (.int .i64 a0_2) := (blk_cell BK149.out 2).trans rfl
           have hcz80_3 : wc.cell? ⟨gb149, 3, none⟩ = some (.int .i64 a0_3) := (blk_cell BK149.out 3).trans rfl
           have hcz80_4 : wc.cell? ⟨gb149, 4, none⟩ = some (.int .u32 a0_4) := (blk_cell BK149.out 4).trans rfl
           have hfz80_0 := blk_frozen BK149.out 0
           have hfz80_1 := blk_frozen BK149.out 1
           have hfz80_2 := blk_frozen BK149.out 2
           have hfz80_3 := blk_frozen BK149.out 3
           have hfz80_4 := blk_frozen BK149.out 4
           go_wp2
           go_meet
           case rel => exact ⟨_, (decide (a0_3 > 255)), (by first | rfl | (simp; done) | (simp [*]; done)), H', ⟨by have := HJ2.out; have := HJ51.out; first | omega | exact Nat.le_refl _⟩, ⟨by (with_reducible repeat (first | refine blk_drewN ?_ _ | refine blk_drew ?_ | refine blk_alloc ?_ _)); exact BK149.out⟩, ⟨by repeat (first | (with_reducible first | exact HB.out | apply below_alloc | apply pw_below_drewN | apply below_drew1 | refine below_set ?_ GE149.out) | exact HB.out)⟩⟩
         ·rw [if_neg c77] at H
          have c77b0 : decide (19 ≤ a0_0) = false := decide_eq_false c77
          clear c77
          have H' := Aside0.mk H
          clear H
          go_wp2
          go_meet
          case rel => exact ⟨_, (false), (by first | rfl | (simp; done) | (simp [*]; done)), H', ⟨by have := HJ2.out; have := HJ51.out; first | omega | exact Nat.le_refl _⟩, ⟨by (with_reducible repeat (first | refine blk_drewN ?_ _ | refine blk_drew ?_ | refine blk_alloc ?_ _)); exact BK149.out⟩, ⟨by repeat (first | (with_reducible first | exact HB.out | apply below_alloc | apply pw_below_drewN | apply below_drew1 | refine below_set ?_ GE149.out) | exact HB.out)⟩⟩
       case rest =>
        clear HC61
        try clear c1
        try clear c2
        try clear p2
        try clear c3
        try clear c4
        try clear c5
        try clear c6
        try clear c7
        try clear c8
        try clear c9
        try clear c10
        try clear c11
        try clear c12
        try clear c12b0
        try clear c12b1
        try clear c13
        try clear c17
        try clear c17b0
        try clear c17b1
        try clear c18
        try clear c19
        try clear c22
        try clear c22b0
        try clear c22b1
        try clear c23
        try clear c25
        try clear c28
        try clear c28b0
        try clear c28b1
        try clear c29
        try clear c30
        try clear c31
        try clear c34
        try clear c34b0
        try clear c34b1
        try clear c35
        try clear c39
        try clear c39b0
        try clear c39b1
        try clear c40
        try clear c41
        try clear c44
        try clear c44b0
        try clear c44b1
        try clear c45
        try clear c51
        try clear c53
        try clear c53b0
        try clear c55
        try clear c55b0
        try clear c57
        try clear c57b0
        try clear c60
        try clear c62
        try clear c62b0
        try clear c63
        try clear c63b0
        try clear c64
        try clear c64b0
        try clear c66
        try clear c66b0
        try clear c68
        try clear c68b0
        try clear c69
        try clear c69b0
        try clear c73
        try clear c73b0
        try clear c74
        try clear c74b0
        try clear c77
        try clear c77b0
        try clear c78
        try clear c78b0
        try clear hcz11_0
        try clear hcz11_1
        try clear hcz11_2
        try clear hcz11_3
        try clear hcz11_4
        try clear hcz14_0
        try clear hcz14_1
        try clear hcz14_2
        try clear hcz14_3
        try clear hcz14_4
        try clear hcz15_0
        try clear hcz15_1
        try clear hcz15_2
        try clear hcz15_3
        try clear hcz15_4
        try clear hcz16_0
        try clear hcz16_1
        try clear hcz16_2
        try clear hcz16_3
        try clear hcz16_4
        try clear hcz20_0
        try clear hcz20_1
        try clear hcz20_2
        try clear hcz20_3
        try clear hcz20_4
        try clear hcz21_0
        try clear hcz21_1
        try clear hcz21_2
        try clear hcz21_3
        try clear hcz21_4
        try clear hcz24_0
        try clear hcz24_1
        try clear hcz24_2
        try clear hcz24_3
        try clear hcz24_4
        try clear hcz25_0
        try clear hcz25_1
        try clear hcz25_2
        try clear hcz25_3
        try clear hcz25_4
        try clear hcz26_0
        try clear hcz26_1
        try clear hcz26_2
        try clear hcz26_3
        try clear hcz26_4
        try clear hcz27_0
        try clear hcz27_1
        try clear hcz27_2
        try clear hcz27_3
        try clear hcz27_4
        try clear hcz32_0
        try clear hcz32_1
        try clear hcz32_2
        try clear hcz32_3
        try clear hcz32_4
        try clear hcz33_0
        try clear hcz33_1
        try clear hcz33_2
        try clear hcz33_3
        try clear hcz33_4
        try clear hcz36_0
        try clear hcz36_1
        try clear hcz36_2
        try clear hcz36_3
        try clear hcz36_4
        try clear hcz37_0
        try clear hcz37_1
        try clear hcz37_2
        try clear hcz37_3
        try clear hcz37_4
        try clear hcz38_0
        try clear hcz38_1
        try clear hcz38_2
        try clear hcz38_3
        try clear hcz38_4
        try clear hcz42_0
        try clear hcz42_1
        try clear hcz42_2
        try clear hcz42_3
        try clear hcz42_4
        try clear hcz43_0
        try clear hcz43_1
        try clear hcz43_2
        try clear hcz43_3
        try clear hcz43_4
        try clear hcz46_0
        try clear hcz46_1
        try clear hcz46_2
        try clear hcz46_3
        try clear hcz46_4
        try clear hcz47_0
        try clear hcz47_1
        try clear hcz47_2
        try clear hcz47_3
        try clear hcz47_4
        try clear hcz48_0
        try clear hcz48_1
        try clear hcz48_2
        try clear hcz48_3
        try clear hcz48_4
        try clear hcz49_0
        try clear hcz49_1
        try clear hcz49_2
        try clear hcz49_3
        try clear hcz49_4
        try clear hcz50_0
        try clear hcz50_1
        try clear hcz50_2
        try clear hcz50_3
        try clear hcz50_4
        try clear hcz54_0
        try clear hcz54_1
        try clear hcz54_2
        try clear hcz54_3
        try clear hcz54_4
        try clear hcz56_0
        try clear hcz56_1
        try clear hcz56_2
        try clear hcz56_3
        try clear hcz56_4
        try clear hcz58_0
        try clear hcz58_1
        try clear hcz58_2
        try clear hcz58_3
        try clear hcz58_4
        try clear hcz59_0
        try clear hcz59_1
        try clear hcz59_2
        try clear hcz59_3
        try clear hcz59_4
        try clear hcz5_0
        try clear hcz5_1
        try clear hcz5_2
        try clear hcz5_3
        try clear hcz5_4
        try clear hcz65_0
        try clear hcz65_1
        try clear hcz65_2
        try clear hcz65_3
        try clear hcz65_4
        try clear hcz67_0
        try clear hcz67_1
        try clear hcz67_2
        try clear hcz67_3
        try clear hcz67_4
        try clear hcz70_0
        try clear hcz70_1
        try clear hcz70_2
        try clear hcz70_3
        try clear hcz70_4
        try clear hcz71_0
        try clear hcz71_1
        try clear hcz71_2
        try clear hcz71_3
        try clear hcz71_4
        try clear hcz72_0
        try clear hcz72_1
        try clear hcz72_2
        try clear hcz72_3
        try clear hcz72_4
        try clear hcz75_0
        try clear hcz75_1
        try clear hcz75_2
        try clear hcz75_3
        try clear hcz75_4
        try clear hcz76_0
        try clear hcz76_1
        try clear hcz76_2
        try clear hcz76_3
        try clear hcz76_4
        try clear hcz79_0
        try clear hcz79_1
        try clear hcz79_2
        try clear hcz79_3
        try clear hcz79_4
        try clear hcz80_0
        try clear hcz80_1
        try clear hcz80_2
        try clear hcz80_3
        try clear hcz80_4
        try clear hfz11_0
        try clear hfz11_1
        try clear hfz11_2
        try clear hfz11_3
        try clear hfz11_4
        try clear hfz14_0
        try clear hfz14_1
        try clear hfz14_2
        try clear hfz14_3
        try clear hfz14_4
        try clear hfz15_0
        try clear hfz15_1
        try clear hfz15_2
        try clear hfz15_3
        try clear hfz15_4
        try clear hfz16_0
        try clear hfz16_1
        try clear hfz16_2
        try clear hfz16_3
        try clear hfz16_4
        try clear hfz20_0
        try clear hfz20_1
        try clear hfz20_2
        try clear hfz20_3
        try clear hfz20_4
        try clear hfz21_0
        try clear hfz21_1
        try clear hfz21_2
        try clear hfz21_3
        try clear hfz21_4
        try clear hfz24_0
        try clear hfz24_1
        try clear hfz24_2
        try clear hfz24_3
        try clear hfz24_4
        try clear hfz25_0
        try clear hfz25_1
        try clear hfz25_2
        try clear hfz25_3
        try clear hfz25_4
        try clear hfz26_0
        try clear hfz26_1
        try clear hfz26_2
        try clear hfz26_3
        try clear hfz26_4
        try clear hfz27_0
        try clear hfz27_1
        try clear hfz27_2
        try clear hfz27_3
        try clear hfz27_4
        try clear hfz32_0
        try clear hfz32_1
        try clear hfz32_2
        try clear hfz32_3
        try clear hfz32_4
        try clear hfz33_0
        try clear hfz33_1
        try clear hfz33_2
        try clear hfz33_3
        try clear hfz33_4
        try clear hfz36_0
        try clear hfz36_1
        try clear hfz36_2
        try clear hfz36_3
        try clear hfz36_4
        try clear hfz37_0
        try clear hfz37_1
        try clear hfz37_2
        try clear hfz37_3
        try clear hfz37_4
        try clear hfz38_0
        try clear hfz38_1
        try clear hfz38_2
        try clear hfz38_3
        try clear hfz38_4
        try clear hfz42_0
        try clear hfz42_1
        try clear hfz42_2
        try clear hfz42_3
        try clear hfz42_4
        try clear hfz43_0
        try clear hfz43_1
        try clear hfz43_2
        try clear hfz43_3
        try clear hfz43_4
        try clear hfz46_0
        try clear hfz46_1
        try clear hfz46_2
        try clear hfz46_3
        try clear hfz46_4
        try clear hfz47_0
        try clear hfz47_1
        try clear hfz47_2
        try clear hfz47_3
        try clear hfz47_4
        try clear hfz48_0
        try clear hfz48_1
        try clear hfz48_2
        try clear hfz48_3
        try clear hfz48_4
        try clear hfz49_0
        try clear hfz49_1
        try clear hfz49_2
        try clear hfz49_3
        try clear hfz49_4
        try clear hfz50_0
        try clear hfz50_1
        try clear hfz50_2
        try clear hfz50_3
        try clear hfz50_4
        try clear hfz54_0
        try clear hfz54_1
        try clear hfz54_2
        try clear hfz54_3
        try clear hfz54_4
        try clear hfz56_0
        try clear hfz56_1
        try clear hfz56_2
        try clear hfz56_3
        try clear hfz56_4
        try clear hfz58_0
        try clear hfz58_1
        try clear hfz58_2
        try clear hfz58_3
        try clear hfz58_4
        try clear hfz59_0
        try clear hfz59_1
        try clear hfz59_2
        try clear hfz59_3
        try clear hfz59_4
        try clear hfz5_0
        try clear hfz5_1
        try clear hfz5_2
        try clear hfz5_3
        try clear hfz5_4
        try clear hfz65_0
        try clear hfz65_1
        try clear hfz65_2
        try clear hfz65_3
        try clear hfz65_4
        try clear hfz67_0
        try clear hfz67_1
        try clear hfz67_2
        try clear hfz67_3
        try clear hfz67_4
        try clear hfz70_0
        try clear hfz70_1
        try clear hfz70_2
        try clear hfz70_3
        try clear hfz70_4
        try clear hfz71_0
        try clear hfz71_1
        try clear hfz71_2
        try clear hfz71_3
        try clear hfz71_4
        try clear hfz72_0
        try clear hfz72_1
        try clear hfz72_2
        try clear hfz72_3
        try clear hfz72_4
        try clear hfz75_0
        try clear hfz75_1
        try clear hfz75_2
        try clear hfz75_3
        try clear hfz75_4
        try clear hfz76_0
        try clear hfz76_1
        try clear hfz76_2
        try clear hfz76_3
        try clear hfz76_4
        try clear hfz79_0
        try clear hfz79_1
        try clear hfz79_2
        try clear hfz79_3
        try clear hfz79_4
        try clear hfz80_0
        try clear hfz80_1
        try clear hfz80_2
        try clear hfz80_3
        try clear hfz80_4
        try clear p2
        obtain ⟨kq, x104_60, rfl, HA, HJ60, BK149, HB⟩ := hcut
        cases kq with
        | zero => exact absurd HA.out (by simp [cachetref05_May.j2])
        | succ kj60 =>
         have H := HA.out
         clear HA
         simp only [cachetref05_May.j2] at H
         by_cases c81 : x104_60 = true
         ·subst c81
          have H1 : (some false) = some r := by rw [if_pos rfl] at H; exact H
          clear H
          have H := H1
          clear H1
          obtain rfl := Option.some.inj H
          go_wp2
          go_ret
          exact ⟨by first | rfl | (simp [errW_none, errW_some] <;> rfl) | (simp [*, errW_none, errW_some] <;> rfl), by repeat (first | (with_reducible first | exact HB.out | apply below_alloc | apply pw_below_drewN | apply below_drew1 | refine below_set ?_ GE149.out) | exact HB.out)⟩
         ·replace c81 := Bool.eq_false_iff.mpr c81
          subst c81
          have H1 : (if a0_0 = 12 then (if a0_4 > 31 then (some false) else (if a0_0 = 23 then (some (decide (a0_4 < 8))) else (some true))) else (if a0_0 = 13 then (if a0_4 > 31 then (some false) else (if a0_0 = 23 then (some (decide (a0_4 < 8))) else (some true))) else (if a0_0 = 23 then (some (decide (a0_4 < 8))) else (some true)))) = some r := by rw [if_neg (show ¬ (false = true) by decide)] at H; exact H
          clear H
          have H := H1
          clear H1
          by_cases c82 : a0_0 = 12
          ·rw [if_pos c82] at H
           have c82b0 : (a0_0 == 12) = true := beq_iff_eq.mpr c82
           have c82b1 : (a0_0 != 12) = false := bne_eq_false_iff_eq.mpr c82
           clear c82
           by_cases c83 : a0_4 > 31
           ·rw [if_pos c83] at H
            have c83b0 : decide (31 < a0_4) = true := decide_eq_true c83
            clear c83
            obtain rfl := Option.some.inj H
            have hcz84_0 : wc.cell? ⟨gb149, 0, none⟩ = some (.int .i64 a0_0) := (blk_cell BK149.out 0).trans rfl
            have hcz84_1 : wc.cell? ⟨gb149, 1, none⟩ = some (.int .i64 a0_1) := (blk_cell BK149.out 1).trans rfl
            have hcz84_2 : wc.cell? ⟨gb149, 2, none⟩ = some (.int .i64 a0_2) := (blk_cell BK149.out 2).trans rfl
            have hcz84_3 : wc.cell? ⟨gb149, 3, none⟩ = some (.int .i64 a0_3) := (blk_cell BK149.out 3).trans rfl
            have hcz84_4 : wc.cell? ⟨gb149, 4, none⟩ = some (.int .u32 a0_4) := (blk_cell BK149.out 4).trans rfl
            have hfz84_0 := blk_frozen BK149.out 0
            have hfz84_1 := blk_frozen BK149.out 1
            have hfz84_2 := blk_frozen BK149.out 2
            have hfz84_3 := blk_frozen BK149.out 3
            have hfz84_4 := blk_frozen BK149.out 4
            go_wp2
            go_ret
            exact ⟨by first | rfl | (simp [errW_none, errW_some] <;> rfl) | (simp [*, errW_none, errW_some] <;> rfl), by repeat (first | (with_reducible first | exact HB.out | apply below_alloc | apply pw_below_drewN | apply below_drew1 | refine below_set ?_ GE149.out) | exact HB.out)⟩
           ·rw [if_neg c83] at H
            have c83b0 : decide (31 < a0_4) = false := decide_eq_false c83
            clear c83
            by_cases c85 : a0_0 = 23
            ·rw [if_pos c85] at H
             have c85b0 : (a0_0 == 23) = true := beq_iff_eq.mpr c85
             have c85b1 : (a0_0 != 23) = false := bne_eq_false_iff_eq.mpr c85
             clear c85
             obtain rfl := Option.some.inj H
             have hcz86_0 : wc.cell? ⟨gb149, 0, none⟩ = some (.int .i64 a0_0) := (blk_cell BK149.out 0).trans rfl
             have hcz86_1 : wc.cell? ⟨gb149, 1, none⟩ = some (.int .i64 a0_1) := (blk_cell BK149.out 1).trans rfl
             have hcz86_2 : wc.cell? ⟨gb149, 2, none⟩ = some (.int .i64 a0_2) := (blk_cell BK149.out 2).trans rfl
             have hcz86_3 : wc.cell? ⟨gb149, 3, none⟩ = some (.int .i64 a0_3) := (blk_cell BK149.out 3).trans rfl
             have hcz86_4 : wc.cell? ⟨gb149, 4, none⟩ = some (.int .u32 a0_4) := (blk_cell BK149.out 4).trans rfl
             have hfz86_0 := blk_frozen BK149.out 0
             have hfz86_1 := blk_frozen BK149.out 1
             have hfz86_2 := blk_frozen BK149.out 2
             have hfz86_3 := blk_frozen BK149.out 3
             have hfz86_4 := blk_frozen BK149.out 4
             go_wp2
             go_ret
             exact ⟨by first | rfl | (simp [errW_none, errW_some] <;> rfl) | (simp [*, errW_none, errW_some] <;> rfl), by repeat (first | (with_reducible first | exact HB.out | apply below_alloc | apply pw_below_drewN | apply below_drew1 | refine below_set ?_ GE149.out) | exact HB.out)⟩
            ·rw [if_neg c85] at H
             have c85b0 : (a0_0 == 23) = false := beq_eq_false_iff_ne.mpr c85
             have c85b1 : (a0_0 != 23) = true := bne_iff_ne.mpr c85
             obtain rfl := Option.some.inj H
             have hcz87_0 : wc.cell? ⟨gb149, 0, none⟩ = some (.int .i64 a0_0) := (blk_cell BK149.out 0).trans rfl
             have hcz87_1 : wc.cell? ⟨gb149, 1, none⟩ = some (.int .i64 a0_1) := (blk_cell BK149.out 1).trans rfl
             have hcz87_2 : wc.cell? ⟨gb149, 2, none⟩ = some (.int .i64 a0_2) := (blk_cell BK149.out 2).trans rfl
             have hcz87_3 : wc.cell? ⟨gb149, 3, none⟩ = some (.int .i64 a0_3) := (blk_cell BK149.out 3).trans rfl
             have hcz87_4 : wc.cell? ⟨gb149, 4, none⟩ = some (.int .u32 a0_4) := (blk_cell BK149.out 4).trans rfl
             have hfz87_0 := blk_frozen BK149.out 0
             have hfz87_1 := blk_frozen BK149.out 1
             have hfz87_2 := blk_frozen BK149.out 2
             have hfz87_3 := blk_frozen BK149.out 3
             have hfz87_4 := blk_frozen BK149.out 4
             go_wp2
             go_ret
             exact ⟨by first | rfl | (simp [errW_none, errW_some] <;> rfl) | (simp [*, errW_none, errW_some] <;> rfl), by repeat (first | (with_reducible first | exact HB.out | apply below_alloc | apply pw_below_drewN | apply below_drew1 | refine below_set ?_ GE149.out) | exact HB.out)⟩
          ·rw [if_neg c82] at H
           have c82b0 : (a0_0 == 12) = false := beq_eq_false_iff_ne.mpr c82
           have c82b1 : (a0_0 != 12) = true := bne_iff_ne.mpr c82
           by_cases c88 : a0_0 = 13
           ·rw [if_pos c88] at H
            have c88b0 : (a0_0 == 13) = true := beq_iff_eq.mpr c88
            have c88b1 : (a0_0 != 13) = false := bne_eq_false_iff_eq.mpr c88
            clear c88
            by_cases c89 : a0_4 > 31
            ·rw [if_pos c89] at H
             have c89b0 : decide (31 < a0_4) = true := decide_eq_true c89
             clear c89
             obtain rfl := Option.some.inj H
             have hcz90_0 : wc.cell? ⟨gb149, 0, none⟩ = some (.int .i64 a0_0) := (blk_cell BK149.out 0).trans rfl
             have hcz90_1 : wc.cell? ⟨gb149, 1, none⟩ = some (.int .i64 a0_1) := (blk_cell BK149.out 1).trans rfl
             have hcz90_2 : wc.cell? ⟨gb149, 2, none⟩ = some (.int .i64 a0_2) := (blk_cell BK149.out 2).trans rfl
             have hcz90_3 : wc.cell? ⟨gb149, 3, none⟩ = some (.int .i64 a0_3) := (blk_cell BK149.out 3).trans rfl
             have hcz90_4 : wc.cell? ⟨gb149, 4, none⟩ = some (.int .u32 a0_4) := (blk_cell BK149.out 4).trans rfl
             have hfz90_0 := blk_frozen BK149.out 0
             have hfz90_1 := blk_frozen BK149.out 1
             have hfz90_2 := blk_frozen BK149.out 2
             have hfz90_3 := blk_frozen BK149.out 3
             have hfz90_4 := blk_frozen BK149.out 4
             go_wp2
             go_ret
             exact ⟨by first | rfl | (simp [errW_none, errW_some] <;> rfl) | (simp [*, errW_none, errW_some] <;> rfl), by repeat (first | (with_reducible first | exact HB.out | apply below_alloc | apply pw_below_drewN | apply below_drew1 | refine below_set ?_ GE149.out) | exact HB.out)⟩
            ·rw [if_neg c89] at H
             have c89b0 : decide (31 < a0_4) = false := decide_eq_false c89
             clear c89
             by_cases c91 : a0_0 = 23
             ·rw [if_pos c91] at H
              have c91b0 : (a0_0 == 23) = true := beq_iff_eq.mpr c91
              have c91b1 : (a0_0 != 23) = false := bne_eq_false_iff_eq.mpr c91
              clear c91
              obtain rfl := Option.some.inj H
              have hcz92_0 : wc.cell? ⟨gb149, 0, none⟩ = some (.int .i64 a0_0) := (blk_cell BK149.out 0).trans rfl
              have hcz92_1 : wc.cell? ⟨gb149, 1, none⟩ = some (.int .i64 a0_1) := (blk_cell BK149.out 1).trans rfl
              have hcz92_2 : wc.cell? ⟨gb149, 2, none⟩ = some (.int .i64 a0_2) := (blk_cell BK149.out 2).trans rfl
              have hcz92_3 : wc.cell? ⟨gb149, 3, none⟩ = some (.int .i64 a0_3) := (blk_cell BK149.out 3).trans rfl
              have hcz92_4 : wc.cell? ⟨gb149, 4, none⟩ = some (.int .u32 a0_4) := (blk_cell BK149.out 4).trans rfl
              have hfz92_0 := blk_frozen BK149.out 0
              have hfz92_1 := blk_frozen BK149.out 1
              have hfz92_2 := blk_frozen BK149.out 2
              have hfz92_3 := blk_frozen BK149.out 3
              have hfz92_4 := blk_frozen BK149.out 4
              go_wp2
              go_ret
              exact ⟨by first | rfl | (simp [errW_none, errW_some] <;> rfl) | (simp [*, errW_none, errW_some] <;> rfl), by repeat (first | (with_reducible first | exact HB.out | apply below_alloc | apply pw_below_drewN | apply below_drew1 | refine below_set ?_ GE149.out) | exact HB.out)⟩
             ·rw [if_neg c91] at H
              have c91b0 : (a0_0 == 23) = false := beq_eq_false_iff_ne.mpr c91
              have c91b1 : (a0_0 != 23) = true := bne_iff_ne.mpr c91
              obtain rfl := Option.some.inj H
              have hcz93_0 : wc.cell? ⟨gb149, 0, none⟩ = some (.int .i64 a0_0) := (blk_cell BK149.out 0).trans rfl
              have hcz93_1 : wc.cell? ⟨gb149, 1, none⟩ = some (.int .i64 a0_1) := (blk_cell BK149.out 1).trans rfl
              have hcz93_2 : wc.cell? ⟨gb149, 2, none⟩ = some (.int .i64 a0_2) := (blk_cell BK149.out 2).trans rfl
              have hcz93_3 : wc.cell? ⟨gb149, 3, none⟩ = some (.int .i64 a0_3) := (blk_cell BK149.out 3).trans rfl
              have hcz93_4 : wc.cell? ⟨gb149, 4, none⟩ = some (.int .u32 a0_4) := (blk_cell BK149.out 4).trans rfl
              have hfz93_0 := blk_frozen BK149.out 0
              have hfz93_1 := blk_frozen BK149.out 1
              have hfz93_2 := blk_frozen BK149.out 2
              have hfz93_3 := blk_frozen BK149.out 3
              have hfz93_4 := blk_frozen BK149.out 4
              go_wp2
              go_ret
              exact ⟨by first | rfl | (simp [errW_none, errW_some] <;> rfl) | (simp [*, errW_none, errW_some] <;> rfl), by repeat (first | (with_reducible first | exact HB.out | apply below_alloc | apply pw_below_drewN | apply below_drew1 | refine below_set ?_ GE149.out) | exact HB.out)⟩
           ·rw [if_neg c88] at H
            have c88b0 : (a0_0 == 13) = false := beq_eq_false_iff_ne.mpr c88
            have c88b1 : (a0_0 != 13) = true := bne_iff_ne.mpr c88
            by_cases c94 : a0_0 = 23
            ·rw [if_pos c94] at H
             have c94b0 : (a0_0 == 23) = true := beq_iff_eq.mpr c94
             have c94b1 : (a0_0 != 23) = false := bne_eq_false_iff_eq.mpr c94
             clear c94
             obtain rfl := Option.some.inj H
             have hcz95_0 : wc.cell? ⟨gb149, 0, none⟩ = some (.int .i64 a0_0) := (blk_cell BK149.out 0).trans rfl
             have hcz95_1 : wc.cell? ⟨gb149, 1, none⟩ = some (.int .i64 a0_1) := (blk_cell BK149.out 1).trans rfl
             have hcz95_2 : wc.cell? ⟨gb149, 2, none⟩ = some (.int .i64 a0_2) := (blk_cell BK149.out 2).trans rfl
             have hcz95_3 : wc.cell? ⟨gb149, 3, none⟩ = some (.int .i64 a0_3) := (blk_cell BK149.out 3).trans rfl
             have hcz95_4 : wc.cell? ⟨gb149, 4, none⟩ = some (.int .u32 a0_4) := (blk_cell BK149.out 4).trans rfl
             have hfz95_0 := blk_frozen BK149.out 0
             have hfz95_1 := blk_frozen BK149.out 1
             have hfz95_2 := blk_frozen BK149.out 2
             have hfz95_3 := blk_frozen BK149.out 3
             have hfz95_4 := blk_frozen BK149.out 4
             go_wp2
             go_ret
             exact ⟨by first | rfl | (simp [errW_none, errW_some] <;> rfl) | (simp [*, errW_none, errW_some] <;> rfl), by repeat (first | (with_reducible first | exact HB.out | apply below_alloc | apply pw_below_drewN | apply below_drew1 | refine below_set ?_ GE149.out) | exact HB.out)⟩
            ·rw [if_neg c94] at H
             have c94b0 : (a0_0 == 23) = false := beq_eq_false_iff_ne.mpr c94
             have c94b1 : (a0_0 != 23) = true := bne_iff_ne.mpr c94
             obtain rfl := Option.some.inj H
             go_wp2
             go_ret
             exact ⟨by first | rfl | (simp [errW_none, errW_some] <;> rfl) | (simp [*, errW_none, errW_some] <;> rfl), by repeat (first | (with_reducible first | exact HB.out | apply below_alloc | apply pw_below_drewN | apply below_drew1 | refine below_set ?_ GE149.out) | exact HB.out)⟩

end Go.Proofs.YthkepoimagnagaaDoor.K
