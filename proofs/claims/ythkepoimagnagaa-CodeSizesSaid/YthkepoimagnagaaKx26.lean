/- Written by a program of this session (wip/handprint, over the kit's printer): what Go functions of the program come to, each by a contract of its own; Lean checks all of it. -/
import Derived.Test.YthkepoimagnagaaKx0
import Derived.Test.YthkepoimagnagaaKx9
import Derived.Test.YthkepoimagnagaaKx22
namespace Go.Proofs.Ythkepoimagnagaa.K
open Go.RowKit Go.Proofs.YthkepoimagnagaaW.PrintWords Go.Proofs.YthkepoimagnagaaW.PrintLast Go.Proofs.YthkepoimagnagaaW.PrintMore
attribute [local go_sem] max2_int min2_int max_two min_two max_three min_three max_four min_four   -- for this text's walks alone
set_option linter.unusedVariables false
set_option linter.unusedSimpArgs false

/-! ### cachetlaw05_CodeSizes: function 7 -/
mutual
def cachetlaw05_CodeSizes.j0 : Nat → Int → Int → Bool → Option (Bool)
 | 0, _, _, _ => none
 | k + 1, x0, x1, x12 => if x12 = true then ((cachetlaw05_known.f).bind fun t365 => (some t365)) else (if 0 ≤ x1 then (if (x1 : Int).toNat ≤ 7036874417766 then (cachetlaw05_CodeSizes.l0 k x1 0 x0 (List.replicate (x1 : Int).toNat z26)) else (none)) else (none))
def cachetlaw05_CodeSizes.l0 : Nat → Int → Int → Int → List (S26) → Option (Bool)
 | 0, _, _, _, _ => none
 | k + 1, x1, x6, x370000, x370001 => if x6 < x1 then (if 0 ≤ x6 then (if x6 < (x370001.length : Int) then (cachetlaw05_CodeSizes.l0 k x1 (wrap64 (x6 + 1)) x370000 (x370001.set (x6 : Int).toNat (⟨24, (rd_T26 x370001 x6).f1, (rd_T26 x370001 x6).f2, (rd_T26 x370001 x6).f3, (rd_T26 x370001 x6).f4⟩ : S26))) else (none)) else (none)) else ((cachetlaw05_CodeBytes.f k x370000 x370001).bind fun t371 => (some t371))
end
def cachetlaw05_CodeSizes.f (k : Nat) (a0 : Int) (a1 : Int) : Option (Bool) := if a1 < 0 then (cachetlaw05_CodeSizes.j0 k a0 a1 true) else (cachetlaw05_CodeSizes.j0 k a0 a1 (decide (a1 > 300)))
theorem cachetlaw05_CodeSizes.mono_l : ∀ k, (∀ y0 y1 y2, LeO (cachetlaw05_CodeSizes.j0 k y0 y1 y2) (cachetlaw05_CodeSizes.j0 (k + 1) y0 y1 y2)) ∧ (∀ y0 y1 y2 y3, LeO (cachetlaw05_CodeSizes.l0 k y0 y1 y2 y3) (cachetlaw05_CodeSizes.l0 (k + 1) y0 y1 y2 y3))
 | 0 => ⟨fun _ _ _ r h => by simp [cachetlaw05_CodeSizes.j0] at h, fun _ _ _ _ r h => by simp [cachetlaw05_CodeSizes.l0] at h⟩
 | k + 1 => by
  obtain ⟨ih0, ih1⟩ := cachetlaw05_CodeSizes.mono_l k
  refine ⟨?_, ?_⟩
  ·intro y0 y1 y2
   unfold cachetlaw05_CodeSizes.j0
   repeat' first
   | (with_reducible exact ih0 _ _ _)
   | (with_reducible exact ih1 _ _ _ _)
   | (with_reducible exact cachetlaw05_CodeBytes.mono _ _ _)
   | (with_reducible exact LeO.refl _)
   | (with_reducible exact LeO.none _)
   | (with_reducible refine LeO.ite ?_ ?_)
   | (with_reducible refine LeO.bind ?_ (fun _ => ?_))
   | exact ih0 _ _ _
   | exact ih1 _ _ _ _
   | exact cachetlaw05_CodeBytes.mono _ _ _
   | exact LeO.none _
   | refine LeO.ite ?_ ?_
   | refine LeO.bind ?_ (fun _ => ?_)
  ·intro y0 y1 y2 y3
   unfold cachetlaw05_CodeSizes.l0
   repeat' first
   | (with_reducible exact ih0 _ _ _)
   | (with_reducible exact ih1 _ _ _ _)
   | (with_reducible exact cachetlaw05_CodeBytes.mono _ _ _)
   | (with_reducible exact LeO.refl _)
   | (with_reducible exact LeO.none _)
   | (with_reducible refine LeO.ite ?_ ?_)
   | (with_reducible refine LeO.bind ?_ (fun _ => ?_))
   | exact ih0 _ _ _
   | exact ih1 _ _ _ _
   | exact cachetlaw05_CodeBytes.mono _ _ _
   | exact LeO.none _
   | refine LeO.ite ?_ ?_
   | refine LeO.bind ?_ (fun _ => ?_)
theorem cachetlaw05_CodeSizes.mono : ∀ a0 a1 k, LeO (cachetlaw05_CodeSizes.f k a0 a1) (cachetlaw05_CodeSizes.f (k + 1) a0 a1) := by
 intro a0 a1 k
 obtain ⟨ih0, ih1⟩ := cachetlaw05_CodeSizes.mono_l k
 unfold cachetlaw05_CodeSizes.f
 repeat' first
   | (with_reducible exact ih0 _ _ _)
   | (with_reducible exact ih1 _ _ _ _)
   | (with_reducible exact cachetlaw05_CodeBytes.mono _ _ _)
   | (with_reducible exact LeO.refl _)
   | (with_reducible exact LeO.none _)
   | (with_reducible refine LeO.ite ?_ ?_)
   | (with_reducible refine LeO.bind ?_ (fun _ => ?_))
   | exact ih0 _ _ _
   | exact ih1 _ _ _ _
   | exact cachetlaw05_CodeBytes.mono _ _ _
   | exact LeO.none _
   | refine LeO.ite ?_ ?_
   | refine LeO.bind ?_ (fun _ => ?_)
set_option maxHeartbeats 8000000 in
set_option maxRecDepth 100000 in
theorem cachetlaw05_CodeSizes.calls (k : Nat) (a0 : Int) (a1 : Int) (r : Bool) (w : World) (h : cachetlaw05_CodeSizes.f k a0 a1 = some r) :
  Calls Try.prog 7 #[.int .i64 a0, .int .i64 a1] w fun e w' => e = .returned (.bool r) ∧ Below w.heap.size w w' := by
 have hu32 := Try.underlying32
 have HB := Aside0.mk (Below.refl w.heap.size w)
 have H : (if a1 < 0 then (cachetlaw05_CodeSizes.j0 k a0 a1 true) else (cachetlaw05_CodeSizes.j0 k a0 a1 (decide (a1 > 300)))) = some r := h
 clear h
 have HC3 := Aside0.mk H
 clear H
 go_enter Try.func7, Try.ntmps7
 go_upto_region 1 with (fail)
 go_cut [12] (fun v12 wc => ∃ (kq : Nat) (x12_2 : Bool), v12 = .bool x12_2 ∧ Aside0 (cachetlaw05_CodeSizes.j0 kq a0 a1 x12_2 = some r) ∧ Aside0 (kq ≤ k) ∧ Aside0 (Below w.heap.size w wc))
 case first =>
  have H := HC3.out
  clear HC3
  by_cases c4 : a1 < 0
  ·rw [if_pos c4] at H
   have c4b0 : decide (a1 < 0) = true := decide_eq_true c4
   clear c4
   (first | rw [c4b0] | (simp only [i64_w, i32_w]; rw [c4b0]) | skip)
   have H' := Aside0.mk H
   clear H
   go_wp2
   go_meet
   case rel => exact ⟨_, (true), (by first | rfl | (simp; done) | (simp [*]; done)), H', ⟨by first | omega | exact Nat.le_refl _⟩, ⟨by repeat (first | (with_reducible first | exact HB.out | apply below_alloc | apply pw_below_drewN | apply below_drew1) | exact HB.out)⟩⟩
  ·rw [if_neg c4] at H
   have c4b0 : decide (a1 < 0) = false := decide_eq_false c4
   clear c4
   (first | rw [c4b0] | (simp only [i64_w, i32_w]; rw [c4b0]) | skip)
   have H' := Aside0.mk H
   clear H
   go_wp2
   go_meet
   case rel => exact ⟨_, (decide (a1 > 300)), (by first | rfl | (simp; done) | (simp [*]; done)), H', ⟨by first | omega | exact Nat.le_refl _⟩, ⟨by repeat (first | (with_reducible first | exact HB.out | apply below_alloc | apply pw_below_drewN | apply below_drew1) | exact HB.out)⟩⟩
 case rest =>
  clear HC3
  try clear p2
  try clear c4
  try clear c4b0
  obtain ⟨kq, x12_2, rfl, HA, HJ2, HB⟩ := hcut
  cases kq with
  | zero => exact absurd HA.out (by simp [cachetlaw05_CodeSizes.j0])
  | succ kj2 =>
   have H := HA.out
   clear HA
   simp only [cachetlaw05_CodeSizes.j0] at H
   by_cases c5 : x12_2 = true
   ·subst c5
    have H1 : ((cachetlaw05_known.f).bind fun t365 => (some t365)) = some r := by rw [if_pos rfl] at H; exact H
    clear H
    have H := H1
    clear H1
    replace H := Option.bind_eq_some_iff.mp H
    obtain ⟨t365, A60, H⟩ := H
    replace H : (some t365) = some r := H
    have A6 := Aside0.mk A60
    clear A60
    obtain rfl := Option.some.inj H
    go_wp2_with (first | ((with_reducible refine gate_callee (f := 9) rfl ?_); refine goesL_ (some 13) rfl rfl Try.func9 (by kernel_rfl) rfl #[] rfl (by (try simp only [List.map_toArray, List.map_cons, List.map_nil]); first | done | rfl | (simp only [List.length_drop, List.length_take]; rfl)) ?_; (with_reducible refine (cachetlaw05_known.calls  t365 _ A6.out).mono ?_); rintro e w7 ⟨rfl, hb⟩; refine ⟨_, rfl, ?_⟩; have n0_ := Aside0.mk (below_step (by repeat (first | (with_reducible first | exact HB.out | apply below_alloc | apply pw_below_drewN | apply below_drew1) | exact HB.out)) hb); clear HB; have HB := n0_; clear n0_; (try clear hb); (try clear hb2); (try clear hk); (try clear hi)))
    go_ret
    exact ⟨by first | rfl | (simp [errW_none, errW_some] <;> rfl) | (simp [*, errW_none, errW_some] <;> rfl), by repeat (first | (with_reducible first | exact HB.out | apply below_alloc | apply pw_below_drewN | apply below_drew1) | exact HB.out)⟩
   ·replace c5 := Bool.eq_false_iff.mpr c5
    subst c5
    have H1 : (if 0 ≤ a1 then (if (a1 : Int).toNat ≤ 7036874417766 then (cachetlaw05_CodeSizes.l0 kj2 a1 0 a0 (List.replicate (a1 : Int).toNat z26)) else (none)) else (none)) = some r := by rw [if_neg (show ¬ (false = true) by decide)] at H; exact H
    clear H
    have H := H1
    clear H1
    by_cases c8 : 0 ≤ a1
    ·rw [if_pos c8] at H
     have c8b0 := eq_true c8
     have c8b1 : decide (0 ≤ a1) = true := decide_eq_true c8
     clear c8
     by_cases c9 : (a1 : Int).toNat ≤ 7036874417766
     ·rw [if_pos c9] at H
      have c9b0 := eq_true c9
      have c9b1 : decide ((a1 : Int).toNat ≤ 7036874417766) = true := decide_eq_true c9
      clear c9
      obtain ⟨y366, hy366⟩ : ∃ y_ : List (S26), y_ = (List.replicate (a1 : Int).toNat z26) := ⟨_, rfl⟩
      replace H : (cachetlaw05_CodeSizes.l0 kj2 a1 0 a0 y366) = some r := by first | (rw [hy366]; with_reducible exact H) | (have H2_ := (Option.bind_some _ _).symm.trans H; rw [hy366]; with_reducible exact H2_) | (have H2_ := (Option.bind_some _ _).symm.trans H; with_reducible exact H2_) | with_reducible exact H | (rw [hy366]; exact H) | exact H
      have Ny366 := Aside0.mk hy366
      clear hy366
      have H' := Aside0.mk H
      clear H
      go_wp2_with (first | ((with_reducible refine gate_dst (N := 16) rfl ?_); refine Kd.R_make k26 _ 26 rfl (N := 16) rfl 27 _ _ rfl a1 rfl rfl Try.underlying27 (.agg #[(.int .i64 0), (.int .i64 0), (.int .i64 0), (.int .i64 0), (.int .u32 0)]) 40 info26 rfl (by decide) (by omega) z26 (ok := fun _ => True) (okp := fun _ => True) (k26_mkM _ _ _ z26 ) (fun _ hk => hk) trivial (of_decide_eq_true (by first | (with_reducible assumption) | assumption)) (Nat.le_trans (Nat.mul_le_mul_right _ (of_decide_eq_true (by first | (with_reducible assumption) | assumption) : a1.toNat ≤ 7036874417766)) (by omega)) (Below.refl _ _) (Nat.le_refl _) ?_; intro v367 w10 ho11 hb hg_ hnew_; clear hg_ hnew_; (first | rw [← Ny366.out] at ho11 | (simp only [Int.reduceToNat] at ho11; rw [← Ny366.out] at ho11)); have n0_ := Aside0.mk (Kd.R_lower ho11 (below_size (by repeat (first | (with_reducible first | exact HB.out | apply below_alloc | apply pw_below_drewN | apply below_drew1) | exact HB.out)))); have n1_ := Aside0.mk (below_step (by repeat (first | (with_reducible first | exact HB.out | apply below_alloc | apply pw_below_drewN | apply below_drew1) | exact HB.out)) hb); clear HB; have HO368 := n0_; have HB := n1_; clear n0_ n1_; clear hb ho11; obtain ⟨Ao12, co12, eo12⟩ := Kd.R_slice HO368.out; subst eo12) | ((with_reducible refine gate_dst (N := 5) rfl ?_); refine box_event ?hg (N := 5) ?hd (cs := #[.int .i64 0, .slice none 0 0]) (t := 32) ?hr ?_; (case hd => rfl); (case hg => rfl); (case hr => first | (go_simp; done) | (go_simp; rfl)); intro gb369 hg w13 hbox hb; have n0_ := Aside0.mk (Kd.R_below (by (with_reducible repeat (first | apply Kd.R_alloc | apply Kd.R_drewN | apply Kd.R_drew)); exact HO368.out) hb); have n1_ := Aside0.mk (below_step (by repeat (first | (with_reducible first | exact HB.out | apply below_alloc | apply pw_below_drewN | apply below_drew1) | exact HB.out)) hb); have n2_ := Aside0.mk (hbox); have n3_ := Aside0.mk ((by rw [hg]; exact (below_size (by repeat (first | (with_reducible first | exact HB.out | apply below_alloc | apply pw_below_drewN | apply below_drew1) | exact HB.out))) : w.heap.size ≤ gb369)); have n4_ := Aside0.mk ((by rw [hg]; exact (below_size (by repeat (first | (with_reducible first | exact HB.out | apply below_alloc | apply pw_below_drewN | apply below_drew1) | exact HB.out))) : w.heap.size ≤ gb369)); clear HO368; clear HB; have HO368 := n0_; have HB := n1_; have BK369 := n2_; have GW369 := n3_; have GE369 := n4_; clear n0_ n1_ n2_ n3_ n4_; clear hb hbox hg; have hcz14_0 : w13.cell? ⟨gb369, 0, none⟩ = some (.int .i64 0) := (blk_cell BK369.out 0).trans rfl; have hcz14_1 : w13.cell? ⟨gb369, 1, none⟩ = some (.slice none 0 0) := (blk_cell BK369.out 1).trans rfl; have hfz14_0 := blk_frozen BK369.out 0; have hfz14_1 := blk_frozen BK369.out 1))
      go_loopg [6] kj2 (fun kq v6 w' => ∃ (x6_2 : Int) (x370001_2 : List (S26)) (u370001 : Value), v6 = .int .i64 x6_2 ∧ Aside0 (cachetlaw05_CodeSizes.l0 kq a1 x6_2 a0 x370001_2 = some r) ∧ Aside0 (kq ≤ kj2) ∧ Aside0 (Kd.R k26 26 w' w.heap.size (fun _ => True) u370001 x370001_2) ∧ Aside0 (w'.heap[gb369]? = some (.cells #[.int .i64 a0, u370001] 32 (0, 0))) ∧ Aside0 (Below w.heap.size w w'))
      case atStart => exact ⟨(0), (y366), (.slice Ao12 y366.length co12), (by first | rfl | (simp; done) | (simp [*]; done)), H', ⟨Nat.le_refl _⟩, ⟨by (with_reducible repeat (first | apply Kd.R_alloc | apply Kd.R_drewN | apply Kd.R_drew)); exact Kd.R_mono (Kd.R_far (p := ⟨gb369, 1, none⟩) (Kd.R_far (p := ⟨gb369, 0, none⟩) (Kd.R_types HO368.out BK369.out (by decide)) (fun _ hk => hk.2) (.int .i64 a0)) (fun _ hk => hk.2) (.slice Ao12 y366.length co12)) (fun _ hk => trivial)⟩, ⟨by (with_reducible repeat (first | refine blk_drewN ?_ _ | refine blk_drew ?_ | refine blk_alloc ?_ _)); refine blk_put (cs := #[.int .i64 a0, .slice none 0 0]) ?_ 1 _ rfl; (with_reducible repeat (first | refine blk_drewN ?_ _ | refine blk_drew ?_ | refine blk_alloc ?_ _)); refine blk_put (cs := #[.int .i64 0, .slice none 0 0]) ?_ 0 _ rfl; (with_reducible repeat (first | refine blk_drewN ?_ _ | refine blk_drew ?_ | refine blk_alloc ?_ _)); exact BK369.out⟩, ⟨by repeat (first | (with_reducible first | exact HB.out | apply below_alloc | apply pw_below_drewN | apply below_drew1 | refine below_set ?_ GE369.out) | exact HB.out)⟩⟩
      case round =>
       clear H'
       try clear p2
       try clear c4
       try clear c4b0
       try clear c5
       try clear c7
       try clear c8
       try clear c8b0
       try clear c8b1
       try clear c9
       try clear c9b0
       try clear c9b1
       try clear hcz14_0
       try clear hcz14_1
       try clear hfz14_0
       try clear hfz14_1
       try clear p2
       obtain ⟨x6_2, x370001_2, u370001, rfl, HA, HK2, HO_370001, BK369, HB⟩ := hrel
       cases gk with
       | zero => exact absurd HA.out (by simp [cachetlaw05_CodeSizes.l0])
       | succ k2 =>
        have H := HA.out
        clear HA
        simp only [cachetlaw05_CodeSizes.l0] at H
        by_cases c15 : x6_2 < a1
        ·rw [if_pos c15] at H
         have c15b0 : decide (x6_2 < a1) = true := decide_eq_true c15
         clear c15
         by_cases c16 : 0 ≤ x6_2
         ·rw [if_pos c16] at H
          have c16b0 : decide (0 ≤ x6_2) = true := decide_eq_true c16
          clear c16
          by_cases c17 : x6_2 < (x370001_2.length : Int)
          ·rw [if_pos c17] at H
           have c17b0 : decide (x6_2 < (x370001_2.length : Int)) = true := decide_eq_true c17
           clear c17
           obtain ⟨y370, hy370⟩ : ∃ y_ : List (S26), y_ = (x370001_2.set (x6_2 : Int).toNat (⟨24, (rd_T26 x370001_2 x6_2).f1, (rd_T26 x370001_2 x6_2).f2, (rd_T26 x370001_2 x6_2).f3, (rd_T26 x370001_2 x6_2).f4⟩ : S26)) := ⟨_, rfl⟩
           replace H : (cachetlaw05_CodeSizes.l0 k2 a1 (wrap64 (x6_2 + 1)) a0 y370) = some r := by first | (rw [hy370]; with_reducible exact H) | (have H2_ := (Option.bind_some _ _).symm.trans H; rw [hy370]; with_reducible exact H2_) | (have H2_ := (Option.bind_some _ _).symm.trans H; with_reducible exact H2_) | with_reducible exact H | (rw [hy370]; exact H) | exact H
           have Ny370 := Aside0.mk hy370
           clear hy370
           have H' := Aside0.mk H
           clear H
           have hcz19_0 : wr.cell? ⟨gb369, 0, none⟩ = some (.int .i64 a0) := (blk_cell BK369.out 0).trans rfl
           have hcz19_1 : wr.cell? ⟨gb369, 1, none⟩ = some (u370001) := (blk_cell BK369.out 1).trans rfl
           have hfz19_0 := blk_frozen BK369.out 0
           have hfz19_1 := blk_frozen BK369.out 1
           have p18 : 0 ≤ (x6_2 : Int) := of_decide_eq_true (by first | (with_reducible assumption) | assumption)
           have q18 : (x6_2 : Int) < ((x370001_2.length : Int) : Int) := of_decide_eq_true (by first | (with_reducible assumption) | assumption)
           obtain ⟨go18, co18, eo18, gb18, gl18, cl18, HG18⟩ := Kd.R_form HO_370001.out (by omega)
           (first | cases eo18 | (injection eo18 with ea_ en_ ec_; (first | subst ea_ | (injection ea_ with ea_; subst ea_)); subst ec_; clear en_))
           have GB18 := Aside0.mk gb18
           have GG18 := Aside0.mk HG18
           clear gb18 gl18 HG18
           obtain ⟨ce18, hcl18, hM18, hcc18, hfr18⟩ := Kd.R_elem HO_370001.out z26 (x6_2 : Int) p18 q18
           obtain rfl := k26_openM hM18
           have hx18_0 : wr.cell? ⟨go18, (x6_2 : Int).toNat * 5, none⟩ = some (.int .i64 ((rd_T26 x370001_2 x6_2).f0)) := hcc18 0 _ rfl
           have hx18_1 : wr.cell? ⟨go18, (x6_2 : Int).toNat * 5 + 1, none⟩ = some (.int .i64 ((rd_T26 x370001_2 x6_2).f1)) := hcc18 1 _ rfl
           have hx18_2 : wr.cell? ⟨go18, (x6_2 : Int).toNat * 5 + 2, none⟩ = some (.int .i64 ((rd_T26 x370001_2 x6_2).f2)) := hcc18 2 _ rfl
           have hx18_3 : wr.cell? ⟨go18, (x6_2 : Int).toNat * 5 + 3, none⟩ = some (.int .i64 ((rd_T26 x370001_2 x6_2).f3)) := hcc18 3 _ rfl
           have hx18_4 : wr.cell? ⟨go18, (x6_2 : Int).toNat * 5 + 4, none⟩ = some (.int .u32 ((rd_T26 x370001_2 x6_2).f4)) := hcc18 4 _ rfl
           have hf18_0 : wr.frozen? ⟨go18, (x6_2 : Int).toNat * 5, none⟩ = false := hfr18 0
           have hf18_1 : wr.frozen? ⟨go18, (x6_2 : Int).toNat * 5 + 1, none⟩ = false := hfr18 1
           have hf18_2 : wr.frozen? ⟨go18, (x6_2 : Int).toNat * 5 + 2, none⟩ = false := hfr18 2
           have hf18_3 : wr.frozen? ⟨go18, (x6_2 : Int).toNat * 5 + 3, none⟩ = false := hfr18 3
           have hf18_4 : wr.frozen? ⟨go18, (x6_2 : Int).toNat * 5 + 4, none⟩ = false := hfr18 4
           clear hcl18 hcc18 hfr18 hM18
           replace p18 := eq_true p18
           replace q18 := eq_true q18
           have HX20 := Aside0.mk (show Kd.R k26 26 wr w.heap.size (fun _ => True) (.slice (some ⟨go18, 0, none⟩) x370001_2.length co18) x370001_2 from (by (with_reducible repeat (first | apply Kd.R_alloc | apply Kd.R_drewN | apply Kd.R_drew)); exact HO_370001.out))
           obtain ⟨ce20, hcl20, hM20, hcc20, hfr20⟩ := Kd.R_elem HX20.out z26 (x6_2 : Int) (of_decide_eq_true (by first | (with_reducible assumption) | assumption)) (by have h_ : (x6_2 : Int) < ((x370001_2.length : Int) : Int) := of_decide_eq_true (by first | (with_reducible assumption) | assumption); first | exact h_ | (have e_ := (Kd.R_reads' HO_370001.out).1; omega) | simpa using h_)
           obtain rfl := k26_openM hM20
           have HP20 := Kd.R_seg HX20.out (x6_2 : Int) (of_decide_eq_true (by first | (with_reducible assumption) | assumption)) (by have h_ : (x6_2 : Int) < ((x370001_2.length : Int) : Int) := of_decide_eq_true (by first | (with_reducible assumption) | assumption); first | exact h_ | (have e_ := (Kd.R_reads' HO_370001.out).1; omega) | simpa using h_) (seg := [.int .i64 24]) (j := 0) hcl20 hcc20 (show 1 ≤ 5 from by decide) (x' := (⟨24, (rd_T26 x370001_2 x6_2).f1, (rd_T26 x370001_2 x6_2).f2, (rd_T26 x370001_2 x6_2).f3, (rd_T26 x370001_2 x6_2).f4⟩ : S26)) (k26_mkM _ _ _ (⟨24, (rd_T26 x370001_2 x6_2).f1, (rd_T26 x370001_2 x6_2).f2, (rd_T26 x370001_2 x6_2).f3, (rd_T26 x370001_2 x6_2).f4⟩ : S26) ) (fun _ hk => hk)
           have hx20_0 := hcc20 0 _ rfl
           (try simp only [show (k26).sz = 5 from rfl, Nat.mul_one, Nat.add_zero] at hx20_0)
           have hf20_0 := hfr20 0
           (try simp only [show (k26).sz = 5 from rfl, Nat.mul_one, Nat.add_zero] at hf20_0)
           clear hcl20 hcc20 hfr20 hM20
           go_wp2_with (first | ((with_reducible refine gate_store (t := 24) (p := 27) rfl ?_); refine store_event (t := 24) (p := 27) (v := ?vo_w21) (w1 := (wr.setCell ⟨go18, (x6_2 : Int).toNat * 5, none⟩ (.int .i64 24))) ?hg ?ho ?hn ?hr ?_; (case ho => rfl); (case hg => rfl); (case hn => rfl); (case hr => first | (go_simp; done) | (go_simp; rfl)); intro w21 hw; have hg : wr.grownBy w21 (some go18) := (by rw [hw]; exact HP20.2); have hp_ : Kd.R k26 26 w21 w.heap.size (fun _ => True) (.slice (some ⟨go18, 0, none⟩) x370001_2.length co18) y370 := (by rw [hw, Ny370.out]; exact HP20.1); clear HP20; have n0_ := Aside0.mk (hp_); have n1_ := Aside0.mk (blk_grown (g := gb369) (o := .cells #[.int .i64 a0, .slice (some ⟨go18, 0, none⟩) x370001_2.length co18] 32 (0, 0)) (by (with_reducible repeat (first | refine blk_drewN ?_ _ | refine blk_drew ?_ | refine blk_alloc ?_ _)); exact BK369.out) hg (Kd.R_ne HO_370001.out BK369.out (by decide))); have n2_ := Aside0.mk ((by rw [hw]; exact below_set (HB.out) GB18.out : Below w.heap.size w w21)); clear HO_370001; clear BK369; clear HB; have HO_370001 := n0_; have BK369 := n1_; have HB := n2_; clear n0_ n1_ n2_; clear hg hw hp_))
           go_roundg k2
           case measure => have := HJ2.out; have := HK2.out; omega
           case rel => exact ⟨(wrap64 (x6_2 + 1)), (y370), (.slice (some ⟨go18, 0, none⟩) x370001_2.length co18), (by first | rfl | (simp; done) | (simp [*]; done)), H', ⟨by have := HJ2.out; have := HK2.out; omega⟩, ⟨by (with_reducible repeat (first | apply Kd.R_alloc | apply Kd.R_drewN | apply Kd.R_drew)); exact HO_370001.out⟩, ⟨by (with_reducible repeat (first | refine blk_drewN ?_ _ | refine blk_drew ?_ | refine blk_alloc ?_ _)); exact BK369.out⟩, ⟨by repeat (first | (with_reducible first | exact HB.out | apply below_alloc | apply pw_below_drewN | apply below_drew1 | refine below_set ?_ GE369.out) | exact HB.out)⟩⟩
          ·rw [if_neg c17] at H
           exact absurd H (by simp)
         ·rw [if_neg c16] at H
          exact absurd H (by simp)
        ·rw [if_neg c15] at H
         have c15b0 : decide (x6_2 < a1) = false := decide_eq_false c15
         clear c15
         replace H := Option.bind_eq_some_iff.mp H
         obtain ⟨t371, A220, H⟩ := H
         replace H : (some t371) = some r := H
         have A22 := Aside0.mk A220
         clear A220
         obtain rfl := Option.some.inj H
         have hcz23_0 : wr.cell? ⟨gb369, 0, none⟩ = some (.int .i64 a0) := (blk_cell BK369.out 0).trans rfl
         have hcz23_1 : wr.cell? ⟨gb369, 1, none⟩ = some (u370001) := (blk_cell BK369.out 1).trans rfl
         have hfz23_0 := blk_frozen BK369.out 0
         have hfz23_1 := blk_frozen BK369.out 1
         obtain ⟨Ao24, co24, eo24⟩ := Kd.R_slice HO_370001.out
         subst eo24
         go_wp2_with (first | ((with_reducible refine gate_callee (f := 5) rfl ?_); refine goesL_ (some 29) rfl rfl Try.func5 (by kernel_rfl) rfl #[.agg #[.int .i64 a0, .slice Ao24 x370001_2.length co24]] rfl (by (try simp only [List.map_toArray, List.map_cons, List.map_nil]); first | done | rfl | (simp only [List.length_drop, List.length_take]; rfl)) ?_; (with_reducible refine (cachetlaw05_CodeBytes.calls k2 a0 _ _ x370001_2 t371 _ ?side1 ?side2 A22.out).mono ?_); (case side1 => repeat (first | exact (Kd.R_reads' HO_370001.out).2.2 | (with_reducible refine Kd.C_alloc ?_ _) | (with_reducible refine Kd.C_drewN ?_ _) | (with_reducible refine Kd.C_drew ?_))); (case side2 => exact (Kd.R_reads' HO_370001.out).2.1); rintro e w25 ⟨rfl, hb⟩; refine ⟨_, rfl, ?_⟩; have n0_ := Aside0.mk (Kd.R_below (by (with_reducible repeat (first | apply Kd.R_alloc | apply Kd.R_drewN | apply Kd.R_drew)); exact HO_370001.out) hb); have n1_ := Aside0.mk (blk_below (g := gb369) (o := .cells #[.int .i64 a0, .slice Ao24 x370001_2.length co24] 32 (0, 0)) (by (with_reducible repeat (first | refine blk_drewN ?_ _ | refine blk_drew ?_ | refine blk_alloc ?_ _)); exact BK369.out) hb); have n2_ := Aside0.mk (below_step (by repeat (first | (with_reducible first | exact HB.out | apply below_alloc | apply pw_below_drewN | apply below_drew1 | refine below_set ?_ GE369.out) | exact HB.out)) hb); clear HO_370001; clear BK369; clear HB; have HO_370001 := n0_; have BK369 := n1_; have HB := n2_; clear n0_ n1_ n2_; (try clear hb); (try clear hb2); (try clear hk); (try clear hi)))
         go_ret
         exact ⟨by first | rfl | (simp [errW_none, errW_some] <;> rfl) | (simp [*, errW_none, errW_some] <;> rfl), by repeat (first | (with_reducible first | exact HB.out | apply below_alloc | apply pw_below_drewN | apply below_drew1 | refine below_set ?_ GE369.out) | exact HB.out)⟩
     ·rw [if_neg c9] at H
      exact absurd H (by simp)
    ·rw [if_neg c8] at H
     exact absurd H (by simp)

/-- THE ONE PURE STATEMENT of cachetlaw05_CodeSizes: yours. -/
def cachetlaw05_CodeSizes.Pure : Prop := ∀ (a0 : Int) (a1 : Int), (Lit.int .i64 a0).wf = true → (Lit.int .i64 a1).wf = true → ∃ k, cachetlaw05_CodeSizes.f k a0 a1 = some true
theorem cachetlaw05_CodeSizes.walk (P : cachetlaw05_CodeSizes.Pure) (a0 : Int) (a1 : Int) (w : World) (w0 : (Lit.int .i64 a0).wf = true) (w1 : (Lit.int .i64 a1).wf = true) :
  Calls Try.prog 7 #[.int .i64 a0, .int .i64 a1] w fun e w' => e = .returned (.bool true) ∧ Below w.heap.size w w' := by
 obtain ⟨k, h⟩ := P a0 a1 w0 w1
 refine (cachetlaw05_CodeSizes.calls k a0 a1 true w h).mono ?_
 rintro e w' ⟨rfl, hd⟩
 exact ⟨rfl, hd⟩

end Go.Proofs.Ythkepoimagnagaa.K
