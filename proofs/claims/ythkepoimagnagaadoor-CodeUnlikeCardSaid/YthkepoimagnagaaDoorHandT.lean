/- The contract of code.Text: what may not be is refused; else the instruction's text: its name, and its parts behind a space, parted by a comma and a space. Condition: the library's table of powers of ten stands as its own text lays it. -/
import Derived.Test.YthkepoimagnagaaDoorKx5
import Derived.Test.YthkepoimagnagaaDoorHandU
import Derived.Test.YthkepoimagnagaaDoorHandA
import Derived.Maps.OwnOps
import Derived.Lib.ItoaLen
namespace Go.Proofs.YthkepoimagnagaaDoor.K
open Go.RowKit Go.Maps Go.Proofs.YthkepoimagnagaaDoorW.PrintWords Go.Proofs.YthkepoimagnagaaDoorW.PrintLast Go.Proofs.YthkepoimagnagaaDoorW.PrintMore
set_option linter.unusedVariables false
set_option linter.unusedSimpArgs false

def pD (n : Int) : ByteArray := (⟨#[114]⟩ : ByteArray) ++ ⟨(Lib.itoa n).toArray⟩
def pI (n : Int) : ByteArray := ⟨(Lib.decDigits n.toNat).toArray⟩
def pO (n : Int) : ByteArray := if n < 0 then ⟨(Lib.itoa n).toArray⟩ else (⟨#[43]⟩ : ByteArray) ++ ⟨(Lib.itoa n).toArray⟩

abbrev insBlk (a0 a1 a2 a3 a4 : Int) : Obj := .cells #[.int .i64 a0, .int .i64 a1, .int .i64 a2, .int .i64 a3, .int .u32 a4] 36 (0, 0)

set_option maxRecDepth 100000 in
theorem text1 {w : World} {g : Nat} {a0 a1 a2 a3 a4 : Int} (hb : w.heap[g]? = some (insBlk a0 a1 a2 a3 a4)) (htab : Tab w) (h0 : -9223372036854775808 ≤ a1) (h1 : a1 ≤ 9223372036854775807) :
    Calls Tryd.prog 18 #[.pointer (some ⟨g, 0, none⟩)] w fun e w' => e = .returned (.string (pD a1)) ∧ Below w.heap.size w w' := by
  have hc : w.cell? ⟨g, 1, none⟩ = some (.int .i64 a1) := (blk_cell hb 1).trans rfl
  clear hb
  go_enter Tryd.func18, Tryd.ntmps18
  go_wp2_with fail
  refine (itoaC a1 h0 h1 _ htab).mono ?_
  rintro e w1 ⟨rfl, hb⟩
  have hl := Lib.itoa_length_le a1 h0 h1
  go_wp2_with fail
  go_ret
  exact ⟨rfl, hb⟩
set_option maxRecDepth 100000 in
theorem text2 {w : World} {g : Nat} {a0 a1 a2 a3 a4 : Int} (hb : w.heap[g]? = some (insBlk a0 a1 a2 a3 a4)) (htab : Tab w) (h0 : -9223372036854775808 ≤ a2) (h1 : a2 ≤ 9223372036854775807) :
    Calls Tryd.prog 20 #[.pointer (some ⟨g, 0, none⟩)] w fun e w' => e = .returned (.string (pD a2)) ∧ Below w.heap.size w w' := by
  have hc : w.cell? ⟨g, 2, none⟩ = some (.int .i64 a2) := (blk_cell hb 2).trans rfl
  clear hb
  go_enter Tryd.func20, Tryd.ntmps20
  go_wp2_with fail
  refine (itoaC a2 h0 h1 _ htab).mono ?_
  rintro e w1 ⟨rfl, hb⟩
  have hl := Lib.itoa_length_le a2 h0 h1
  go_wp2_with fail
  go_ret
  exact ⟨rfl, hb⟩
set_option maxRecDepth 100000 in
theorem text3 {w : World} {g : Nat} {a0 a1 a2 a3 a4 : Int} (hb : w.heap[g]? = some (insBlk a0 a1 a2 a3 a4)) (htab : Tab w) (h0 : 0 ≤ a4) (h1 : a4 ≤ 4294967295) :
    Calls Tryd.prog 21 #[.pointer (some ⟨g, 0, none⟩)] w fun e w' => e = .returned (.string (pI a4)) ∧ Below w.heap.size w w' := by
  have hc : w.cell? ⟨g, 4, none⟩ = some (.int .u32 a4) := (blk_cell hb 4).trans rfl
  clear hb
  obtain ⟨n, rfl⟩ : ∃ n : Nat, a4 = n := ⟨a4.toNat, by omega⟩
  go_enter Tryd.func21, Tryd.ntmps21
  go_wp2_with fail
  have hn : IntKind.u64.wrap (n : Int) = n := by rw [IntKind.wrap_u64]; omega
  first | rw [hn] | skip
  refine (fmtUint n (by omega) _ htab).mono ?_
  rintro e w1 ⟨rfl, hb⟩
  go_wp2_with fail
  go_ret
  exact ⟨rfl, hb⟩
set_option maxRecDepth 100000 in
theorem text4 {w : World} {g : Nat} {a0 a1 a2 a3 a4 : Int} (hb : w.heap[g]? = some (insBlk a0 a1 a2 a3 a4)) (htab : Tab w) (h0 : -9223372036854775808 ≤ a3) (h1 : a3 ≤ 9223372036854775807) :
    Calls Tryd.prog 23 #[.pointer (some ⟨g, 0, none⟩)] w fun e w' => e = .returned (.string (pO a3)) ∧ Below w.heap.size w w' := by
  have hc : w.cell? ⟨g, 3, none⟩ = some (.int .i64 a3) := (blk_cell hb 3).trans rfl
  clear hb
  by_cases hn : a3 < 0
  · go_enter Tryd.func23, Tryd.ntmps23
    go_wp2_with fail
    refine (itoaC a3 h0 h1 _ htab).mono ?_
    rintro e w1 ⟨rfl, hb⟩
    go_wp2_with fail
    go_ret
    refine ⟨?_, hb⟩
    unfold pO; rw [if_pos hn]; rfl
  · go_enter Tryd.func23, Tryd.ntmps23
    go_wp2_with fail
    refine (itoaC a3 h0 h1 _ htab).mono ?_
    rintro e w1 ⟨rfl, hb⟩
    have hl := Lib.itoa_length_le a3 h0 h1
    go_wp2_with fail
    go_ret
    refine ⟨?_, hb⟩
    unfold pO; rw [if_neg (by omega)]; rfl

/-! ### the map of closures -/
abbrev RV (v : Value) : Option (DataW Value × List MemPlace) := some (.held v, [])
theorem law3 : Keyed Tryd.prog 3 := int_keyed Tryd.underlying3
theorem key3 (a : Int) (h : (Lit.int .i64 a).wf = true) : keyOf Tryd.prog 3 (.int .i64 a) = some (.int .i64 a) := keyOf_int_mk Tryd.underlying3 h
/-- A store of a map's literal, at the operation. -/
theorem wpList_insert_own {H : Type} {P : Program} (w : World) {ops : Array Oper} {rest : List Oper} {o : Oper} {a : Act} {Q : Exit → Act → World → Prop}
    (hg : o.guard = none) (m x v : Operand) (t : TypeId) (hop : o.op = Op.insert t m x v)
    (k e : TypeId) (K : Keyed P k) (ht : P.underlying t = some (.map k e)) (R : Value → Option (DataW H × List MemPlace)) (b n : Nat) (D : DataW H)
    (hm : a.eval m = .map (some b)) (hown : w.ownsMap P k R b n D) (hn : n < maxLen) (key val : Value) (kl : Lit) (hx : a.eval x = key) (hv : a.eval v = val) (hkey : keyOf P k key = some kl)
    (d : DataW H) (ps : List MemPlace) (hval : R val = some (d, ps))
    (hK : ∀ w', w'.ownsMap P k R b (n + 1) (D.put kl d) → w.grownBy w' (some b) → wpList P ops Q rest (a.put o.dst undef) w') :
    wpList P ops Q (o :: rest) a w := by
  refine wpList_plain hg fun K' hK' => ?_
  obtain ⟨w', hrun, r1, r2⟩ := hown.update K ht hn hkey hval
  unfold Oper.wp
  simp [execOp, hop, hm, hx, hv, hrun, Result.andThen]
  exact hK' _ _ (hK w' r1 r2)
theorem ownsMap_below {H : Type} {P : Program} {k : TypeId} {R : Value → Option (DataW H × List MemPlace)} {b n : Nat} {D : DataW H} {w w' : World} (h : w.ownsMap P k R b n D) (hb : Below w.heap.size w w') : w'.ownsMap P k R b n D :=
  h.kept (grown_of_below hb none) (by simp)
abbrev fnv (f g : Nat) : Value := .func (.func f) #[] #[.pointer (some ⟨g, 0, none⟩)]
/-- What the map reads as. -/
def mapD (g : Nat) : DataW Value := ((((DataW.map []).put (.int .i64 1) (.held (fnv 18 g))).put (.int .i64 2) (.held (fnv 20 g))).put (.int .i64 8) (.held (fnv 21 g))).put (.int .i64 4) (.held (fnv 23 g))
def flagFn (f : Int) : Nat := if f = 1 then 18 else if f = 2 then 20 else if f = 8 then 21 else 23
theorem map_look {w : World} {b n g : Nat} (h : w.ownsMap Tryd.prog 3 RV b n (mapD g)) (f : Int) (hf : f = 1 ∨ f = 2 ∨ f = 8 ∨ f = 4) :
    (Instr.lookup 52 (.map (some b)) (.int .i64 f) false).run Tryd.prog w = .ok (fnv (flagFn f) g) w := by
  have hz : (zeroValue 49).run Tryd.prog w = .ok .nilFunc w := by kernel_rfl
  obtain ⟨v, ps, h1, h2⟩ := h.lookup law3 Tryd.underlying52 hz (zd := .held .nilFunc) (zp := []) rfl (key3 f (by rcases hf with rfl | rfl | rfl | rfl <;> decide))
  have h3 : DataW.held v = (mapD g).atKey (.int .i64 f) (.held .nilFunc) := congrArg Prod.fst (Option.some.inj h2)
  have h4 : (mapD g).atKey (.int .i64 f) (.held .nilFunc) = .held (fnv (flagFn f) g) := by
    rcases hf with rfl | rfl | rfl | rfl <;> rfl
  rw [h4] at h3
  injection h3 with h5
  rw [h1, h5]

theorem R_ne_map {α : Type} {d : Kd α} {e : Nat} {w : World} {base : Nat} {ok : Nat → Prop} {v : Value} {xs : List α} (h : d.R e w base ok v xs) {H : Type} {P : Program} {k : TypeId} {R : Value → Option (DataW H × List MemPlace)} {b n : Nat} {D : DataW H} (hm : w.ownsMap P k R b n D) : some b ≠ v.ownBlock := by
  obtain ⟨es, clock, hb, _⟩ := hm
  obtain ⟨inner, ho⟩ := Kd.R_own h
  rcases ho.2 with ⟨rfl, _⟩ | ⟨g', cap, cur, rfl, _, hh, _⟩
  · simp [Value.ownBlock]
  · intro he
    have : b = g' := by simpa [Value.ownBlock] using he
    subst this
    rw [hb] at hh
    cases hh
theorem below_map {w W W1 : World} {b : Nat} (h : Below w.heap.size w W) (hg : W.grownBy W1 (some b)) (hb : w.heap.size ≤ b) : Below w.heap.size w W1 := h.grown hg h.size (fun k hk => by cases hk; exact hb)

/-! ### what the text is -/
def pick (u f : Int) (s : ByteArray) : List ByteArray := if Go.bits .and .i64 u f = 0 then [] else [s]
def flagAt (j : Nat) : Int := if j = 0 then 1 else if j = 1 then 2 else if j = 2 then 8 else 4
def partAt (a1 a2 a3 a4 : Int) (j : Nat) : ByteArray := if j = 0 then pD a1 else if j = 1 then pD a2 else if j = 2 then pI a4 else pO a3
def partsTo (u a1 a2 a3 a4 : Int) : Nat → List ByteArray
  | 0 => []
  | j + 1 => partsTo u a1 a2 a3 a4 j ++ pick u (flagAt j) (partAt a1 a2 a3 a4 j)
theorem partsTo_length (u a1 a2 a3 a4 : Int) (j : Nat) : (partsTo u a1 a2 a3 a4 j).length ≤ j := by
  induction j with
  | zero => exact Nat.le_refl _
  | succ j ih =>
    unfold partsTo pick
    split <;> simp <;> omega
def textOf (nm : ByteArray) (l : List ByteArray) : ByteArray := if l = [] then nm else (nm ++ (⟨#[32]⟩ : ByteArray)) ++ ⟨(Lib.join (l.map (·.data.toList)) [44, 32]).toArray⟩
def i64ok (n : Int) : Bool := decide (-9223372036854775808 ≤ n) && decide (n ≤ 9223372036854775807)
def textOk (nm : ByteArray) (u a1 a2 a3 a4 : Int) : Bool := i64ok a1 && i64ok a2 && i64ok a3 && decide (0 ≤ a4) && decide (a4 ≤ 4294967295) && decide (nm.size ≤ 1000) && decide ((Lib.join ((partsTo u a1 a2 a3 a4 4).map (·.data.toList)) [44, 32]).length ≤ 1000)
def code_Text.f (a0 a1 a2 a3 a4 : Int) : Option (ByteArray × Int) := (code_may.f 9 a0 a1 a2 a3 a4).bind fun m => if m = true then ((code_of.f a0).bind fun bt => if textOk bt.1 bt.2.1 a1 a2 a3 a4 = true then some (textOf bt.1 (partsTo bt.2.1 a1 a2 a3 a4 4), 0) else none) else some (⟨#[]⟩, 2)

set_option maxHeartbeats 8000000 in
set_option maxRecDepth 100000 in
theorem code_Text.calls (a0_0 : Int) (a0_1 : Int) (a0_2 : Int) (a0_3 : Int) (a0_4 : Int) (r1 : ByteArray) (r2 : Int) (w : World) (h : code_Text.f a0_0 a0_1 a0_2 a0_3 a0_4 = some (r1, r2)) (htab : Tab w) :
    Calls Tryd.prog 8 #[.agg #[.int .i64 a0_0, .int .i64 a0_1, .int .i64 a0_2, .int .i64 a0_3, .int .u32 a0_4]] w fun e w' => e = .returned (.tuple #[.string r1, .int .i64 r2]) ∧ Below w.heap.size w w' := by
  have HT := Aside0.mk htab
  clear htab
  obtain ⟨m, hm, h⟩ := Option.bind_eq_some_iff.1 h
  have HM := Aside0.mk hm
  clear hm
  have hB : ∀ w1, Below (w.alloc (insBlk a0_0 a0_1 a0_2 a0_3 a0_4)).heap.size (w.alloc (insBlk a0_0 a0_1 a0_2 a0_3 a0_4)) w1 → Below w.heap.size w w1 := fun w1 hb => ((Below.refl _ _).alloc (Nat.le_refl _) _).trans (hb.mono (by simp))
  cases m with
  | false =>
    simp only [Bool.false_eq_true, if_false, Option.some.injEq, Prod.mk.injEq] at h
    obtain ⟨rfl, rfl⟩ := h
    go_enter Tryd.func8, Tryd.ntmps8
    go_wp2_with fail
    refine (code_may.calls 9 _ _ _ _ _ _ _ HM.out).mono ?_
    rintro e w1 ⟨rfl, hb⟩
    go_wp2_with fail
    exact bodyPost_ret (v := .tuple #[.string ⟨#[]⟩, .int .i64 2]) (by simp [results, Tryd.results8, go_sem]) rfl ⟨rfl, hB _ hb⟩
  | true =>
    simp only [if_true] at h
    obtain ⟨⟨nm, u, is⟩, hof, h⟩ := Option.bind_eq_some_iff.1 h
    by_cases hok : textOk nm u a0_1 a0_2 a0_3 a0_4 = true
    · rw [if_pos hok] at h
      simp only [Option.some.injEq, Prod.mk.injEq] at h
      obtain ⟨h1, rfl⟩ := h
      have H1 := Aside0.mk h1
      clear h1
      have HOK := Aside0.mk hok
      clear hok
      have HOF := Aside0.mk hof
      clear hof
      go_enter Tryd.func8, Tryd.ntmps8
      go_wp2_with fail
      refine (code_may.calls 9 _ _ _ _ _ _ _ HM.out).mono ?_
      rintro e w1 ⟨rfl, hb⟩
      have hp := blk_below (blk_new w _) hb
      have HP := Aside0.mk hp
      have HB1 := Aside0.mk (hB w1 hb)
      clear hb hp hB
      have hp0 : w1.cell? ⟨w.heap.size, 0, none⟩ = some (.int .i64 a0_0) := (blk_cell HP.out 0).trans rfl
      go_wp2_with fail
      refine (code_of.calls _ _ _ _ _ HOF.out).mono ?_
      rintro e w2 ⟨rfl, hb⟩
      have HP2 := Aside0.mk (blk_below HP.out hb)
      have HB2 := Aside0.mk (below_then HB1.out HB1.out.size hb)
      clear hb hp0 HP HB1
      have hmm := @run_makeMap Tryd.prog
      have hm0 : ((w2.alloc (.cells #[.string nm, .int .i64 u] 46)).alloc (.map #[] 0)).ownsMap Tryd.prog 3 RV (w2.heap.size + 1) 0 (.map []) := by
        have h := World.ownsMap_made (w2.alloc (.cells #[.string nm, .int .i64 u] 46)) Tryd.prog 3 RV
        rwa [World.size_alloc] at h
      have HM0 := Aside0.mk hm0
      clear hm0
      go_wp2_with (first | (refine wpList_insert_own _ rfl _ _ _ 52 rfl 3 49 law3 Tryd.underlying52 RV _ 0 _ rfl HM0.out (by decide) (.int .i64 1) (fnv 18 w.heap.size) _ rfl rfl (key3 _ (by decide)) _ [] rfl ?_; intro w3 ho hg; have HM1 := Aside0.mk ho; clear ho; have HG0 := Aside0.mk hg; clear hg) | (refine wpList_insert_own _ rfl _ _ _ 52 rfl 3 49 law3 Tryd.underlying52 RV _ 1 _ rfl HM1.out (by decide) (.int .i64 2) (fnv 20 w.heap.size) _ rfl rfl (key3 _ (by decide)) _ [] rfl ?_; intro w4 ho hg; have HM2 := Aside0.mk ho; clear ho; have HG1 := Aside0.mk hg; clear hg) | (refine wpList_insert_own _ rfl _ _ _ 52 rfl 3 49 law3 Tryd.underlying52 RV _ 2 _ rfl HM2.out (by decide) (.int .i64 8) (fnv 21 w.heap.size) _ rfl rfl (key3 _ (by decide)) _ [] rfl ?_; intro w5 ho hg; have HM3 := Aside0.mk ho; clear ho; have HG2 := Aside0.mk hg; clear hg) | (refine wpList_insert_own _ rfl _ _ _ 52 rfl 3 49 law3 Tryd.underlying52 RV _ 3 _ rfl HM3.out (by decide) (.int .i64 4) (fnv 23 w.heap.size) _ rfl rfl (key3 _ (by decide)) _ [] rfl ?_; intro w6 ho hg; have HM4 := Aside0.mk ho; clear ho; have HG3 := Aside0.mk hg; clear hg))
      have hlt := blk_lt HP2.out
      have hw2 : w.heap.size ≤ w2.heap.size := by omega
      have mv : ∀ (g : Nat) (o : Obj), ((w2.alloc (.cells #[.string nm, .int .i64 u] 46)).alloc (.map #[] 0)).heap[g]? = some o → g ≠ w2.heap.size + 1 → w6.heap[g]? = some o := fun g o h hne => blk_grown (blk_grown (blk_grown (blk_grown h HG0.out (by simpa using hne)) HG1.out (by simpa using hne)) HG2.out (by simpa using hne)) HG3.out (by simpa using hne)
      have HI6 := Aside0.mk (mv _ _ (blk_alloc (blk_alloc HP2.out _) _) (by omega))
      have HR6 := Aside0.mk (mv _ _ (blk_alloc (blk_new w2 (.cells #[.string nm, .int .i64 u] 46)) (.map #[] 0)) (by omega))
      have HB6 := Aside0.mk (below_map (below_map (below_map (below_map (below_alloc (below_alloc HB2.out _) _) HG0.out (by omega)) HG1.out (by omega)) HG2.out (by omega)) HG3.out (by omega))
      clear mv hmm HG0 HG1 HG2 HG3 HM0 HM1 HM2 HM3 HP2 HB2
      go_loopw [7, 27] (fun v7 v27 wr => ∃ j : Nat, v27 = .int .i64 (j : Int) ∧ Aside0 (j ≤ 4) ∧ Aside0 (Kd.R Kd.string 9 wr w.heap.size (fun _ => True) v7 (partsTo u a0_1 a0_2 a0_3 a0_4 j)) ∧ Aside0 (Below w.heap.size w wr) ∧ Aside0 (wr.heap[w.heap.size]? = some (insBlk a0_0 a0_1 a0_2 a0_3 a0_4)) ∧ Aside0 (wr.heap[w2.heap.size]? = some (.cells #[.string nm, .int .i64 u] 46 (0, 0))) ∧ Aside0 (wr.heap[w6.heap.size]? = some (.cells #[.int .i64 1, .int .i64 2, .int .i64 8, .int .i64 4] 3 (0, 0))) ∧ Aside0 (wr.ownsMap Tryd.prog 3 RV (w2.heap.size + 1) 4 (mapD w.heap.size))) (fun _ v27 _ => 4 - (intOf v27).toNat)
      case atStart => exact ⟨0, rfl, ⟨by omega⟩, ⟨Kd.R_nil _ _ _ _ _⟩, ⟨below_alloc HB6.out _⟩, ⟨blk_alloc HI6.out _⟩, ⟨blk_alloc HR6.out _⟩, ⟨blk_new _ _⟩, ⟨HM4.out.alloc _⟩⟩
      case round =>
        obtain ⟨j, rfl, HJ, HO, HB, HI, HR, HF, HMp⟩ := hrel
        clear HI6 HR6 HB6 HM4
        have hokk := HOK.out
        simp only [textOk, i64ok, Bool.and_eq_true, decide_eq_true_eq] at hokk
        by_cases hlt4 : j < 4
        · have hj : j = 0 ∨ j = 1 ∨ j = 2 ∨ j = 3 := by omega
          rcases hj with hj | hj | hj | hj
          · -- flag 1
            subst hj
            have hu : wr.cell? ⟨w2.heap.size, 1, none⟩ = some (.int .i64 u) := (blk_cell HR.out 1).trans rfl
            have hfl : wr.cell? ⟨w6.heap.size, 0, none⟩ = some (.int .i64 1) := (blk_cell HF.out 0).trans rfl
            by_cases hbit : Go.bits .and .i64 u 1 = 0
            · have hpt : partsTo u a0_1 a0_2 a0_3 a0_4 1 = partsTo u a0_1 a0_2 a0_3 a0_4 0 := by
                show partsTo u a0_1 a0_2 a0_3 a0_4 0 ++ pick u 1 (pD a0_1) = _
                unfold pick; rw [if_pos hbit, List.append_nil]
              have HPT := Aside0.mk hpt
              clear hpt
              have hb0 : (Go.bits .and .i64 u 1 != 0) = false := bne_eq_false_iff_eq.mpr hbit
              go_wp2_with fail
              go_roundw
              case rel => exact ⟨1, rfl, ⟨by omega⟩, ⟨by rw [HPT.out]; exact HO.out⟩, ⟨HB.out⟩, ⟨HI.out⟩, ⟨HR.out⟩, ⟨HF.out⟩, ⟨HMp.out⟩⟩
              case measure => simp [intOf]
            · have hpt : partsTo u a0_1 a0_2 a0_3 a0_4 1 = partsTo u a0_1 a0_2 a0_3 a0_4 0 ++ [pD a0_1] := by
                show partsTo u a0_1 a0_2 a0_3 a0_4 0 ++ pick u 1 (pD a0_1) = _
                unfold pick; rw [if_neg hbit]
              have HPT := Aside0.mk hpt
              clear hpt
              have hb0 : (Go.bits .and .i64 u 1 != 0) = true := bne_iff_ne.mpr hbit
              have hlk := map_look HMp.out 1 (by omega)
              have hln := partsTo_length u a0_1 a0_2 a0_3 a0_4 0
              go_wp2_with fail
              refine (text1 HI.out (HT.out.below HB.out) (by omega) (by omega)).mono ?_
              rintro e wc ⟨rfl, hbc⟩
              have HOc := Aside0.mk (Kd.R_below HO.out hbc)
              have HBc := Aside0.mk (below_then HB.out HB.out.size hbc)
              have HIc := Aside0.mk (blk_below HI.out hbc)
              have HRc := Aside0.mk (blk_below HR.out hbc)
              have HFc := Aside0.mk (blk_below HF.out hbc)
              have HMc := Aside0.mk (ownsMap_below HMp.out hbc)
              clear hbc hlk hu hfl
              go_wp2_with (at_builtin; refine Kd.R_append Kd.string (w0 := w) w.heap.size rfl (.tmp 36) (.tmp 41) 53 9 (.string ⟨#[]⟩) 16 rfl Tryd.underlying53 info9 rfl (by decide) (by omega) _ (partsTo u a0_1 a0_2 a0_3 a0_4 0) (pD a0_1) [.string (pD a0_1)] (fun _ => True) (fun _ => False) rfl rfl ?aP (fun _ hk => hk.elim) ?aF ?aO ?aB ?aS ?aL ?_; (case aP => exact rfl); (case aB => exact HBc.out); (case aF => exact (fun _ _ => trivial)); (case aO => exact HOc.out); (case aS => exact HBc.out.size); (case aL => omega); intro v1 w1 ho hb1 hg1 _; have HO1 := Aside0.mk ho; clear ho; have HB1 := Aside0.mk hb1; clear hb1; have HG1 := Aside0.mk hg1; clear hg1)
              go_roundw
              case rel => exact ⟨1, rfl, ⟨by omega⟩, ⟨by rw [HPT.out]; exact HO1.out⟩, ⟨HB1.out⟩, ⟨blk_grown HIc.out HG1.out (Kd.R_ne HOc.out HIc.out (by decide))⟩, ⟨blk_grown HRc.out HG1.out (Kd.R_ne HOc.out HRc.out (by decide))⟩, ⟨blk_grown HFc.out HG1.out (Kd.R_ne HOc.out HFc.out (by decide))⟩, ⟨HMc.out.kept HG1.out (R_ne_map HOc.out HMc.out)⟩⟩
              case measure => simp [intOf]
          · -- flag 2
            subst hj
            have hu : wr.cell? ⟨w2.heap.size, 1, none⟩ = some (.int .i64 u) := (blk_cell HR.out 1).trans rfl
            have hfl : wr.cell? ⟨w6.heap.size, 1, none⟩ = some (.int .i64 2) := (blk_cell HF.out 1).trans rfl
            by_cases hbit : Go.bits .and .i64 u 2 = 0
            · have hpt : partsTo u a0_1 a0_2 a0_3 a0_4 2 = partsTo u a0_1 a0_2 a0_3 a0_4 1 := by
                show partsTo u a0_1 a0_2 a0_3 a0_4 1 ++ pick u 2 (pD a0_2) = _
                unfold pick; rw [if_pos hbit, List.append_nil]
              have HPT := Aside0.mk hpt
              clear hpt
              have hb0 : (Go.bits .and .i64 u 2 != 0) = false := bne_eq_false_iff_eq.mpr hbit
              go_wp2_with fail
              go_roundw
              case rel => exact ⟨2, rfl, ⟨by omega⟩, ⟨by rw [HPT.out]; exact HO.out⟩, ⟨HB.out⟩, ⟨HI.out⟩, ⟨HR.out⟩, ⟨HF.out⟩, ⟨HMp.out⟩⟩
              case measure => simp [intOf]
            · have hpt : partsTo u a0_1 a0_2 a0_3 a0_4 2 = partsTo u a0_1 a0_2 a0_3 a0_4 1 ++ [pD a0_2] := by
                show partsTo u a0_1 a0_2 a0_3 a0_4 1 ++ pick u 2 (pD a0_2) = _
                unfold pick; rw [if_neg hbit]
              have HPT := Aside0.mk hpt
              clear hpt
              have hb0 : (Go.bits .and .i64 u 2 != 0) = true := bne_iff_ne.mpr hbit
              have hlk := map_look HMp.out 2 (by omega)
              have hln := partsTo_length u a0_1 a0_2 a0_3 a0_4 1
              go_wp2_with fail
              refine (text2 HI.out (HT.out.below HB.out) (by omega) (by omega)).mono ?_
              rintro e wc ⟨rfl, hbc⟩
              have HOc := Aside0.mk (Kd.R_below HO.out hbc)
              have HBc := Aside0.mk (below_then HB.out HB.out.size hbc)
              have HIc := Aside0.mk (blk_below HI.out hbc)
              have HRc := Aside0.mk (blk_below HR.out hbc)
              have HFc := Aside0.mk (blk_below HF.out hbc)
              have HMc := Aside0.mk (ownsMap_below HMp.out hbc)
              clear hbc hlk hu hfl
              go_wp2_with (at_builtin; refine Kd.R_append Kd.string (w0 := w) w.heap.size rfl (.tmp 36) (.tmp 41) 53 9 (.string ⟨#[]⟩) 16 rfl Tryd.underlying53 info9 rfl (by decide) (by omega) _ (partsTo u a0_1 a0_2 a0_3 a0_4 1) (pD a0_2) [.string (pD a0_2)] (fun _ => True) (fun _ => False) rfl rfl ?aP (fun _ hk => hk.elim) ?aF ?aO ?aB ?aS ?aL ?_; (case aP => exact rfl); (case aB => exact HBc.out); (case aF => exact (fun _ _ => trivial)); (case aO => exact HOc.out); (case aS => exact HBc.out.size); (case aL => omega); intro v1 w1 ho hb1 hg1 _; have HO1 := Aside0.mk ho; clear ho; have HB1 := Aside0.mk hb1; clear hb1; have HG1 := Aside0.mk hg1; clear hg1)
              go_roundw
              case rel => exact ⟨2, rfl, ⟨by omega⟩, ⟨by rw [HPT.out]; exact HO1.out⟩, ⟨HB1.out⟩, ⟨blk_grown HIc.out HG1.out (Kd.R_ne HOc.out HIc.out (by decide))⟩, ⟨blk_grown HRc.out HG1.out (Kd.R_ne HOc.out HRc.out (by decide))⟩, ⟨blk_grown HFc.out HG1.out (Kd.R_ne HOc.out HFc.out (by decide))⟩, ⟨HMc.out.kept HG1.out (R_ne_map HOc.out HMc.out)⟩⟩
              case measure => simp [intOf]
          · -- flag 8
            subst hj
            have hu : wr.cell? ⟨w2.heap.size, 1, none⟩ = some (.int .i64 u) := (blk_cell HR.out 1).trans rfl
            have hfl : wr.cell? ⟨w6.heap.size, 2, none⟩ = some (.int .i64 8) := (blk_cell HF.out 2).trans rfl
            by_cases hbit : Go.bits .and .i64 u 8 = 0
            · have hpt : partsTo u a0_1 a0_2 a0_3 a0_4 3 = partsTo u a0_1 a0_2 a0_3 a0_4 2 := by
                show partsTo u a0_1 a0_2 a0_3 a0_4 2 ++ pick u 8 (pI a0_4) = _
                unfold pick; rw [if_pos hbit, List.append_nil]
              have HPT := Aside0.mk hpt
              clear hpt
              have hb0 : (Go.bits .and .i64 u 8 != 0) = false := bne_eq_false_iff_eq.mpr hbit
              go_wp2_with fail
              go_roundw
              case rel => exact ⟨3, rfl, ⟨by omega⟩, ⟨by rw [HPT.out]; exact HO.out⟩, ⟨HB.out⟩, ⟨HI.out⟩, ⟨HR.out⟩, ⟨HF.out⟩, ⟨HMp.out⟩⟩
              case measure => simp [intOf]
            · have hpt : partsTo u a0_1 a0_2 a0_3 a0_4 3 = partsTo u a0_1 a0_2 a0_3 a0_4 2 ++ [pI a0_4] := by
                show partsTo u a0_1 a0_2 a0_3 a0_4 2 ++ pick u 8 (pI a0_4) = _
                unfold pick; rw [if_neg hbit]
              have HPT := Aside0.mk hpt
              clear hpt
              have hb0 : (Go.bits .and .i64 u 8 != 0) = true := bne_iff_ne.mpr hbit
              have hlk := map_look HMp.out 8 (by omega)
              have hln := partsTo_length u a0_1 a0_2 a0_3 a0_4 2
              go_wp2_with fail
              refine (text3 HI.out (HT.out.below HB.out) (by omega) (by omega)).mono ?_
              rintro e wc ⟨rfl, hbc⟩
              have HOc := Aside0.mk (Kd.R_below HO.out hbc)
              have HBc := Aside0.mk (below_then HB.out HB.out.size hbc)
              have HIc := Aside0.mk (blk_below HI.out hbc)
              have HRc := Aside0.mk (blk_below HR.out hbc)
              have HFc := Aside0.mk (blk_below HF.out hbc)
              have HMc := Aside0.mk (ownsMap_below HMp.out hbc)
              clear hbc hlk hu hfl
              go_wp2_with (at_builtin; refine Kd.R_append Kd.string (w0 := w) w.heap.size rfl (.tmp 36) (.tmp 41) 53 9 (.string ⟨#[]⟩) 16 rfl Tryd.underlying53 info9 rfl (by decide) (by omega) _ (partsTo u a0_1 a0_2 a0_3 a0_4 2) (pI a0_4) [.string (pI a0_4)] (fun _ => True) (fun _ => False) rfl rfl ?aP (fun _ hk => hk.elim) ?aF ?aO ?aB ?aS ?aL ?_; (case aP => exact rfl); (case aB => exact HBc.out); (case aF => exact (fun _ _ => trivial)); (case aO => exact HOc.out); (case aS => exact HBc.out.size); (case aL => omega); intro v1 w1 ho hb1 hg1 _; have HO1 := Aside0.mk ho; clear ho; have HB1 := Aside0.mk hb1; clear hb1; have HG1 := Aside0.mk hg1; clear hg1)
              go_roundw
              case rel => exact ⟨3, rfl, ⟨by omega⟩, ⟨by rw [HPT.out]; exact HO1.out⟩, ⟨HB1.out⟩, ⟨blk_grown HIc.out HG1.out (Kd.R_ne HOc.out HIc.out (by decide))⟩, ⟨blk_grown HRc.out HG1.out (Kd.R_ne HOc.out HRc.out (by decide))⟩, ⟨blk_grown HFc.out HG1.out (Kd.R_ne HOc.out HFc.out (by decide))⟩, ⟨HMc.out.kept HG1.out (R_ne_map HOc.out HMc.out)⟩⟩
              case measure => simp [intOf]
          · -- flag 4
            subst hj
            have hu : wr.cell? ⟨w2.heap.size, 1, none⟩ = some (.int .i64 u) := (blk_cell HR.out 1).trans rfl
            have hfl : wr.cell? ⟨w6.heap.size, 3, none⟩ = some (.int .i64 4) := (blk_cell HF.out 3).trans rfl
            by_cases hbit : Go.bits .and .i64 u 4 = 0
            · have hpt : partsTo u a0_1 a0_2 a0_3 a0_4 4 = partsTo u a0_1 a0_2 a0_3 a0_4 3 := by
                show partsTo u a0_1 a0_2 a0_3 a0_4 3 ++ pick u 4 (pO a0_3) = _
                unfold pick; rw [if_pos hbit, List.append_nil]
              have HPT := Aside0.mk hpt
              clear hpt
              have hb0 : (Go.bits .and .i64 u 4 != 0) = false := bne_eq_false_iff_eq.mpr hbit
              go_wp2_with fail
              go_roundw
              case rel => exact ⟨4, rfl, ⟨by omega⟩, ⟨by rw [HPT.out]; exact HO.out⟩, ⟨HB.out⟩, ⟨HI.out⟩, ⟨HR.out⟩, ⟨HF.out⟩, ⟨HMp.out⟩⟩
              case measure => simp [intOf]
            · have hpt : partsTo u a0_1 a0_2 a0_3 a0_4 4 = partsTo u a0_1 a0_2 a0_3 a0_4 3 ++ [pO a0_3] := by
                show partsTo u a0_1 a0_2 a0_3 a0_4 3 ++ pick u 4 (pO a0_3) = _
                unfold pick; rw [if_neg hbit]
              have HPT := Aside0.mk hpt
              clear hpt
              have hb0 : (Go.bits .and .i64 u 4 != 0) = true := bne_iff_ne.mpr hbit
              have hlk := map_look HMp.out 4 (by omega)
              have hln := partsTo_length u a0_1 a0_2 a0_3 a0_4 3
              go_wp2_with fail
              refine (text4 HI.out (HT.out.below HB.out) (by omega) (by omega)).mono ?_
              rintro e wc ⟨rfl, hbc⟩
              have HOc := Aside0.mk (Kd.R_below HO.out hbc)
              have HBc := Aside0.mk (below_then HB.out HB.out.size hbc)
              have HIc := Aside0.mk (blk_below HI.out hbc)
              have HRc := Aside0.mk (blk_below HR.out hbc)
              have HFc := Aside0.mk (blk_below HF.out hbc)
              have HMc := Aside0.mk (ownsMap_below HMp.out hbc)
              clear hbc hlk hu hfl
              go_wp2_with (at_builtin; refine Kd.R_append Kd.string (w0 := w) w.heap.size rfl (.tmp 36) (.tmp 41) 53 9 (.string ⟨#[]⟩) 16 rfl Tryd.underlying53 info9 rfl (by decide) (by omega) _ (partsTo u a0_1 a0_2 a0_3 a0_4 3) (pO a0_3) [.string (pO a0_3)] (fun _ => True) (fun _ => False) rfl rfl ?aP (fun _ hk => hk.elim) ?aF ?aO ?aB ?aS ?aL ?_; (case aP => exact rfl); (case aB => exact HBc.out); (case aF => exact (fun _ _ => trivial)); (case aO => exact HOc.out); (case aS => exact HBc.out.size); (case aL => omega); intro v1 w1 ho hb1 hg1 _; have HO1 := Aside0.mk ho; clear ho; have HB1 := Aside0.mk hb1; clear hb1; have HG1 := Aside0.mk hg1; clear hg1)
              go_roundw
              case rel => exact ⟨4, rfl, ⟨by omega⟩, ⟨by rw [HPT.out]; exact HO1.out⟩, ⟨HB1.out⟩, ⟨blk_grown HIc.out HG1.out (Kd.R_ne HOc.out HIc.out (by decide))⟩, ⟨blk_grown HRc.out HG1.out (Kd.R_ne HOc.out HRc.out (by decide))⟩, ⟨blk_grown HFc.out HG1.out (Kd.R_ne HOc.out HFc.out (by decide))⟩, ⟨HMc.out.kept HG1.out (R_ne_map HOc.out HMc.out)⟩⟩
              case measure => simp [intOf]
        · have hj : j = 4 := by have := HJ.out; omega
          subst hj
          have hr0 : wr.cell? ⟨w2.heap.size, 0, none⟩ = some (.string nm) := (blk_cell HR.out 0).trans rfl
          obtain ⟨A, c, rfl, hle, hC⟩ := Kd.R_reads HO.out
          have HLe := Aside0.mk hle
          have HC := Aside0.mk hC
          clear hle hC
          by_cases hL : partsTo u a0_1 a0_2 a0_3 a0_4 4 = []
          · have h1 := H1.out
            rw [textOf, if_pos hL] at h1
            have hl0 : (((partsTo u a0_1 a0_2 a0_3 a0_4 4).length : Int) == 0) = true := by rw [hL]; rfl
            have H2 := Aside0.mk h1
            clear h1 hL
            go_wp2_with fail
            go_ret2
            exact ⟨by rw [← H2.out]; rfl, HB.out⟩
          · have hl0 : (((partsTo u a0_1 a0_2 a0_3 a0_4 4).length : Int) == 0) = false := beq_eq_false_iff_ne.mpr (fun h => hL (List.length_eq_zero_iff.1 (by omega)))
            have HL := Aside0.mk hL
            clear hL
            obtain ⟨inner, hown⟩ := Kd.R_own HO.out
            obtain ⟨g, rfl, hglt⟩ : ∃ g, A = some ⟨g, 0, none⟩ ∧ g < wr.heap.size := by
              rcases hown.2 with ⟨h1, _⟩ | ⟨g, cap, cur, h1, _, hh, _⟩
              · exfalso
                injection h1 with _ h2 _
                exact HL.out (List.length_eq_zero_iff.1 h2)
              · injection h1 with h2 _ _
                exact ⟨g, h2, blk_lt hh⟩
            have hcell : ∀ (j : Nat) (x : ByteArray), (partsTo u a0_1 a0_2 a0_3 a0_4 4)[j]? = some x → wr.cell? ⟨g, 0 + j, none⟩ = some (.string x) := by
              intro j x hx
              have hjl : j < (partsTo u a0_1 a0_2 a0_3 a0_4 4).length := (List.getElem?_eq_some_iff.1 hx).1
              obtain ⟨ad, had, hcl⟩ := Kd.at_string HC.out (j : Int) (by omega) (by omega)
              injection had with had
              subst had
              rw [Lib.add_plain] at hcl
              have e : rdOf ByteArray.empty (partsTo u a0_1 a0_2 a0_3 a0_4 4) (j : Int) = x := by
                unfold rdOf
                rw [Int.toNat_natCast, List.getD_eq_getElem?_getD, hx]; rfl
              rw [e] at hcl
              exact hcl
            have HCell := Aside0.mk hcell
            have HG := Aside0.mk hglt
            have HN := Aside0.mk (show (partsTo u a0_1 a0_2 a0_3 a0_4 4).length ≤ 140737488355328 from Nat.le_trans (partsTo_length u a0_1 a0_2 a0_3 a0_4 4) (by decide))
            have hjl : (Lib.join ((partsTo u a0_1 a0_2 a0_3 a0_4 4).map (fun x => x.data.toList)) (⟨#[44, 32]⟩ : ByteArray).data.toList).length ≤ 1000 := hokk.2
            have hnm : nm.size ≤ 1000 := hokk.1.2
            have HJl := Aside0.mk (show (Lib.join ((partsTo u a0_1 a0_2 a0_3 a0_4 4).map (fun x => x.data.toList)) (⟨#[44, 32]⟩ : ByteArray).data.toList).length ≤ 140737488355328 from Nat.le_trans hjl (by decide))
            clear hcell hglt hokk hown
            go_wp2_with fail
            have h2 := H1.out
            rw [textOf, if_neg HL.out] at h2
            have H2 := Aside0.mk h2
            clear h2
            have HCellD := Aside0.mk (show ∀ (j : Nat) (x : ByteArray), (partsTo u a0_1 a0_2 a0_3 a0_4 4)[j]? = some x → wr.drew.cell? ⟨g, 0 + j, none⟩ = some (.string x) from HCell.out)
            have HGD := Aside0.mk (show g < wr.drew.heap.size from HG.out)
            have HRD := Aside0.mk (blk_drew HR.out)
            have HBD := Aside0.mk (below_drew1 HB.out)
            go_region_with (go_at_call 24; refine (Tryd.strings_Join g 0 c (partsTo u a0_1 a0_2 a0_3 a0_4 4) (⟨#[44, 32]⟩ : ByteArray) wr.drew HCellD.out HGD.out HN.out HLe.out HJl.out).mono ?_; rintro e wj ⟨rfl, hb⟩; have HRj := Aside0.mk (blk_below HRD.out hb); have HBj := Aside0.mk (below_then HBD.out HBD.out.size hb); clear hb; have hr1 : wj.cell? ⟨w2.heap.size, 0, none⟩ = some (.string nm) := (blk_cell HRj.out 0).trans rfl)
            all_goals (go_wp2; go_ret2; exact ⟨by rw [← H2.out]; rfl, HBj.out⟩)
    · rw [if_neg hok] at h
      cases h
end Go.Proofs.YthkepoimagnagaaDoor.K
