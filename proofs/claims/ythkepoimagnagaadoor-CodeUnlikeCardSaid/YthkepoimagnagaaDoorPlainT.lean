/- Plain law: the reference's text of an instruction that may be is the program's: its name and its parts; a number's digits are its decimal numeral. Condition: the numbers fit their words. -/
import Derived.Test.YthkepoimagnagaaDoorPlainA
import Derived.Test.YthkepoimagnagaaDoorKx24
import Derived.Test.YthkepoimagnagaaDoorKx19
import Derived.Test.YthkepoimagnagaaDoorHandT
import Derived.Laws.Strings
import Derived.Lib.ItoaLen
import Derived.Lib.ItoaMem
namespace Go.Proofs.YthkepoimagnagaaDoor.Plain
open Go.RowKit Go.Proofs.YthkepoimagnagaaDoor.K Go.Proofs.YthkepoimagnagaaDoorW.PrintWords Go.Proofs.YthkepoimagnagaaDoorW.PrintLast
set_option linter.unusedVariables false
set_option linter.unusedSimpArgs false

theorem ba_ext {a b : ByteArray} (h : a.data.toList = b.data.toList) : a = b := ByteArray.ext (Array.toList_inj.1 h)
theorem ba_app (a b : ByteArray) : (a ++ b).data.toList = a.data.toList ++ b.data.toList := by simp
theorem digit_str (n : Nat) (h : n < 10) : strOfNums [(48 + (n : Int)) % 256] = ⟨#[UInt8.ofNat (48 + n)]⟩ := by
  have : ((48 + (n : Int)) % 256).toNat = 48 + n := by omega
  simp only [strOfNums, List.map_cons, List.map_nil, this]
theorem digits_l0 (n : Nat) : ∀ (k : Nat) (s : ByteArray), n < 9223372036854775808 → s.size + Lib.nDigits n ≤ 1000 → Lib.nDigits n ≤ k → cachetref05_digits.l0 k (n : Int) s = some ((⟨(Lib.decDigits n).toArray⟩ : ByteArray) ++ s) := by
  induction n using Nat.strongRecOn with
  | _ n ih =>
    intro k s h0 h1 hk
    have hp := Lib.nDigits_pos n
    obtain ⟨k, rfl⟩ : ∃ j, k = j + 1 := ⟨k - 1, by omega⟩
    rw [cachetref05_digits.l0]
    have e1 : wrap64 (48 + Int.tmod (n : Int) 10) = 48 + ((n % 10 : Nat) : Int) := by rw [Int.tmod_eq_emod_of_nonneg (by omega), wrap_small] <;> omega
    have e2 : wrap64 (Int.tdiv (n : Int) 10) = ((n / 10 : Nat) : Int) := by rw [Int.tdiv_eq_ediv_of_nonneg (by omega), wrap_small] <;> omega
    rw [e1, e2]
    simp only [Option.bind_some]
    rw [digit_str _ (Nat.mod_lt _ (by omega))]
    have hs1 : (⟨#[UInt8.ofNat (48 + n % 10)]⟩ : ByteArray).size = 1 := rfl
    rw [hs1, if_pos (by omega)]
    by_cases h10 : n < 10
    · have e3 : n / 10 = 0 := by omega
      have e4 : n % 10 = n := by omega
      rw [if_pos (by rw [e3]; rfl), e4, Lib.decDigits_one h10]
    · rw [if_neg (by omega)]
      have hd := Lib.nDigits_big h10
      rw [ih (n / 10) (by omega) k _ (by omega) (by rw [ByteArray.size_append, hs1]; omega) (by omega), ← ByteArray.append_assoc]
      have e : Lib.decDigits n = Lib.decDigits (n / 10) ++ [UInt8.ofNat (48 + n % 10)] := by rw [Lib.decDigits, dif_neg h10]
      rw [e]
      exact congrArg (fun z => some (z ++ s)) (ba_ext (by rw [ba_app]))
theorem digits_eq (k n : Nat) (h : n < 9223372036854775808) (hk : 20 ≤ k) : cachetref05_digits.f k (n : Int) = some (⟨(Lib.decDigits n).toArray⟩ : ByteArray) := by
  have hd := Lib.nDigits_le20 n (by omega)
  unfold cachetref05_digits.f
  rw [digits_l0 n k _ h (by show 0 + _ ≤ 1000; omega) (by omega)]
  congr 1
  exact ba_ext (by rw [ba_app]; simp)

/-! ### the parts -/
theorem digits_int (k : Nat) (n : Int) (h0 : 0 ≤ n) (h1 : n < 9223372036854775808) (hk : 20 ≤ k) : cachetref05_digits.f k n = some (⟨(Lib.itoa n).toArray⟩ : ByteArray) := by
  obtain ⟨m, rfl⟩ : ∃ m : Nat, n = m := ⟨n.toNat, by omega⟩
  rw [digits_eq k m (by omega) hk, Lib.itoa_nonneg]
theorem itoa_size (n : Int) (h0 : -9223372036854775808 ≤ n) (h1 : n ≤ 9223372036854775807) : (⟨(Lib.itoa n).toArray⟩ : ByteArray).size ≤ 21 := by
  have h := Lib.itoa_length_le n h0 h1
  simpa [ByteArray.size] using h
theorem pI_itoa (n : Int) (h : 0 ≤ n) : pI n = ⟨(Lib.itoa n).toArray⟩ := by
  obtain ⟨m, rfl⟩ : ∃ m : Nat, n = m := ⟨n.toNat, by omega⟩
  unfold pI
  rw [Lib.itoa_nonneg, Int.toNat_natCast]
theorem pO_neg (n : Int) (h : n < 0) : pO n = (⟨#[45]⟩ : ByteArray) ++ ⟨(Lib.itoa (-n)).toArray⟩ := by
  obtain ⟨m, rfl, hm⟩ : ∃ m : Nat, n = -(m : Int) ∧ 1 ≤ m := ⟨(-n).toNat, by omega, by omega⟩
  unfold pO
  rw [if_pos h, Lib.itoa_neg m hm, Int.neg_neg, Lib.itoa_nonneg]
  exact ba_ext (by rw [ba_app]; simp)
theorem pD_size (n : Int) (h0 : -9223372036854775808 ≤ n) (h1 : n ≤ 9223372036854775807) : (pD n).size ≤ 100 := by
  unfold pD
  have := itoa_size n h0 h1
  have hs : (⟨#[114]⟩ : ByteArray).size = 1 := rfl
  rw [ByteArray.size_append, hs]; omega
theorem pI_size (n : Int) (h0 : 0 ≤ n) (h1 : n ≤ 4294967295) : (pI n).size ≤ 100 := by
  rw [pI_itoa n h0]
  have := itoa_size n (by omega) (by omega)
  omega
theorem pO_size (n : Int) (h0 : -9223372036854775808 ≤ n) (h1 : n ≤ 9223372036854775807) : (pO n).size ≤ 100 := by
  unfold pO
  have := itoa_size n h0 h1
  have hs : (⟨#[43]⟩ : ByteArray).size = 1 := rfl
  split
  · omega
  · rw [ByteArray.size_append, hs]; omega
def wfN (d s o m : Int) : Prop := (-9223372036854775808 ≤ d ∧ d ≤ 9223372036854775807) ∧ (-9223372036854775808 ≤ s ∧ s ≤ 9223372036854775807) ∧ (-9223372036854775808 ≤ o ∧ o ≤ 9223372036854775807) ∧ 0 ≤ m ∧ m ≤ 4294967295
theorem part_size (d s o m : Int) (h : wfN d s o m) (j : Nat) : (K.partAt d s o m j).size ≤ 100 := by
  obtain ⟨h1, h2, h3, h4, h5⟩ := h
  unfold K.partAt
  split
  · exact pD_size d h1.1 h1.2
  · split
    · exact pD_size s h2.1 h2.2
    · split
      · exact pI_size m h4 h5
      · exact pO_size o h3.1 h3.2
theorem parts_size (u d s o m : Int) (h : wfN d s o m) (j : Nat) : ∀ x ∈ partsTo u d s o m j, x.size ≤ 100 := by
  induction j with
  | zero => intro x hx; simp [partsTo] at hx
  | succ j ih =>
    intro x hx
    unfold partsTo at hx
    rcases List.mem_append.1 hx with hx | hx
    · exact ih x hx
    · unfold pick at hx
      split at hx
      · simp at hx
      · obtain rfl := List.mem_singleton.1 hx
        exact part_size d s o m h j
theorem tail_length (r : List ByteArray) (h : ∀ x ∈ r, x.size ≤ 100) : (Lib.joinTail [44, 32] (r.map (·.data.toList))).length ≤ 102 * r.length := by
  induction r with
  | nil => simp [Lib.joinTail]
  | cons x r ih =>
    have h1 := ih fun y hy => h y (List.mem_cons_of_mem _ hy)
    have h2 : x.size ≤ 100 := h x (List.mem_cons_self ..)
    have h3 : x.data.toList.length = x.size := Array.length_toList
    simp only [Lib.joinTail, List.map_cons, List.flatten_cons, List.length_append, List.length_cons, List.length_nil] at h1 ⊢
    omega
theorem join_size (l : List ByteArray) (h : ∀ x ∈ l, x.size ≤ 100) : (Lib.join (l.map (·.data.toList)) [44, 32]).length ≤ 102 * l.length := by
  cases l with
  | nil => simp [Lib.join_nil]
  | cons x r =>
    have h1 := tail_length r fun y hy => h y (List.mem_cons_of_mem _ hy)
    have h2 : x.size ≤ 100 := h x (List.mem_cons_self ..)
    have h3 : x.data.toList.length = x.size := Array.length_toList
    rw [List.map_cons, Lib.join_cons, List.length_append, List.length_cons]
    omega
theorem opName_size : ∀ i : Fin 25, (opName (i.val : Int)).size ≤ 4 := by decide +kernel
theorem name_size (op : Int) (h1 : 1 ≤ op) (h2 : op ≤ 24) : (opName op).size ≤ 4 := by
  have := opName_size ⟨op.toNat, by omega⟩
  rwa [show ((op.toNat : Nat) : Int) = op by omega] at this
theorem text_ok (op d s o m : Int) (h1 : 1 ≤ op) (h2 : op ≤ 24) (h : wfN d s o m) : textOk (opName op) (opUses op) d s o m = true := by
  have hj := join_size _ (parts_size (opUses op) d s o m h 4)
  have hl := partsTo_length (opUses op) d s o m 4
  have hn := name_size op h1 h2
  obtain ⟨⟨a1, a2⟩, ⟨b1, b2⟩, ⟨c1, c2⟩, e1, e2⟩ := h
  simp only [textOk, i64ok, Bool.and_eq_true, decide_eq_true_eq]
  refine ⟨⟨⟨⟨⟨⟨⟨a1, a2⟩, ⟨b1, b2⟩⟩, ⟨c1, c2⟩⟩, e1⟩, e2⟩, by omega⟩, by omega⟩
/-- What code.Text says of an instruction. -/
def textN (op d s o m : Int) : ByteArray × Int := if mayB op d s o m then (textOf (opName op) (partsTo (opUses op) d s o m 4), 0) else (⟨#[]⟩, 2)
theorem mayB_op (op d s o m : Int) (h : mayB op d s o m = true) : 1 ≤ op ∧ op ≤ 24 := by
  unfold mayB at h
  split at h
  · split at h
    · exact ⟨by assumption, by assumption⟩
    · cases h
  · cases h
theorem text_eq (op d s o m : Int) (h : wfN d s o m) : code_Text.f op d s o m = some (textN op d s o m) := by
  unfold code_Text.f textN
  rw [may_eq 7 op d s o m]
  simp only [Option.bind_some]
  cases hm : mayB op d s o m with
  | false => simp
  | true =>
    obtain ⟨h1, h2⟩ := mayB_op _ _ _ _ _ hm
    simp only [if_true]
    rw [of_eq op h1 h2]
    simp only [Option.bind_some]
    rw [if_pos (text_ok op d s o m h1 h2 h)]
/-! ### the reference's text -/
theorem rd_part (l : List ByteArray) (i : Nat) (h : i < l.length) : rdOf ByteArray.empty l (i : Int) = l[i] := by simp [rdOf, List.getD_eq_getElem?_getD, List.getElem?_eq_getElem h]
theorem text_l0 (l : List ByteArray) (hs : ∀ x ∈ l, x.size ≤ 100) (hl : l.length ≤ 1000) (n : Nat) : ∀ (i k : Nat) (acc : ByteArray), 1 ≤ i → i + n = l.length → n < k → acc.size + 102 * n ≤ 1000000 →
    cachetref05_Text.l0 k l acc (i : Int) = some (acc ++ (⟨(Lib.joinTail [44, 32] ((l.drop i).map (·.data.toList))).toArray⟩ : ByteArray)) := by
  induction n with
  | zero =>
    intro i k acc h1 h2 hk hb
    obtain ⟨k, rfl⟩ : ∃ j, k = j + 1 := ⟨k - 1, by omega⟩
    rw [cachetref05_Text.l0, if_neg (by omega), List.drop_of_length_le (by omega)]
    congr 1
    exact ba_ext (by rw [ba_app]; simp [Lib.joinTail])
  | succ n ih =>
    intro i k acc h1 h2 hk hb
    obtain ⟨k, rfl⟩ : ∃ j, k = j + 1 := ⟨k - 1, by omega⟩
    have hi : i < l.length := by omega
    have hx := hs l[i] (List.getElem_mem hi)
    have h2s : (⟨#[44, 32]⟩ : ByteArray).size = 2 := rfl
    rw [cachetref05_Text.l0, if_pos (by omega), if_neg (by omega), if_pos (by omega), if_pos (by omega), rd_part l i hi, ByteArray.size_append, h2s, if_pos (by omega), wrap_small _ (by omega) (by omega)]
    rw [show (i : Int) + 1 = ((i + 1 : Nat) : Int) by omega, ih (i + 1) k _ (by omega) (by omega) (by omega) (by rw [ByteArray.size_append, ByteArray.size_append, h2s]; omega)]
    congr 1
    rw [List.drop_eq_getElem_cons hi]
    generalize List.drop (i + 1) l = r
    generalize l[i] = x
    exact ba_ext (by simp [Lib.joinTail])
theorem text_from (l : List ByteArray) (nm : ByteArray) (hs : ∀ x ∈ l, x.size ≤ 100) (hl : l.length ≤ 1000) (hn : nm.size ≤ 100) (k : Nat) (hk : l.length < k) : cachetref05_Text.l0 k l nm 0 = some (textOf nm l) := by
  obtain ⟨k, rfl⟩ : ∃ j, k = j + 1 := ⟨k - 1, by omega⟩
  cases l with
  | nil => rw [cachetref05_Text.l0, if_neg (by simp), textOf, if_pos rfl]
  | cons x r =>
    have hx := hs x (List.mem_cons_self ..)
    have h1s : (⟨#[32]⟩ : ByteArray).size = 1 := rfl
    have hr : rdOf ByteArray.empty (x :: r) 0 = x := rfl
    simp only [List.length_cons] at hl hk
    rw [cachetref05_Text.l0, if_pos (by simp only [List.length_cons]; omega), if_pos rfl, if_pos (by omega), if_pos (by omega), hr, ByteArray.size_append, h1s, if_pos (by omega), wrap_small _ (by omega) (by omega)]
    rw [show (0 : Int) + 1 = ((1 : Nat) : Int) by omega, text_l0 (x :: r) hs (by simp only [List.length_cons]; omega) r.length 1 k _ (by omega) (by simp only [List.length_cons]; omega) (by omega) (by rw [ByteArray.size_append, ByteArray.size_append, h1s]; omega)]
    rw [textOf, if_neg (by simp), List.map_cons, Lib.join_cons]
    congr 1
    exact ba_ext (by simp)
theorem refname_eq (k : Nat) (op : Int) (h1 : 1 ≤ op) (h2 : op ≤ 24) : cachetref05_Name.f (k + 5) op = some (opName op) := by
  unfold cachetref05_Name.f
  rw [uses_eq k op h1 h2]
  simp only [Option.bind_some, if_true]
  rw [if_pos (by omega), if_pos (by simp; omega)]
  rcases ops24 op h1 h2 with h | h | h | h | h | h | h | h | h | h | h | h | h | h | h | h | h | h | h | h | h | h | h | h <;> subst h <;> rfl
theorem text_j3 (k : Nat) (l : List ByteArray) (hs : ∀ x ∈ l, x.size ≤ 100) (hl : l.length ≤ 4) (op d s o m : Int) (h1 : 1 ≤ op) (h2 : op ≤ 24) : cachetref05_Text.j3 (k + 6) l op d s o m = some (textOf (opName op) l) := by
  have hn := name_size op h1 h2
  rw [cachetref05_Text.j3, refname_eq k op h1 h2]
  simp only [Option.bind_some]
  exact text_from l _ hs (by omega) (by omega) _ (by omega)
theorem pick_sizes (u f : Int) (s : ByteArray) (h : s.size ≤ 100) : ∀ x ∈ pick u f s, x.size ≤ 100 := by
  intro x hx
  unfold pick at hx
  split at hx
  · simp at hx
  · obtain rfl := List.mem_singleton.1 hx
    exact h
theorem pick_length (u f : Int) (s : ByteArray) : (pick u f s).length ≤ 1 := by
  unfold pick; split <;> simp
theorem app_sizes {a b : List ByteArray} (ha : ∀ x ∈ a, x.size ≤ 100) (hb : ∀ x ∈ b, x.size ≤ 100) : ∀ x ∈ a ++ b, x.size ≤ 100 := fun x hx => (List.mem_append.1 hx).elim (ha x) (hb x)
theorem app_one {a : List ByteArray} {b : ByteArray} (ha : ∀ x ∈ a, x.size ≤ 100) (hb : b.size ≤ 100) : ∀ x ∈ a ++ [b], x.size ≤ 100 := app_sizes ha (fun x hx => by obtain rfl := List.mem_singleton.1 hx; exact hb)
theorem text_j2 (k : Nat) (l : List ByteArray) (hs : ∀ x ∈ l, x.size ≤ 100) (hl : l.length ≤ 3) (u op d s o m : Int) (h1 : 1 ≤ op) (h2 : op ≤ 24) (o1 : -32768 ≤ o) (o2 : o ≤ 32767) :
    cachetref05_Text.j2 (k + 27) (Go.bits .and .i64 u 4 != 0) l op d s o m = some (textOf (opName op) (l ++ pick u 4 (pO o))) := by
  rw [cachetref05_Text.j2]
  by_cases hb : Go.bits .and .i64 u 4 = 0
  · rw [if_neg (by simp [hb]), pick, if_pos hb, List.append_nil]
    exact text_j3 (k + 20) l hs (by omega) op d s o m h1 h2
  · rw [if_pos (by simp [hb]), pick, if_neg hb]
    have hps := app_one hs (pO_size o (by omega) (by omega))
    by_cases hn : o < 0
    · rw [if_pos hn, pO_neg o hn] at *
      have hz := itoa_size (-o) (by omega) (by omega)
      rw [wrap_small _ (by omega) (by omega), digits_int (k + 26) (-o) (by omega) (by omega) (by omega)]
      simp only [Option.bind_some]
      rw [if_pos (by omega), if_pos (by omega)]
      exact text_j3 (k + 20) _ hps (by simp; omega) op d s o m h1 h2
    · have hz := itoa_size o (by omega) (by omega)
      have hp : pO o = (⟨#[43]⟩ : ByteArray) ++ ⟨(Lib.itoa o).toArray⟩ := by unfold pO; rw [if_neg hn]
      rw [hp] at hps ⊢
      rw [if_neg hn, digits_int (k + 26) o (by omega) (by omega) (by omega)]
      simp only [Option.bind_some]
      rw [if_pos (by omega), if_pos (by omega)]
      exact text_j3 (k + 20) _ hps (by simp; omega) op d s o m h1 h2
theorem text_j1 (k : Nat) (l : List ByteArray) (hs : ∀ x ∈ l, x.size ≤ 100) (hl : l.length ≤ 2) (u op d s o m : Int) (h1 : 1 ≤ op) (h2 : op ≤ 24) (o1 : -32768 ≤ o) (o2 : o ≤ 32767) (m1 : 0 ≤ m) (m2 : m ≤ 4294967295) :
    cachetref05_Text.j1 (k + 28) (Go.bits .and .i64 u 4 != 0) (Go.bits .and .i64 u 8 != 0) l op d s o m = some (textOf (opName op) ((l ++ pick u 8 (pI m)) ++ pick u 4 (pO o))) := by
  rw [cachetref05_Text.j1]
  by_cases hb : Go.bits .and .i64 u 8 = 0
  · rw [if_neg (by simp [hb]), show pick u 8 (pI m) = [] by rw [pick, if_pos hb], List.append_nil]
    exact text_j2 k l hs (by omega) u op d s o m h1 h2 o1 o2
  · rw [if_pos (by simp [hb]), show pick u 8 (pI m) = [pI m] by rw [pick, if_neg hb]]
    rw [wrap_small _ (by omega) (by omega), digits_int (k + 27) m (by omega) (by omega) (by omega), ← pI_itoa m m1]
    simp only [Option.bind_some]
    rw [if_pos (by omega)]
    exact text_j2 k _ (app_one hs (pI_size m m1 m2)) (by simp; omega) u op d s o m h1 h2 o1 o2
theorem text_j0 (k : Nat) (l : List ByteArray) (hs : ∀ x ∈ l, x.size ≤ 100) (hl : l.length ≤ 1) (u op d s o m : Int) (h1 : 1 ≤ op) (h2 : op ≤ 24) (s1 : 0 ≤ s) (s2 : s ≤ 9) (o1 : -32768 ≤ o) (o2 : o ≤ 32767) (m1 : 0 ≤ m) (m2 : m ≤ 4294967295) :
    cachetref05_Text.j0 (k + 29) (Go.bits .and .i64 u 2 != 0) (Go.bits .and .i64 u 4 != 0) (Go.bits .and .i64 u 8 != 0) l op d s o m = some (textOf (opName op) (((l ++ pick u 2 (pD s)) ++ pick u 8 (pI m)) ++ pick u 4 (pO o))) := by
  rw [cachetref05_Text.j0]
  by_cases hb : Go.bits .and .i64 u 2 = 0
  · rw [if_neg (by simp [hb]), show pick u 2 (pD s) = [] by rw [pick, if_pos hb], List.append_nil]
    exact text_j1 k l hs (by omega) u op d s o m h1 h2 o1 o2 m1 m2
  · rw [if_pos (by simp [hb]), show pick u 2 (pD s) = [pD s] by rw [pick, if_neg hb]]
    have hz := itoa_size s (by omega) (by omega)
    rw [digits_int (k + 28) s (by omega) (by omega) (by omega)]
    simp only [Option.bind_some]
    rw [if_pos (by omega), if_pos (by omega)]
    exact text_j1 k _ (app_one hs (pD_size s (by omega) (by omega))) (by simp; omega) u op d s o m h1 h2 o1 o2 m1 m2
theorem reftext_eq (k : Nat) (op d s o m : Int) (h1 : 1 ≤ op) (h2 : op ≤ 24) (d1 : 0 ≤ d) (d2 : d ≤ 9) (s1 : 0 ≤ s) (s2 : s ≤ 9) (o1 : -32768 ≤ o) (o2 : o ≤ 32767) (m1 : 0 ≤ m) (m2 : m ≤ 4294967295) :
    cachetref05_Text.f (k + 29) op d s o m = some (textOf (opName op) (partsTo (opUses op) d s o m 4)) := by
  have e : partsTo (opUses op) d s o m 4 = ((pick (opUses op) 1 (pD d) ++ pick (opUses op) 2 (pD s)) ++ pick (opUses op) 8 (pI m)) ++ pick (opUses op) 4 (pO o) := rfl
  rw [e]
  unfold cachetref05_Text.f
  rw [show k + 29 = (k + 24) + 5 by omega, uses_eq (k + 24) op h1 h2]
  simp only [Option.bind_some]
  by_cases hb : Go.bits .and .i64 (opUses op) 1 = 0
  · rw [if_neg (by simp [hb]), show pick (opUses op) 1 (pD d) = [] by rw [pick, if_pos hb]]
    exact text_j0 k [] (fun x hx => by simp at hx) (by simp) (opUses op) op d s o m h1 h2 s1 s2 o1 o2 m1 m2
  · rw [if_pos (by simp [hb]), show pick (opUses op) 1 (pD d) = [pD d] by rw [pick, if_neg hb]]
    have hz := itoa_size d (by omega) (by omega)
    rw [digits_int (k + 24 + 5) d (by omega) (by omega) (by omega)]
    simp only [Option.bind_some]
    rw [if_pos (by omega), if_pos (by simp)]
    exact text_j0 k [pD d] (fun x hx => by obtain rfl := List.mem_singleton.1 hx; exact pD_size d (by omega) (by omega)) (by simp) (opUses op) op d s o m h1 h2 s1 s2 o1 o2 m1 m2
end Go.Proofs.YthkepoimagnagaaDoor.Plain
