/- Plain law: two instructions' texts are the same just if they are the same instruction; two extensions' bytes likewise. Conditions: they may be; the numbers fit their words. -/
import Derived.Test.YthkepoimagnagaaDoorPlainT
import Derived.Test.YthkepoimagnagaaDoorPlainB
namespace Go.Proofs.YthkepoimagnagaaDoor.Plain
open Go.RowKit Go.Proofs.YthkepoimagnagaaDoor.K Go.Proofs.YthkepoimagnagaaDoorW.PrintWords Go.Proofs.YthkepoimagnagaaDoorW.PrintLast
set_option linter.unusedVariables false
set_option linter.unusedSimpArgs false

/-! ### numerals -/
def valD (l : List UInt8) : Nat := l.foldl (fun a d => 10 * a + (d.toNat - 48)) 0
theorem valD_snoc (l : List UInt8) (d : UInt8) : valD (l ++ [d]) = 10 * valD l + (d.toNat - 48) := by simp [valD]
theorem digit_nat (n : Nat) (h : n < 10) : (UInt8.ofNat (48 + n)).toNat = 48 + n := by
  rw [UInt8.toNat_ofNat']; omega
theorem valD_dec (n : Nat) : valD (Lib.decDigits n) = n := by
  induction n using Nat.strongRecOn with
  | _ n ih =>
    by_cases h : n < 10
    · rw [Lib.decDigits_one h]
      show 10 * 0 + ((UInt8.ofNat (48 + n)).toNat - 48) = n
      rw [digit_nat n h]; omega
    · have e : Lib.decDigits n = Lib.decDigits (n / 10) ++ [UInt8.ofNat (48 + n % 10)] := by rw [Lib.decDigits, dif_neg h]
      rw [e, valD_snoc, ih (n / 10) (by omega), digit_nat _ (Nat.mod_lt _ (by omega))]; omega
theorem dec_inj {n m : Nat} (h : Lib.decDigits n = Lib.decDigits m) : n = m := by rw [← valD_dec n, h, valD_dec]
theorem dec_ge (n : Nat) : ∀ c ∈ Lib.decDigits n, 48 ≤ c.toNat := by
  induction n using Nat.strongRecOn with
  | _ n ih =>
    by_cases h : n < 10
    · rw [Lib.decDigits_one h]
      intro c hc
      obtain rfl := List.mem_singleton.1 hc
      rw [digit_nat n h]; omega
    · have e : Lib.decDigits n = Lib.decDigits (n / 10) ++ [UInt8.ofNat (48 + n % 10)] := by rw [Lib.decDigits, dif_neg h]
      rw [e]
      intro c hc
      rcases List.mem_append.1 hc with hc | hc
      · exact ih (n / 10) (by omega) c hc
      · obtain rfl := List.mem_singleton.1 hc
        rw [digit_nat _ (Nat.mod_lt _ (by omega))]; omega
/-- A byte of a part: never a space, never a comma. -/
def okB (c : UInt8) : Prop := c ≠ 32 ∧ c ≠ 44
theorem okB_ge {c : UInt8} (h : 48 ≤ c.toNat) : okB c := by
  constructor <;> (rintro rfl; revert h; decide)
theorem itoa_ok (n : Int) : ∀ c ∈ Lib.itoa n, okB c := by
  unfold Lib.itoa
  split
  · intro c hc
    rcases List.mem_cons.1 hc with rfl | hc
    · constructor <;> decide
    · exact okB_ge (dec_ge _ c hc)
  · intro c hc
    exact okB_ge (dec_ge _ c hc)
theorem mk_list (l : List UInt8) : (⟨l.toArray⟩ : ByteArray).data.toList = l := rfl
theorem pD_list (n : Int) : (pD n).data.toList = 114 :: Lib.itoa n := by
  unfold pD; rw [ba_app]; rfl
theorem pD_ok (n : Int) : ∀ c ∈ (pD n).data.toList, okB c := by
  rw [pD_list]
  intro c hc
  rcases List.mem_cons.1 hc with rfl | hc
  · constructor <;> decide
  · exact itoa_ok n c hc
theorem pI_ok (n : Int) : ∀ c ∈ (pI n).data.toList, okB c := fun c hc => okB_ge (dec_ge _ c hc)
theorem pO_ok (n : Int) : ∀ c ∈ (pO n).data.toList, okB c := by
  unfold pO
  split
  · exact itoa_ok n
  · rw [ba_app]
    intro c hc
    rcases List.mem_append.1 hc with hc | hc
    · obtain rfl := List.mem_singleton.1 hc
      constructor <;> decide
    · exact itoa_ok n c hc
theorem part_ok (d s o m : Int) (j : Nat) : ∀ c ∈ (K.partAt d s o m j).data.toList, okB c := by
  unfold K.partAt
  split
  · exact pD_ok d
  · split
    · exact pD_ok s
    · split
      · exact pI_ok m
      · exact pO_ok o
theorem parts_ok (u d s o m : Int) (j : Nat) : ∀ x ∈ partsTo u d s o m j, ∀ c ∈ x.data.toList, okB c := by
  induction j with
  | zero => intro x hx; simp [partsTo] at hx
  | succ j ih =>
    intro x hx
    unfold partsTo at hx
    rcases List.mem_append.1 hx with hx | hx
    · exact ih x hx
    · unfold pick at hx
      split at hx
      · simp at hx
      · obtain rfl := List.mem_singleton.1 hx
        exact part_ok d s o m j
theorem itoa_nat (n : Int) (h : 0 ≤ n) : Lib.itoa n = Lib.decDigits n.toNat := by unfold Lib.itoa; rw [if_neg (by omega)]
theorem pD_inj {n m : Int} (hn : 0 ≤ n) (hm : 0 ≤ m) (h : pD n = pD m) : n = m := by
  have h1 := congrArg (fun b : ByteArray => b.data.toList) h
  simp only [pD_list, List.cons.injEq, true_and] at h1
  rw [itoa_nat n hn, itoa_nat m hm] at h1
  have := dec_inj h1
  omega
theorem pI_inj {n m : Int} (hn : 0 ≤ n) (hm : 0 ≤ m) (h : pI n = pI m) : n = m := by
  have h1 : Lib.decDigits n.toNat = Lib.decDigits m.toNat := congrArg (fun b : ByteArray => b.data.toList) h
  have := dec_inj h1
  omega
theorem pO_list (n : Int) : (pO n).data.toList = if n < 0 then 45 :: Lib.decDigits n.natAbs else 43 :: Lib.decDigits n.toNat := by
  unfold pO Lib.itoa
  by_cases h : n < 0
  · simp only [h, if_true]
  · simp only [h, if_false]
    rw [ba_app]; rfl
theorem pO_inj {n m : Int} (h : pO n = pO m) : n = m := by
  have h1 := congrArg (fun b : ByteArray => b.data.toList) h
  simp only [pO_list] at h1
  by_cases hn : n < 0 <;> by_cases hm : m < 0
  · simp only [hn, hm, if_true, List.cons.injEq, true_and] at h1
    have := dec_inj h1
    omega
  · simp only [hn, hm, if_true, if_false, List.cons.injEq] at h1
    exact absurd h1.1 (by decide)
  · simp only [hn, hm, if_true, if_false, List.cons.injEq] at h1
    exact absurd h1.1 (by decide)
  · simp only [hn, hm, if_false, List.cons.injEq, true_and] at h1
    have := dec_inj h1
    omega
/-! ### cutting at a byte -/
theorem cut (c : UInt8) : ∀ (x y R S : List UInt8), c ∉ x → c ∉ y → (R = [] ∨ ∃ r, R = c :: r) → (S = [] ∨ ∃ r, S = c :: r) → x ++ R = y ++ S → x = y ∧ R = S
  | [], [], R, S, _, _, _, _, h => ⟨rfl, h⟩
  | [], b :: y, R, S, _, hy, hR, _, h => by
    rcases hR with rfl | ⟨r, rfl⟩
    · simp at h
    · simp only [List.nil_append, List.cons_append, List.cons.injEq] at h
      exact absurd (h.1 ▸ List.mem_cons_self ..) hy
  | a :: x, [], R, S, hx, _, _, hS, h => by
    rcases hS with rfl | ⟨r, rfl⟩
    · simp at h
    · simp only [List.nil_append, List.cons_append, List.cons.injEq] at h
      exact absurd (h.1 ▸ List.mem_cons_self ..) hx
  | a :: x, b :: y, R, S, hx, hy, hR, hS, h => by
    simp only [List.cons_append, List.cons.injEq] at h
    obtain ⟨rfl, h⟩ := h
    obtain ⟨h1, h2⟩ := cut c x y R S (fun hc => hx (List.mem_cons_of_mem _ hc)) (fun hc => hy (List.mem_cons_of_mem _ hc)) hR hS h
    exact ⟨by rw [h1], h2⟩
theorem tail_form (r : List (List UInt8)) : Lib.joinTail [44, 32] r = [] ∨ ∃ z, Lib.joinTail [44, 32] r = 44 :: z := by
  cases r with
  | nil => exact Or.inl rfl
  | cons x r => exact Or.inr ⟨32 :: (x ++ Lib.joinTail [44, 32] r), by simp [Lib.joinTail]⟩
theorem tail_cons (x : List UInt8) (r : List (List UInt8)) : Lib.joinTail [44, 32] (x :: r) = 44 :: 32 :: (x ++ Lib.joinTail [44, 32] r) := by simp [Lib.joinTail]
theorem tail_inj : ∀ (l m : List (List UInt8)), (∀ x ∈ l, (44 : UInt8) ∉ x) → (∀ x ∈ m, (44 : UInt8) ∉ x) → Lib.joinTail [44, 32] l = Lib.joinTail [44, 32] m → l = m
  | [], [], _, _, _ => rfl
  | [], y :: m, _, _, h => by rw [tail_cons] at h; simp [Lib.joinTail] at h
  | x :: l, [], _, _, h => by rw [tail_cons] at h; simp [Lib.joinTail] at h
  | x :: l, y :: m, hl, hm, h => by
    rw [tail_cons, tail_cons] at h
    simp only [List.cons.injEq, true_and] at h
    obtain ⟨h1, h2⟩ := cut 44 x y _ _ (hl x (List.mem_cons_self ..)) (hm y (List.mem_cons_self ..)) (tail_form l) (tail_form m) h
    rw [h1, tail_inj l m (fun z hz => hl z (List.mem_cons_of_mem _ hz)) (fun z hz => hm z (List.mem_cons_of_mem _ hz)) h2]
theorem join_inj (l m : List (List UInt8)) (hl : ∀ x ∈ l, (44 : UInt8) ∉ x) (hm : ∀ x ∈ m, (44 : UInt8) ∉ x) (h0 : l ≠ []) (h1 : m ≠ []) (h : Lib.join l [44, 32] = Lib.join m [44, 32]) : l = m := by
  obtain ⟨x, l, rfl⟩ := List.exists_cons_of_ne_nil h0
  obtain ⟨y, m, rfl⟩ := List.exists_cons_of_ne_nil h1
  rw [Lib.join_cons, Lib.join_cons] at h
  obtain ⟨h2, h3⟩ := cut 44 x y _ _ (hl x (List.mem_cons_self ..)) (hm y (List.mem_cons_self ..)) (tail_form l) (tail_form m) h
  rw [h2, tail_inj l m (fun z hz => hl z (List.mem_cons_of_mem _ hz)) (fun z hz => hm z (List.mem_cons_of_mem _ hz)) h3]
/-! ### texts -/
theorem names_ok : ∀ i : Fin 25, (32 : UInt8) ∉ (opName (i.val : Int)).data.toList := by decide +kernel
theorem names_ne : ∀ i j : Fin 25, 1 ≤ i.val → 1 ≤ j.val → (opName (i.val : Int)).data.toList = (opName (j.val : Int)).data.toList → i = j := by decide +kernel
theorem name_ok (op : Int) (h1 : 1 ≤ op) (h2 : op ≤ 24) : (32 : UInt8) ∉ (opName op).data.toList := by
  have := names_ok ⟨op.toNat, by omega⟩
  rwa [show ((op.toNat : Nat) : Int) = op by omega] at this
theorem name_inj (a b : Int) (h1 : 1 ≤ a) (h2 : a ≤ 24) (h3 : 1 ≤ b) (h4 : b ≤ 24) (h : (opName a).data.toList = (opName b).data.toList) : a = b := by
  have := names_ne ⟨a.toNat, by omega⟩ ⟨b.toNat, by omega⟩ (by show 1 ≤ a.toNat; omega) (by show 1 ≤ b.toNat; omega)
  simp only at this
  rw [show ((a.toNat : Nat) : Int) = a by omega, show ((b.toNat : Nat) : Int) = b by omega] at this
  have h5 := congrArg Fin.val (this h)
  simp only at h5
  omega
theorem text_list (nm : ByteArray) (l : List ByteArray) : (textOf nm l).data.toList = nm.data.toList ++ (if l = [] then [] else 32 :: Lib.join (l.map (·.data.toList)) [44, 32]) := by
  unfold textOf
  by_cases h : l = []
  · rw [if_pos h, if_pos h, List.append_nil]
  · rw [if_neg h, if_neg h, ba_app, ba_app, List.append_assoc]; rfl
theorem map_inj (l m : List ByteArray) (h : l.map (fun b => b.data.toList) = m.map (fun b => b.data.toList)) : l = m := by
  induction l generalizing m with
  | nil => cases m with
    | nil => rfl
    | cons y m => simp at h
  | cons x l ih => cases m with
    | nil => simp at h
    | cons y m =>
      simp only [List.map_cons, List.cons.injEq] at h
      rw [ba_ext h.1, ih m h.2]
theorem textOf_inj (n1 n2 : ByteArray) (l m : List ByteArray) (h1 : (32 : UInt8) ∉ n1.data.toList) (h2 : (32 : UInt8) ∉ n2.data.toList) (hl : ∀ x ∈ l, ∀ c ∈ x.data.toList, okB c) (hm : ∀ x ∈ m, ∀ c ∈ x.data.toList, okB c)
    (h : (textOf n1 l).data.toList = (textOf n2 m).data.toList) : n1.data.toList = n2.data.toList ∧ l = m := by
  rw [text_list, text_list] at h
  have hf : ∀ z : List ByteArray, (if z = [] then ([] : List UInt8) else 32 :: Lib.join (z.map (·.data.toList)) [44, 32]) = [] ∨ ∃ r, (if z = [] then ([] : List UInt8) else 32 :: Lib.join (z.map (·.data.toList)) [44, 32]) = 32 :: r := by
    intro z
    by_cases hz : z = []
    · rw [if_pos hz]; exact Or.inl rfl
    · rw [if_neg hz]; exact Or.inr ⟨_, rfl⟩
  obtain ⟨e1, e2⟩ := cut 32 _ _ _ _ h1 h2 (hf l) (hf m) h
  refine ⟨e1, ?_⟩
  by_cases hz : l = [] <;> by_cases hy : m = []
  · rw [hz, hy]
  · rw [if_pos hz, if_neg hy] at e2; simp at e2
  · rw [if_neg hz, if_pos hy] at e2; simp at e2
  · rw [if_neg hz, if_neg hy] at e2
    simp only [List.cons.injEq, true_and] at e2
    have hno : ∀ z : List ByteArray, (∀ x ∈ z, ∀ c ∈ x.data.toList, okB c) → ∀ x ∈ z.map (fun b : ByteArray => b.data.toList), (44 : UInt8) ∉ x := by
      intro z hz x hx hc
      obtain ⟨b, hb, rfl⟩ := List.mem_map.1 hx
      exact (hz b hb _ hc).2 rfl
    exact map_inj l m (join_inj _ _ (hno l hl) (hno m hm) (by simpa using hz) (by simpa using hy) e2)
theorem pick_inj (u f : Int) (a b : ByteArray) (h : pick u f a = pick u f b) (hb : Go.bits .and .i64 u f ≠ 0) : a = b := by
  unfold pick at h
  rw [if_neg hb, if_neg hb] at h
  injection h
theorem pick_len (u f : Int) (a b : ByteArray) : (pick u f a).length = (pick u f b).length := by
  unfold pick; split <;> rfl
theorem w_zero (u : Int) (f n a b : Int) (h : W (Go.bits .and .i64 u f != 0) n a b = true) (hb : Go.bits .and .i64 u f = 0) : n = 0 := by
  unfold W at h
  rw [hb] at h
  simpa using h
theorem text_inj (x y : SI) (hx : mayS x = true) (hy : mayS y = true) (wx : wfS x) (wy : wfS y) (h : (textN x.f0 x.f1 x.f2 x.f3 x.f4).1.data.toList = (textN y.f0 y.f1 y.f2 y.f3 y.f4).1.data.toList) : x = y := by
  obtain ⟨a1, a2, a3, a4, a5, a6, a7, a8⟩ := may_facts x hx
  obtain ⟨b1, b2, b3, b4, b5, b6, b7, b8⟩ := may_facts y hy
  unfold mayS at hx hy
  simp only [textN, hx, hy, if_true] at h
  obtain ⟨e1, e2⟩ := textOf_inj _ _ _ _ (name_ok _ a1 a2) (name_ok _ b1 b2) (parts_ok _ _ _ _ _ 4) (parts_ok _ _ _ _ _ 4) h
  have e0 := name_inj _ _ a1 a2 b1 b2 e1
  obtain ⟨op, d, s, o, m⟩ := x
  obtain ⟨op', d', s', o', m'⟩ := y
  simp only at *
  subst e0
  have e3 : ((pick (opUses op) 1 (pD d) ++ pick (opUses op) 2 (pD s)) ++ pick (opUses op) 8 (pI m)) ++ pick (opUses op) 4 (pO o) = ((pick (opUses op) 1 (pD d') ++ pick (opUses op) 2 (pD s')) ++ pick (opUses op) 8 (pI m')) ++ pick (opUses op) 4 (pO o') := e2
  obtain ⟨e4, p4⟩ := List.append_inj e3 (by simp only [List.length_append, pick_len _ _ (pD d) (pD d'), pick_len _ _ (pD s) (pD s'), pick_len _ _ (pI m) (pI m')])
  obtain ⟨e5, p8⟩ := List.append_inj e4 (by simp only [List.length_append, pick_len _ _ (pD d) (pD d'), pick_len _ _ (pD s) (pD s')])
  obtain ⟨p1, p2⟩ := List.append_inj e5 (pick_len _ _ _ _)
  unfold mayB at hx hy
  rw [if_pos a1, if_pos a2] at hx hy
  simp only [Bool.and_eq_true, decide_eq_true_eq] at hx hy
  obtain ⟨x1, x2, x3, x4⟩ := hx
  obtain ⟨y1, y2, y3, y4⟩ := hy
  have q1 : d = d' := by
    by_cases hb : Go.bits .and .i64 (opUses op) 1 = 0
    · rw [w_zero _ _ _ _ _ x1 hb, w_zero _ _ _ _ _ y1 hb]
    · exact pD_inj (by omega) (by omega) (pick_inj _ _ _ _ p1 hb)
  have q2 : s = s' := by
    by_cases hb : Go.bits .and .i64 (opUses op) 2 = 0
    · rw [w_zero _ _ _ _ _ x2 hb, w_zero _ _ _ _ _ y2 hb]
    · exact pD_inj (by omega) (by omega) (pick_inj _ _ _ _ p2 hb)
  have q3 : o = o' := by
    by_cases hb : Go.bits .and .i64 (opUses op) 4 = 0
    · rw [w_zero _ _ _ _ _ x3 hb, w_zero _ _ _ _ _ y3 hb]
    · exact pO_inj (pick_inj _ _ _ _ p4 hb)
  have q4 : m = m' := by
    by_cases hb : Go.bits .and .i64 (opUses op) 8 = 0
    · unfold most at x4 y4
      rw [if_pos hb] at x4 y4
      have := wx.1
      have := wy.1
      simp only at *
      omega
    · exact pI_inj wx.1 wy.1 (pick_inj _ _ _ _ p8 hb)
  rw [q1, q2, q3, q4]
/-! ### bytes -/
def byteP (b : Int) : Prop := 0 ≤ b ∧ b ≤ 255
def bytesI (l : List Int) : Prop := ∀ b ∈ l, byteI b
theorem str_inj : ∀ (l m : List Int), bytesI l → bytesI m → (l.map fun n => UInt8.ofNat n.toNat) = (m.map fun n => UInt8.ofNat n.toNat) → l = m
  | [], [], _, _, _ => rfl
  | [], y :: m, _, _, h => by simp at h
  | x :: l, [], _, _, h => by simp at h
  | x :: l, y :: m, hl, hm, h => by
    simp only [List.map_cons, List.cons.injEq] at h
    obtain ⟨x0, x1⟩ := hl x (List.mem_cons_self ..)
    obtain ⟨y0, y1⟩ := hm y (List.mem_cons_self ..)
    have h1 := congrArg UInt8.toNat h.1
    rw [UInt8.toNat_ofNat', UInt8.toNat_ofNat'] at h1
    rw [show x = y by omega, str_inj l m (fun b hb => hl b (List.mem_cons_of_mem _ hb)) (fun b hb => hm b (List.mem_cons_of_mem _ hb)) h.2]
theorem insN_bytes (x : SI) (h : mayS x = true) (hw : wfS x) : bytesI (insN x) := by
  obtain ⟨h1, h2, h3, h4, h5, h6, h7, h8⟩ := may_facts x h
  obtain ⟨m0, m1⟩ := hw
  intro b hb
  unfold insN b2 b4 at hb
  simp only [List.mem_append, List.mem_cons, List.not_mem_nil, or_false] at hb
  unfold byteI
  by_cases c : x.f3 < 0
  · rw [if_pos c] at hb; omega
  · rw [if_neg c] at hb; omega
theorem bytesN_bytes (a : Int) (l : List SI) (h0 : 0 ≤ a) (h1 : a ≤ 256) (hm : l.all mayS = true) (hw : ∀ x ∈ l, wfS x) : bytesI (bytesN a l) := by
  intro b hb
  unfold bytesN b2 at hb
  simp only [List.mem_append, List.mem_cons, List.not_mem_nil, or_false, List.mem_flatMap] at hb
  rcases hb with ((hb | hb) | hb) | ⟨x, hx, hb⟩
  · unfold byteI; omega
  · unfold byteI; omega
  · unfold byteI; omega
  · exact insN_bytes x (List.all_eq_true.1 hm x hx) (hw x hx) b hb
theorem bytesN_inj (a b : Int) (l m : List SI) (ha : checkN a l = 0) (hb : checkN b m = 0) (hl : ∀ x ∈ l, wfS x) (hm : ∀ x ∈ m, wfS x) (h : bytesN a l = bytesN b m) : a = b ∧ l = m := by
  obtain ⟨a1, a2, a3, a4⟩ := check_zero a l ha
  obtain ⟨b1, b2', b3, b4'⟩ := check_zero b m hb
  unfold bytesN at h
  have h1 : b2 a ++ (b2 (l.length : Int) ++ l.flatMap insN) = b2 b ++ (b2 (m.length : Int) ++ m.flatMap insN) := by simpa [List.append_assoc] using h
  obtain ⟨e1, e2⟩ := List.append_inj h1 rfl
  obtain ⟨e3, e4⟩ := List.append_inj e2 rfl
  unfold b2 at e1
  simp only [List.cons.injEq, and_true] at e1
  refine ⟨by omega, ?_⟩
  rw [← dec_flat l a3 hl, e4, dec_flat m b3 hm]
theorem enc_inj (a b : Int) (l m : List SI) (ha : checkN a l = 0) (hb : checkN b m = 0) (hl : ∀ x ∈ l, wfS x) (hm : ∀ x ∈ m, wfS x) : (strOfNums (encN a l)).toList = (strOfNums (encN b m)).toList ↔ a = b ∧ l = m := by
  constructor
  · intro h
    rw [ByteArray.toList_eq, ByteArray.toList_eq, encN_eq a l ha hl, encN_eq b m hb hm] at h
    obtain ⟨a1, a2, a3, a4⟩ := check_zero a l ha
    obtain ⟨b1, b2', b3, b4'⟩ := check_zero b m hb
    exact bytesN_inj a b l m ha hb hl hm (str_inj _ _ (bytesN_bytes a l a1 a2 a3 hl) (bytesN_bytes b m b1 b2' b3 hm) h)
  · rintro ⟨rfl, rfl⟩; rfl
end Go.Proofs.YthkepoimagnagaaDoor.Plain
