/- The law on what suits is true of all bytes, walked over what Suits and Serve compute. No condition. -/
import Derived.Test.YtbdifcgkokajlaaGSuitO
import Derived.Test.YtbdifcgkokajlaaGLawA
import Derived.Test.YtbdifcgkokajlaaGNewI
import Derived.Test.YtbdifcgkokajlaaGDraw4
import Derived.Test.YtbdifcgkokajlaaR
namespace Go.Proofs.Ytbdifcgkokajlaa.XSuited
open Go.Proofs.Ytbdifcgkokajlaa.G Go.Proofs.Ytbdifcgkokajlaa.K Go Go.RowKit Go.Proofs.YtbdifcgkokajlaaW.PrintWords Go.Proofs.YtbdifcgkokajlaaW.PrintLast Go.Proofs.YtbdifcgkokajlaaW.PrintMore Go.Proofs.Ytbdifcgkokajlaa.PlainC Go.Proofs.Ytbdifcgkokajlaa.RowC
set_option linter.unusedVariables false
set_option linter.unusedSimpArgs false
theorem at_range (l : List Int) (hl : l.length ≤ 1048576) (hb : B8 l) (j : Int) (j0 : 0 ≤ j) (j9 : j ≤ 9) : ∃ x, laws_at.f l j = some x ∧ 0 ≤ x ∧ x ≤ 255 := by
  unfold laws_at.f
  by_cases h : j < (l.length : Int)
  · have r := hb.rd (i := j) j0 h
    exact ⟨_, by rw [if_pos h, if_pos j0], by rw [w64 (by omega) (by omega)]; omega, by rw [w64 (by omega) (by omega)]; omega⟩
  · refine ⟨_, by rw [if_neg h], ?_⟩
    rw [w64 (x := (l.length : Int) * 7) (by omega) (by omega), w64 (x := j * 31) (by omega) (by omega), w64 (by omega) (by omega), tmod_pos (by omega)]
    omega
/-! A word masked, bit by bit. -/
def maskN (x a o : Nat) : Nat := (x &&& a) ||| (o &&& (2 ^ 64 - (a + 1)))
theorem maskN_lt {x a o : Nat} (hx : x < 65536) (ho : o < 65536) : maskN x a o < 65536 := by
  have h1 : x &&& a < 2 ^ 16 := Nat.lt_of_le_of_lt Nat.and_le_left hx
  have h2 : o &&& (2 ^ 64 - (a + 1)) < 2 ^ 16 := Nat.lt_of_le_of_lt Nat.and_le_left ho
  exact Nat.or_lt_two_pow h1 h2
theorem maskN_bit {x a o : Nat} (ha : a < 65536) (i : Nat) : (maskN x a o).testBit i = ((x.testBit i && a.testBit i) || (o.testBit i && (decide (i < 64) && !a.testBit i))) := by
  unfold maskN
  rw [Nat.testBit_or, Nat.testBit_and, Nat.testBit_and, Nat.testBit_two_pow_sub_succ (by omega : a < 2 ^ 64)]
theorem bit_high {x i : Nat} (hx : x < 65536) (hi : 16 ≤ i) : x.testBit i = false := Nat.testBit_lt_two_pow (Nat.lt_of_lt_of_le hx (by show 2 ^ 16 ≤ 2 ^ i; exact Nat.pow_le_pow_right (by decide) hi))
theorem maskN_ones {x o : Nat} (hx : x < 65536) (ho : o < 65536) : maskN x 65535 o = x := by
  refine Nat.eq_of_testBit_eq fun i => ?_
  rw [maskN_bit (by decide), show (65535 : Nat) = 2 ^ 16 - 1 from rfl, Nat.testBit_two_pow_sub_one]
  by_cases h : i < 16
  · simp [h]
  · simp [h, bit_high (i := i) hx (by omega), bit_high (i := i) ho (by omega)]
theorem maskN_none {x o : Nat} (ho : o < 65536) : maskN x 0 o = o := by
  refine Nat.eq_of_testBit_eq fun i => ?_
  rw [maskN_bit (by decide), Nat.zero_testBit]
  by_cases h : i < 64
  · simp [h]
  · simp [h, bit_high (i := i) ho (by omega)]
theorem maskN_twice {x a o : Nat} (ha : a < 65536) (ho : o < 65536) : maskN (maskN x a o) a o = maskN x a o := by
  refine Nat.eq_of_testBit_eq fun i => ?_
  rw [maskN_bit ha, maskN_bit ha]
  by_cases h : i < 64
  · cases x.testBit i <;> cases a.testBit i <;> cases o.testBit i <;> simp [h]
  · simp [bit_high ha (show 16 ≤ i by omega), bit_high ho (show 16 ≤ i by omega)]
theorem bits_nat (f : BinOp) (x y : Nat) (hx : x < 65536) (hy : y < 65536) (r : Nat) (hr : r < 2 ^ 63) (h : Go.bits f .i64 (x : Int) (y : Int) = IntKind.i64.wrap ((r : Nat) : Int)) : Go.bits f .i64 (x : Int) (y : Int) = (r : Int) := by
  rw [h, i64wrap, w64 (by omega) (by omega)]
theorem maskOf_nat {x a o : Nat} (hx : x < 65536) (ha : a < 65536) (ho : o < 65536) : maskOf (x : Int) (a : Int) (o : Int) = ((maskN x a o : Nat) : Int) := by
  have m : ∀ z : Nat, z < 65536 → ((z : Int) % ((2 ^ 64 : Nat) : Int)).toNat = z := fun z hz => by omega
  have e1 : Go.bits .and .i64 (x : Int) (a : Int) = ((x &&& a : Nat) : Int) := by
    have hlt : x &&& a < 2 ^ 16 := Nat.lt_of_le_of_lt Nat.and_le_left hx
    refine bits_nat _ x a hx ha _ (by omega) ?_
    unfold Go.bits
    simp only [BitVec.toNat_and, BitVec.toNat_ofInt]
    show IntKind.i64.wrap ((((x : Int) % ((2 ^ 64 : Nat) : Int)).toNat &&& ((a : Int) % ((2 ^ 64 : Nat) : Int)).toNat : Nat) : Int) = _
    rw [m x hx, m a ha]
  have e2 : Go.bits .andNot .i64 (o : Int) (a : Int) = ((o &&& (2 ^ 64 - (a + 1)) : Nat) : Int) := by
    have hlt : o &&& (2 ^ 64 - (a + 1)) < 2 ^ 16 := Nat.lt_of_le_of_lt Nat.and_le_left ho
    refine bits_nat _ o a ho ha _ (by omega) ?_
    unfold Go.bits
    simp only [BitVec.toNat_and, BitVec.toNat_not, BitVec.toNat_ofInt]
    show IntKind.i64.wrap ((((o : Int) % ((2 ^ 64 : Nat) : Int)).toNat &&& (2 ^ 64 - 1 - ((a : Int) % ((2 ^ 64 : Nat) : Int)).toNat) : Nat) : Int) = _
    rw [m o ho, m a ha, show 2 ^ 64 - 1 - a = 2 ^ 64 - (a + 1) by omega]
  have h1 : x &&& a < 2 ^ 16 := Nat.lt_of_le_of_lt Nat.and_le_left hx
  have h2 : o &&& (2 ^ 64 - (a + 1)) < 2 ^ 16 := Nat.lt_of_le_of_lt Nat.and_le_left ho
  unfold maskOf
  rw [e1, e2]
  show _ = (((x &&& a) ||| (o &&& (2 ^ 64 - (a + 1))) : Nat) : Int)
  refine bits_nat _ _ _ h1 h2 ((x &&& a) ||| (o &&& (2 ^ 64 - (a + 1)))) (by have := maskN_lt (a := a) hx ho; unfold maskN at this; omega) ?_
  unfold Go.bits
  simp only [BitVec.toNat_or, BitVec.toNat_ofInt]
  show IntKind.i64.wrap (((((x &&& a : Nat) : Int) % ((2 ^ 64 : Nat) : Int)).toNat ||| (((o &&& (2 ^ 64 - (a + 1)) : Nat) : Int) % ((2 ^ 64 : Nat) : Int)).toNat : Nat) : Int) = _
  rw [m _ h1, m _ h2]
/-- A word masked as the spec writes it. -/
theorem maskSpec {x a o : Nat} (hx : x < 65536) (ha : a < 65536) (ho : o < 65536) : Go.bits .or .i64 (Go.bits .and .i64 (x : Int) (a : Int)) (Go.bits .and .i64 (o : Int) (Go.bits .xor .i64 65535 (a : Int))) = maskOf (x : Int) (a : Int) (o : Int) := by
  have m : ∀ z : Nat, z < 65536 → ((z : Int) % ((2 ^ 64 : Nat) : Int)).toNat = z := fun z hz => by omega
  have and_ : ∀ y z : Nat, y < 65536 → z < 65536 → Go.bits .and .i64 (y : Int) (z : Int) = ((y &&& z : Nat) : Int) := fun y z hy hz => by
    have hlt : y &&& z < 2 ^ 16 := Nat.lt_of_le_of_lt Nat.and_le_left hy
    refine bits_nat _ y z hy hz _ (by omega) ?_
    unfold Go.bits
    simp only [BitVec.toNat_and, BitVec.toNat_ofInt]
    show IntKind.i64.wrap ((((y : Int) % ((2 ^ 64 : Nat) : Int)).toNat &&& ((z : Int) % ((2 ^ 64 : Nat) : Int)).toNat : Nat) : Int) = _
    rw [m y hy, m z hz]
  have hxl : (65535 ^^^ a) < 2 ^ 16 := Nat.xor_lt_two_pow (by decide) ha
  have x_ : Go.bits .xor .i64 65535 (a : Int) = ((65535 ^^^ a : Nat) : Int) := by
    refine bits_nat _ 65535 a (by decide) ha _ (by omega) ?_
    unfold Go.bits
    simp only [BitVec.toNat_xor, BitVec.toNat_ofInt]
    show IntKind.i64.wrap (((((65535 : Nat) : Int) % ((2 ^ 64 : Nat) : Int)).toNat ^^^ ((a : Int) % ((2 ^ 64 : Nat) : Int)).toNat : Nat) : Int) = _
    rw [m 65535 (by decide), m a ha]
  have e : o &&& (65535 ^^^ a) = o &&& (2 ^ 64 - (a + 1)) := by
    refine Nat.eq_of_testBit_eq fun i => ?_
    rw [Nat.testBit_and, Nat.testBit_and, Nat.testBit_xor, Nat.testBit_two_pow_sub_succ (by omega : a < 2 ^ 64), show (65535 : Nat) = 2 ^ 16 - 1 from rfl, Nat.testBit_two_pow_sub_one]
    by_cases h : i < 16
    · simp [h, show i < 64 by omega]
    · simp [bit_high (i := i) ho (by omega)]
  have h1 : x &&& a < 2 ^ 16 := Nat.lt_of_le_of_lt Nat.and_le_left hx
  have h2 : o &&& (65535 ^^^ a) < 2 ^ 16 := Nat.lt_of_le_of_lt Nat.and_le_left ho
  rw [maskOf_nat hx ha ho, x_, and_ x a hx ha, and_ o _ ho hxl]
  refine bits_nat _ _ _ h1 h2 _ (Nat.lt_of_lt_of_le (maskN_lt hx ho) (by decide)) ?_
  unfold Go.bits
  simp only [BitVec.toNat_or, BitVec.toNat_ofInt]
  show IntKind.i64.wrap ((((x &&& a : Nat) : Int) % ((2 ^ 64 : Nat) : Int)).toNat ||| (((o &&& (65535 ^^^ a) : Nat) : Int) % ((2 ^ 64 : Nat) : Int)).toNat : Nat) = _
  rw [m _ h1, m _ h2, maskN, e]
theorem word_nat {l : List Int} (h : l.all wordB = true) {p : Nat} (hp : p < l.length) : ∃ x : Nat, rd l (p : Int) = (x : Int) ∧ x < 65536 := by
  have h1 := List.all_eq_true.1 h l[p] (List.getElem_mem hp)
  rw [wordB_eq, decide_eq_true_iff] at h1
  exact ⟨l[p].toNat, by rw [rd_get hp]; omega, by omega⟩
theorem dev_word {c i : List Bool} {h v : List Int} (hd : deviceOkB c i h v = true) {p : Nat} (hp : p < h.length) : ∃ x : Nat, rd h (p : Int) = (x : Int) ∧ x < 65536 := by
  simp only [deviceOkB, Bool.and_eq_true] at hd
  exact word_nat hd.1.2 hp
theorem req_word {k a n : Int} {w : List Int} {t : List Bool} {e : Int} (hr : reqB k a n w t e = true) {p : Nat} (hp : p < w.length) : ∃ x : Nat, rd w (p : Int) = (x : Int) ∧ x < 65536 := by
  unfold reqB at hr
  simp only [Bool.and_eq_true] at hr
  exact word_nat hr.1.1 hp
/-! What a device asked twice does, and what is read back. -/
theorem over_cut {α : Type} : ∀ (ys xs pre : List α), ys.length ≤ xs.length → over (pre ++ xs) pre.length ys = pre ++ ys ++ xs.drop ys.length
  | [], xs, pre, _ => by simp [over]
  | y :: ys, [], pre, h => by simp at h
  | y :: ys, x :: xs, pre, h => by
    show over ((pre ++ x :: xs).set pre.length y) (pre.length + 1) ys = _
    have e : (pre ++ x :: xs).set pre.length y = (pre ++ [y]) ++ xs := by simp
    have := over_cut ys xs (pre ++ [y]) (by simpa using h)
    rw [List.length_append, List.length_singleton] at this
    rw [e, this]
    simp
theorem over_eq {α : Type} {xs ys : List α} {p : Nat} (h : p + ys.length ≤ xs.length) : over xs p ys = xs.take p ++ ys ++ xs.drop (p + ys.length) := by
  have h1 := over_cut ys (xs.drop p) (xs.take p) (by rw [List.length_drop]; omega)
  rw [List.take_append_drop, List.length_take, Nat.min_eq_left (by omega), List.drop_drop] at h1
  exact h1
theorem over_over {α : Type} {xs ys : List α} {p : Nat} (h : p + ys.length ≤ xs.length) : over (over xs p ys) p ys = over xs p ys := by
  rw [over_eq (xs := over xs p ys) (by rw [over_length]; exact h), over_eq h]
  have h1 : (xs.take p).length = p := by rw [List.length_take]; omega
  simp [List.take_append, List.drop_append, h1, show p + ys.length - p = ys.length by omega]
theorem over_read {α : Type} {xs ys : List α} {p : Nat} (h : p + ys.length ≤ xs.length) : ((over xs p ys).take (p + ys.length)).drop p = ys := by
  rw [over_eq h]
  have h1 : (xs.take p).length = p := by rw [List.length_take]; omega
  simp [List.take_append, List.drop_append, h1, show p + ys.length - p = ys.length by omega]
theorem over_words : ∀ (ys xs : List Int) (p : Nat), xs.all wordB = true → ys.all wordB = true → (over xs p ys).all wordB = true
  | [], xs, p, h, _ => h
  | y :: ys, xs, p, h, h2 => by
    rw [List.all_cons, Bool.and_eq_true] at h2
    refine over_words ys (xs.set p y) (p + 1) ?_ h2.2
    rw [List.all_eq_true] at h ⊢
    intro z hz
    rcases List.mem_or_eq_of_mem_set hz with h3 | h3
    · exact h z h3
    · subst h3; exact h2.1
theorem set_word {xs : List Int} {p : Nat} {y : Int} (h : xs.all wordB = true) (h2 : wordB y = true) : (xs.set p y).all wordB = true := over_words [y] xs p h (by simp [h2])
theorem mask_word {x a o : Nat} (hx : x < 65536) (ha : a < 65536) (ho : o < 65536) : wordB (maskOf (x : Int) (a : Int) (o : Int)) = true := by
  rw [maskOf_nat hx ha ho, wordB_eq, decide_eq_true_iff]
  have := maskN_lt (a := a) hx ho
  omega
theorem mask_twice {x a o : Nat} (hx : x < 65536) (ha : a < 65536) (ho : o < 65536) : maskOf (maskOf (x : Int) (a : Int) (o : Int)) (a : Int) (o : Int) = maskOf (x : Int) (a : Int) (o : Int) := by
  rw [maskOf_nat hx ha ho, maskOf_nat (maskN_lt hx ho) ha ho, maskN_twice ha ho]
theorem devOk_of {c i c' : List Bool} {h h' v : List Int} (hd : deviceOkB c i h v = true) (e1 : c'.length = c.length) (e2 : h'.length = h.length) (e3 : h'.all wordB = true) : deviceOkB c' i h' v = true := by
  simp only [deviceOkB, Bool.and_eq_true, decide_eq_true_eq] at hd ⊢
  exact ⟨⟨⟨⟨⟨by omega, hd.1.1.1.1.2⟩, by omega⟩, hd.1.1.2⟩, e3⟩, hd.2⟩
theorem devOk_h {c i : List Bool} {h v : List Int} (hd : deviceOkB c i h v = true) : h.all wordB = true := by
  simp only [deviceOkB, Bool.and_eq_true] at hd
  exact hd.1.2
theorem reqB_w {k a n : Int} {w : List Int} {t : List Bool} {e : Int} (hr : reqB k a n w t e = true) : w.all wordB = true := by
  unfold reqB at hr
  simp only [Bool.and_eq_true] at hr
  exact hr.1.1
/-- The places that a right question touches do not depend on what stands there. -/
theorem there_len {c i c' : List Bool} {h v h' : List Int} {k a n : Int} {w : List Int} {t : List Bool} {e : Int} (e1 : c'.length = c.length) (e2 : h'.length = h.length) : thereB c' i h' v k a n w t e = thereB c i h v k a n w t e := by
  unfold thereB
  rw [e1, e2]
/-- A word of a device, masked. -/
theorem maskAt {c i : List Bool} {h v : List Int} {k a n : Int} {w : List Int} {t : List Bool} {e : Int} (hd : deviceOkB c i h v = true) (hr : reqB k a n w t e = true) (hw : w.length = 2) {p : Nat} (hp : p < h.length) :
    wordB (maskOf (rd h (p : Int)) (rd w 0) (rd w 1)) = true ∧ maskOf (maskOf (rd h (p : Int)) (rd w 0) (rd w 1)) (rd w 0) (rd w 1) = maskOf (rd h (p : Int)) (rd w 0) (rd w 1) := by
  obtain ⟨x, hx, hx6⟩ := dev_word hd hp
  obtain ⟨y, hy, hy6⟩ := req_word hr (show 0 < w.length by omega)
  obtain ⟨z, hz, hz6⟩ := req_word hr (show 1 < w.length by omega)
  simp only [Int.natCast_zero, Int.natCast_one] at hy hz
  rw [hx, hy, hz]
  exact ⟨mask_word hx6 hy6 hz6, mask_twice hx6 hy6 hz6⟩
/-- A right device stays right, and asked again it tells the same and stays as it is. -/
theorem served_twice {c i : List Bool} {h v : List Int} {k a n : Int} {w : List Int} {t : List Bool} {e : Int} {r1 r2 : List Bool} {r3 r4 : List Int} {r5 r6 r7 r8 : Int} {r9 : List Int} {r10 : List Bool} (hd : deviceOkB c i h v = true) (hr : reqB k a n w t e = true)
    (hS : servedOf c i h v k a n w t e = (r1, r2, r3, r4, r5, r6, r7, r8, r9, r10)) : deviceOkB r1 r2 r3 r4 = true ∧ servedOf r1 r2 r3 r4 k a n w t e = (r1, r2, r3, r4, r5, r6, r7, r8, r9, r10) := by
  have hS0 := hS
  unfold servedOf at hS
  rw [if_pos ⟨hd, hr⟩] at hS
  by_cases ht : thereB c i h v k a n w t e = true
  · rw [if_pos ht] at hS
    obtain ⟨hk, a0, a1, f12, f34, f5, f6, f15, f16, f22, f23⟩ := reqB_facts hr
    rcases kind_cases hk with rfl | rfl | rfl | rfl | rfl | rfl | rfl | rfl | rfl | rfl
    · simp only [doneOf, Int.reduceEq, if_true, if_false, true_or, or_true, false_or, or_false, or_self, Prod.mk.injEq] at hS
      obtain ⟨rfl, rfl, rfl, rfl, rfl, rfl, rfl, rfl, rfl, rfl⟩ := hS
      exact ⟨hd, hS0⟩
    · simp only [doneOf, Int.reduceEq, if_true, if_false, true_or, or_true, false_or, or_false, or_self, Prod.mk.injEq] at hS
      obtain ⟨rfl, rfl, rfl, rfl, rfl, rfl, rfl, rfl, rfl, rfl⟩ := hS
      exact ⟨hd, hS0⟩
    · simp only [doneOf, Int.reduceEq, if_true, if_false, true_or, or_true, false_or, or_false, or_self, Prod.mk.injEq] at hS
      obtain ⟨rfl, rfl, rfl, rfl, rfl, rfl, rfl, rfl, rfl, rfl⟩ := hS
      exact ⟨hd, hS0⟩
    · simp only [doneOf, Int.reduceEq, if_true, if_false, true_or, or_true, false_or, or_false, or_self, Prod.mk.injEq] at hS
      obtain ⟨rfl, rfl, rfl, rfl, rfl, rfl, rfl, rfl, rfl, rfl⟩ := hS
      exact ⟨hd, hS0⟩
    · have hb : a.toNat + t.length ≤ c.length := by (have hf := f5 rfl; simp [thereB] at ht; omega)
      simp only [doneOf, Int.reduceEq, if_true, if_false, true_or, or_true, false_or, or_false, or_self, Prod.mk.injEq] at hS
      obtain ⟨rfl, rfl, rfl, rfl, rfl, rfl, rfl, rfl, rfl, rfl⟩ := hS
      have hd' := devOk_of (c' := over c a.toNat t) (h' := h) hd (over_length _ _ _) rfl (devOk_h hd)
      refine ⟨hd', ?_⟩
      unfold servedOf
      rw [if_pos ⟨hd', hr⟩, if_pos ((there_len (over_length _ _ _) rfl).trans ht)]
      simp only [doneOf, Int.reduceEq, if_true, if_false, true_or, or_true, false_or, or_false, or_self, over_over hb]
    · have hb : a.toNat + w.length ≤ h.length := by (have hf := f6 rfl; simp [thereB] at ht; omega)
      simp only [doneOf, Int.reduceEq, if_true, if_false, true_or, or_true, false_or, or_false, or_self, Prod.mk.injEq] at hS
      obtain ⟨rfl, rfl, rfl, rfl, rfl, rfl, rfl, rfl, rfl, rfl⟩ := hS
      have hd' := devOk_of (c' := c) (h' := over h a.toNat w) hd rfl (over_length _ _ _) (over_words _ _ _ (devOk_h hd) (reqB_w hr))
      refine ⟨hd', ?_⟩
      unfold servedOf
      rw [if_pos ⟨hd', hr⟩, if_pos ((there_len rfl (over_length _ _ _)).trans ht)]
      simp only [doneOf, Int.reduceEq, if_true, if_false, true_or, or_true, false_or, or_false, or_self, over_over hb]
    · have hb : a.toNat + t.length ≤ c.length := by (have hf := f15 rfl; simp [thereB] at ht; omega)
      simp only [doneOf, Int.reduceEq, if_true, if_false, true_or, or_true, false_or, or_false, or_self, Prod.mk.injEq] at hS
      obtain ⟨rfl, rfl, rfl, rfl, rfl, rfl, rfl, rfl, rfl, rfl⟩ := hS
      have hd' := devOk_of (c' := over c a.toNat t) (h' := h) hd (over_length _ _ _) rfl (devOk_h hd)
      refine ⟨hd', ?_⟩
      unfold servedOf
      rw [if_pos ⟨hd', hr⟩, if_pos ((there_len (over_length _ _ _) rfl).trans ht)]
      simp only [doneOf, Int.reduceEq, if_true, if_false, true_or, or_true, false_or, or_false, or_self, over_over hb]
    · have hb : a.toNat + w.length ≤ h.length := by (have hf := f16 rfl; simp [thereB] at ht; omega)
      simp only [doneOf, Int.reduceEq, if_true, if_false, true_or, or_true, false_or, or_false, or_self, Prod.mk.injEq] at hS
      obtain ⟨rfl, rfl, rfl, rfl, rfl, rfl, rfl, rfl, rfl, rfl⟩ := hS
      have hd' := devOk_of (c' := c) (h' := over h a.toNat w) hd rfl (over_length _ _ _) (over_words _ _ _ (devOk_h hd) (reqB_w hr))
      refine ⟨hd', ?_⟩
      unfold servedOf
      rw [if_pos ⟨hd', hr⟩, if_pos ((there_len rfl (over_length _ _ _)).trans ht)]
      simp only [doneOf, Int.reduceEq, if_true, if_false, true_or, or_true, false_or, or_false, or_self, over_over hb]
    · obtain ⟨p, rfl⟩ : ∃ p : Nat, a = (p : Int) := ⟨a.toNat, by omega⟩
      have hb : p < h.length := by (simp [thereB] at ht; omega)
      have hm := maskAt hd hr (f22 rfl).2.1 hb
      simp only [doneOf, Int.reduceEq, if_true, if_false, true_or, or_true, false_or, or_false, or_self, Prod.mk.injEq] at hS
      obtain ⟨rfl, rfl, rfl, rfl, rfl, rfl, rfl, rfl, rfl, rfl⟩ := hS
      simp only [Int.toNat_natCast]
      have hd' := devOk_of (c' := c) (h' := h.set p (maskOf (rd h (p : Int)) (rd w 0) (rd w 1))) hd rfl (List.length_set ..) (set_word (devOk_h hd) hm.1)
      refine ⟨hd', ?_⟩
      have hx : rd (h.set p (maskOf (rd h (p : Int)) (rd w 0) (rd w 1))) (p : Int) = maskOf (rd h (p : Int)) (rd w 0) (rd w 1) := by
        rw [rd_get (by rw [List.length_set]; exact hb), List.getElem_set_self]
      unfold servedOf
      rw [if_pos ⟨hd', hr⟩, if_pos ((there_len rfl (List.length_set ..)).trans ht)]
      simp only [doneOf, Int.reduceEq, if_true, if_false, true_or, or_true, false_or, or_false, or_self, Int.toNat_natCast, hx, hm.2, List.set_set]
    · have hb : e.toNat + w.length ≤ h.length := by (have hf := f23 rfl; simp [thereB] at ht; omega)
      simp only [doneOf, Int.reduceEq, if_true, if_false, true_or, or_true, false_or, or_false, or_self, Prod.mk.injEq] at hS
      obtain ⟨rfl, rfl, rfl, rfl, rfl, rfl, rfl, rfl, rfl, rfl⟩ := hS
      have hd' := devOk_of (c' := c) (h' := over h e.toNat w) hd rfl (over_length _ _ _) (over_words _ _ _ (devOk_h hd) (reqB_w hr))
      refine ⟨hd', ?_⟩
      unfold servedOf
      rw [if_pos ⟨hd', hr⟩, if_pos ((there_len rfl (over_length _ _ _)).trans ht)]
      simp only [doneOf, Int.reduceEq, if_true, if_false, true_or, or_true, false_or, or_false, or_self, over_over hb]
  · rw [if_neg ht] at hS
    simp only [Prod.mk.injEq] at hS
    obtain ⟨rfl, rfl, rfl, rfl, rfl, rfl, rfl, rfl, rfl, rfl⟩ := hS
    exact ⟨hd, hS0⟩
theorem filled_take (l : List Bool) : l.length ≤ (filledOf l).length ∧ (filledOf l).take l.length = l := by
  unfold filledOf
  exact ⟨by rw [List.length_append]; omega, List.take_left' rfl⟩
/-- Words that were written are read. -/
theorem read_words {c i : List Bool} {h v : List Int} (hd : deviceOkB c i h v = true) {a : Int} {m : Nat} (a0 : 0 ≤ a) (a1 : a ≤ 65535) (m1 : 1 ≤ m) (m2 : m ≤ 125) (ha : a + m ≤ 65536) (hb : a.toNat + m ≤ h.length) :
    servedOf c i h v 3 a (m : Int) [] [] 0 = (c, i, h, v, 3, 0, 0, 0, (h.take (a.toNat + m)).drop a.toNat, []) := by
  have hr : reqB 3 a (m : Int) [] [] 0 = true := by
    unfold reqB
    simp only [List.all_nil, Bool.true_and, Bool.and_eq_true, wordB_eq, decide_eq_true_eq]
    refine ⟨⟨a0, a1⟩, ?_⟩
    simp
    omega
  unfold servedOf
  rw [if_pos ⟨hd, hr⟩, if_pos (by simp [thereB]; omega)]
  simp only [doneOf, Int.reduceEq, if_true, if_false, show (a + (m : Int)).toNat = a.toNat + m by omega]
/-- Flags that were written are read. -/
theorem read_bits {c i : List Bool} {h v : List Int} (hd : deviceOkB c i h v = true) {a : Int} {m : Nat} (a0 : 0 ≤ a) (a1 : a ≤ 65535) (m1 : 1 ≤ m) (m2 : m ≤ 2000) (ha : a + m ≤ 65536) (hb : a.toNat + m ≤ c.length) :
    servedOf c i h v 1 a (m : Int) [] [] 0 = (c, i, h, v, 1, 0, 0, 0, [], filledOf ((c.take (a.toNat + m)).drop a.toNat)) := by
  have hr : reqB 1 a (m : Int) [] [] 0 = true := by
    unfold reqB
    simp only [List.all_nil, Bool.true_and, Bool.and_eq_true, wordB_eq, decide_eq_true_eq]
    refine ⟨⟨a0, a1⟩, ?_⟩
    simp
    omega
  unfold servedOf
  rw [if_pos ⟨hd, hr⟩, if_pos (by simp [thereB]; omega)]
  simp only [doneOf, Int.reduceEq, if_true, if_false, show (a + (m : Int)).toNat = a.toNat + m by omega]
theorem fault_right {k : Int} (hk : kindB k = true) {f : Int} (h0 : 1 ≤ f) (h1 : f ≤ 255) : respB k f 0 0 [] [] = true := by
  unfold respB
  rw [hk, if_pos (by omega)]
  simp
  omega
theorem suits_fault {k a n : Int} {w : List Int} {t : List Bool} {e f : Int} (hr : reqB k a n w t e = true) (hf : 1 ≤ f ∧ f ≤ 255) : suitsB k a n w t e k f 0 0 [] [] = true := by
  unfold suitsB
  rw [hr, fault_right (reqB_facts hr).1 hf.1 hf.2, decide_eq_true rfl, if_neg (by omega)]
  rfl
theorem cut_len {α : Type} {l : List α} {a n : Int} (a0 : 0 ≤ a) (n0 : 0 ≤ n) (h : a + n ≤ (l.length : Int)) : (((l.take (a + n).toNat).drop a.toNat).length : Int) = n := by
  rw [List.length_drop, List.length_take]
  omega
theorem cut_words {l : List Int} (h : l.all wordB = true) (i j : Nat) : ((l.take i).drop j).all wordB = true := by
  rw [List.all_eq_true] at h ⊢
  exact fun x hx => h x (List.mem_of_mem_take (List.mem_of_mem_drop hx))
theorem filled_suits {l : List Bool} {n : Int} (hl : (l.length : Int) = n) : bitsB n (filledOf l) = true := by
  subst hl
  unfold bitsB filledOf
  rw [Int.toNat_natCast, List.drop_left' rfl, Bool.and_eq_true, decide_eq_true_iff, List.length_append, List.length_replicate]
  refine ⟨by omega, ?_⟩
  rw [List.all_eq_true]
  intro x hx
  rw [List.eq_of_mem_replicate hx]
  rfl
theorem filled_size (l : List Bool) : (filledOf l).length % 8 = 0 ∧ l.length ≤ (filledOf l).length ∧ (filledOf l).length ≤ l.length + 7 := by
  unfold filledOf
  rw [List.length_append, List.length_replicate]
  omega
/-- What a right device tells suits the question. -/
theorem told_suits {c i : List Bool} {h v : List Int} {k a n : Int} {w : List Int} {t : List Bool} {e : Int} {r1 r2 : List Bool} {r3 r4 : List Int} {r5 r6 r7 r8 : Int} {r9 : List Int} {r10 : List Bool} (hd : deviceOkB c i h v = true) (hr : reqB k a n w t e = true)
    (hS : servedOf c i h v k a n w t e = (r1, r2, r3, r4, r5, r6, r7, r8, r9, r10)) : suitsB k a n w t e r5 r6 r7 r8 r9 r10 = true := by
  have hl := deviceOkB_len hd
  have hv : v.all wordB = true := by
    simp only [deviceOkB, Bool.and_eq_true] at hd
    exact hd.2
  unfold servedOf at hS
  rw [if_pos ⟨hd, hr⟩] at hS
  by_cases ht : thereB c i h v k a n w t e = true
  · rw [if_pos ht] at hS
    have hww := reqB_w hr
    obtain ⟨hk, a0, a1, f12, f34, f5, f6, f15, f16, f22, f23⟩ := reqB_facts hr
    rcases kind_cases hk with rfl | rfl | rfl | rfl | rfl | rfl | rfl | rfl | rfl | rfl
    · have hf := f12 (.inl rfl)
      have hb : a + n ≤ (c.length : Int) := by simpa [thereB] using ht
      simp only [doneOf, Int.reduceEq, if_true, if_false, true_or, or_true, false_or, or_false, or_self, Prod.mk.injEq] at hS
      obtain ⟨rfl, rfl, rfl, rfl, rfl, rfl, rfl, rfl, rfl, rfl⟩ := hS
      have hn := cut_len (l := c) (n := n) a0 (by omega) hb
      have hz := filled_size ((c.take (a + n).toNat).drop a.toNat)
      have hs := filled_suits hn
      unfold suitsB
      rw [hr]
      simp only [respB, suitIn, hs, List.all_nil, List.length_nil, Bool.and_eq_true, Bool.true_and, decide_eq_true_eq, Int.reduceEq, gt_iff_lt, Int.lt_irrefl, if_true, if_false, true_or, or_true, false_or, or_false, or_self, and_self, and_true, true_and]
      repeat' apply And.intro
      all_goals (first | rfl | omega)
    · have hf := f12 (.inr rfl)
      have hb : a + n ≤ (i.length : Int) := by simpa [thereB] using ht
      simp only [doneOf, Int.reduceEq, if_true, if_false, true_or, or_true, false_or, or_false, or_self, Prod.mk.injEq] at hS
      obtain ⟨rfl, rfl, rfl, rfl, rfl, rfl, rfl, rfl, rfl, rfl⟩ := hS
      have hn := cut_len (l := i) (n := n) a0 (by omega) hb
      have hz := filled_size ((i.take (a + n).toNat).drop a.toNat)
      have hs := filled_suits hn
      unfold suitsB
      rw [hr]
      simp only [respB, suitIn, hs, List.all_nil, List.length_nil, Bool.and_eq_true, Bool.true_and, decide_eq_true_eq, Int.reduceEq, gt_iff_lt, Int.lt_irrefl, if_true, if_false, true_or, or_true, false_or, or_false, or_self, and_self, and_true, true_and]
      repeat' apply And.intro
      all_goals (first | rfl | omega)
    · have hf := f34 (.inl rfl)
      have hb : a + n ≤ (h.length : Int) := by simpa [thereB] using ht
      simp only [doneOf, Int.reduceEq, if_true, if_false, true_or, or_true, false_or, or_false, or_self, Prod.mk.injEq] at hS
      obtain ⟨rfl, rfl, rfl, rfl, rfl, rfl, rfl, rfl, rfl, rfl⟩ := hS
      have hn := cut_len (l := h) (n := n) a0 (by omega) hb
      have hw := cut_words (devOk_h hd) (a + n).toNat a.toNat
      unfold suitsB
      rw [hr]
      simp only [respB, suitIn, hw, List.all_nil, List.length_nil, Bool.and_eq_true, Bool.true_and, decide_eq_true_eq, Int.reduceEq, gt_iff_lt, Int.lt_irrefl, if_true, if_false, true_or, or_true, false_or, or_false, or_self, and_self, and_true, true_and]
      repeat' apply And.intro
      all_goals (first | rfl | omega)
    · have hf := f34 (.inr rfl)
      have hb : a + n ≤ (v.length : Int) := by simpa [thereB] using ht
      simp only [doneOf, Int.reduceEq, if_true, if_false, true_or, or_true, false_or, or_false, or_self, Prod.mk.injEq] at hS
      obtain ⟨rfl, rfl, rfl, rfl, rfl, rfl, rfl, rfl, rfl, rfl⟩ := hS
      have hn := cut_len (l := v) (n := n) a0 (by omega) hb
      have hw := cut_words hv (a + n).toNat a.toNat
      unfold suitsB
      rw [hr]
      simp only [respB, suitIn, hw, List.all_nil, List.length_nil, Bool.and_eq_true, Bool.true_and, decide_eq_true_eq, Int.reduceEq, gt_iff_lt, Int.lt_irrefl, if_true, if_false, true_or, or_true, false_or, or_false, or_self, and_self, and_true, true_and]
      repeat' apply And.intro
      all_goals (first | rfl | omega)
    · have hf := f5 rfl
      simp only [doneOf, Int.reduceEq, if_true, if_false, true_or, or_true, false_or, or_false, or_self, Prod.mk.injEq] at hS
      obtain ⟨rfl, rfl, rfl, rfl, rfl, rfl, rfl, rfl, rfl, rfl⟩ := hS
      unfold suitsB
      rw [hr]
      simp only [respB, suitIn, hww, List.all_nil, List.length_nil, Bool.and_eq_true, Bool.true_and, decide_eq_true_eq, Int.reduceEq, gt_iff_lt, Int.lt_irrefl, if_true, if_false, true_or, or_true, false_or, or_false, or_self, and_self, and_true, true_and]
      repeat' apply And.intro
      all_goals (first | rfl | omega)
    · have hf := f6 rfl
      simp only [doneOf, Int.reduceEq, if_true, if_false, true_or, or_true, false_or, or_false, or_self, Prod.mk.injEq] at hS
      obtain ⟨rfl, rfl, rfl, rfl, rfl, rfl, rfl, rfl, rfl, rfl⟩ := hS
      unfold suitsB
      rw [hr]
      simp only [respB, suitIn, hww, List.all_nil, List.length_nil, Bool.and_eq_true, Bool.true_and, decide_eq_true_eq, Int.reduceEq, gt_iff_lt, Int.lt_irrefl, if_true, if_false, true_or, or_true, false_or, or_false, or_self, and_self, and_true, true_and]
      repeat' apply And.intro
      all_goals (first | rfl | omega)
    · have hf := f15 rfl
      simp only [doneOf, Int.reduceEq, if_true, if_false, true_or, or_true, false_or, or_false, or_self, Prod.mk.injEq] at hS
      obtain ⟨rfl, rfl, rfl, rfl, rfl, rfl, rfl, rfl, rfl, rfl⟩ := hS
      unfold suitsB
      rw [hr]
      simp only [respB, suitIn, hww, List.all_nil, List.length_nil, Bool.and_eq_true, Bool.true_and, decide_eq_true_eq, Int.reduceEq, gt_iff_lt, Int.lt_irrefl, if_true, if_false, true_or, or_true, false_or, or_false, or_self, and_self, and_true, true_and]
      repeat' apply And.intro
      all_goals (first | rfl | omega)
    · have hf := f16 rfl
      simp only [doneOf, Int.reduceEq, if_true, if_false, true_or, or_true, false_or, or_false, or_self, Prod.mk.injEq] at hS
      obtain ⟨rfl, rfl, rfl, rfl, rfl, rfl, rfl, rfl, rfl, rfl⟩ := hS
      unfold suitsB
      rw [hr]
      simp only [respB, suitIn, hww, List.all_nil, List.length_nil, Bool.and_eq_true, Bool.true_and, decide_eq_true_eq, Int.reduceEq, gt_iff_lt, Int.lt_irrefl, if_true, if_false, true_or, or_true, false_or, or_false, or_self, and_self, and_true, true_and]
      repeat' apply And.intro
      all_goals (first | rfl | omega)
    · have hf := f22 rfl
      simp only [doneOf, Int.reduceEq, if_true, if_false, true_or, or_true, false_or, or_false, or_self, Prod.mk.injEq] at hS
      obtain ⟨rfl, rfl, rfl, rfl, rfl, rfl, rfl, rfl, rfl, rfl⟩ := hS
      unfold suitsB
      rw [hr]
      simp only [respB, suitIn, hww, List.all_nil, List.length_nil, Bool.and_eq_true, Bool.true_and, decide_eq_true_eq, Int.reduceEq, gt_iff_lt, Int.lt_irrefl, if_true, if_false, true_or, or_true, false_or, or_false, or_self, and_self, and_true, true_and]
      repeat' apply And.intro
      all_goals (first | rfl | omega)
    · have hf := f23 rfl
      have hb : a + n ≤ (h.length : Int) := by (simp [thereB] at ht; omega)
      simp only [doneOf, Int.reduceEq, if_true, if_false, true_or, or_true, false_or, or_false, or_self, Prod.mk.injEq] at hS
      obtain ⟨rfl, rfl, rfl, rfl, rfl, rfl, rfl, rfl, rfl, rfl⟩ := hS
      have hn := cut_len (l := over h e.toNat w) (n := n) a0 (by omega) (by rw [over_length]; exact hb)
      have hw := cut_words (over_words w h e.toNat (devOk_h hd) hww) (a + n).toNat a.toNat
      unfold suitsB
      rw [hr]
      simp only [respB, suitIn, hw, List.all_nil, List.length_nil, Bool.and_eq_true, Bool.true_and, decide_eq_true_eq, Int.reduceEq, gt_iff_lt, Int.lt_irrefl, if_true, if_false, true_or, or_true, false_or, or_false, or_self, and_self, and_true, true_and]
      repeat' apply And.intro
      all_goals (first | rfl | omega)
  · rw [if_neg ht] at hS
    simp only [Prod.mk.injEq] at hS
    obtain ⟨rfl, rfl, rfl, rfl, rfl, rfl, rfl, rfl, rfl, rfl⟩ := hS
    exact suits_fault hr (by decide)
theorem newOk (x : Int) : deviceOkB (zb x) (zb x) (zi x) (zi x) = true := by
  have h := szOf_le x
  have h0 : wordB 0 = true := rfl
  have ha : (zi x).all wordB = true := by
    rw [List.all_eq_true]
    intro y hy
    rw [List.eq_of_mem_replicate hy]
    exact h0
  simp only [deviceOkB, ha, Bool.and_true, Bool.and_self]
  simp [zb, zi, h]
theorem suits_kind {k a n : Int} {w : List Int} {t : List Bool} {e k2 f a2 n2 : Int} {w2 : List Int} {t2 : List Bool} (h : suitsB k a n w t e k2 f a2 n2 w2 t2 = true) : reqB k a n w t e = true ∧ k = k2 := by
  unfold suitsB at h
  rw [Bool.and_eq_true, Bool.and_eq_true, Bool.and_eq_true, decide_eq_true_iff] at h
  exact ⟨h.1, h.2.2.1⟩
theorem filled_len (l : List Bool) : (filledOf l).length ≤ l.length + 8 := by
  have := filled_size l
  omega
/-- How long what is told can be. -/
theorem told_len {l0 l1 : List Bool} {l2 l3 : List Int} {k a n wat : Int} {ws : List Int} {bs : List Bool} {r1 r2 : List Bool} {r3 r4 : List Int} {r5 r6 r7 r8 : Int} {r9 : List Int} {r10 : List Bool} (h : servedOf l0 l1 l2 l3 k a n ws bs wat = (r1, r2, r3, r4, r5, r6, r7, r8, r9, r10))
    (m0 : l0.length ≤ 100) (m1 : l1.length ≤ 100) (m2 : l2.length ≤ 100) (m3 : l3.length ≤ 100) (m4 : ws.length ≤ 1048576) (m5 : bs.length ≤ 1048576) : r9.length ≤ 1048576 ∧ r10.length ≤ 1048576 := by
  unfold servedOf at h
  split at h
  · split at h
    · unfold doneOf at h
      repeat' split at h
      all_goals
        simp only [Prod.mk.injEq] at h
        obtain ⟨rfl, rfl, rfl, rfl, rfl, rfl, rfl, rfl, rfl, rfl⟩ := h
        have f0 := filled_len ((l0.take (a + n).toNat).drop a.toNat)
        have f1 := filled_len ((l1.take (a + n).toNat).drop a.toNat)
        simp only [List.length_drop, List.length_take] at f0 f1
        (try simp only [over_length, List.length_drop, List.length_take, List.length_set, List.length_nil])
        omega
    · simp only [Prod.mk.injEq] at h
      obtain ⟨rfl, rfl, rfl, rfl, rfl, rfl, rfl, rfl, rfl, rfl⟩ := h
      (try simp only [List.length_nil])
      omega
  · split at h
    all_goals
      simp only [Prod.mk.injEq] at h
      obtain ⟨rfl, rfl, rfl, rfl, rfl, rfl, rfl, rfl, rfl, rfl⟩ := h
      (try simp only [List.length_nil])
      omega
theorem field0 (x0 x1 x2 x3 x4 x5 : Value) (w : World) : (Instr.field 28 (.agg #[x0, x1, x2, x3, x4, x5]) 0).run Try.prog w = .ok x0 w := by
  have hu := Try.underlying28
  have h3 := Try.underlying3
  unfold Instr.field
  unfold part
  unfold isAgg asAgg
  go_simp
set_option maxHeartbeats 16000000 in
set_option maxRecDepth 100000 in
theorem walk (v0 : Value) (l : List Int) (w : World) (i0 : InInts .u8 w v0 l) :
    Calls Try.prog 7 #[v0] w fun e w' => e = .returned (.bool true) ∧ Below w.heap.size w w' := by
  obtain ⟨A, c, rfl, hc0, hr0, hm0, hw0⟩ := i0
  have HC := aM hr0
  have Hc := aM hc0
  have HV := aM hw0
  clear hr0 hc0 hm0 hw0
  have H := aM (Own.nil w)
  obtain ⟨b, hb⟩ : ∃ b, decide ((l.length : Int) > 1048576) = b := ⟨_, rfl⟩
  have Hb := aM hb
  clear hb
  have hu := Try.underlying51
  have hq := Try.underlying36
  have hR := Try.underlying28
  have hf0 := field0
  cases b with
  | true =>
    go_enter Try.func7, Try.ntmps7
    go_wp2_with ((with_reducible refine nD 9 ?_); refine gC 9 Try.func25 (laws_big.calls A c l true _ (H.out.arg HC.out) Hc.out (by unfold laws_big.f; rw [Hb.out])) ?_; rintro e w_ ⟨rfl, hd⟩; refine ⟨_, rfl, ?_⟩; replace H := aM (H.out.drawn hd); clear hd)
    go_ret
    exact ⟨rfl, H.out.below⟩
  | false =>
    have hbig := of_decide_eq_false Hb.out
    obtain ⟨p2, e2, p20, p21⟩ := at_range l (by omega) (B8.of HV.out) 2 (by omega) (by omega)
    have E2 := aM e2
    have ht : Int.tmod p2 255 = p2 % 255 := tmod_pos p20
    obtain ⟨fs, hfs⟩ : ∃ fs, 1 + p2 % 255 = fs := ⟨_, rfl⟩
    have hfw : IntKind.i64.wrap (1 + p2 % 255) = fs := (by rw [i64wrap, w64 (by omega) (by omega)]; exact hfs)
    have HF := aM (show 1 ≤ fs ∧ fs ≤ 255 from by omega)
    clear hbig e2 p20 p21 hfs
    go_enter Try.func7, Try.ntmps7
    go_upto_region 4 with (first | ((with_reducible refine nD 9 ?_); refine gC 9 Try.func25 (laws_big.calls A c l false _ (H.out.arg HC.out) Hc.out (by unfold laws_big.f; rw [Hb.out])) ?_; rintro e w_ ⟨rfl, hO⟩; refine ⟨_, rfl, ?_⟩; replace H := aM (H.out.drawn hO); clear hO; (try refine nmL ?_)) | ((with_reducible refine nD 12 ?_); refine gC 12 Try.func26 (DrawSuits_own _ (H.out.arg HC.out) Hc.out) ?_; rintro e w_ ⟨k, a, n, wat, A4, A5, c4, c5, ws, bs, k2, f2, a2, n2, B4, B5, d4, d5, vs, ts, rfl, m4, m5, m6, m7, hO⟩; refine ⟨_, rfl, ?_⟩; replace H := aM (H.out.app hO); clear hO; have hq_ := And.intro m4 (And.intro m5 (And.intro m6 m7)); clear m4 m5 m6 m7; (try refine nmL ?_)) | ((with_reducible refine nD 3 ?_); refine bxO 3 H.out #[.int .i64 0, .int .i64 0, .int .i64 0, .slice none 0 0, .slice none 0 0, .int .i64 0] 36 ?_; clear H; intro g3 _ H; (try refine nmL ?_)) | ((with_reducible refine nD 4 ?_); refine bxO 4 H.out #[.int .i64 0, .int .i64 0, .int .i64 0, .int .i64 0, .slice none 0 0, .slice none 0 0] 28 ?_; clear H; intro g4 _ H; (try refine nmL ?_)) | ((with_reducible refine nS 3 ?_); refine stO 1 H.out ?_; clear H; intro _ H; (try refine nmL ?_)) | ((with_reducible refine nS 4 ?_); refine stO 0 H.out ?_; clear H; intro _ H; (try refine nmL ?_)))
    have HQ := aM (show ws.length ≤ 1048576 ∧ bs.length ≤ 1048576 ∧ vs.length ≤ 1048576 ∧ ts.length ≤ 1048576 from by omega)
    obtain ⟨s, hs⟩ : ∃ s, suitsB k a n ws bs wat k2 f2 a2 n2 vs ts = s := ⟨_, rfl⟩
    have HS := aM hs
    obtain ⟨rq, hrq⟩ : ∃ rq, reqB k a n ws bs wat = rq := ⟨_, rfl⟩
    have HK := aM hrq
    have hsk : s = true → rq = true ∧ k = k2 := fun h => by rw [h] at hs; exact ⟨hrq.symm.trans (suits_kind hs).1, (suits_kind hs).2⟩
    clear hq_ hs hrq
    go_upto_region 5 with (first | ((with_reducible refine nD 15 ?_); refine ldO 15 1 H.out hq ?_; (try refine nmL ?_)) | ((with_reducible refine nD 16 ?_); refine ldO 16 0 H.out hR ?_; (try refine nmL ?_)) | ((with_reducible refine nD 17 ?_); refine gC 17 Try.func24 (suitsI_own HS.out (H.out.ci 4) (H.out.li 4) (H.out.cb 5) (H.out.lb 5) (H.out.ci 2) (H.out.li 2) (H.out.cb 3) (H.out.lb 3) HQ.out.1 HQ.out.2.1 HQ.out.2.2.1 HQ.out.2.2.2) ?_; rintro e w_ ⟨rfl, hO⟩; refine ⟨_, rfl, ?_⟩; replace H := aM (H.out.step hO); clear hO; (try refine nmL ?_)))
    cases rq with
    | false =>
      have hsf : s = false := by cases s <;> simp_all
      subst hsf
      clear hsk
      go_wp2_with (first | ((with_reducible refine nD 19 ?_); refine ldO 19 1 H.out hq ?_; (try refine nmL ?_)) | ((with_reducible refine nD 20 ?_); refine ldO 20 0 H.out hR ?_; (try refine nmL ?_)) | ((with_reducible refine nD 21 ?_); refine gC 21 Try.func23 (suitsS_own HS.out (H.out.ci 4) (H.out.li 4) (H.out.cb 5) (H.out.lb 5) (H.out.ci 2) (H.out.li 2) (H.out.cb 3) (H.out.lb 3) HQ.out.1 HQ.out.2.1 HQ.out.2.2.1 HQ.out.2.2.2) ?_; rintro e w_ ⟨rfl, hO⟩; refine ⟨_, rfl, ?_⟩; replace H := aM (H.out.step hO); clear hO; obtain ⟨za_0, zay_0, za_1, zay_1, za_2, zay_2, za_3, zay_3, za_4, zay_4, za_5, zay_5⟩ := bk6 (H.out.b 1); obtain ⟨zb_0, zby_0, zb_1, zby_1, zb_2, zby_2, zb_3, zby_3, zb_4, zby_4, zb_5, zby_5⟩ := bk6 (H.out.b 0); (try refine nmL ?_)) | ((with_reducible refine nD 33 ?_); refine ldO 33 1 H.out hq ?_; (try refine nmL ?_)) | ((with_reducible refine nD 34 ?_); refine gC 34 Try.func14 (specReq_own HK.out (H.out.ci 4) (H.out.li 4) (H.out.cb 5) (H.out.lb 5) HQ.out.1 HQ.out.2.1) ?_; rintro e w_ ⟨rfl, hO⟩; refine ⟨_, rfl, ?_⟩; replace H := aM (H.out.step hO); clear hO; (try refine nmL ?_)) | ((with_reducible refine nD 39 ?_); (try (refine gate_guard (by rfl) ?_; dsimp only)); refine ldO 39 1 H.out hq ?_; (try refine nmL ?_)) | ((with_reducible refine nD 40 ?_); (try (refine gate_guard (by rfl) ?_; dsimp only)); refine gC 40 Try.func19 (faultI_own (s := 1) (x := 0) (y := 0) (by decide) (by rw [HK.out]; rfl) (H.out.ci 4) (H.out.li 4) (H.out.cb 5) (H.out.lb 5) HQ.out.1 HQ.out.2.1) ?_; rintro e w_ ⟨E4, E5, x4, x5, rfl, hO⟩; refine ⟨_, rfl, ?_⟩; replace H := aM (H.out.app hO); clear hO; (try refine nmL ?_)))
      go_ret
      exact ⟨rfl, H.out.below⟩
    | true =>
      obtain ⟨r1, r2, r3, r4, r5, r6, r7, r8, r9, r10, hT⟩ : ∃ r1 r2 r3 r4 r5 r6 r7 r8 r9 r10, servedOf (zb 30) (zb 30) (zi 30) (zi 30) k a n ws bs wat = (r1, r2, r3, r4, r5, r6, r7, r8, r9, r10) := ⟨_, _, _, _, _, _, _, _, _, _, rfl⟩
      have HT := aM hT
      have HU := aM (told_suits (newOk 30) HK.out hT)
      have HD := aM (served_twice (newOk 30) HK.out hT).1
      have HZ := aM (show (zb 30).length ≤ 1048576 ∧ (zi 30).length ≤ 1048576 from by decide)
      have HB := aM (told_len hT (by decide) (by decide) (by decide) (by decide) HQ.out.1 HQ.out.2.1)
      clear hT
      have hs2 : s = false ∨ s = true := by cases s <;> simp
      obtain ⟨bk, ekk⟩ : ∃ bk, (k != k2) = bk := ⟨_, rfl⟩
      have hb2 : s = true → bk = false := fun h => by rw [← ekk, (hsk h).2]; exact bne_self_eq_false _
      clear hsk
      rcases hs2 with rfl | rfl
      case' inr => obtain rfl := hb2 rfl
      all_goals
        clear hb2
        go_upto_region 9 with (first | ((with_reducible refine nD 19 ?_); refine ldO 19 1 H.out hq ?_; (try refine nmL ?_)) | ((with_reducible refine nD 20 ?_); refine ldO 20 0 H.out hR ?_; (try refine nmL ?_)) | ((with_reducible refine nD 21 ?_); refine gC 21 Try.func23 (suitsS_own HS.out (H.out.ci 4) (H.out.li 4) (H.out.cb 5) (H.out.lb 5) (H.out.ci 2) (H.out.li 2) (H.out.cb 3) (H.out.lb 3) HQ.out.1 HQ.out.2.1 HQ.out.2.2.1 HQ.out.2.2.2) ?_; rintro e w_ ⟨rfl, hO⟩; refine ⟨_, rfl, ?_⟩; replace H := aM (H.out.step hO); clear hO; obtain ⟨za_0, zay_0, za_1, zay_1, za_2, zay_2, za_3, zay_3, za_4, zay_4, za_5, zay_5⟩ := bk6 (H.out.b 1); obtain ⟨zb_0, zby_0, zb_1, zby_1, zb_2, zby_2, zb_3, zby_3, zb_4, zby_4, zb_5, zby_5⟩ := bk6 (H.out.b 0); (try refine nmL ?_)) | ((with_reducible refine nD 33 ?_); refine ldO 33 1 H.out hq ?_; (try refine nmL ?_)) | ((with_reducible refine nD 34 ?_); refine gC 34 Try.func14 (specReq_own HK.out (H.out.ci 4) (H.out.li 4) (H.out.cb 5) (H.out.lb 5) HQ.out.1 HQ.out.2.1) ?_; rintro e w_ ⟨rfl, hO⟩; refine ⟨_, rfl, ?_⟩; replace H := aM (H.out.step hO); clear hO; (try refine nmL ?_)))
        refine rgI [1] 10 H.out ?_
        clear H
        intro w_ H
        have HL_ := aM (H.out.hasI [1])
        refine lO 1 46 0 hq HL_.out ?_
        clear HL_
        refine genL_ H (fun Lb hLb H => ?_)
        refine gen2_ (fun G a0 hA hG => ?_)
        obtain ⟨f, hf⟩ : ∃ f : Value → Value → Value → Value → Value → Value → Value → Act, f = fun x45 x47 x44 x48 x49 x6 x7 => (((((((a0.put (some 45) x45).put (some 47) x47).put (some 44) x44).put (some 48) x48).put (some 49) x49).put (some 6) x6).put (some 7) x7) := ⟨_, rfl⟩
        have sap_01 : ∀ (D0 D1 D2 D3 : Option Addr) (x0 x1 x2 x3 : Nat) (S0 S1 S2 S3 S4 S5 : Option Addr) (y0 y1 y2 y3 y4 y5 : Nat) (g6 : Nat) (g7 : Nat) (w1 : World), Aside0 (Own w w1 (rb (.slice S0 (r1).length y0) (r1) :: rb (.slice S1 (r2).length y1) (r2) :: ri (.slice S2 (r3).length y2) (r3) :: ri (.slice S3 (r4).length y3) (r4) :: ri (.slice S4 (r9).length y4) (r9) :: rb (.slice S5 (r10).length y5) (r10) :: rb (.slice D0 (zb 30).length x0) (zb 30) :: rb (.slice D1 (zb 30).length x1) (zb 30) :: ri (.slice D2 (zi 30).length x2) (zi 30) :: ri (.slice D3 (zi 30).length x3) (zi 30) :: bx g6 #[.slice none 0 0, .slice none 0 0, .slice none 0 0, .slice none 0 0] 51 :: bx g7 #[.int .i64 0, .int .i64 0, .int .i64 0, .int .i64 0, .slice none 0 0, .slice none 0 0] 28 :: Lb)) → G 2 #[true, true, true, true, true, true, true, true, false, false] (f (.agg #[.slice D0 (zb 30).length x0, .slice D1 (zb 30).length x1, .slice D2 (zi 30).length x2, .slice D3 (zi 30).length x3]) (.tuple #[.agg #[.slice S0 (r1).length y0, .slice S1 (r2).length y1, .slice S2 (r3).length y2, .slice S3 (r4).length y3], .agg #[.int .i64 r5, .int .i64 r6, .int .i64 r7, .int .i64 r8, .slice S4 (r9).length y4, .slice S5 (r10).length y5]]) (.tuple #[.agg #[.slice S0 (r1).length y0, .slice S1 (r2).length y1, .slice S2 (r3).length y2, .slice S3 (r4).length y3], .agg #[.int .i64 r5, .int .i64 r6, .int .i64 r7, .int .i64 r8, .slice S4 (r9).length y4, .slice S5 (r10).length y5]]) (.agg #[.slice S0 (r1).length y0, .slice S1 (r2).length y1, .slice S2 (r3).length y2, .slice S3 (r4).length y3]) (.agg #[.int .i64 r5, .int .i64 r6, .int .i64 r7, .int .i64 r8, .slice S4 (r9).length y4, .slice S5 (r10).length y5]) (.pointer (some ⟨g6, 0, none⟩)) (.pointer (some ⟨g7, 0, none⟩))) w1 := by
          intro D0 D1 D2 D3 x0 x1 x2 x3 S0 S1 S2 S3 S4 S5 y0 y1 y2 y3 y4 y5 g6 g7 w1 H
          subst hf hG hA hLb
          refine nm ?_
          refine stS 8 10 [13] H.out ?_
          clear H
          intro _ H
          refine stS 9 11 [13] H.out ?_
          clear H
          intro _ H
          refine done_ (by kernel_rfl) ?_
          go_upto_region 10 with fail
          refine rgI [13, 11, 10] 18 H.out ?_
          clear H
          intro w_ H
          have HL := aM (H.out.hasI [13, 11, 10])
          refine lO 0 50 0 hq HL.out ?_
          refine lO 1 51 0 hq HL.out ?_
          refine pO 2 52 ?_
          clear HL
          refine clS 3 53 Try.func29 (laws_at.calls A c l 2 p2 _ (H.out.arg HC.out) Hc.out E2.out) ?_
          rintro e w_2 ⟨rfl, hO⟩
          refine ⟨_, rfl, (H.out.drawn hO).hasI [13, 11, 10], nm ?_⟩
          replace H := aM (H.out.drawn hO)
          clear hO
          refine pO 4 54 ?_
          refine pO 5 55 ?_
          refine clS 6 56 Try.func19 (faultI_own (s := fs) (x := k) (y := fs) HF.out (by rw [if_pos HK.out]) (H.out.ci 16) (H.out.li 16) (H.out.cb 17) (H.out.lb 17) HQ.out.1 HQ.out.2.1) ?_
          rintro e w_3 ⟨E4, E5, x4, x5, rfl, hO⟩
          refine ⟨_, rfl, (H.out.app hO).hasI [15, 13, 12], nm ?_⟩
          replace H := aM (H.out.app hO)
          clear hO
          refine clS 7 57 Try.func24 (suitsI_own (suits_fault HK.out HF.out) (H.out.ci 18) (H.out.li 18) (H.out.cb 19) (H.out.lb 19) (H.out.ci 0) (H.out.li 0) (H.out.cb 1) (H.out.lb 1) HQ.out.1 HQ.out.2.1 (Nat.zero_le _) (Nat.zero_le _)) ?_
          rintro e w_4 ⟨rfl, hO⟩
          refine ⟨_, rfl, (H.out.step hO).hasI [15, 13, 12], nm ?_⟩
          replace H := aM (H.out.step hO)
          clear hO
          refine pO 8 58 ?_
          have HL := aM (H.out.hasI [15, 13, 12])
          refine lO 9 59 0 hq HL.out ?_
          refine lO 10 60 1 hR HL.out ?_
          clear HL
          refine clS 11 61 Try.func24 (suitsI_own HU.out (H.out.ci 18) (H.out.li 18) (H.out.cb 19) (H.out.lb 19) (H.out.ci 6) (H.out.li 6) (H.out.cb 7) (H.out.lb 7) HQ.out.1 HQ.out.2.1 HB.out.1 HB.out.2) ?_
          rintro e w_5 ⟨rfl, hO⟩
          refine ⟨_, rfl, (H.out.step hO).hasI [15, 13, 12], nm ?_⟩
          replace H := aM (H.out.step hO)
          clear hO
          refine pO 12 62 ?_
          refine pO 13 63 ?_
          have HL := aM (H.out.hasI [15, 13, 12])
          refine lO 14 64 2 hu HL.out ?_
          clear HL
          refine clS 15 65 Try.func30 (impl_DeviceOk.calls _ _ _ _ _ _ _ _ _ _ _ _ true _ (H.out.cb 2) (H.out.lb 2) (H.out.cb 3) (H.out.lb 3) (H.out.ci 4) (H.out.li 4) (H.out.ci 5) (H.out.li 5) (by rw [impl_DeviceOk_eq, HD.out])) ?_
          rintro e w_6 ⟨rfl, hO⟩
          refine ⟨_, rfl, (H.out.step hO).hasI [15, 13, 12], nm ?_⟩
          replace H := aM (H.out.step hO)
          clear hO
          refine pO 16 66 ?_
          refine pO 17 2 ?_
          refine done_ (by kernel_rfl) ?_
          go_wp2
          go_ret
          exact ⟨rfl, H.out.below⟩
        have sap_0 : ∀ (D0 D1 D2 D3 : Option Addr) (x0 x1 x2 x3 : Nat) (S0 S1 S2 S3 S4 S5 : Option Addr) (y0 y1 y2 y3 y4 y5 : Nat) (g6 : Nat) (w1 : World), Aside0 (Own w w1 (rb (.slice S0 (r1).length y0) (r1) :: rb (.slice S1 (r2).length y1) (r2) :: ri (.slice S2 (r3).length y2) (r3) :: ri (.slice S3 (r4).length y3) (r4) :: ri (.slice S4 (r9).length y4) (r9) :: rb (.slice S5 (r10).length y5) (r10) :: rb (.slice D0 (zb 30).length x0) (zb 30) :: rb (.slice D1 (zb 30).length x1) (zb 30) :: ri (.slice D2 (zi 30).length x2) (zi 30) :: ri (.slice D3 (zi 30).length x3) (zi 30) :: bx g6 #[.slice none 0 0, .slice none 0 0, .slice none 0 0, .slice none 0 0] 51 :: Lb)) → G 3 #[true, true, true, true, true, true, true, false, false, false] (f (.agg #[.slice D0 (zb 30).length x0, .slice D1 (zb 30).length x1, .slice D2 (zi 30).length x2, .slice D3 (zi 30).length x3]) (.tuple #[.agg #[.slice S0 (r1).length y0, .slice S1 (r2).length y1, .slice S2 (r3).length y2, .slice S3 (r4).length y3], .agg #[.int .i64 r5, .int .i64 r6, .int .i64 r7, .int .i64 r8, .slice S4 (r9).length y4, .slice S5 (r10).length y5]]) (.tuple #[.agg #[.slice S0 (r1).length y0, .slice S1 (r2).length y1, .slice S2 (r3).length y2, .slice S3 (r4).length y3], .agg #[.int .i64 r5, .int .i64 r6, .int .i64 r7, .int .i64 r8, .slice S4 (r9).length y4, .slice S5 (r10).length y5]]) (.agg #[.slice S0 (r1).length y0, .slice S1 (r2).length y1, .slice S2 (r3).length y2, .slice S3 (r4).length y3]) (.agg #[.int .i64 r5, .int .i64 r6, .int .i64 r7, .int .i64 r8, .slice S4 (r9).length y4, .slice S5 (r10).length y5]) (.pointer (some ⟨g6, 0, none⟩)) undef) w1 := by
          intro D0 D1 D2 D3 x0 x1 x2 x3 S0 S1 S2 S3 S4 S5 y0 y1 y2 y3 y4 y5 g6 w1 H
          subst hf hG hA hLb
          refine nm ?_
          refine rdy [7] ?_
          refine AllReadyL.cons rfl (by simp) (fun K hK => alR 7 #[.int .i64 0, .int .i64 0, .int .i64 0, .int .i64 0, .slice none 0 0, .slice none 0 0] 28 H.out (fun g7 w2 H2 => hK.out _ _ (H2.out.hasI [13]) (fun _ => eqA (sap_01 D0 D1 D2 D3 x0 x1 x2 x3 S0 S1 S2 S3 S4 S5 y0 y1 y2 y3 y4 y5 g6 g7 w2 (aM (H2.out.ins 11)))))) ?_
          exact AllReadyL.nil
        have sap_1 : ∀ (D0 D1 D2 D3 : Option Addr) (x0 x1 x2 x3 : Nat) (S0 S1 S2 S3 S4 S5 : Option Addr) (y0 y1 y2 y3 y4 y5 : Nat) (g7 : Nat) (w1 : World), Aside0 (Own w w1 (rb (.slice S0 (r1).length y0) (r1) :: rb (.slice S1 (r2).length y1) (r2) :: ri (.slice S2 (r3).length y2) (r3) :: ri (.slice S3 (r4).length y3) (r4) :: ri (.slice S4 (r9).length y4) (r9) :: rb (.slice S5 (r10).length y5) (r10) :: rb (.slice D0 (zb 30).length x0) (zb 30) :: rb (.slice D1 (zb 30).length x1) (zb 30) :: ri (.slice D2 (zi 30).length x2) (zi 30) :: ri (.slice D3 (zi 30).length x3) (zi 30) :: bx g7 #[.int .i64 0, .int .i64 0, .int .i64 0, .int .i64 0, .slice none 0 0, .slice none 0 0] 28 :: Lb)) → G 3 #[true, true, true, true, true, true, false, true, false, false] (f (.agg #[.slice D0 (zb 30).length x0, .slice D1 (zb 30).length x1, .slice D2 (zi 30).length x2, .slice D3 (zi 30).length x3]) (.tuple #[.agg #[.slice S0 (r1).length y0, .slice S1 (r2).length y1, .slice S2 (r3).length y2, .slice S3 (r4).length y3], .agg #[.int .i64 r5, .int .i64 r6, .int .i64 r7, .int .i64 r8, .slice S4 (r9).length y4, .slice S5 (r10).length y5]]) (.tuple #[.agg #[.slice S0 (r1).length y0, .slice S1 (r2).length y1, .slice S2 (r3).length y2, .slice S3 (r4).length y3], .agg #[.int .i64 r5, .int .i64 r6, .int .i64 r7, .int .i64 r8, .slice S4 (r9).length y4, .slice S5 (r10).length y5]]) (.agg #[.slice S0 (r1).length y0, .slice S1 (r2).length y1, .slice S2 (r3).length y2, .slice S3 (r4).length y3]) (.agg #[.int .i64 r5, .int .i64 r6, .int .i64 r7, .int .i64 r8, .slice S4 (r9).length y4, .slice S5 (r10).length y5]) undef (.pointer (some ⟨g7, 0, none⟩))) w1 := by
          intro D0 D1 D2 D3 x0 x1 x2 x3 S0 S1 S2 S3 S4 S5 y0 y1 y2 y3 y4 y5 g7 w1 H
          subst hf hG hA hLb
          refine nm ?_
          refine rdy [6] ?_
          refine AllReadyL.cons rfl (by simp) (fun K hK => alR 6 #[.slice none 0 0, .slice none 0 0, .slice none 0 0, .slice none 0 0] 51 H.out (fun g6 w2 H2 => hK.out _ _ (H2.out.hasI [13]) (fun _ => eqA (sap_01 D0 D1 D2 D3 x0 x1 x2 x3 S0 S1 S2 S3 S4 S5 y0 y1 y2 y3 y4 y5 g6 g7 w2 (aM (H2.out.ins 10)))))) ?_
          exact AllReadyL.nil
        have sap_ : ∀ (D0 D1 D2 D3 : Option Addr) (x0 x1 x2 x3 : Nat) (S0 S1 S2 S3 S4 S5 : Option Addr) (y0 y1 y2 y3 y4 y5 : Nat) (w1 : World), Aside0 (Own w w1 (rb (.slice S0 (r1).length y0) (r1) :: rb (.slice S1 (r2).length y1) (r2) :: ri (.slice S2 (r3).length y2) (r3) :: ri (.slice S3 (r4).length y3) (r4) :: ri (.slice S4 (r9).length y4) (r9) :: rb (.slice S5 (r10).length y5) (r10) :: rb (.slice D0 (zb 30).length x0) (zb 30) :: rb (.slice D1 (zb 30).length x1) (zb 30) :: ri (.slice D2 (zi 30).length x2) (zi 30) :: ri (.slice D3 (zi 30).length x3) (zi 30) :: Lb)) → G 4 #[true, true, true, true, true, true, false, false, false, false] (f (.agg #[.slice D0 (zb 30).length x0, .slice D1 (zb 30).length x1, .slice D2 (zi 30).length x2, .slice D3 (zi 30).length x3]) (.tuple #[.agg #[.slice S0 (r1).length y0, .slice S1 (r2).length y1, .slice S2 (r3).length y2, .slice S3 (r4).length y3], .agg #[.int .i64 r5, .int .i64 r6, .int .i64 r7, .int .i64 r8, .slice S4 (r9).length y4, .slice S5 (r10).length y5]]) (.tuple #[.agg #[.slice S0 (r1).length y0, .slice S1 (r2).length y1, .slice S2 (r3).length y2, .slice S3 (r4).length y3], .agg #[.int .i64 r5, .int .i64 r6, .int .i64 r7, .int .i64 r8, .slice S4 (r9).length y4, .slice S5 (r10).length y5]]) (.agg #[.slice S0 (r1).length y0, .slice S1 (r2).length y1, .slice S2 (r3).length y2, .slice S3 (r4).length y3]) (.agg #[.int .i64 r5, .int .i64 r6, .int .i64 r7, .int .i64 r8, .slice S4 (r9).length y4, .slice S5 (r10).length y5]) undef undef) w1 := by
          intro D0 D1 D2 D3 x0 x1 x2 x3 S0 S1 S2 S3 S4 S5 y0 y1 y2 y3 y4 y5 w1 H
          subst hf hG hA hLb
          refine nm ?_
          refine rdy [6, 7] ?_
          refine AllReadyL.cons rfl (by simp) (fun K hK => alR 6 #[.slice none 0 0, .slice none 0 0, .slice none 0 0, .slice none 0 0] 51 H.out (fun g6 w2 H2 => hK.out _ _ (H2.out.hasI [12]) (fun _ => eqA (sap_0 D0 D1 D2 D3 x0 x1 x2 x3 S0 S1 S2 S3 S4 S5 y0 y1 y2 y3 y4 y5 g6 w2 (aM (H2.out.ins 10)))))) ?_
          refine AllReadyL.cons rfl (by simp) (fun K hK => alR 7 #[.int .i64 0, .int .i64 0, .int .i64 0, .int .i64 0, .slice none 0 0, .slice none 0 0] 28 H.out (fun g7 w2 H2 => hK.out _ _ (H2.out.hasI [12]) (fun _ => eqA (sap_1 D0 D1 D2 D3 x0 x1 x2 x3 S0 S1 S2 S3 S4 S5 y0 y1 y2 y3 y4 y5 g7 w2 (aM (H2.out.ins 10)))))) ?_
          exact AllReadyL.nil
        have sa2_01 : ∀ (D0 D1 D2 D3 : Option Addr) (x0 x1 x2 x3 : Nat) (S0 S1 S2 S3 S4 S5 : Option Addr) (y0 y1 y2 y3 y4 y5 : Nat) (g6 : Nat) (g7 : Nat) (w1 : World), Aside0 (Own w w1 (rb (.slice S0 (r1).length y0) (r1) :: rb (.slice S1 (r2).length y1) (r2) :: ri (.slice S2 (r3).length y2) (r3) :: ri (.slice S3 (r4).length y3) (r4) :: ri (.slice S4 (r9).length y4) (r9) :: rb (.slice S5 (r10).length y5) (r10) :: rb (.slice D0 (zb 30).length x0) (zb 30) :: rb (.slice D1 (zb 30).length x1) (zb 30) :: ri (.slice D2 (zi 30).length x2) (zi 30) :: ri (.slice D3 (zi 30).length x3) (zi 30) :: bx g6 #[.slice none 0 0, .slice none 0 0, .slice none 0 0, .slice none 0 0] 51 :: bx g7 #[.int .i64 0, .int .i64 0, .int .i64 0, .int .i64 0, .slice none 0 0, .slice none 0 0] 28 :: Lb)) → G 5 #[true, true, true, false, false, false, true, true, false, false] (f (.agg #[.slice D0 (zb 30).length x0, .slice D1 (zb 30).length x1, .slice D2 (zi 30).length x2, .slice D3 (zi 30).length x3]) (.tuple #[.agg #[.slice S0 (r1).length y0, .slice S1 (r2).length y1, .slice S2 (r3).length y2, .slice S3 (r4).length y3], .agg #[.int .i64 r5, .int .i64 r6, .int .i64 r7, .int .i64 r8, .slice S4 (r9).length y4, .slice S5 (r10).length y5]]) undef undef undef (.pointer (some ⟨g6, 0, none⟩)) (.pointer (some ⟨g7, 0, none⟩))) w1 := by
          intro D0 D1 D2 D3 x0 x1 x2 x3 S0 S1 S2 S3 S4 S5 y0 y1 y2 y3 y4 y5 g6 g7 w1 H
          subst hf hG hA hLb
          refine nm ?_
          refine pO 3 44 ?_
          refine pO 4 48 ?_
          refine pO 5 49 ?_
          exact eqA (sap_01 D0 D1 D2 D3 x0 x1 x2 x3 S0 S1 S2 S3 S4 S5 y0 y1 y2 y3 y4 y5 g6 g7 w1 H)
        have sa2_0 : ∀ (D0 D1 D2 D3 : Option Addr) (x0 x1 x2 x3 : Nat) (S0 S1 S2 S3 S4 S5 : Option Addr) (y0 y1 y2 y3 y4 y5 : Nat) (g6 : Nat) (w1 : World), Aside0 (Own w w1 (rb (.slice S0 (r1).length y0) (r1) :: rb (.slice S1 (r2).length y1) (r2) :: ri (.slice S2 (r3).length y2) (r3) :: ri (.slice S3 (r4).length y3) (r4) :: ri (.slice S4 (r9).length y4) (r9) :: rb (.slice S5 (r10).length y5) (r10) :: rb (.slice D0 (zb 30).length x0) (zb 30) :: rb (.slice D1 (zb 30).length x1) (zb 30) :: ri (.slice D2 (zi 30).length x2) (zi 30) :: ri (.slice D3 (zi 30).length x3) (zi 30) :: bx g6 #[.slice none 0 0, .slice none 0 0, .slice none 0 0, .slice none 0 0] 51 :: Lb)) → G 6 #[true, true, true, false, false, false, true, false, false, false] (f (.agg #[.slice D0 (zb 30).length x0, .slice D1 (zb 30).length x1, .slice D2 (zi 30).length x2, .slice D3 (zi 30).length x3]) (.tuple #[.agg #[.slice S0 (r1).length y0, .slice S1 (r2).length y1, .slice S2 (r3).length y2, .slice S3 (r4).length y3], .agg #[.int .i64 r5, .int .i64 r6, .int .i64 r7, .int .i64 r8, .slice S4 (r9).length y4, .slice S5 (r10).length y5]]) undef undef undef (.pointer (some ⟨g6, 0, none⟩)) undef) w1 := by
          intro D0 D1 D2 D3 x0 x1 x2 x3 S0 S1 S2 S3 S4 S5 y0 y1 y2 y3 y4 y5 g6 w1 H
          subst hf hG hA hLb
          refine nm ?_
          refine pO 3 44 ?_
          refine pO 4 48 ?_
          refine pO 5 49 ?_
          exact eqA (sap_0 D0 D1 D2 D3 x0 x1 x2 x3 S0 S1 S2 S3 S4 S5 y0 y1 y2 y3 y4 y5 g6 w1 H)
        have sa2_1 : ∀ (D0 D1 D2 D3 : Option Addr) (x0 x1 x2 x3 : Nat) (S0 S1 S2 S3 S4 S5 : Option Addr) (y0 y1 y2 y3 y4 y5 : Nat) (g7 : Nat) (w1 : World), Aside0 (Own w w1 (rb (.slice S0 (r1).length y0) (r1) :: rb (.slice S1 (r2).length y1) (r2) :: ri (.slice S2 (r3).length y2) (r3) :: ri (.slice S3 (r4).length y3) (r4) :: ri (.slice S4 (r9).length y4) (r9) :: rb (.slice S5 (r10).length y5) (r10) :: rb (.slice D0 (zb 30).length x0) (zb 30) :: rb (.slice D1 (zb 30).length x1) (zb 30) :: ri (.slice D2 (zi 30).length x2) (zi 30) :: ri (.slice D3 (zi 30).length x3) (zi 30) :: bx g7 #[.int .i64 0, .int .i64 0, .int .i64 0, .int .i64 0, .slice none 0 0, .slice none 0 0] 28 :: Lb)) → G 6 #[true, true, true, false, false, false, false, true, false, false] (f (.agg #[.slice D0 (zb 30).length x0, .slice D1 (zb 30).length x1, .slice D2 (zi 30).length x2, .slice D3 (zi 30).length x3]) (.tuple #[.agg #[.slice S0 (r1).length y0, .slice S1 (r2).length y1, .slice S2 (r3).length y2, .slice S3 (r4).length y3], .agg #[.int .i64 r5, .int .i64 r6, .int .i64 r7, .int .i64 r8, .slice S4 (r9).length y4, .slice S5 (r10).length y5]]) undef undef undef undef (.pointer (some ⟨g7, 0, none⟩))) w1 := by
          intro D0 D1 D2 D3 x0 x1 x2 x3 S0 S1 S2 S3 S4 S5 y0 y1 y2 y3 y4 y5 g7 w1 H
          subst hf hG hA hLb
          refine nm ?_
          refine pO 3 44 ?_
          refine pO 4 48 ?_
          refine pO 5 49 ?_
          exact eqA (sap_1 D0 D1 D2 D3 x0 x1 x2 x3 S0 S1 S2 S3 S4 S5 y0 y1 y2 y3 y4 y5 g7 w1 H)
        have sa2_ : ∀ (D0 D1 D2 D3 : Option Addr) (x0 x1 x2 x3 : Nat) (S0 S1 S2 S3 S4 S5 : Option Addr) (y0 y1 y2 y3 y4 y5 : Nat) (w1 : World), Aside0 (Own w w1 (rb (.slice S0 (r1).length y0) (r1) :: rb (.slice S1 (r2).length y1) (r2) :: ri (.slice S2 (r3).length y2) (r3) :: ri (.slice S3 (r4).length y3) (r4) :: ri (.slice S4 (r9).length y4) (r9) :: rb (.slice S5 (r10).length y5) (r10) :: rb (.slice D0 (zb 30).length x0) (zb 30) :: rb (.slice D1 (zb 30).length x1) (zb 30) :: ri (.slice D2 (zi 30).length x2) (zi 30) :: ri (.slice D3 (zi 30).length x3) (zi 30) :: Lb)) → G 7 #[true, true, true, false, false, false, false, false, false, false] (f (.agg #[.slice D0 (zb 30).length x0, .slice D1 (zb 30).length x1, .slice D2 (zi 30).length x2, .slice D3 (zi 30).length x3]) (.tuple #[.agg #[.slice S0 (r1).length y0, .slice S1 (r2).length y1, .slice S2 (r3).length y2, .slice S3 (r4).length y3], .agg #[.int .i64 r5, .int .i64 r6, .int .i64 r7, .int .i64 r8, .slice S4 (r9).length y4, .slice S5 (r10).length y5]]) undef undef undef undef undef) w1 := by
          intro D0 D1 D2 D3 x0 x1 x2 x3 S0 S1 S2 S3 S4 S5 y0 y1 y2 y3 y4 y5 w1 H
          subst hf hG hA hLb
          refine nm ?_
          refine pO 3 44 ?_
          refine pO 4 48 ?_
          refine pO 5 49 ?_
          exact eqA (sap_ D0 D1 D2 D3 x0 x1 x2 x3 S0 S1 S2 S3 S4 S5 y0 y1 y2 y3 y4 y5 w1 H)
        have sa1_01 : ∀ (D0 D1 D2 D3 : Option Addr) (x0 x1 x2 x3 : Nat) (g6 : Nat) (g7 : Nat) (w1 : World), Aside0 (Own w w1 (rb (.slice D0 (zb 30).length x0) (zb 30) :: rb (.slice D1 (zb 30).length x1) (zb 30) :: ri (.slice D2 (zi 30).length x2) (zi 30) :: ri (.slice D3 (zi 30).length x3) (zi 30) :: bx g6 #[.slice none 0 0, .slice none 0 0, .slice none 0 0, .slice none 0 0] 51 :: bx g7 #[.int .i64 0, .int .i64 0, .int .i64 0, .int .i64 0, .slice none 0 0, .slice none 0 0] 28 :: Lb)) → G 6 #[true, true, false, false, false, false, true, true, false, false] (f (.agg #[.slice D0 (zb 30).length x0, .slice D1 (zb 30).length x1, .slice D2 (zi 30).length x2, .slice D3 (zi 30).length x3]) undef undef undef undef (.pointer (some ⟨g6, 0, none⟩)) (.pointer (some ⟨g7, 0, none⟩))) w1 := by
          intro D0 D1 D2 D3 x0 x1 x2 x3 g6 g7 w1 H
          subst hf hG hA hLb
          refine nm ?_
          refine rdy [2] ?_
          refine AllReadyL.cons rfl (by simp) (fun K hK => goR (some 47) Try.func27 (serve_own HT.out (H.out.cb 0) (H.out.lb 0) (H.out.cb 1) (H.out.lb 1) (H.out.ci 2) (H.out.li 2) (H.out.ci 3) (H.out.li 3) (H.out.ci 10) (H.out.li 10) (H.out.cb 11) (H.out.lb 11) HZ.out.1 HZ.out.1 HZ.out.2 HZ.out.2 HQ.out.1 HQ.out.2.1) (fun e w2 h_ => by obtain ⟨S0, S1, S2, S3, S4, S5, y0, y1, y2, y3, y4, y5, rfl, hO⟩ := h_; exact ⟨_, rfl, hK.out _ _ ((H.out.app hO).hasI [13]) (fun _ => eqA (sa2_01 D0 D1 D2 D3 x0 x1 x2 x3 S0 S1 S2 S3 S4 S5 y0 y1 y2 y3 y4 y5 g6 g7 w2 (aM (H.out.app hO))))⟩)) ?_
          exact AllReadyL.nil
        have sa1_0 : ∀ (D0 D1 D2 D3 : Option Addr) (x0 x1 x2 x3 : Nat) (g6 : Nat) (w1 : World), Aside0 (Own w w1 (rb (.slice D0 (zb 30).length x0) (zb 30) :: rb (.slice D1 (zb 30).length x1) (zb 30) :: ri (.slice D2 (zi 30).length x2) (zi 30) :: ri (.slice D3 (zi 30).length x3) (zi 30) :: bx g6 #[.slice none 0 0, .slice none 0 0, .slice none 0 0, .slice none 0 0] 51 :: Lb)) → G 7 #[true, true, false, false, false, false, true, false, false, false] (f (.agg #[.slice D0 (zb 30).length x0, .slice D1 (zb 30).length x1, .slice D2 (zi 30).length x2, .slice D3 (zi 30).length x3]) undef undef undef undef (.pointer (some ⟨g6, 0, none⟩)) undef) w1 := by
          intro D0 D1 D2 D3 x0 x1 x2 x3 g6 w1 H
          subst hf hG hA hLb
          refine nm ?_
          refine rdy [2, 7] ?_
          refine AllReadyL.cons rfl (by simp) (fun K hK => goR (some 47) Try.func27 (serve_own HT.out (H.out.cb 0) (H.out.lb 0) (H.out.cb 1) (H.out.lb 1) (H.out.ci 2) (H.out.li 2) (H.out.ci 3) (H.out.li 3) (H.out.ci 9) (H.out.li 9) (H.out.cb 10) (H.out.lb 10) HZ.out.1 HZ.out.1 HZ.out.2 HZ.out.2 HQ.out.1 HQ.out.2.1) (fun e w2 h_ => by obtain ⟨S0, S1, S2, S3, S4, S5, y0, y1, y2, y3, y4, y5, rfl, hO⟩ := h_; exact ⟨_, rfl, hK.out _ _ ((H.out.app hO).hasI [12]) (fun _ => eqA (sa2_0 D0 D1 D2 D3 x0 x1 x2 x3 S0 S1 S2 S3 S4 S5 y0 y1 y2 y3 y4 y5 g6 w2 (aM (H.out.app hO))))⟩)) ?_
          refine AllReadyL.cons rfl (by simp) (fun K hK => alR 7 #[.int .i64 0, .int .i64 0, .int .i64 0, .int .i64 0, .slice none 0 0, .slice none 0 0] 28 H.out (fun g7 w2 H2 => hK.out _ _ (H2.out.hasI [7]) (fun _ => eqA (sa1_01 D0 D1 D2 D3 x0 x1 x2 x3 g6 g7 w2 (aM (H2.out.ins 5)))))) ?_
          exact AllReadyL.nil
        have sa1_1 : ∀ (D0 D1 D2 D3 : Option Addr) (x0 x1 x2 x3 : Nat) (g7 : Nat) (w1 : World), Aside0 (Own w w1 (rb (.slice D0 (zb 30).length x0) (zb 30) :: rb (.slice D1 (zb 30).length x1) (zb 30) :: ri (.slice D2 (zi 30).length x2) (zi 30) :: ri (.slice D3 (zi 30).length x3) (zi 30) :: bx g7 #[.int .i64 0, .int .i64 0, .int .i64 0, .int .i64 0, .slice none 0 0, .slice none 0 0] 28 :: Lb)) → G 7 #[true, true, false, false, false, false, false, true, false, false] (f (.agg #[.slice D0 (zb 30).length x0, .slice D1 (zb 30).length x1, .slice D2 (zi 30).length x2, .slice D3 (zi 30).length x3]) undef undef undef undef undef (.pointer (some ⟨g7, 0, none⟩))) w1 := by
          intro D0 D1 D2 D3 x0 x1 x2 x3 g7 w1 H
          subst hf hG hA hLb
          refine nm ?_
          refine rdy [2, 6] ?_
          refine AllReadyL.cons rfl (by simp) (fun K hK => goR (some 47) Try.func27 (serve_own HT.out (H.out.cb 0) (H.out.lb 0) (H.out.cb 1) (H.out.lb 1) (H.out.ci 2) (H.out.li 2) (H.out.ci 3) (H.out.li 3) (H.out.ci 9) (H.out.li 9) (H.out.cb 10) (H.out.lb 10) HZ.out.1 HZ.out.1 HZ.out.2 HZ.out.2 HQ.out.1 HQ.out.2.1) (fun e w2 h_ => by obtain ⟨S0, S1, S2, S3, S4, S5, y0, y1, y2, y3, y4, y5, rfl, hO⟩ := h_; exact ⟨_, rfl, hK.out _ _ ((H.out.app hO).hasI [12]) (fun _ => eqA (sa2_1 D0 D1 D2 D3 x0 x1 x2 x3 S0 S1 S2 S3 S4 S5 y0 y1 y2 y3 y4 y5 g7 w2 (aM (H.out.app hO))))⟩)) ?_
          refine AllReadyL.cons rfl (by simp) (fun K hK => alR 6 #[.slice none 0 0, .slice none 0 0, .slice none 0 0, .slice none 0 0] 51 H.out (fun g6 w2 H2 => hK.out _ _ (H2.out.hasI [7]) (fun _ => eqA (sa1_01 D0 D1 D2 D3 x0 x1 x2 x3 g6 g7 w2 (aM (H2.out.ins 4)))))) ?_
          exact AllReadyL.nil
        have sa1_ : ∀ (D0 D1 D2 D3 : Option Addr) (x0 x1 x2 x3 : Nat) (w1 : World), Aside0 (Own w w1 (rb (.slice D0 (zb 30).length x0) (zb 30) :: rb (.slice D1 (zb 30).length x1) (zb 30) :: ri (.slice D2 (zi 30).length x2) (zi 30) :: ri (.slice D3 (zi 30).length x3) (zi 30) :: Lb)) → G 8 #[true, true, false, false, false, false, false, false, false, false] (f (.agg #[.slice D0 (zb 30).length x0, .slice D1 (zb 30).length x1, .slice D2 (zi 30).length x2, .slice D3 (zi 30).length x3]) undef undef undef undef undef undef) w1 := by
          intro D0 D1 D2 D3 x0 x1 x2 x3 w1 H
          subst hf hG hA hLb
          refine nm ?_
          refine rdy [2, 6, 7] ?_
          refine AllReadyL.cons rfl (by simp) (fun K hK => goR (some 47) Try.func27 (serve_own HT.out (H.out.cb 0) (H.out.lb 0) (H.out.cb 1) (H.out.lb 1) (H.out.ci 2) (H.out.li 2) (H.out.ci 3) (H.out.li 3) (H.out.ci 8) (H.out.li 8) (H.out.cb 9) (H.out.lb 9) HZ.out.1 HZ.out.1 HZ.out.2 HZ.out.2 HQ.out.1 HQ.out.2.1) (fun e w2 h_ => by obtain ⟨S0, S1, S2, S3, S4, S5, y0, y1, y2, y3, y4, y5, rfl, hO⟩ := h_; exact ⟨_, rfl, hK.out _ _ ((H.out.app hO).hasI [11]) (fun _ => eqA (sa2_ D0 D1 D2 D3 x0 x1 x2 x3 S0 S1 S2 S3 S4 S5 y0 y1 y2 y3 y4 y5 w2 (aM (H.out.app hO))))⟩)) ?_
          refine AllReadyL.cons rfl (by simp) (fun K hK => alR 6 #[.slice none 0 0, .slice none 0 0, .slice none 0 0, .slice none 0 0] 51 H.out (fun g6 w2 H2 => hK.out _ _ (H2.out.hasI [6]) (fun _ => eqA (sa1_0 D0 D1 D2 D3 x0 x1 x2 x3 g6 w2 (aM (H2.out.ins 4)))))) ?_
          refine AllReadyL.cons rfl (by simp) (fun K hK => alR 7 #[.int .i64 0, .int .i64 0, .int .i64 0, .int .i64 0, .slice none 0 0, .slice none 0 0] 28 H.out (fun g7 w2 H2 => hK.out _ _ (H2.out.hasI [6]) (fun _ => eqA (sa1_1 D0 D1 D2 D3 x0 x1 x2 x3 g7 w2 (aM (H2.out.ins 4)))))) ?_
          exact AllReadyL.nil
        have sa0_01 : ∀ (g6 : Nat) (g7 : Nat) (w1 : World), Aside0 (Own w w1 (bx g6 #[.slice none 0 0, .slice none 0 0, .slice none 0 0, .slice none 0 0] 51 :: bx g7 #[.int .i64 0, .int .i64 0, .int .i64 0, .int .i64 0, .slice none 0 0, .slice none 0 0] 28 :: Lb)) → G 7 #[false, true, false, false, false, false, true, true, false, false] (f undef undef undef undef undef (.pointer (some ⟨g6, 0, none⟩)) (.pointer (some ⟨g7, 0, none⟩))) w1 := by
          intro g6 g7 w1 H
          subst hf hG hA hLb
          refine nm ?_
          refine rdy [0] ?_
          refine AllReadyL.cons rfl (by simp) (fun K hK => goR (some 45) Try.func28 (impl_DeviceNew.own 30 _) (fun e w2 h_ => by obtain ⟨D0, D1, D2, D3, x0, x1, x2, x3, rfl, hO⟩ := h_; exact ⟨_, rfl, hK.out _ _ ((H.out.app hO).hasI [7]) (fun _ => eqA (sa1_01 D0 D1 D2 D3 x0 x1 x2 x3 g6 g7 w2 (aM (H.out.app hO))))⟩)) ?_
          exact AllReadyL.nil
        have sa0_0 : ∀ (g6 : Nat) (w1 : World), Aside0 (Own w w1 (bx g6 #[.slice none 0 0, .slice none 0 0, .slice none 0 0, .slice none 0 0] 51 :: Lb)) → G 8 #[false, true, false, false, false, false, true, false, false, false] (f undef undef undef undef undef (.pointer (some ⟨g6, 0, none⟩)) undef) w1 := by
          intro g6 w1 H
          subst hf hG hA hLb
          refine nm ?_
          refine rdy [0, 7] ?_
          refine AllReadyL.cons rfl (by simp) (fun K hK => goR (some 45) Try.func28 (impl_DeviceNew.own 30 _) (fun e w2 h_ => by obtain ⟨D0, D1, D2, D3, x0, x1, x2, x3, rfl, hO⟩ := h_; exact ⟨_, rfl, hK.out _ _ ((H.out.app hO).hasI [6]) (fun _ => eqA (sa1_0 D0 D1 D2 D3 x0 x1 x2 x3 g6 w2 (aM (H.out.app hO))))⟩)) ?_
          refine AllReadyL.cons rfl (by simp) (fun K hK => alR 7 #[.int .i64 0, .int .i64 0, .int .i64 0, .int .i64 0, .slice none 0 0, .slice none 0 0] 28 H.out (fun g7 w2 H2 => hK.out _ _ (H2.out.hasI [3]) (fun _ => eqA (sa0_01 g6 g7 w2 (aM (H2.out.ins 1)))))) ?_
          exact AllReadyL.nil
        have sa0_1 : ∀ (g7 : Nat) (w1 : World), Aside0 (Own w w1 (bx g7 #[.int .i64 0, .int .i64 0, .int .i64 0, .int .i64 0, .slice none 0 0, .slice none 0 0] 28 :: Lb)) → G 8 #[false, true, false, false, false, false, false, true, false, false] (f undef undef undef undef undef undef (.pointer (some ⟨g7, 0, none⟩))) w1 := by
          intro g7 w1 H
          subst hf hG hA hLb
          refine nm ?_
          refine rdy [0, 6] ?_
          refine AllReadyL.cons rfl (by simp) (fun K hK => goR (some 45) Try.func28 (impl_DeviceNew.own 30 _) (fun e w2 h_ => by obtain ⟨D0, D1, D2, D3, x0, x1, x2, x3, rfl, hO⟩ := h_; exact ⟨_, rfl, hK.out _ _ ((H.out.app hO).hasI [6]) (fun _ => eqA (sa1_1 D0 D1 D2 D3 x0 x1 x2 x3 g7 w2 (aM (H.out.app hO))))⟩)) ?_
          refine AllReadyL.cons rfl (by simp) (fun K hK => alR 6 #[.slice none 0 0, .slice none 0 0, .slice none 0 0, .slice none 0 0] 51 H.out (fun g6 w2 H2 => hK.out _ _ (H2.out.hasI [3]) (fun _ => eqA (sa0_01 g6 g7 w2 (aM (H2.out.ins 0)))))) ?_
          exact AllReadyL.nil
        have sa0_ : ∀ (w1 : World), Aside0 (Own w w1 (Lb)) → G 9 #[false, true, false, false, false, false, false, false, false, false] (f undef undef undef undef undef undef undef) w1 := by
          intro  w1 H
          subst hf hG hA hLb
          refine nm ?_
          refine rdy [0, 6, 7] ?_
          refine AllReadyL.cons rfl (by simp) (fun K hK => goR (some 45) Try.func28 (impl_DeviceNew.own 30 _) (fun e w2 h_ => by obtain ⟨D0, D1, D2, D3, x0, x1, x2, x3, rfl, hO⟩ := h_; exact ⟨_, rfl, hK.out _ _ ((H.out.app hO).hasI [5]) (fun _ => eqA (sa1_ D0 D1 D2 D3 x0 x1 x2 x3 w2 (aM (H.out.app hO))))⟩)) ?_
          refine AllReadyL.cons rfl (by simp) (fun K hK => alR 6 #[.slice none 0 0, .slice none 0 0, .slice none 0 0, .slice none 0 0] 51 H.out (fun g6 w2 H2 => hK.out _ _ (H2.out.hasI [2]) (fun _ => eqA (sa0_0 g6 w2 (aM (H2.out.ins 0)))))) ?_
          refine AllReadyL.cons rfl (by simp) (fun K hK => alR 7 #[.int .i64 0, .int .i64 0, .int .i64 0, .int .i64 0, .slice none 0 0, .slice none 0 0] 28 H.out (fun g7 w2 H2 => hK.out _ _ (H2.out.hasI [2]) (fun _ => eqA (sa0_1 g7 w2 (aM (H2.out.ins 0)))))) ?_
          exact AllReadyL.nil
        subst hf hG hA
        exact eqA (sa0_ w_ H)
end Go.Proofs.Ytbdifcgkokajlaa.XSuited
