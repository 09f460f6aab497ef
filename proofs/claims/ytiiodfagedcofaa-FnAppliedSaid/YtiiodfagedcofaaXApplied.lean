/- The law that questions asked in two parts are as in one is true of all bytes, walked over what Apply computes. No condition. -/
import Derived.Test.YtiiodfagedcofaaGApply
import Derived.Test.YtiiodfagedcofaaGDraw7
import Derived.Test.YtiiodfagedcofaaGSame
import Derived.Test.YtiiodfagedcofaaGLawA
import Derived.Test.YtiiodfagedcofaaR
namespace Go.Proofs.Ytiiodfagedcofaa.XApplied
open Go.Proofs.Ytiiodfagedcofaa.G Go.Proofs.Ytiiodfagedcofaa.K Go Go.RowKit Go.Proofs.YtiiodfagedcofaaW.PrintWords Go.Proofs.YtiiodfagedcofaaW.PrintLast Go.Proofs.YtiiodfagedcofaaW.PrintMore Go.Proofs.Ytiiodfagedcofaa.PlainC Go.Proofs.Ytiiodfagedcofaa.RowC
set_option linter.unusedVariables false
set_option linter.unusedSimpArgs false
theorem at_range (l : List Int) (hl : l.length ≤ 1048576) (hb : B8 l) (j : Int) (j0 : 0 ≤ j) (j9 : j ≤ 9) : ∃ x, laws_at.f l j = some x ∧ 0 ≤ x ∧ x ≤ 255 := by
  unfold laws_at.f
  by_cases h : j < (l.length : Int)
  · have r := hb.rd (i := j) j0 h
    exact ⟨_, by rw [if_pos h, if_pos j0], by rw [w64 (by omega) (by omega)]; omega, by rw [w64 (by omega) (by omega)]; omega⟩
  · refine ⟨_, by rw [if_neg h], ?_⟩
    rw [w64 (x := (l.length : Int) * 7) (by omega) (by omega), w64 (x := j * 31) (by omega) (by omega), w64 (by omega) (by omega), tmod_pos (by omega)]
    omega
/-! A word masked, bit by bit. -/
def maskN (x a o : Nat) : Nat := (x &&& a) ||| (o &&& (2 ^ 64 - (a + 1)))
theorem maskN_lt {x a o : Nat} (hx : x < 65536) (ho : o < 65536) : maskN x a o < 65536 := by
  have h1 : x &&& a < 2 ^ 16 := Nat.lt_of_le_of_lt Nat.and_le_left hx
  have h2 : o &&& (2 ^ 64 - (a + 1)) < 2 ^ 16 := Nat.lt_of_le_of_lt Nat.and_le_left ho
  exact Nat.or_lt_two_pow h1 h2
theorem maskN_bit {x a o : Nat} (ha : a < 65536) (i : Nat) : (maskN x a o).testBit i = ((x.testBit i && a.testBit i) || (o.testBit i && (decide (i < 64) && !a.testBit i))) := by
  unfold maskN
  rw [Nat.testBit_or, Nat.testBit_and, Nat.testBit_and, Nat.testBit_two_pow_sub_succ (by omega : a < 2 ^ 64)]
theorem bit_high {x i : Nat} (hx : x < 65536) (hi : 16 ≤ i) : x.testBit i = false := Nat.testBit_lt_two_pow (Nat.lt_of_lt_of_le hx (by show 2 ^ 16 ≤ 2 ^ i; exact Nat.pow_le_pow_right (by decide) hi))
theorem maskN_ones {x o : Nat} (hx : x < 65536) (ho : o < 65536) : maskN x 65535 o = x := by
  refine Nat.eq_of_testBit_eq fun i => ?_
  rw [maskN_bit (by decide), show (65535 : Nat) = 2 ^ 16 - 1 from rfl, Nat.testBit_two_pow_sub_one]
  by_cases h : i < 16
  · simp [h]
  · simp [h, bit_high (i := i) hx (by omega), bit_high (i := i) ho (by omega)]
theorem maskN_none {x o : Nat} (ho : o < 65536) : maskN x 0 o = o := by
  refine Nat.eq_of_testBit_eq fun i => ?_
  rw [maskN_bit (by decide), Nat.zero_testBit]
  by_cases h : i < 64
  · simp [h]
  · simp [h, bit_high (i := i) ho (by omega)]
theorem maskN_twice {x a o : Nat} (ha : a < 65536) (ho : o < 65536) : maskN (maskN x a o) a o = maskN x a o := by
  refine Nat.eq_of_testBit_eq fun i => ?_
  rw [maskN_bit ha, maskN_bit ha]
  by_cases h : i < 64
  · cases x.testBit i <;> cases a.testBit i <;> cases o.testBit i <;> simp [h]
  · simp [bit_high ha (show 16 ≤ i by omega), bit_high ho (show 16 ≤ i by omega)]
theorem bits_nat (f : BinOp) (x y : Nat) (hx : x < 65536) (hy : y < 65536) (r : Nat) (hr : r < 2 ^ 63) (h : Go.bits f .i64 (x : Int) (y : Int) = IntKind.i64.wrap ((r : Nat) : Int)) : Go.bits f .i64 (x : Int) (y : Int) = (r : Int) := by
  rw [h, i64wrap, w64 (by omega) (by omega)]
theorem maskOf_nat {x a o : Nat} (hx : x < 65536) (ha : a < 65536) (ho : o < 65536) : maskOf (x : Int) (a : Int) (o : Int) = ((maskN x a o : Nat) : Int) := by
  have m : ∀ z : Nat, z < 65536 → ((z : Int) % ((2 ^ 64 : Nat) : Int)).toNat = z := fun z hz => by omega
  have e1 : Go.bits .and .i64 (x : Int) (a : Int) = ((x &&& a : Nat) : Int) := by
    have hlt : x &&& a < 2 ^ 16 := Nat.lt_of_le_of_lt Nat.and_le_left hx
    refine bits_nat _ x a hx ha _ (by omega) ?_
    unfold Go.bits
    simp only [BitVec.toNat_and, BitVec.toNat_ofInt]
    show IntKind.i64.wrap ((((x : Int) % ((2 ^ 64 : Nat) : Int)).toNat &&& ((a : Int) % ((2 ^ 64 : Nat) : Int)).toNat : Nat) : Int) = _
    rw [m x hx, m a ha]
  have e2 : Go.bits .andNot .i64 (o : Int) (a : Int) = ((o &&& (2 ^ 64 - (a + 1)) : Nat) : Int) := by
    have hlt : o &&& (2 ^ 64 - (a + 1)) < 2 ^ 16 := Nat.lt_of_le_of_lt Nat.and_le_left ho
    refine bits_nat _ o a ho ha _ (by omega) ?_
    unfold Go.bits
    simp only [BitVec.toNat_and, BitVec.toNat_not, BitVec.toNat_ofInt]
    show IntKind.i64.wrap ((((o : Int) % ((2 ^ 64 : Nat) : Int)).toNat &&& (2 ^ 64 - 1 - ((a : Int) % ((2 ^ 64 : Nat) : Int)).toNat) : Nat) : Int) = _
    rw [m o ho, m a ha, show 2 ^ 64 - 1 - a = 2 ^ 64 - (a + 1) by omega]
  have h1 : x &&& a < 2 ^ 16 := Nat.lt_of_le_of_lt Nat.and_le_left hx
  have h2 : o &&& (2 ^ 64 - (a + 1)) < 2 ^ 16 := Nat.lt_of_le_of_lt Nat.and_le_left ho
  unfold maskOf
  rw [e1, e2]
  show _ = (((x &&& a) ||| (o &&& (2 ^ 64 - (a + 1))) : Nat) : Int)
  refine bits_nat _ _ _ h1 h2 ((x &&& a) ||| (o &&& (2 ^ 64 - (a + 1)))) (by have := maskN_lt (a := a) hx ho; unfold maskN at this; omega) ?_
  unfold Go.bits
  simp only [BitVec.toNat_or, BitVec.toNat_ofInt]
  show IntKind.i64.wrap (((((x &&& a : Nat) : Int) % ((2 ^ 64 : Nat) : Int)).toNat ||| (((o &&& (2 ^ 64 - (a + 1)) : Nat) : Int) % ((2 ^ 64 : Nat) : Int)).toNat : Nat) : Int) = _
  rw [m _ h1, m _ h2]
/-- A word masked as the spec writes it. -/
theorem maskSpec {x a o : Nat} (hx : x < 65536) (ha : a < 65536) (ho : o < 65536) : Go.bits .or .i64 (Go.bits .and .i64 (x : Int) (a : Int)) (Go.bits .and .i64 (o : Int) (Go.bits .xor .i64 65535 (a : Int))) = maskOf (x : Int) (a : Int) (o : Int) := by
  have m : ∀ z : Nat, z < 65536 → ((z : Int) % ((2 ^ 64 : Nat) : Int)).toNat = z := fun z hz => by omega
  have and_ : ∀ y z : Nat, y < 65536 → z < 65536 → Go.bits .and .i64 (y : Int) (z : Int) = ((y &&& z : Nat) : Int) := fun y z hy hz => by
    have hlt : y &&& z < 2 ^ 16 := Nat.lt_of_le_of_lt Nat.and_le_left hy
    refine bits_nat _ y z hy hz _ (by omega) ?_
    unfold Go.bits
    simp only [BitVec.toNat_and, BitVec.toNat_ofInt]
    show IntKind.i64.wrap ((((y : Int) % ((2 ^ 64 : Nat) : Int)).toNat &&& ((z : Int) % ((2 ^ 64 : Nat) : Int)).toNat : Nat) : Int) = _
    rw [m y hy, m z hz]
  have hxl : (65535 ^^^ a) < 2 ^ 16 := Nat.xor_lt_two_pow (by decide) ha
  have x_ : Go.bits .xor .i64 65535 (a : Int) = ((65535 ^^^ a : Nat) : Int) := by
    refine bits_nat _ 65535 a (by decide) ha _ (by omega) ?_
    unfold Go.bits
    simp only [BitVec.toNat_xor, BitVec.toNat_ofInt]
    show IntKind.i64.wrap (((((65535 : Nat) : Int) % ((2 ^ 64 : Nat) : Int)).toNat ^^^ ((a : Int) % ((2 ^ 64 : Nat) : Int)).toNat : Nat) : Int) = _
    rw [m 65535 (by decide), m a ha]
  have e : o &&& (65535 ^^^ a) = o &&& (2 ^ 64 - (a + 1)) := by
    refine Nat.eq_of_testBit_eq fun i => ?_
    rw [Nat.testBit_and, Nat.testBit_and, Nat.testBit_xor, Nat.testBit_two_pow_sub_succ (by omega : a < 2 ^ 64), show (65535 : Nat) = 2 ^ 16 - 1 from rfl, Nat.testBit_two_pow_sub_one]
    by_cases h : i < 16
    · simp [h, show i < 64 by omega]
    · simp [bit_high (i := i) ho (by omega)]
  have h1 : x &&& a < 2 ^ 16 := Nat.lt_of_le_of_lt Nat.and_le_left hx
  have h2 : o &&& (65535 ^^^ a) < 2 ^ 16 := Nat.lt_of_le_of_lt Nat.and_le_left ho
  rw [maskOf_nat hx ha ho, x_, and_ x a hx ha, and_ o _ ho hxl]
  refine bits_nat _ _ _ h1 h2 _ (Nat.lt_of_lt_of_le (maskN_lt hx ho) (by decide)) ?_
  unfold Go.bits
  simp only [BitVec.toNat_or, BitVec.toNat_ofInt]
  show IntKind.i64.wrap ((((x &&& a : Nat) : Int) % ((2 ^ 64 : Nat) : Int)).toNat ||| (((o &&& (65535 ^^^ a) : Nat) : Int) % ((2 ^ 64 : Nat) : Int)).toNat : Nat) = _
  rw [m _ h1, m _ h2, maskN, e]
theorem word_nat {l : List Int} (h : l.all wordB = true) {p : Nat} (hp : p < l.length) : ∃ x : Nat, rd l (p : Int) = (x : Int) ∧ x < 65536 := by
  have h1 := List.all_eq_true.1 h l[p] (List.getElem_mem hp)
  rw [wordB_eq, decide_eq_true_iff] at h1
  exact ⟨l[p].toNat, by rw [rd_get hp]; omega, by omega⟩
theorem dev_word {c i : List Bool} {h v : List Int} (hd : deviceOkB c i h v = true) {p : Nat} (hp : p < h.length) : ∃ x : Nat, rd h (p : Int) = (x : Int) ∧ x < 65536 := by
  simp only [deviceOkB, Bool.and_eq_true] at hd
  exact word_nat hd.1.2 hp
theorem req_word {k a n : Int} {w : List Int} {t : List Bool} {e : Int} (hr : reqB k a n w t e = true) {p : Nat} (hp : p < w.length) : ∃ x : Nat, rd w (p : Int) = (x : Int) ∧ x < 65536 := by
  unfold reqB at hr
  simp only [Bool.and_eq_true] at hr
  exact word_nat hr.1.1 hp
/-! What a device asked twice does, and what is read back. -/
theorem over_cut {α : Type} : ∀ (ys xs pre : List α), ys.length ≤ xs.length → over (pre ++ xs) pre.length ys = pre ++ ys ++ xs.drop ys.length
  | [], xs, pre, _ => by simp [over]
  | y :: ys, [], pre, h => by simp at h
  | y :: ys, x :: xs, pre, h => by
    show over ((pre ++ x :: xs).set pre.length y) (pre.length + 1) ys = _
    have e : (pre ++ x :: xs).set pre.length y = (pre ++ [y]) ++ xs := by simp
    have := over_cut ys xs (pre ++ [y]) (by simpa using h)
    rw [List.length_append, List.length_singleton] at this
    rw [e, this]
    simp
theorem over_eq {α : Type} {xs ys : List α} {p : Nat} (h : p + ys.length ≤ xs.length) : over xs p ys = xs.take p ++ ys ++ xs.drop (p + ys.length) := by
  have h1 := over_cut ys (xs.drop p) (xs.take p) (by rw [List.length_drop]; omega)
  rw [List.take_append_drop, List.length_take, Nat.min_eq_left (by omega), List.drop_drop] at h1
  exact h1
theorem over_over {α : Type} {xs ys : List α} {p : Nat} (h : p + ys.length ≤ xs.length) : over (over xs p ys) p ys = over xs p ys := by
  rw [over_eq (xs := over xs p ys) (by rw [over_length]; exact h), over_eq h]
  have h1 : (xs.take p).length = p := by rw [List.length_take]; omega
  simp [List.take_append, List.drop_append, h1, show p + ys.length - p = ys.length by omega]
theorem over_read {α : Type} {xs ys : List α} {p : Nat} (h : p + ys.length ≤ xs.length) : ((over xs p ys).take (p + ys.length)).drop p = ys := by
  rw [over_eq h]
  have h1 : (xs.take p).length = p := by rw [List.length_take]; omega
  simp [List.take_append, List.drop_append, h1, show p + ys.length - p = ys.length by omega]
theorem over_words : ∀ (ys xs : List Int) (p : Nat), xs.all wordB = true → ys.all wordB = true → (over xs p ys).all wordB = true
  | [], xs, p, h, _ => h
  | y :: ys, xs, p, h, h2 => by
    rw [List.all_cons, Bool.and_eq_true] at h2
    refine over_words ys (xs.set p y) (p + 1) ?_ h2.2
    rw [List.all_eq_true] at h ⊢
    intro z hz
    rcases List.mem_or_eq_of_mem_set hz with h3 | h3
    · exact h z h3
    · subst h3; exact h2.1
theorem set_word {xs : List Int} {p : Nat} {y : Int} (h : xs.all wordB = true) (h2 : wordB y = true) : (xs.set p y).all wordB = true := over_words [y] xs p h (by simp [h2])
theorem mask_word {x a o : Nat} (hx : x < 65536) (ha : a < 65536) (ho : o < 65536) : wordB (maskOf (x : Int) (a : Int) (o : Int)) = true := by
  rw [maskOf_nat hx ha ho, wordB_eq, decide_eq_true_iff]
  have := maskN_lt (a := a) hx ho
  omega
theorem mask_twice {x a o : Nat} (hx : x < 65536) (ha : a < 65536) (ho : o < 65536) : maskOf (maskOf (x : Int) (a : Int) (o : Int)) (a : Int) (o : Int) = maskOf (x : Int) (a : Int) (o : Int) := by
  rw [maskOf_nat hx ha ho, maskOf_nat (maskN_lt hx ho) ha ho, maskN_twice ha ho]
theorem devOk_of {c i c' : List Bool} {h h' v : List Int} (hd : deviceOkB c i h v = true) (e1 : c'.length = c.length) (e2 : h'.length = h.length) (e3 : h'.all wordB = true) : deviceOkB c' i h' v = true := by
  simp only [deviceOkB, Bool.and_eq_true, decide_eq_true_eq] at hd ⊢
  exact ⟨⟨⟨⟨⟨by omega, hd.1.1.1.1.2⟩, by omega⟩, hd.1.1.2⟩, e3⟩, hd.2⟩
theorem devOk_h {c i : List Bool} {h v : List Int} (hd : deviceOkB c i h v = true) : h.all wordB = true := by
  simp only [deviceOkB, Bool.and_eq_true] at hd
  exact hd.1.2
theorem reqB_w {k a n : Int} {w : List Int} {t : List Bool} {e : Int} (hr : reqB k a n w t e = true) : w.all wordB = true := by
  unfold reqB at hr
  simp only [Bool.and_eq_true] at hr
  exact hr.1.1
/-- The places that a right question touches do not depend on what stands there. -/
theorem there_len {c i c' : List Bool} {h v h' : List Int} {k a n : Int} {w : List Int} {t : List Bool} {e : Int} (e1 : c'.length = c.length) (e2 : h'.length = h.length) : thereB c' i h' v k a n w t e = thereB c i h v k a n w t e := by
  unfold thereB
  rw [e1, e2]
/-- A word of a device, masked. -/
theorem maskAt {c i : List Bool} {h v : List Int} {k a n : Int} {w : List Int} {t : List Bool} {e : Int} (hd : deviceOkB c i h v = true) (hr : reqB k a n w t e = true) (hw : w.length = 2) {p : Nat} (hp : p < h.length) :
    wordB (maskOf (rd h (p : Int)) (rd w 0) (rd w 1)) = true ∧ maskOf (maskOf (rd h (p : Int)) (rd w 0) (rd w 1)) (rd w 0) (rd w 1) = maskOf (rd h (p : Int)) (rd w 0) (rd w 1) := by
  obtain ⟨x, hx, hx6⟩ := dev_word hd hp
  obtain ⟨y, hy, hy6⟩ := req_word hr (show 0 < w.length by omega)
  obtain ⟨z, hz, hz6⟩ := req_word hr (show 1 < w.length by omega)
  simp only [Int.natCast_zero, Int.natCast_one] at hy hz
  rw [hx, hy, hz]
  exact ⟨mask_word hx6 hy6 hz6, mask_twice hx6 hy6 hz6⟩
/-- A right device stays right, and asked again it tells the same and stays as it is. -/
theorem served_twice {c i : List Bool} {h v : List Int} {k a n : Int} {w : List Int} {t : List Bool} {e : Int} {r1 r2 : List Bool} {r3 r4 : List Int} {r5 r6 r7 r8 : Int} {r9 : List Int} {r10 : List Bool} (hd : deviceOkB c i h v = true) (hr : reqB k a n w t e = true)
    (hS : servedOf c i h v k a n w t e = (r1, r2, r3, r4, r5, r6, r7, r8, r9, r10)) : deviceOkB r1 r2 r3 r4 = true ∧ servedOf r1 r2 r3 r4 k a n w t e = (r1, r2, r3, r4, r5, r6, r7, r8, r9, r10) := by
  have hS0 := hS
  unfold servedOf at hS
  rw [if_pos ⟨hd, hr⟩] at hS
  by_cases ht : thereB c i h v k a n w t e = true
  · rw [if_pos ht] at hS
    obtain ⟨hk, a0, a1, f12, f34, f5, f6, f15, f16, f22, f23⟩ := reqB_facts hr
    rcases kind_cases hk with rfl | rfl | rfl | rfl | rfl | rfl | rfl | rfl | rfl | rfl
    · simp only [doneOf, Int.reduceEq, if_true, if_false, true_or, or_true, false_or, or_false, or_self, Prod.mk.injEq] at hS
      obtain ⟨rfl, rfl, rfl, rfl, rfl, rfl, rfl, rfl, rfl, rfl⟩ := hS
      exact ⟨hd, hS0⟩
    · simp only [doneOf, Int.reduceEq, if_true, if_false, true_or, or_true, false_or, or_false, or_self, Prod.mk.injEq] at hS
      obtain ⟨rfl, rfl, rfl, rfl, rfl, rfl, rfl, rfl, rfl, rfl⟩ := hS
      exact ⟨hd, hS0⟩
    · simp only [doneOf, Int.reduceEq, if_true, if_false, true_or, or_true, false_or, or_false, or_self, Prod.mk.injEq] at hS
      obtain ⟨rfl, rfl, rfl, rfl, rfl, rfl, rfl, rfl, rfl, rfl⟩ := hS
      exact ⟨hd, hS0⟩
    · simp only [doneOf, Int.reduceEq, if_true, if_false, true_or, or_true, false_or, or_false, or_self, Prod.mk.injEq] at hS
      obtain ⟨rfl, rfl, rfl, rfl, rfl, rfl, rfl, rfl, rfl, rfl⟩ := hS
      exact ⟨hd, hS0⟩
    · have hb : a.toNat + t.length ≤ c.length := by (have hf := f5 rfl; simp [thereB] at ht; omega)
      simp only [doneOf, Int.reduceEq, if_true, if_false, true_or, or_true, false_or, or_false, or_self, Prod.mk.injEq] at hS
      obtain ⟨rfl, rfl, rfl, rfl, rfl, rfl, rfl, rfl, rfl, rfl⟩ := hS
      have hd' := devOk_of (c' := over c a.toNat t) (h' := h) hd (over_length _ _ _) rfl (devOk_h hd)
      refine ⟨hd', ?_⟩
      unfold servedOf
      rw [if_pos ⟨hd', hr⟩, if_pos ((there_len (over_length _ _ _) rfl).trans ht)]
      simp only [doneOf, Int.reduceEq, if_true, if_false, true_or, or_true, false_or, or_false, or_self, over_over hb]
    · have hb : a.toNat + w.length ≤ h.length := by (have hf := f6 rfl; simp [thereB] at ht; omega)
      simp only [doneOf, Int.reduceEq, if_true, if_false, true_or, or_true, false_or, or_false, or_self, Prod.mk.injEq] at hS
      obtain ⟨rfl, rfl, rfl, rfl, rfl, rfl, rfl, rfl, rfl, rfl⟩ := hS
      have hd' := devOk_of (c' := c) (h' := over h a.toNat w) hd rfl (over_length _ _ _) (over_words _ _ _ (devOk_h hd) (reqB_w hr))
      refine ⟨hd', ?_⟩
      unfold servedOf
      rw [if_pos ⟨hd', hr⟩, if_pos ((there_len rfl (over_length _ _ _)).trans ht)]
      simp only [doneOf, Int.reduceEq, if_true, if_false, true_or, or_true, false_or, or_false, or_self, over_over hb]
    · have hb : a.toNat + t.length ≤ c.length := by (have hf := f15 rfl; simp [thereB] at ht; omega)
      simp only [doneOf, Int.reduceEq, if_true, if_false, true_or, or_true, false_or, or_false, or_self, Prod.mk.injEq] at hS
      obtain ⟨rfl, rfl, rfl, rfl, rfl, rfl, rfl, rfl, rfl, rfl⟩ := hS
      have hd' := devOk_of (c' := over c a.toNat t) (h' := h) hd (over_length _ _ _) rfl (devOk_h hd)
      refine ⟨hd', ?_⟩
      unfold servedOf
      rw [if_pos ⟨hd', hr⟩, if_pos ((there_len (over_length _ _ _) rfl).trans ht)]
      simp only [doneOf, Int.reduceEq, if_true, if_false, true_or, or_true, false_or, or_false, or_self, over_over hb]
    · have hb : a.toNat + w.length ≤ h.length := by (have hf := f16 rfl; simp [thereB] at ht; omega)
      simp only [doneOf, Int.reduceEq, if_true, if_false, true_or, or_true, false_or, or_false, or_self, Prod.mk.injEq] at hS
      obtain ⟨rfl, rfl, rfl, rfl, rfl, rfl, rfl, rfl, rfl, rfl⟩ := hS
      have hd' := devOk_of (c' := c) (h' := over h a.toNat w) hd rfl (over_length _ _ _) (over_words _ _ _ (devOk_h hd) (reqB_w hr))
      refine ⟨hd', ?_⟩
      unfold servedOf
      rw [if_pos ⟨hd', hr⟩, if_pos ((there_len rfl (over_length _ _ _)).trans ht)]
      simp only [doneOf, Int.reduceEq, if_true, if_false, true_or, or_true, false_or, or_false, or_self, over_over hb]
    · obtain ⟨p, rfl⟩ : ∃ p : Nat, a = (p : Int) := ⟨a.toNat, by omega⟩
      have hb : p < h.length := by (simp [thereB] at ht; omega)
      have hm := maskAt hd hr (f22 rfl).2.1 hb
      simp only [doneOf, Int.reduceEq, if_true, if_false, true_or, or_true, false_or, or_false, or_self, Prod.mk.injEq] at hS
      obtain ⟨rfl, rfl, rfl, rfl, rfl, rfl, rfl, rfl, rfl, rfl⟩ := hS
      simp only [Int.toNat_natCast]
      have hd' := devOk_of (c' := c) (h' := h.set p (maskOf (rd h (p : Int)) (rd w 0) (rd w 1))) hd rfl (List.length_set ..) (set_word (devOk_h hd) hm.1)
      refine ⟨hd', ?_⟩
      have hx : rd (h.set p (maskOf (rd h (p : Int)) (rd w 0) (rd w 1))) (p : Int) = maskOf (rd h (p : Int)) (rd w 0) (rd w 1) := by
        rw [rd_get (by rw [List.length_set]; exact hb), List.getElem_set_self]
      unfold servedOf
      rw [if_pos ⟨hd', hr⟩, if_pos ((there_len rfl (List.length_set ..)).trans ht)]
      simp only [doneOf, Int.reduceEq, if_true, if_false, true_or, or_true, false_or, or_false, or_self, Int.toNat_natCast, hx, hm.2, List.set_set]
    · have hb : e.toNat + w.length ≤ h.length := by (have hf := f23 rfl; simp [thereB] at ht; omega)
      simp only [doneOf, Int.reduceEq, if_true, if_false, true_or, or_true, false_or, or_false, or_self, Prod.mk.injEq] at hS
      obtain ⟨rfl, rfl, rfl, rfl, rfl, rfl, rfl, rfl, rfl, rfl⟩ := hS
      have hd' := devOk_of (c' := c) (h' := over h e.toNat w) hd rfl (over_length _ _ _) (over_words _ _ _ (devOk_h hd) (reqB_w hr))
      refine ⟨hd', ?_⟩
      unfold servedOf
      rw [if_pos ⟨hd', hr⟩, if_pos ((there_len rfl (over_length _ _ _)).trans ht)]
      simp only [doneOf, Int.reduceEq, if_true, if_false, true_or, or_true, false_or, or_false, or_self, over_over hb]
  · rw [if_neg ht] at hS
    simp only [Prod.mk.injEq] at hS
    obtain ⟨rfl, rfl, rfl, rfl, rfl, rfl, rfl, rfl, rfl, rfl⟩ := hS
    exact ⟨hd, hS0⟩
theorem filled_take (l : List Bool) : l.length ≤ (filledOf l).length ∧ (filledOf l).take l.length = l := by
  unfold filledOf
  exact ⟨by rw [List.length_append]; omega, List.take_left' rfl⟩
/-- Words that were written are read. -/
theorem read_words {c i : List Bool} {h v : List Int} (hd : deviceOkB c i h v = true) {a : Int} {m : Nat} (a0 : 0 ≤ a) (a1 : a ≤ 65535) (m1 : 1 ≤ m) (m2 : m ≤ 125) (ha : a + m ≤ 65536) (hb : a.toNat + m ≤ h.length) :
    servedOf c i h v 3 a (m : Int) [] [] 0 = (c, i, h, v, 3, 0, 0, 0, (h.take (a.toNat + m)).drop a.toNat, []) := by
  have hr : reqB 3 a (m : Int) [] [] 0 = true := by
    unfold reqB
    simp only [List.all_nil, Bool.true_and, Bool.and_eq_true, wordB_eq, decide_eq_true_eq]
    refine ⟨⟨a0, a1⟩, ?_⟩
    simp
    omega
  unfold servedOf
  rw [if_pos ⟨hd, hr⟩, if_pos (by simp [thereB]; omega)]
  simp only [doneOf, Int.reduceEq, if_true, if_false, show (a + (m : Int)).toNat = a.toNat + m by omega]
/-- Flags that were written are read. -/
theorem read_bits {c i : List Bool} {h v : List Int} (hd : deviceOkB c i h v = true) {a : Int} {m : Nat} (a0 : 0 ≤ a) (a1 : a ≤ 65535) (m1 : 1 ≤ m) (m2 : m ≤ 2000) (ha : a + m ≤ 65536) (hb : a.toNat + m ≤ c.length) :
    servedOf c i h v 1 a (m : Int) [] [] 0 = (c, i, h, v, 1, 0, 0, 0, [], filledOf ((c.take (a.toNat + m)).drop a.toNat)) := by
  have hr : reqB 1 a (m : Int) [] [] 0 = true := by
    unfold reqB
    simp only [List.all_nil, Bool.true_and, Bool.and_eq_true, wordB_eq, decide_eq_true_eq]
    refine ⟨⟨a0, a1⟩, ?_⟩
    simp
    omega
  unfold servedOf
  rw [if_pos ⟨hd, hr⟩, if_pos (by simp [thereB]; omega)]
  simp only [doneOf, Int.reduceEq, if_true, if_false, show (a + (m : Int)).toNat = a.toNat + m by omega]
theorem sameInts_l0 (a b : List Int) (hl : a.length ≤ 140737488351232) (he : a.length = b.length) (d : Nat) : ∀ i : Nat, i ≤ a.length → a.length - i = d →
    Ev (fun k => laws_sameInts.l0 k a b (i : Int)) (decide (a.drop i = b.drop i)) := by
  induction d with
  | zero =>
    intro i hi hd
    obtain rfl : i = a.length := by omega
    refine evUp ?_
    have h1 : ¬ ((a.length : Nat) : Int) < (a.length : Int) := by omega
    simp only [laws_sameInts.l0, h1, if_false]
    have e : decide (a.drop a.length = b.drop a.length) = true := by
      rw [List.drop_length, he, List.drop_length]; rfl
    rw [e]
    exact Ev.now _
  | succ d ih =>
    intro i hi hd
    have ha : i < a.length := by omega
    have hb : i < b.length := by omega
    refine evUp ?_
    have h1 : (i : Int) < (a.length : Int) := by omega
    have h2 : 0 ≤ (i : Int) := by omega
    have h3 : (i : Int) < (b.length : Int) := by omega
    simp only [laws_sameInts.l0, h1, h2, h3, if_true]
    rw [rd_get ha, rd_get hb, w64 (by omega) (by omega)]
    by_cases e : a[i] = b[i]
    · simp only [e, if_true]
      have e2 : decide (a.drop i = b.drop i) = decide (a.drop (i + 1) = b.drop (i + 1)) := by
        rw [decide_eq_decide, drop_eq_iff ha hb]; simp [e]
      rw [e2]
      exact ih (i + 1) (by omega) (by omega)
    · simp only [e, if_false]
      have e2 : decide (a.drop i = b.drop i) = false := by
        rw [decide_eq_false_iff_not, drop_eq_iff ha hb]; simp [e]
      rw [e2]
      exact Ev.now _

theorem sameInts_ev (a b : List Int) (hl : a.length ≤ 140737488351232) : Ev (fun k => laws_sameInts.f k a b) (decide (a = b)) := by
  by_cases he : a.length = b.length
  · have h := sameInts_l0 a b hl he a.length 0 (by omega) (by omega)
    have h1 : (a.length : Int) = (b.length : Int) := by omega
    simp only [laws_sameInts.f, h1, if_true]
    exact h
  · have h1 : ¬ (a.length : Int) = (b.length : Int) := by omega
    have e : decide (a = b) = false := by
      rw [decide_eq_false_iff_not]; intro h; exact he (by rw [h])
    simp only [laws_sameInts.f, h1, if_false]
    rw [e]
    exact Ev.now _

theorem sameInts_refl (a : List Int) (hl : a.length ≤ 140737488351232) : Ev (fun k => laws_sameInts.f k a a) true := by
  have h := sameInts_ev a a hl
  rwa [decide_eq_true rfl] at h
theorem sameBits_l0 (a b : List Bool) (hl : a.length ≤ 140737488355328) (he : a.length = b.length) (d : Nat) : ∀ i : Nat, i ≤ a.length → a.length - i = d →
    Ev (fun k => laws_sameBits.l0 k a b (i : Int)) (decide (a.drop i = b.drop i)) := by
  induction d with
  | zero =>
    intro i hi hd
    obtain rfl : i = a.length := by omega
    refine evUp ?_
    have h1 : ¬ ((a.length : Nat) : Int) < (a.length : Int) := by omega
    simp only [laws_sameBits.l0, h1, if_false]
    have e : decide (a.drop a.length = b.drop a.length) = true := by
      rw [List.drop_length, he, List.drop_length]; rfl
    rw [e]
    exact Ev.now _
  | succ d ih =>
    intro i hi hd
    have ha : i < a.length := by omega
    have hb : i < b.length := by omega
    refine evUp ?_
    have h1 : (i : Int) < (a.length : Int) := by omega
    have h2 : 0 ≤ (i : Int) := by omega
    have h3 : (i : Int) < (b.length : Int) := by omega
    simp only [laws_sameBits.l0, h1, h2, h3, if_true]
    rw [rdOf_get ha, rdOf_get hb, w64 (by omega) (by omega)]
    by_cases e : a[i] = b[i]
    · simp only [e, bne_self_eq_false, Bool.false_eq_true, if_false]
      have e2 : decide (a.drop i = b.drop i) = decide (a.drop (i + 1) = b.drop (i + 1)) := by
        rw [decide_eq_decide, drop_eq_iff ha hb]; simp [e]
      rw [e2]
      exact ih (i + 1) (by omega) (by omega)
    · have e3 : (a[i] != b[i]) = true := by simpa using e
      simp only [e3, if_true]
      have e2 : decide (a.drop i = b.drop i) = false := by
        rw [decide_eq_false_iff_not, drop_eq_iff ha hb]; simp [e]
      rw [e2]
      exact Ev.now _

theorem sameBits_ev (a b : List Bool) (hl : a.length ≤ 140737488355328) : Ev (fun k => laws_sameBits.f k a b) (decide (a = b)) := by
  by_cases he : a.length = b.length
  · have h := sameBits_l0 a b hl he a.length 0 (by omega) (by omega)
    have h1 : (a.length : Int) = (b.length : Int) := by omega
    simp only [laws_sameBits.f, h1, if_true]
    exact h
  · have h1 : ¬ (a.length : Int) = (b.length : Int) := by omega
    have e : decide (a = b) = false := by
      rw [decide_eq_false_iff_not]; intro h; exact he (by rw [h])
    simp only [laws_sameBits.f, h1, if_false]
    rw [e]
    exact Ev.now _

theorem sameBits_refl (a : List Bool) (hl : a.length ≤ 140737488355328) : Ev (fun k => laws_sameBits.f k a a) true := by
  have h := sameBits_ev a a hl
  rwa [decide_eq_true rfl] at h
theorem sameResp_refl (k f a n : Int) (w : List Int) (t : List Bool) (hw : w.length ≤ 1048576) (ht : t.length ≤ 1048576) : Ev (fun r => laws_sameResp.f r k f a n w t k f a n w t) true := by
  simp only [laws_sameResp.f, if_true]
  refine evBind (sameInts_refl w (by omega)) ?_
  simp only [if_true]
  exact evBind (sameBits_refl t (by omega)) (Ev.now _)
theorem sameResp_own {w : World} {A4 A5 B4 B5 : Option Addr} {c4 c5 d4 d5 : Nat} {k f a n : Int} {x : List Int} {y : List Bool} (h4 : Kd.C (Kd.int .i64) w A4 x.length x) (k4 : x.length ≤ c4) (h5 : Kd.C Kd.bool w A5 y.length y) (k5 : y.length ≤ c5) (i4 : Kd.C (Kd.int .i64) w B4 x.length x) (j4 : x.length ≤ d4) (i5 : Kd.C Kd.bool w B5 y.length y) (j5 : y.length ≤ d5) (mx : x.length ≤ 1048576) (my : y.length ≤ 1048576) :
    Calls Try.prog 10 #[.agg #[.int .i64 k, .int .i64 f, .int .i64 a, .int .i64 n, .slice A4 x.length c4, .slice A5 y.length c5], .agg #[.int .i64 k, .int .i64 f, .int .i64 a, .int .i64 n, .slice B4 x.length d4, .slice B5 y.length d5]] w fun e w' => e = .returned (.bool true) ∧ Below w.heap.size w w' := by
  obtain ⟨r, hr⟩ := Ev.rounds (sameResp_refl k f a n x y mx my)
  exact laws_sameResp.calls r k f a n A4 c4 x A5 c5 y k f a n B4 d4 x B5 d5 y true w h4 k4 h5 k5 i4 j4 i5 j5 hr
theorem equalB_l0 (a b : List Bool) (hl : a.length ≤ 140737488355328) (he : a.length = b.length) (d : Nat) : ∀ i : Nat, i ≤ a.length → a.length - i = d →
    Ev (fun k => slices_Equal_bool_bool.l0 k a b (a.length : Int) (i : Int)) (decide (a.drop i = b.drop i)) := by
  induction d with
  | zero =>
    intro i hi hd
    obtain rfl : i = a.length := by omega
    refine evUp ?_
    have h1 : ¬ ((a.length : Nat) : Int) < (a.length : Int) := by omega
    simp only [slices_Equal_bool_bool.l0, h1, if_false]
    have e : decide (a.drop a.length = b.drop a.length) = true := by
      rw [List.drop_length, he, List.drop_length]; rfl
    rw [e]
    exact Ev.now _
  | succ d ih =>
    intro i hi hd
    have ha : i < a.length := by omega
    have hb : i < b.length := by omega
    refine evUp ?_
    have h1 : (i : Int) < (a.length : Int) := by omega
    have h2 : 0 ≤ (i : Int) := by omega
    have h3 : (i : Int) < (b.length : Int) := by omega
    simp only [slices_Equal_bool_bool.l0, h1, h2, h3, if_true]
    rw [rdOf_get ha, rdOf_get hb, w64 (by omega) (by omega)]
    by_cases e : a[i] = b[i]
    · simp only [e, bne_self_eq_false, Bool.false_eq_true, if_false]
      have e2 : decide (a.drop i = b.drop i) = decide (a.drop (i + 1) = b.drop (i + 1)) := by
        rw [decide_eq_decide, drop_eq_iff ha hb]; simp [e]
      rw [e2]
      exact ih (i + 1) (by omega) (by omega)
    · have e3 : (a[i] != b[i]) = true := by simpa using e
      simp only [e3, if_true]
      have e2 : decide (a.drop i = b.drop i) = false := by
        rw [decide_eq_false_iff_not, drop_eq_iff ha hb]; simp [e]
      rw [e2]
      exact Ev.now _

theorem equalB_ev (a b : List Bool) (hl : a.length ≤ 140737488355328) : Ev (fun k => slices_Equal_bool_bool.f k a b) (decide (a = b)) := by
  by_cases he : a.length = b.length
  · have h := equalB_l0 a b hl he a.length 0 (by omega) (by omega)
    have h1 : (a.length : Int) = (b.length : Int) := by omega
    simp only [slices_Equal_bool_bool.f, if_pos h1]
    exact h
  · have h1 : ¬ (a.length : Int) = (b.length : Int) := by omega
    have e : decide (a = b) = false := by
      rw [decide_eq_false_iff_not]; intro h; exact he (by rw [h])
    simp only [slices_Equal_bool_bool.f, h1, if_false]
    rw [e]
    exact Ev.now _

theorem equalB_refl (a : List Bool) (hl : a.length ≤ 140737488355328) : Ev (fun k => slices_Equal_bool_bool.f k a a) true := by
  have h := equalB_ev a a hl
  rwa [decide_eq_true rfl] at h
theorem equalI_l0 (a b : List Int) (hl : a.length ≤ 140737488351232) (he : a.length = b.length) (d : Nat) : ∀ i : Nat, i ≤ a.length → a.length - i = d →
    Ev (fun k => slices_Equal_int_int.l0 k a b (a.length : Int) (i : Int)) (decide (a.drop i = b.drop i)) := by
  induction d with
  | zero =>
    intro i hi hd
    obtain rfl : i = a.length := by omega
    refine evUp ?_
    have h1 : ¬ ((a.length : Nat) : Int) < (a.length : Int) := by omega
    simp only [slices_Equal_int_int.l0, h1, if_false]
    have e : decide (a.drop a.length = b.drop a.length) = true := by
      rw [List.drop_length, he, List.drop_length]; rfl
    rw [e]
    exact Ev.now _
  | succ d ih =>
    intro i hi hd
    have ha : i < a.length := by omega
    have hb : i < b.length := by omega
    refine evUp ?_
    have h1 : (i : Int) < (a.length : Int) := by omega
    have h2 : 0 ≤ (i : Int) := by omega
    have h3 : (i : Int) < (b.length : Int) := by omega
    simp only [slices_Equal_int_int.l0, h1, h2, h3, if_true]
    rw [rd_get ha, rd_get hb, w64 (by omega) (by omega)]
    by_cases e : a[i] = b[i]
    · simp only [e, if_true]
      have e2 : decide (a.drop i = b.drop i) = decide (a.drop (i + 1) = b.drop (i + 1)) := by
        rw [decide_eq_decide, drop_eq_iff ha hb]; simp [e]
      rw [e2]
      exact ih (i + 1) (by omega) (by omega)
    · simp only [e, if_false]
      have e2 : decide (a.drop i = b.drop i) = false := by
        rw [decide_eq_false_iff_not, drop_eq_iff ha hb]; simp [e]
      rw [e2]
      exact Ev.now _

theorem equalI_ev (a b : List Int) (hl : a.length ≤ 140737488351232) : Ev (fun k => slices_Equal_int_int.f k a b) (decide (a = b)) := by
  by_cases he : a.length = b.length
  · have h := equalI_l0 a b hl he a.length 0 (by omega) (by omega)
    have h1 : (a.length : Int) = (b.length : Int) := by omega
    simp only [slices_Equal_int_int.f, if_pos h1]
    exact h
  · have h1 : ¬ (a.length : Int) = (b.length : Int) := by omega
    have e : decide (a = b) = false := by
      rw [decide_eq_false_iff_not]; intro h; exact he (by rw [h])
    simp only [slices_Equal_int_int.f, h1, if_false]
    rw [e]
    exact Ev.now _

theorem equalI_refl (a : List Int) (hl : a.length ≤ 140737488351232) : Ev (fun k => slices_Equal_int_int.f k a a) true := by
  have h := equalI_ev a a hl
  rwa [decide_eq_true rfl] at h
/-- Are two devices alike? -/
def sameB (a b : List Bool) (c d : List Int) (a1 b1 : List Bool) (c1 d1 : List Int) : Bool := if decide (a = a1) = true then (if decide (b = b1) = true then (if decide (c = c1) = true then decide (d = d1) else false) else false) else false
theorem impl_SameDevice_ev (a b : List Bool) (c d : List Int) (a1 b1 : List Bool) (c1 d1 : List Int) (h1 : a.length ≤ 1048576) (h2 : b.length ≤ 1048576) (h3 : c.length ≤ 1048576) (h4 : d.length ≤ 1048576) :
    Ev (fun k => impl_SameDevice.f k a b c d a1 b1 c1 d1) (sameB a b c d a1 b1 c1 d1) := by
  simp only [impl_SameDevice.f, sameB]
  refine evBind (equalB_ev a a1 (by omega)) ?_
  split
  · refine evBind (equalB_ev b b1 (by omega)) ?_
    split
    · refine evBind (equalI_ev c c1 (by omega)) ?_
      split
      · refine evBind (equalI_ev d d1 (by omega)) ?_
        exact Ev.now _
      · exact Ev.now _
    · exact Ev.now _
  · exact Ev.now _
theorem same_own {w : World} {Aa0 Aa1 Aa2 Aa3 : Option Addr} {ca0 ca1 ca2 ca3 : Nat} {la0 la1 : List Bool} {la2 la3 : List Int} {Ab0 Ab1 Ab2 Ab3 : Option Addr} {cb0 cb1 cb2 cb3 : Nat} {lb0 lb1 : List Bool} {lb2 lb3 : List Int} (ha0 : Kd.C Kd.bool w Aa0 la0.length la0) (ka0 : la0.length ≤ ca0) (ha1 : Kd.C Kd.bool w Aa1 la1.length la1) (ka1 : la1.length ≤ ca1) (ha2 : Kd.C (Kd.int .i64) w Aa2 la2.length la2) (ka2 : la2.length ≤ ca2) (ha3 : Kd.C (Kd.int .i64) w Aa3 la3.length la3) (ka3 : la3.length ≤ ca3) (hb0 : Kd.C Kd.bool w Ab0 lb0.length lb0) (kb0 : lb0.length ≤ cb0) (hb1 : Kd.C Kd.bool w Ab1 lb1.length lb1) (kb1 : lb1.length ≤ cb1) (hb2 : Kd.C (Kd.int .i64) w Ab2 lb2.length lb2) (kb2 : lb2.length ≤ cb2) (hb3 : Kd.C (Kd.int .i64) w Ab3 lb3.length lb3) (kb3 : lb3.length ≤ cb3) (m0 : la0.length ≤ 1048576) (m1 : la1.length ≤ 1048576) (m2 : la2.length ≤ 1048576) (m3 : la3.length ≤ 1048576) : Calls Try.prog 11 #[.agg #[.slice Aa0 la0.length ca0, .slice Aa1 la1.length ca1, .slice Aa2 la2.length ca2, .slice Aa3 la3.length ca3], .agg #[.slice Ab0 lb0.length cb0, .slice Ab1 lb1.length cb1, .slice Ab2 lb2.length cb2, .slice Ab3 lb3.length cb3]] w fun e w' => e = .returned (.bool (sameB la0 la1 la2 la3 lb0 lb1 lb2 lb3)) ∧ Below w.heap.size w w' := by
  obtain ⟨r, hr⟩ := Ev.rounds (impl_SameDevice_ev la0 la1 la2 la3 lb0 lb1 lb2 lb3 m0 m1 m2 m3)
  exact impl_SameDevice.calls r _ _ _ _ _ _ _ _ _ _ _ _ _ _ _ _ _ _ _ _ _ _ _ _ _ _ ha0 ka0 ha1 ka1 ha2 ka2 ha3 ka3 hb0 kb0 hb1 kb1 hb2 kb2 hb3 kb3 hr
theorem same_refl (a b : List Bool) (c d : List Int) : sameB a b c d a b c d = true := by simp [sameB]
theorem served_bad {c i : List Bool} {h v : List Int} {k a n : Int} {w : List Int} {t : List Bool} {e : Int} (hb : ¬ (deviceOkB c i h v = true ∧ reqB k a n w t e = true)) : (servedOf c i h v k a n w t e).1 = c ∧ (servedOf c i h v k a n w t e).2.1 = i ∧ (servedOf c i h v k a n w t e).2.2.1 = h ∧ (servedOf c i h v k a n w t e).2.2.2.1 = v := by
  unfold servedOf
  rw [if_neg hb]
  split <;> exact ⟨rfl, rfl, rfl, rfl⟩
/-- A right device stays right, whatever it is asked. -/
theorem applied_ok : ∀ (d : Dev) (qs : List S41), deviceOkB d.1 d.2.1 d.2.2.1 d.2.2.2 = true → deviceOkB (appliedOf d qs).1.1 (appliedOf d qs).1.2.1 (appliedOf d qs).1.2.2.1 (appliedOf d qs).1.2.2.2 = true
  | d, [], h => h
  | d, q :: qs, h => by
    simp only [appliedOf]
    refine applied_ok _ qs ?_
    by_cases hr : reqB q.f0 q.f1 q.f2 q.f3 q.f4 q.f5 = true
    · exact (served_twice h hr (r1 := (servedOf d.1 d.2.1 d.2.2.1 d.2.2.2 q.f0 q.f1 q.f2 q.f3 q.f4 q.f5).1) rfl).1
    · obtain ⟨e1, e2, e3, e4⟩ := served_bad (c := d.1) (i := d.2.1) (h := d.2.2.1) (v := d.2.2.2) (k := q.f0) (a := q.f1) (n := q.f2) (w := q.f3) (t := q.f4) (e := q.f5) (fun hh => hr hh.2)
      rw [e1, e2, e3, e4]
      exact h
theorem filled_len (l : List Bool) : (filledOf l).length ≤ l.length + 8 := by
  unfold filledOf
  rw [List.length_append, List.length_replicate]
  omega
/-- How long what is told can be. -/
theorem told_len {l0 l1 : List Bool} {l2 l3 : List Int} {k a n wat : Int} {ws : List Int} {bs : List Bool} {r1 r2 : List Bool} {r3 r4 : List Int} {r5 r6 r7 r8 : Int} {r9 : List Int} {r10 : List Bool} (h : servedOf l0 l1 l2 l3 k a n ws bs wat = (r1, r2, r3, r4, r5, r6, r7, r8, r9, r10))
    (m0 : l0.length ≤ 100) (m1 : l1.length ≤ 100) (m2 : l2.length ≤ 100) (m3 : l3.length ≤ 100) (m4 : ws.length ≤ 1048576) (m5 : bs.length ≤ 1048576) : r9.length ≤ 1048576 ∧ r10.length ≤ 1048576 := by
  unfold servedOf at h
  split at h
  · split at h
    · unfold doneOf at h
      repeat' split at h
      all_goals
        simp only [Prod.mk.injEq] at h
        obtain ⟨rfl, rfl, rfl, rfl, rfl, rfl, rfl, rfl, rfl, rfl⟩ := h
        have f0 := filled_len ((l0.take (a + n).toNat).drop a.toNat)
        have f1 := filled_len ((l1.take (a + n).toNat).drop a.toNat)
        simp only [List.length_drop, List.length_take] at f0 f1
        (try simp only [over_length, List.length_drop, List.length_take, List.length_set, List.length_nil])
        omega
    · simp only [Prod.mk.injEq] at h
      obtain ⟨rfl, rfl, rfl, rfl, rfl, rfl, rfl, rfl, rfl, rfl⟩ := h
      (try simp only [List.length_nil])
      omega
  · split at h
    all_goals
      simp only [Prod.mk.injEq] at h
      obtain ⟨rfl, rfl, rfl, rfl, rfl, rfl, rfl, rfl, rfl, rfl⟩ := h
      (try simp only [List.length_nil])
      omega
theorem applied_len : ∀ (d : Dev) (qs : List S41), d.1.length ≤ 100 → d.2.1.length ≤ 100 → d.2.2.1.length ≤ 100 → d.2.2.2.length ≤ 100 → (∀ q ∈ qs, q.f3.length ≤ 100 ∧ q.f4.length ≤ 100) → ∀ t ∈ (appliedOf d qs).2, t.f4.length ≤ 1048576 ∧ t.f5.length ≤ 1048576
  | d, [], _, _, _, _, _, t, ht => by cases ht
  | d, q :: qs, h0, h1, h2, h3, hq, t, ht => by
    have hq0 := hq q (List.mem_cons_self ..)
    obtain ⟨⟨s1, s2, s3, s4, s5, s6, s7, s8, s9, s10⟩, hS⟩ : ∃ r, servedOf d.1 d.2.1 d.2.2.1 d.2.2.2 q.f0 q.f1 q.f2 q.f3 q.f4 q.f5 = r := ⟨_, rfl⟩
    have hs := served_sizes hS
    simp only [appliedOf, hS, List.mem_cons] at ht
    rcases ht with rfl | ht
    · exact told_len hS h0 h1 h2 h3 (by omega) (by omega)
    · exact applied_len (s1, s2, s3, s4) qs (show s1.length ≤ 100 by omega) (show s2.length ≤ 100 by omega) (show s3.length ≤ 100 by omega) (show s4.length ≤ 100 by omega) (fun q' hq' => hq q' (List.mem_cons_of_mem _ hq')) t ht
theorem add0 (q n : Nat) : (⟨q, 0, none⟩ : Addr).add n = ⟨q, n, none⟩ := by
  unfold Addr.add
  by_cases h : n = 0 <;> simp [h]
theorem rd37 {xs : List S37} {i : Nat} (h : i < xs.length) : rd_T37 xs (i : Int) = xs[i] := by simp [rd_T37, h]
abbrev wOf {w0 w : World} {L : List It} (_ : Aside0 (Own w0 w L)) : World := w
theorem two_ {p : Prop} {w0 w : World} {L : List It} (H : Aside0 (Own w0 w L)) (h : Aside0 (Own w w []) → p) : p := h (aM (Own.nil w))
/-- Blocks, as they are. -/
def pf (hp : Nat → Option Obj) (F : Nat → Prop) : It := ⟨fun w => ∀ k, F k → w.heap[k]? = hp k, F, fun w w' h hf k hk => (hf k hk).trans (h k hk)⟩
theorem pin_ {α : Type} {d : Kd α} {e : Nat} {v : Value} {xs : List α} {F : Nat → Prop} {p : Prop} {w0 w : World} {L : List It} (i : Nat) (H : Aside0 (Own w0 w L)) (hi : L[i]? = some (ix d e v xs F)) (h : ∀ hp, Aside0 (∀ k, hp k = w.heap[k]?) → Aside0 (Own w0 w (L.set i (pf hp F))) → p) : p :=
  h (fun k => w.heap[k]?) (aM (fun _ => rfl)) (aM (H.out.conv i (pf (fun k => w.heap[k]?) F) hi rfl (fun _ _ => rfl)))
/-- An answer's cells. -/
def Six (w : World) (p : Addr) (t : S37) (A4 : Option Addr) (a4 : Nat) (A5 : Option Addr) (a5 : Nat) : Prop := w.cell? p = some (.int .i64 t.f0) ∧ w.cell? ⟨p.block, p.off + 1, none⟩ = some (.int .i64 t.f1) ∧ w.cell? ⟨p.block, p.off + 2, none⟩ = some (.int .i64 t.f2) ∧ w.cell? ⟨p.block, p.off + 3, none⟩ = some (.int .i64 t.f3) ∧ w.cell? ⟨p.block, p.off + 4, none⟩ = some (.slice A4 t.f4.length a4) ∧ w.cell? ⟨p.block, p.off + 5, none⟩ = some (.slice A5 t.f5.length a5)
theorem cell_same {w w2 : World} {a : Addr} (h : w2.heap[a.block]? = w.heap[a.block]?) : w2.cell? a = w.cell? a := by
  unfold World.cell?
  rw [h]
theorem Six.same {w w2 : World} {p : Addr} {t : S37} {A4 A5 : Option Addr} {a4 a5 : Nat} (h : Six w p t A4 a4 A5 a5) (e : w2.heap[p.block]? = w.heap[p.block]?) : Six w2 p t A4 a4 A5 a5 :=
  ⟨(cell_same e).trans h.1, (cell_same (a := ⟨p.block, p.off + 1, none⟩) e).trans h.2.1, (cell_same (a := ⟨p.block, p.off + 2, none⟩) e).trans h.2.2.1, (cell_same (a := ⟨p.block, p.off + 3, none⟩) e).trans h.2.2.2.1, (cell_same (a := ⟨p.block, p.off + 4, none⟩) e).trans h.2.2.2.2.1, (cell_same (a := ⟨p.block, p.off + 5, none⟩) e).trans h.2.2.2.2.2⟩
theorem Six.old {w w2 : World} {p : Addr} {t : S37} {A4 A5 : Option Addr} {a4 a5 : Nat} (h : Six w p t A4 a4 A5 a5) (hb : Below w.heap.size w w2) : Six w2 p t A4 a4 A5 a5 := h.same (hb.block p.block (World.block_lt_of_cell? w _ h.1))
theorem at_frz {W0 w : World} {A : Option Addr} {n : Nat} {xs : List S37} (h : Kd.C (frz k37 W0) w A n xs) (i : Int) (h0 : 0 ≤ i) (h1 : i < n) : ∃ ad A4 c4 A5 c5, A = some ad ∧ Six w (ad.add (i.toNat * 6)) (rd_T37 xs i) A4 c4 A5 c5 ∧ (rd_T37 xs i).f4.length ≤ c4 ∧ (Kd.int .i64).C W0 A4 (rd_T37 xs i).f4.length (rd_T37 xs i).f4 ∧ (rd_T37 xs i).f5.length ≤ c5 ∧ Kd.bool.C W0 A5 (rd_T37 xs i).f5.length (rd_T37 xs i).f5 := by
  obtain ⟨ad, c, e, _, hK, hc0⟩ := Kd.C_get h z37 i h0 h1
  have hc : ∀ j u, c[j]? = some u → w.cell? (ad.add (i.toNat * 6 + j)) = some u := hc0
  obtain ⟨A4, c4, A5, c5, rfl, l4, g4, l5, g5⟩ := k37_open hK
  exact ⟨ad, A4, c4, A5, c5, e, ⟨hc 0 _ rfl, by rw [← add_field _ _ 1 (by omega)]; exact hc 1 _ rfl, by rw [← add_field _ _ 2 (by omega)]; exact hc 2 _ rfl, by rw [← add_field _ _ 3 (by omega)]; exact hc 3 _ rfl, by rw [← add_field _ _ 4 (by omega)]; exact hc 4 _ rfl, by rw [← add_field _ _ 5 (by omega)]; exact hc 5 _ rfl⟩, l4, g4, l5, g5⟩
/-- A list cut in two. -/
theorem cutQ {QA : Option Addr} {qc : Nat} {qs : List S41} (kk : Nat) (hk : kk ≤ qs.length) (hc : qs.length ≤ qc) : ∃ (q1 q2 : List S41) (QB : Option Addr) (qd : Nat), q1 = qs.take kk ∧ q2 = qs.drop kk ∧
    (∀ W : World, (Instr.slice 28 (.slice QA qs.length qc) none (some (.int .i64 (kk : Int))) none).run Try.prog W = .ok (.slice QA q1.length qc) W) ∧ (∀ W : World, (Instr.slice 28 (.slice QA qs.length qc) (some (.int .i64 (kk : Int))) none none).run Try.prog W = .ok (.slice QB q2.length qd) W) ∧
    (∀ w : World, Kd.C k41 w QA qs.length qs → Kd.C k41 w QA q1.length q1) ∧ (∀ w : World, Kd.C k41 w QA qs.length qs → Kd.C k41 w QB q2.length q2) := by
  obtain ⟨i0, hi, hz⟩ := Option.map_eq_some_iff.1 info41
  simp only [Prod.mk.injEq] at hz
  have h1 := cut_to (P := Try.prog) 28 41 .i64 Try.underlying28 hi QA qs.length qc (kk : Int) (by omega) (by omega) hc
  have h2 := cut_from (P := Try.prog) 28 41 .i64 Try.underlying28 hi 6 hz.2.1 QA qs.length qc (kk : Int) (by omega) (by omega)
  rw [Int.toNat_natCast] at h1 h2
  refine ⟨_, _, _, qc - kk, rfl, rfl, fun W => ?_, fun W => ?_, fun w hC => Kd.C_take hC hk, fun w hC => Kd.C_drop hC hk hc⟩
  · rw [h1 W, List.length_take, Nat.min_eq_left hk]
  · rw [h2 W, List.length_drop]
    rfl
set_option maxHeartbeats 16000000 in
set_option maxRecDepth 100000 in
theorem walk (v0 : Value) (l : List Int) (w : World) (i0 : InInts .u8 w v0 l) :
    Calls Try.prog 3 #[v0] w fun e w' => e = .returned (.bool true) ∧ Below w.heap.size w w' := by
  obtain ⟨A, c, rfl, hc0, hr0, hm0, hw0⟩ := i0
  have HC := aM hr0
  have Hc := aM hc0
  have HV := aM hw0
  clear hr0 hc0 hm0 hw0
  have H := aM (Own.nil w)
  obtain ⟨b, hb⟩ : ∃ b, decide ((l.length : Int) > 1048576) = b := ⟨_, rfl⟩
  have Hb := aM hb
  clear hb
  have hu := Try.underlying27
  have hR := Try.underlying37
  cases b with
  | true =>
    go_enter Try.func3, Try.ntmps3
    go_wp2_with ((with_reducible refine nD 15 ?_); refine gC 15 Try.func6 (laws_big.calls A c l true _ (H.out.arg HC.out) Hc.out (by unfold laws_big.f; rw [Hb.out])) ?_; rintro e w_ ⟨rfl, hd⟩; refine ⟨_, rfl, ?_⟩; replace H := aM (H.out.drawn hd); clear hd)
    go_ret
    exact ⟨rfl, H.out.below⟩
  | false =>
    have hbig := of_decide_eq_false Hb.out
    obtain ⟨p2, e2, p20, p21⟩ := at_range l (by omega) (B8.of HV.out) 2 (by omega) (by omega)
    have E2 := aM e2
    have HP2 := aM (show 0 ≤ p2 ∧ p2 ≤ 255 from ⟨p20, p21⟩)
    clear hbig e2 p20 p21
    go_enter Try.func3, Try.ntmps3
    go_upto_region 4 with (first | ((with_reducible refine nD 15 ?_); refine gC 15 Try.func6 (laws_big.calls A c l false _ (H.out.arg HC.out) Hc.out (by unfold laws_big.f; rw [Hb.out])) ?_; rintro e w_ ⟨rfl, hO⟩; refine ⟨_, rfl, ?_⟩; replace H := aM (H.out.drawn hO); clear hO; (try refine nmL ?_)) | ((with_reducible refine nD 18 ?_); refine gC 18 Try.func7 (DrawApply_own _ (H.out.arg HC.out) Hc.out) ?_; rintro e w_ ⟨A0, A1, A2, A3, QA, c0, c1, c2, c3, qc, l0, l1, l2, l3, qs, QF, rfl, mD, mQ, hO⟩; refine ⟨_, rfl, ?_⟩; replace H := aM (H.out.app hO); clear hO; have hd_ := And.intro mD mQ; clear mD mQ; (try refine nmL ?_)) | ((with_reducible refine nD 3 ?_); refine bxO 3 H.out #[.slice none 0 0, .slice none 0 0, .slice none 0 0, .slice none 0 0] 27 ?_; clear H; intro g3 _ H; (try refine nmL ?_)) | ((with_reducible refine nS 3 ?_); refine stO 0 H.out ?_; clear H; intro _ H; (try refine nmL ?_)))
    obtain ⟨⟨n0, n1, n2, n3, hw2, hw3⟩, nq, hq⟩ := hd_
    have hok : deviceOkB l0 l1 l2 l3 = true := by simp only [deviceOkB, Bool.and_eq_true, decide_eq_true_eq]; exact ⟨⟨⟨⟨⟨n0, n1⟩, n2⟩, n3⟩, hw2⟩, hw3⟩
    obtain ⟨kk, hkk, hk9⟩ : ∃ kk : Nat, Int.tmod p2 ((qs.length : Int) + 1) = (kk : Int) ∧ kk ≤ qs.length := by
      have h0 := Int.tmod_nonneg ((qs.length : Int) + 1) HP2.out.1
      have h1 := Int.tmod_lt_of_pos p2 (show 0 < (qs.length : Int) + 1 by omega)
      exact ⟨(Int.tmod p2 ((qs.length : Int) + 1)).toNat, by omega, by omega⟩
    have hwq : IntKind.i64.wrap ((qs.length : Int) + 1) = (qs.length : Int) + 1 := (by rw [i64wrap, w64 (by omega) (by omega)])
    have hne : ¬ ((qs.length : Int) + 1 = 0) := by omega
    obtain ⟨⟨⟨r1, r2, r3, r4⟩, TS⟩, hA⟩ : ∃ r, appliedOf (l0, l1, l2, l3) qs = r := ⟨_, rfl⟩
    obtain ⟨q1, q2, QB, qd, hq1, hq2, hcut1, hcut2, hC1, hC2⟩ := cutQ (QA := QA) (qc := qc) (qs := qs) kk hk9 (H.out.lx 5)
    obtain ⟨⟨⟨y1, y2, y3, y4⟩, T1⟩, hA1⟩ : ∃ r, appliedOf (l0, l1, l2, l3) q1 = r := ⟨_, rfl⟩
    obtain ⟨⟨⟨z1, z2, z3, z4⟩, T2⟩, hA2⟩ : ∃ r, appliedOf (y1, y2, y3, y4) q2 = r := ⟨_, rfl⟩
    have hall := applied_append (l0, l1, l2, l3) q1 q2
    rw [hA1, hq1, hq2, List.take_append_drop, hA, ← hq2, hA2] at hall
    simp only [Prod.mk.injEq] at hall
    obtain ⟨⟨rfl, rfl, rfl, rfl⟩, hTS⟩ := hall
    have hl0 := applied_told (l0, l1, l2, l3) qs
    have hl1 := applied_told (l0, l1, l2, l3) q1
    have hl2 := applied_told (y1, y2, y3, y4) q2
    have hdk := applied_ok (l0, l1, l2, l3) qs hok
    have hdk1 := applied_ok (l0, l1, l2, l3) q1 hok
    have hln := applied_len (l0, l1, l2, l3) qs (show l0.length ≤ 100 by omega) (show l1.length ≤ 100 by omega) (show l2.length ≤ 100 by omega) (show l3.length ≤ 100 by omega) hq
    rw [hA] at hl0 hdk hln
    rw [hA1] at hl1 hdk1
    rw [hA2] at hl2
    simp only at hl0 hl1 hl2 hdk hdk1 hln
    have h64 := deviceOkB_len hdk
    have h641 := deviceOkB_len hdk1
    have q1n : q1.length ≤ qs.length := by rw [hq1, List.length_take]; omega
    have q2n : q2.length ≤ qs.length := by rw [hq2, List.length_drop]; omega
    have hm : ∀ q ∈ qs, q.f3.length ≤ 1048576 ∧ q.f4.length ≤ 1048576 := fun q h => ⟨by have := (hq q h).1; omega, by have := (hq q h).2; omega⟩
    have HN := aM (show qs.length ≤ 1048576 ∧ (∀ q ∈ qs, q.f3.length ≤ 1048576 ∧ q.f4.length ≤ 1048576) ∧ q1.length ≤ 1048576 ∧ (∀ q ∈ q1, q.f3.length ≤ 1048576 ∧ q.f4.length ≤ 1048576) ∧ q2.length ≤ 1048576 ∧ (∀ q ∈ q2, q.f3.length ≤ 1048576 ∧ q.f4.length ≤ 1048576) from ⟨by omega, hm, by omega, fun q h => hm q (List.mem_of_mem_take (hq1 ▸ h)), by omega, fun q h => hm q (List.mem_of_mem_drop (hq2 ▸ h))⟩)
    have HM := aM (show l0.length ≤ 1048576 ∧ l1.length ≤ 1048576 ∧ l2.length ≤ 1048576 ∧ l3.length ≤ 1048576 from by omega)
    have HM0 := aM (show r1.length ≤ 1048576 ∧ r2.length ≤ 1048576 ∧ r3.length ≤ 1048576 ∧ r4.length ≤ 1048576 from by omega)
    have HM1 := aM (show y1.length ≤ 1048576 ∧ y2.length ≤ 1048576 ∧ y3.length ≤ 1048576 ∧ y4.length ≤ 1048576 from by omega)
    have HDK := aM hdk
    have HLN := aM (show ∀ (i : Nat), i < TS.length → (rd_T37 TS (i : Int)).f4.length ≤ 1048576 ∧ (rd_T37 TS (i : Int)).f5.length ≤ 1048576 from fun i hi => (by rw [rd37 hi]; exact hln _ (List.getElem_mem hi)))
    have hTL : TS.length = T1.length + T2.length := by rw [hTS, List.length_append]
    have HTL := aM (show TS.length = T1.length + T2.length ∧ TS.length ≤ 8 from ⟨hTL, by omega⟩)
    have e1 : ((TS.length : Int) != (qs.length : Int)) = false := by rw [hl0]; exact bne_self_eq_false _
    have hws : IntKind.i64.wrap ((T1.length : Int) + (T2.length : Int)) = (TS.length : Int) := (by rw [i64wrap, w64 (by omega) (by omega)]; omega)
    have HTS := aM hTS
    have HA0 := aM hA
    have HA1 := aM hA1
    have HA2 := aM hA2
    have HQ1 := aM hC1
    have HQ2 := aM hC2
    have k0_ : 0 ≤ (kk : Int) := by omega
    have k9_ : (kk : Int) ≤ (qs.length : Int) := by omega
    clear n0 n1 n2 n3 hw2 hw3 nq hq hok hk9 hA hA1 hA2 hC1 hC2 hl0 hl1 hl2 hdk hdk1 hln h64 h641 q1n q2n hm hTL hTS hq1 hq2
    go_upto_region 6 with (first | ((with_reducible refine nD 22 ?_); refine gC 22 Try.func8 (laws_at.calls A c l 2 p2 _ (H.out.arg HC.out) Hc.out E2.out) ?_; rintro e w_ ⟨rfl, hO⟩; refine ⟨_, rfl, ?_⟩; replace H := aM (H.out.drawn hO); clear hO; (try refine nmL ?_)) | ((with_reducible refine nD 28 ?_); refine ldO 28 0 H.out hu ?_; (try refine nmL ?_)) | ((with_reducible refine nD 30 ?_); refine gC 30 Try.func9 (apply_own HA0.out (H.out.cb 1) (H.out.lb 1) (H.out.cb 2) (H.out.lb 2) (H.out.ci 3) (H.out.li 3) (H.out.ci 4) (H.out.li 4) (H.out.cx 5) HM.out.1 HM.out.2.1 HM.out.2.2.1 HM.out.2.2.2 HN.out.1 HN.out.2.1) ?_; rintro e w_ ⟨aA0, aA1, aA2, aA3, aA4, ac0, ac1, ac2, ac3, ac4, aF, rfl, hO⟩; refine ⟨_, rfl, ?_⟩; replace H := aM (H.out.app hO); clear hO; (try refine nmL ?_)) | ((with_reducible refine nD 6 ?_); refine bxO 6 H.out #[.slice none 0 0, .slice none 0 0, .slice none 0 0, .slice none 0 0] 27 ?_; clear H; intro g6 _ H; (try refine nmL ?_)) | ((with_reducible refine nS 6 ?_); refine stO 0 H.out ?_; clear H; intro _ H; (try refine nmL ?_)))
    refine rgI [6] 11 H.out ?_
    clear H
    intro w_ H
    have HL_ := aM (H.out.hasI [6])
    refine lO 0 34 0 hu HL_.out ?_
    refine pO 1 35 ?_
    refine pO 2 36 ?_
    refine pO 3 37 ?_
    clear HL_
    refine genL_ H (fun Lb hLb H => ?_)
    refine gen2_ (fun G a0 hA hG => ?_)
    obtain ⟨f, hf⟩ : ∃ f : Value → Value → Value → Value → Value → Act, f = fun x38 x33 x39 x40 x8 => (((((a0.put (some 38) x38).put (some 33) x33).put (some 39) x39).put (some 40) x40).put (some 8) x8) := ⟨_, rfl⟩
    have sap_0 : ∀ (bA0 bA1 bA2 bA3 bA4 : Option Addr) (bc0 bc1 bc2 bc3 bc4 : Nat) (bF : Nat → Prop) (g8 : Nat) (w1 : World), Aside0 (Own w w1 (rb (.slice bA0 y1.length bc0) y1 :: rb (.slice bA1 y2.length bc1) y2 :: ri (.slice bA2 y3.length bc2) y3 :: ri (.slice bA3 y4.length bc3) y4 :: ix k37 37 (.slice bA4 T1.length bc4) T1 bF :: bx g8 #[.slice none 0 0, .slice none 0 0, .slice none 0 0, .slice none 0 0] 27 :: Lb)) → G 2 #[true, true, true, true, true, true, true, true, true, false, false] (f (.tuple #[.agg #[.slice bA0 y1.length bc0, .slice bA1 y2.length bc1, .slice bA2 y3.length bc2, .slice bA3 y4.length bc3], .slice bA4 T1.length bc4]) (.tuple #[.agg #[.slice bA0 y1.length bc0, .slice bA1 y2.length bc1, .slice bA2 y3.length bc2, .slice bA3 y4.length bc3], .slice bA4 T1.length bc4]) (.agg #[.slice bA0 y1.length bc0, .slice bA1 y2.length bc1, .slice bA2 y3.length bc2, .slice bA3 y4.length bc3]) (.slice bA4 T1.length bc4) (.pointer (some ⟨g8, 0, none⟩))) w1 := by
      intro bA0 bA1 bA2 bA3 bA4 bc0 bc1 bc2 bc3 bc4 bF g8 w1 H
      subst hf hG hA hLb
      refine nm ?_
      refine stS 9 5 [12] H.out ?_
      clear H
      intro _ H
      refine pO 10 9 ?_
      refine done_ (by kernel_rfl) ?_
      go_upto_region 7 with fail
      refine rgI [5] 11 H.out ?_
      clear H
      intro w_ H
      have HL_ := aM (H.out.hasI [5])
      refine lO 0 42 0 hu HL_.out ?_
      refine pO 1 43 ?_
      refine pO 2 44 ?_
      refine pO 3 45 ?_
      clear HL_
      refine genL_ H (fun Lb hLb H => ?_)
      refine gen2_ (fun G a0 hA hG => ?_)
      obtain ⟨f, hf⟩ : ∃ f : Value → Value → Value → Value → Value → Act, f = fun x46 x41 x47 x48 x10 => (((((a0.put (some 46) x46).put (some 41) x41).put (some 47) x47).put (some 48) x48).put (some 10) x10) := ⟨_, rfl⟩
      have sbp_0 : ∀ (cA0 cA1 cA2 cA3 cA4 : Option Addr) (cc0 cc1 cc2 cc3 cc4 : Nat) (cF : Nat → Prop) (g10 : Nat) (w1 : World), Aside0 (Own w w1 (rb (.slice cA0 r1.length cc0) r1 :: rb (.slice cA1 r2.length cc1) r2 :: ri (.slice cA2 r3.length cc2) r3 :: ri (.slice cA3 r4.length cc3) r4 :: ix k37 37 (.slice cA4 T2.length cc4) T2 cF :: bx g10 #[.slice none 0 0, .slice none 0 0, .slice none 0 0, .slice none 0 0] 27 :: Lb)) → G 2 #[true, true, true, true, true, true, true, true, true, false, false] (f (.tuple #[.agg #[.slice cA0 r1.length cc0, .slice cA1 r2.length cc1, .slice cA2 r3.length cc2, .slice cA3 r4.length cc3], .slice cA4 T2.length cc4]) (.tuple #[.agg #[.slice cA0 r1.length cc0, .slice cA1 r2.length cc1, .slice cA2 r3.length cc2, .slice cA3 r4.length cc3], .slice cA4 T2.length cc4]) (.agg #[.slice cA0 r1.length cc0, .slice cA1 r2.length cc1, .slice cA2 r3.length cc2, .slice cA3 r4.length cc3]) (.slice cA4 T2.length cc4) (.pointer (some ⟨g10, 0, none⟩))) w1 := by
        intro cA0 cA1 cA2 cA3 cA4 cc0 cc1 cc2 cc3 cc4 cF g10 w1 H
        subst hf hG hA hLb
        refine nm ?_
        refine stS 9 5 [11] H.out ?_
        clear H
        intro _ H
        refine pO 10 11 ?_
        refine done_ (by kernel_rfl) ?_
        go_upto_region 10 with fail
        go_wp2
        have hL := H.out
        (try simp only [List.cons_append, List.nil_append, List.set_cons_zero, List.set_cons_succ] at hL)
        replace H := aM hL
        clear hL
        refine genL_ H (fun Lb hLb H => ?_)
        go_loopg [12] (TS.length + 1) (fun kq v12 w' => ∃ i : Nat, v12 = .int .i64 (i : Int) ∧ Aside0 (i ≤ TS.length ∧ kq + i = TS.length + 1) ∧ Aside0 (Own w w' Lb))
        case atStart => exact ⟨0, rfl, ⟨by omega⟩, H⟩
        case round =>
          clear H
          obtain ⟨i, rfl, HI, H⟩ := hrel
          subst hLb
          by_cases hlt : i < TS.length
          · have d1 : decide ((i : Int) < (TS.length : Int)) = true := decide_eq_true (by omega)
            have i0 : 0 ≤ (i : Int) := by omega
            have i1 : (i : Int) < (TS.length : Int) := by omega
            have hw : IntKind.i64.wrap ((i : Int) + 1) = ((i + 1 : Nat) : Int) := (by have := HTL.out; rw [i64wrap, w64 (by omega) (by omega)]; omega)
            have HT := aM (H.out.cx 17)
            have HT1 := aM (H.out.cx 10)
            have HT2 := aM (H.out.cx 4)
            refine two_ H (fun H2 => ?_)
            obtain ⟨zs, hz, hzt⟩ : ∃ zs, T1 ++ T2 = zs ∧ zs = TS := ⟨_, rfl, HTS.out.symm⟩
            go_upto_region 14 with (first | ((with_reducible refine nD 70 ?_); refine litT (frz k37 (wOf H)) 37 70 H2.out ?_; clear H2; intro xaA xac _ xaF H2; (try refine nmL ?_)) | ((with_reducible refine nD 72 ?_); refine apR 0 72 H2.out rfl (H2.out.arg (C_frz HT1.out)) Try.underlying32 info37 rfl (by decide) (by decide) (by have := HTL.out; simp; omega) ?_ (List.nil_append T1); clear H2; intro xbA xbc _ xbF H2; (try refine nmL ?_)) | ((with_reducible refine nD 74 ?_); refine apR 0 74 H2.out rfl (H2.out.arg (C_frz HT2.out)) Try.underlying32 info37 rfl (by decide) (by decide) (by have := HTL.out; omega) ?_ hz; clear H2; intro xeA xec _ xeF H2; (try refine nmL ?_)))
            subst hzt
            have hr := H2.out.get 0 rfl
            obtain ⟨q, cap, hv, _⟩ := Kd.R_form hr (by omega)
            injection hv with hv1 _ _
            have hFq : xeF q := hr.1 q (by rw [hv1]; rfl)
            obtain ⟨ad, A4, a4, A5, a5, eA, x6, lw, hw4, lb_, hb5⟩ := at_frz (H2.out.cx 0) (i : Int) i0 i1
            subst eA
            obtain rfl : ad = ⟨q, 0, none⟩ := Option.some.inj hv1
            have HF := aM hFq
            clear hr hv1 hFq
            obtain ⟨be, B4, b4, B5, b5, eB, z0, z1, z2, z3, z4, z5, mw, hw4b, mb_, hb5b⟩ := at_T37 HT.out (i : Int) i0 i1
            subst eB
            have HX := aM x6
            have HZ := aM (show Six _ _ _ B4 b4 B5 b5 from ⟨z0, z1, z2, z3, z4, z5⟩)
            clear x6 z0 z1 z2 z3 z4 z5
            have HXC := aM (And.intro hw4 (And.intro lw (And.intro hb5 lb_)))
            have HZC := aM (And.intro hw4b (And.intro mw (And.intro hb5b mb_)))
            clear hw4 lw hb5 lb_ hw4b mw hb5b mb_
            have HL2 := aM (HLN.out i hlt)
            obtain ⟨t, ht⟩ : ∃ t, rd_T37 zs (i : Int) = t := ⟨_, rfl⟩
            rw [ht] at HX HZ HXC HZC HL2
            clear ht
            (try simp only [Int.toNat_natCast] at HX HZ)
            replace HX := aM (show Six _ ⟨q, i * 6, none⟩ t A4 a4 A5 a5 from by have h := HX.out; rw [add0] at h; exact h)
            refine pin_ 0 H2 rfl (fun hp HP H2 => ?_)
            refine rgI [0] 10 H2.out ?_
            clear H2
            intro w_ H2
            have HL := aM (H2.out.hasI [0])
            refine pO 0 75 ?_
            refine pO 1 76 ?_
            refine pO 2 77 ?_
            refine tO 3 78 (fun w2 => Six w2 ⟨q, i * 6, none⟩ t A4 a4 A5 a5) (fun w2 s => HX.out.same ((s.2 0 _ rfl q HF.out).trans (HP.out q))) HL.out ?_ (hv := fun w2 s0 => by unfold Six at s0; (try dsimp only at s0); obtain ⟨y0, y1, y2, y3, y4, y5⟩ := s0; go_simp <;> with_reducible rfl)
            refine pO 4 79 ?_
            refine pO 5 80 ?_
            refine pO 6 81 ?_
            refine tO 7 82 (fun w2 => Six w2 (be.add (i * 6)) t B4 b4 B5 b5) (fun w2 s => HZ.out.old s.1) HL.out ?_ (hv := fun w2 s0 => by unfold Six at s0; (try dsimp only at s0); obtain ⟨y0, y1, y2, y3, y4, y5⟩ := s0; go_simp <;> with_reducible rfl)
            clear HL
            refine clS 8 83 Try.func10 (sameResp_own (k := t.f0) (f := t.f1) (a := t.f2) (n := t.f3) (H2.out.arg HXC.out.1) HXC.out.2.1 (H2.out.arg HXC.out.2.2.1) HXC.out.2.2.2 (H2.out.arg HZC.out.1) HZC.out.2.1 (H2.out.arg HZC.out.2.2.1) HZC.out.2.2.2 HL2.out.1 HL2.out.2) ?_
            rintro e w_2 ⟨rfl, hO⟩
            refine ⟨_, rfl, (H2.out.step hO).hasI [0], nm ?_⟩
            replace H2 := aM (H2.out.step hO)
            clear hO
            refine pO 9 84 ?_
            refine done_ (by kernel_rfl) ?_
            go_wp2
            go_roundg (gk - 1)
            case measure => have := HI.out; omega
            case rel => exact ⟨i + 1, rfl, ⟨by have := HI.out; omega⟩, aM (H.out.step H2.out.below)⟩
          · have d1 : decide ((i : Int) < (TS.length : Int)) = false := decide_eq_false (by omega)
            go_wp2_with (first | ((with_reducible refine nD 85 ?_); refine ldO 85 12 H.out hu ?_; (try refine nmL ?_)) | ((with_reducible refine nD 86 ?_); refine ldO 86 5 H.out hu ?_; (try refine nmL ?_)) | ((with_reducible refine nD 87 ?_); refine gC 87 Try.func11 (by have h_ := same_own (H.out.cb 13) (H.out.lb 13) (H.out.cb 14) (H.out.lb 14) (H.out.ci 15) (H.out.li 15) (H.out.ci 16) (H.out.li 16) (H.out.cb 0) (H.out.lb 0) (H.out.cb 1) (H.out.lb 1) (H.out.ci 2) (H.out.li 2) (H.out.ci 3) (H.out.li 3) HM0.out.1 HM0.out.2.1 HM0.out.2.2.1 HM0.out.2.2.2; rw [same_refl] at h_; exact h_) ?_; rintro e w_ ⟨rfl, hO⟩; refine ⟨_, rfl, ?_⟩; replace H := aM (H.out.step hO); clear hO; (try refine nmL ?_)) | ((with_reducible refine nD 89 ?_); (try (refine gate_guard (by rfl) ?_; dsimp only)); refine ldO 89 12 H.out hu ?_; (try refine nmL ?_)) | ((with_reducible refine nD 90 ?_); (try (refine gate_guard (by rfl) ?_; dsimp only)); refine gC 90 Try.func12 (impl_DeviceOk.calls _ _ _ _ _ _ _ _ _ _ _ _ true _ (H.out.cb 13) (H.out.lb 13) (H.out.cb 14) (H.out.lb 14) (H.out.ci 15) (H.out.li 15) (H.out.ci 16) (H.out.li 16) (by rw [impl_DeviceOk_eq, HDK.out])) ?_; rintro e w_ ⟨rfl, hO⟩; refine ⟨_, rfl, ?_⟩; replace H := aM (H.out.step hO); clear hO; (try refine nmL ?_)))
            go_ret
            exact ⟨rfl, H.out.below⟩
      have sbp_ : ∀ (cA0 cA1 cA2 cA3 cA4 : Option Addr) (cc0 cc1 cc2 cc3 cc4 : Nat) (cF : Nat → Prop) (w1 : World), Aside0 (Own w w1 (rb (.slice cA0 r1.length cc0) r1 :: rb (.slice cA1 r2.length cc1) r2 :: ri (.slice cA2 r3.length cc2) r3 :: ri (.slice cA3 r4.length cc3) r4 :: ix k37 37 (.slice cA4 T2.length cc4) T2 cF :: Lb)) → G 3 #[true, true, true, true, true, true, true, true, false, false, false] (f (.tuple #[.agg #[.slice cA0 r1.length cc0, .slice cA1 r2.length cc1, .slice cA2 r3.length cc2, .slice cA3 r4.length cc3], .slice cA4 T2.length cc4]) (.tuple #[.agg #[.slice cA0 r1.length cc0, .slice cA1 r2.length cc1, .slice cA2 r3.length cc2, .slice cA3 r4.length cc3], .slice cA4 T2.length cc4]) (.agg #[.slice cA0 r1.length cc0, .slice cA1 r2.length cc1, .slice cA2 r3.length cc2, .slice cA3 r4.length cc3]) (.slice cA4 T2.length cc4) undef) w1 := by
        intro cA0 cA1 cA2 cA3 cA4 cc0 cc1 cc2 cc3 cc4 cF w1 H
        subst hf hG hA hLb
        refine nm ?_
        refine rdy [8] ?_
        refine AllReadyL.cons rfl (by simp) (fun K hK => alR 10 #[.slice none 0 0, .slice none 0 0, .slice none 0 0, .slice none 0 0] 27 H.out (fun g10 w2 H2 => hK.out _ _ (H2.out.hasI [11]) (fun _ => eqA (sbp_0 cA0 cA1 cA2 cA3 cA4 cc0 cc1 cc2 cc3 cc4 cF g10 w2 (aM (H2.out.ins 5)))))) ?_
        exact AllReadyL.nil
      have sb1_0 : ∀ (cA0 cA1 cA2 cA3 cA4 : Option Addr) (cc0 cc1 cc2 cc3 cc4 : Nat) (cF : Nat → Prop) (g10 : Nat) (w1 : World), Aside0 (Own w w1 (rb (.slice cA0 r1.length cc0) r1 :: rb (.slice cA1 r2.length cc1) r2 :: ri (.slice cA2 r3.length cc2) r3 :: ri (.slice cA3 r4.length cc3) r4 :: ix k37 37 (.slice cA4 T2.length cc4) T2 cF :: bx g10 #[.slice none 0 0, .slice none 0 0, .slice none 0 0, .slice none 0 0] 27 :: Lb)) → G 5 #[true, true, true, true, true, false, false, false, true, false, false] (f (.tuple #[.agg #[.slice cA0 r1.length cc0, .slice cA1 r2.length cc1, .slice cA2 r3.length cc2, .slice cA3 r4.length cc3], .slice cA4 T2.length cc4]) undef undef undef (.pointer (some ⟨g10, 0, none⟩))) w1 := by
        intro cA0 cA1 cA2 cA3 cA4 cc0 cc1 cc2 cc3 cc4 cF g10 w1 H
        subst hf hG hA hLb
        refine nm ?_
        refine pO 5 41 ?_
        refine pO 6 47 ?_
        refine pO 7 48 ?_
        exact eqA (sbp_0 cA0 cA1 cA2 cA3 cA4 cc0 cc1 cc2 cc3 cc4 cF g10 w1 H)
      have sb1_ : ∀ (cA0 cA1 cA2 cA3 cA4 : Option Addr) (cc0 cc1 cc2 cc3 cc4 : Nat) (cF : Nat → Prop) (w1 : World), Aside0 (Own w w1 (rb (.slice cA0 r1.length cc0) r1 :: rb (.slice cA1 r2.length cc1) r2 :: ri (.slice cA2 r3.length cc2) r3 :: ri (.slice cA3 r4.length cc3) r4 :: ix k37 37 (.slice cA4 T2.length cc4) T2 cF :: Lb)) → G 6 #[true, true, true, true, true, false, false, false, false, false, false] (f (.tuple #[.agg #[.slice cA0 r1.length cc0, .slice cA1 r2.length cc1, .slice cA2 r3.length cc2, .slice cA3 r4.length cc3], .slice cA4 T2.length cc4]) undef undef undef undef) w1 := by
        intro cA0 cA1 cA2 cA3 cA4 cc0 cc1 cc2 cc3 cc4 cF w1 H
        subst hf hG hA hLb
        refine nm ?_
        refine pO 5 41 ?_
        refine pO 6 47 ?_
        refine pO 7 48 ?_
        exact eqA (sbp_ cA0 cA1 cA2 cA3 cA4 cc0 cc1 cc2 cc3 cc4 cF w1 H)
      have sb0_0 : ∀ (g10 : Nat) (w1 : World), Aside0 (Own w w1 (bx g10 #[.slice none 0 0, .slice none 0 0, .slice none 0 0, .slice none 0 0] 27 :: Lb)) → G 6 #[true, true, true, true, false, false, false, false, true, false, false] (f undef undef undef undef (.pointer (some ⟨g10, 0, none⟩))) w1 := by
        intro g10 w1 H
        subst hf hG hA hLb
        refine nm ?_
        refine rdy [4] ?_
        refine AllReadyL.cons rfl (by simp) (fun K hK => goR (some 46) Try.func9 (apply_own HA2.out (H.out.cb 1) (H.out.lb 1) (H.out.cb 2) (H.out.lb 2) (H.out.ci 3) (H.out.li 3) (H.out.ci 4) (H.out.li 4) (HQ2.out _ (H.out.cx 18)) HM1.out.1 HM1.out.2.1 HM1.out.2.2.1 HM1.out.2.2.2 HN.out.2.2.2.2.1 HN.out.2.2.2.2.2) (fun e w2 h_ => by obtain ⟨cA0, cA1, cA2, cA3, cA4, cc0, cc1, cc2, cc3, cc4, cF, rfl, hO⟩ := h_; exact ⟨_, rfl, hK.out _ _ ((H.out.app hO).hasI [11]) (fun _ => eqA (sb1_0 cA0 cA1 cA2 cA3 cA4 cc0 cc1 cc2 cc3 cc4 cF g10 w2 (aM (H.out.app hO))))⟩)) ?_
        exact AllReadyL.nil
      have sb0_ : ∀ (w1 : World), Aside0 (Own w w1 (Lb)) → G 7 #[true, true, true, true, false, false, false, false, false, false, false] (f undef undef undef undef undef) w1 := by
        intro  w1 H
        subst hf hG hA hLb
        refine nm ?_
        refine rdy [4, 8] ?_
        refine AllReadyL.cons rfl (by simp) (fun K hK => goR (some 46) Try.func9 (apply_own HA2.out (H.out.cb 0) (H.out.lb 0) (H.out.cb 1) (H.out.lb 1) (H.out.ci 2) (H.out.li 2) (H.out.ci 3) (H.out.li 3) (HQ2.out _ (H.out.cx 17)) HM1.out.1 HM1.out.2.1 HM1.out.2.2.1 HM1.out.2.2.2 HN.out.2.2.2.2.1 HN.out.2.2.2.2.2) (fun e w2 h_ => by obtain ⟨cA0, cA1, cA2, cA3, cA4, cc0, cc1, cc2, cc3, cc4, cF, rfl, hO⟩ := h_; exact ⟨_, rfl, hK.out _ _ ((H.out.app hO).hasI [10]) (fun _ => eqA (sb1_ cA0 cA1 cA2 cA3 cA4 cc0 cc1 cc2 cc3 cc4 cF w2 (aM (H.out.app hO))))⟩)) ?_
        refine AllReadyL.cons rfl (by simp) (fun K hK => alR 10 #[.slice none 0 0, .slice none 0 0, .slice none 0 0, .slice none 0 0] 27 H.out (fun g10 w2 H2 => hK.out _ _ (H2.out.hasI [6]) (fun _ => eqA (sb0_0 g10 w2 (aM (H2.out.ins 0)))))) ?_
        exact AllReadyL.nil
      subst hf hG hA
      exact eqA (sb0_ w_ H)
    have sap_ : ∀ (bA0 bA1 bA2 bA3 bA4 : Option Addr) (bc0 bc1 bc2 bc3 bc4 : Nat) (bF : Nat → Prop) (w1 : World), Aside0 (Own w w1 (rb (.slice bA0 y1.length bc0) y1 :: rb (.slice bA1 y2.length bc1) y2 :: ri (.slice bA2 y3.length bc2) y3 :: ri (.slice bA3 y4.length bc3) y4 :: ix k37 37 (.slice bA4 T1.length bc4) T1 bF :: Lb)) → G 3 #[true, true, true, true, true, true, true, true, false, false, false] (f (.tuple #[.agg #[.slice bA0 y1.length bc0, .slice bA1 y2.length bc1, .slice bA2 y3.length bc2, .slice bA3 y4.length bc3], .slice bA4 T1.length bc4]) (.tuple #[.agg #[.slice bA0 y1.length bc0, .slice bA1 y2.length bc1, .slice bA2 y3.length bc2, .slice bA3 y4.length bc3], .slice bA4 T1.length bc4]) (.agg #[.slice bA0 y1.length bc0, .slice bA1 y2.length bc1, .slice bA2 y3.length bc2, .slice bA3 y4.length bc3]) (.slice bA4 T1.length bc4) undef) w1 := by
      intro bA0 bA1 bA2 bA3 bA4 bc0 bc1 bc2 bc3 bc4 bF w1 H
      subst hf hG hA hLb
      refine nm ?_
      refine rdy [8] ?_
      refine AllReadyL.cons rfl (by simp) (fun K hK => alR 8 #[.slice none 0 0, .slice none 0 0, .slice none 0 0, .slice none 0 0] 27 H.out (fun g8 w2 H2 => hK.out _ _ (H2.out.hasI [12]) (fun _ => eqA (sap_0 bA0 bA1 bA2 bA3 bA4 bc0 bc1 bc2 bc3 bc4 bF g8 w2 (aM (H2.out.ins 5)))))) ?_
      exact AllReadyL.nil
    have sa1_0 : ∀ (bA0 bA1 bA2 bA3 bA4 : Option Addr) (bc0 bc1 bc2 bc3 bc4 : Nat) (bF : Nat → Prop) (g8 : Nat) (w1 : World), Aside0 (Own w w1 (rb (.slice bA0 y1.length bc0) y1 :: rb (.slice bA1 y2.length bc1) y2 :: ri (.slice bA2 y3.length bc2) y3 :: ri (.slice bA3 y4.length bc3) y4 :: ix k37 37 (.slice bA4 T1.length bc4) T1 bF :: bx g8 #[.slice none 0 0, .slice none 0 0, .slice none 0 0, .slice none 0 0] 27 :: Lb)) → G 5 #[true, true, true, true, true, false, false, false, true, false, false] (f (.tuple #[.agg #[.slice bA0 y1.length bc0, .slice bA1 y2.length bc1, .slice bA2 y3.length bc2, .slice bA3 y4.length bc3], .slice bA4 T1.length bc4]) undef undef undef (.pointer (some ⟨g8, 0, none⟩))) w1 := by
      intro bA0 bA1 bA2 bA3 bA4 bc0 bc1 bc2 bc3 bc4 bF g8 w1 H
      subst hf hG hA hLb
      refine nm ?_
      refine pO 5 33 ?_
      refine pO 6 39 ?_
      refine pO 7 40 ?_
      exact eqA (sap_0 bA0 bA1 bA2 bA3 bA4 bc0 bc1 bc2 bc3 bc4 bF g8 w1 H)
    have sa1_ : ∀ (bA0 bA1 bA2 bA3 bA4 : Option Addr) (bc0 bc1 bc2 bc3 bc4 : Nat) (bF : Nat → Prop) (w1 : World), Aside0 (Own w w1 (rb (.slice bA0 y1.length bc0) y1 :: rb (.slice bA1 y2.length bc1) y2 :: ri (.slice bA2 y3.length bc2) y3 :: ri (.slice bA3 y4.length bc3) y4 :: ix k37 37 (.slice bA4 T1.length bc4) T1 bF :: Lb)) → G 6 #[true, true, true, true, true, false, false, false, false, false, false] (f (.tuple #[.agg #[.slice bA0 y1.length bc0, .slice bA1 y2.length bc1, .slice bA2 y3.length bc2, .slice bA3 y4.length bc3], .slice bA4 T1.length bc4]) undef undef undef undef) w1 := by
      intro bA0 bA1 bA2 bA3 bA4 bc0 bc1 bc2 bc3 bc4 bF w1 H
      subst hf hG hA hLb
      refine nm ?_
      refine pO 5 33 ?_
      refine pO 6 39 ?_
      refine pO 7 40 ?_
      exact eqA (sap_ bA0 bA1 bA2 bA3 bA4 bc0 bc1 bc2 bc3 bc4 bF w1 H)
    have sa0_0 : ∀ (g8 : Nat) (w1 : World), Aside0 (Own w w1 (bx g8 #[.slice none 0 0, .slice none 0 0, .slice none 0 0, .slice none 0 0] 27 :: Lb)) → G 6 #[true, true, true, true, false, false, false, false, true, false, false] (f undef undef undef undef (.pointer (some ⟨g8, 0, none⟩))) w1 := by
      intro g8 w1 H
      subst hf hG hA hLb
      refine nm ?_
      refine rdy [4] ?_
      refine AllReadyL.cons rfl (by simp) (fun K hK => goR (some 38) Try.func9 (apply_own HA1.out (H.out.cb 8) (H.out.lb 8) (H.out.cb 9) (H.out.lb 9) (H.out.ci 10) (H.out.li 10) (H.out.ci 11) (H.out.li 11) (HQ1.out _ (H.out.cx 12)) HM.out.1 HM.out.2.1 HM.out.2.2.1 HM.out.2.2.2 HN.out.2.2.1 HN.out.2.2.2.1) (fun e w2 h_ => by obtain ⟨bA0, bA1, bA2, bA3, bA4, bc0, bc1, bc2, bc3, bc4, bF, rfl, hO⟩ := h_; exact ⟨_, rfl, hK.out _ _ ((H.out.app hO).hasI [12]) (fun _ => eqA (sa1_0 bA0 bA1 bA2 bA3 bA4 bc0 bc1 bc2 bc3 bc4 bF g8 w2 (aM (H.out.app hO))))⟩)) ?_
      exact AllReadyL.nil
    have sa0_ : ∀ (w1 : World), Aside0 (Own w w1 (Lb)) → G 7 #[true, true, true, true, false, false, false, false, false, false, false] (f undef undef undef undef undef) w1 := by
      intro  w1 H
      subst hf hG hA hLb
      refine nm ?_
      refine rdy [4, 8] ?_
      refine AllReadyL.cons rfl (by simp) (fun K hK => goR (some 38) Try.func9 (apply_own HA1.out (H.out.cb 7) (H.out.lb 7) (H.out.cb 8) (H.out.lb 8) (H.out.ci 9) (H.out.li 9) (H.out.ci 10) (H.out.li 10) (HQ1.out _ (H.out.cx 11)) HM.out.1 HM.out.2.1 HM.out.2.2.1 HM.out.2.2.2 HN.out.2.2.1 HN.out.2.2.2.1) (fun e w2 h_ => by obtain ⟨bA0, bA1, bA2, bA3, bA4, bc0, bc1, bc2, bc3, bc4, bF, rfl, hO⟩ := h_; exact ⟨_, rfl, hK.out _ _ ((H.out.app hO).hasI [11]) (fun _ => eqA (sa1_ bA0 bA1 bA2 bA3 bA4 bc0 bc1 bc2 bc3 bc4 bF w2 (aM (H.out.app hO))))⟩)) ?_
      refine AllReadyL.cons rfl (by simp) (fun K hK => alR 8 #[.slice none 0 0, .slice none 0 0, .slice none 0 0, .slice none 0 0] 27 H.out (fun g8 w2 H2 => hK.out _ _ (H2.out.hasI [7]) (fun _ => eqA (sa0_0 g8 w2 (aM (H2.out.ins 0)))))) ?_
      exact AllReadyL.nil
    subst hf hG hA
    exact eqA (sa0_ w_ H)
end Go.Proofs.Ytiiodfagedcofaa.XApplied
