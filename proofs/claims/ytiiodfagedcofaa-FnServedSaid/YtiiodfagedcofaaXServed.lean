/- The law on what a drawn device is asked is true of all bytes, walked over what Serve computes. No condition. -/
import Derived.Test.YtiiodfagedcofaaGSSrv
import Derived.Test.YtiiodfagedcofaaGLat
import Derived.Test.YtiiodfagedcofaaGSameO
import Derived.Test.YtiiodfagedcofaaGLawA
import Derived.Test.YtiiodfagedcofaaGDraw6
import Derived.Test.YtiiodfagedcofaaR
namespace Go.Proofs.Ytiiodfagedcofaa.XServed
open Go.Proofs.Ytiiodfagedcofaa.G Go.Proofs.Ytiiodfagedcofaa.K Go Go.RowKit Go.Proofs.YtiiodfagedcofaaW.PrintWords Go.Proofs.YtiiodfagedcofaaW.PrintLast Go.Proofs.YtiiodfagedcofaaW.PrintMore Go.Proofs.Ytiiodfagedcofaa.PlainC Go.Proofs.Ytiiodfagedcofaa.RowC
set_option linter.unusedVariables false
set_option linter.unusedSimpArgs false
/-! What a device asked twice does, and what is read back. -/
theorem over_cut {α : Type} : ∀ (ys xs pre : List α), ys.length ≤ xs.length → over (pre ++ xs) pre.length ys = pre ++ ys ++ xs.drop ys.length
  | [], xs, pre, _ => by simp [over]
  | y :: ys, [], pre, h => by simp at h
  | y :: ys, x :: xs, pre, h => by
    show over ((pre ++ x :: xs).set pre.length y) (pre.length + 1) ys = _
    have e : (pre ++ x :: xs).set pre.length y = (pre ++ [y]) ++ xs := by simp
    have := over_cut ys xs (pre ++ [y]) (by simpa using h)
    rw [List.length_append, List.length_singleton] at this
    rw [e, this]
    simp
theorem over_eq {α : Type} {xs ys : List α} {p : Nat} (h : p + ys.length ≤ xs.length) : over xs p ys = xs.take p ++ ys ++ xs.drop (p + ys.length) := by
  have h1 := over_cut ys (xs.drop p) (xs.take p) (by rw [List.length_drop]; omega)
  rw [List.take_append_drop, List.length_take, Nat.min_eq_left (by omega), List.drop_drop] at h1
  exact h1
theorem over_over {α : Type} {xs ys : List α} {p : Nat} (h : p + ys.length ≤ xs.length) : over (over xs p ys) p ys = over xs p ys := by
  rw [over_eq (xs := over xs p ys) (by rw [over_length]; exact h), over_eq h]
  have h1 : (xs.take p).length = p := by rw [List.length_take]; omega
  simp [List.take_append, List.drop_append, h1, show p + ys.length - p = ys.length by omega]
theorem over_read {α : Type} {xs ys : List α} {p : Nat} (h : p + ys.length ≤ xs.length) : ((over xs p ys).take (p + ys.length)).drop p = ys := by
  rw [over_eq h]
  have h1 : (xs.take p).length = p := by rw [List.length_take]; omega
  simp [List.take_append, List.drop_append, h1, show p + ys.length - p = ys.length by omega]
theorem over_words : ∀ (ys xs : List Int) (p : Nat), xs.all wordB = true → ys.all wordB = true → (over xs p ys).all wordB = true
  | [], xs, p, h, _ => h
  | y :: ys, xs, p, h, h2 => by
    rw [List.all_cons, Bool.and_eq_true] at h2
    refine over_words ys (xs.set p y) (p + 1) ?_ h2.2
    rw [List.all_eq_true] at h ⊢
    intro z hz
    rcases List.mem_or_eq_of_mem_set hz with h3 | h3
    · exact h z h3
    · subst h3; exact h2.1
theorem set_word {xs : List Int} {p : Nat} {y : Int} (h : xs.all wordB = true) (h2 : wordB y = true) : (xs.set p y).all wordB = true := over_words [y] xs p h (by simp [h2])
theorem mask_word {x a o : Nat} (hx : x < 65536) (ha : a < 65536) (ho : o < 65536) : wordB (maskOf (x : Int) (a : Int) (o : Int)) = true := by
  rw [maskOf_nat hx ha ho, wordB_eq, decide_eq_true_iff]
  have := maskN_lt (a := a) hx ho
  omega
theorem mask_twice {x a o : Nat} (hx : x < 65536) (ha : a < 65536) (ho : o < 65536) : maskOf (maskOf (x : Int) (a : Int) (o : Int)) (a : Int) (o : Int) = maskOf (x : Int) (a : Int) (o : Int) := by
  rw [maskOf_nat hx ha ho, maskOf_nat (maskN_lt hx ho) ha ho, maskN_twice ha ho]
theorem devOk_of {c i c' : List Bool} {h h' v : List Int} (hd : deviceOkB c i h v = true) (e1 : c'.length = c.length) (e2 : h'.length = h.length) (e3 : h'.all wordB = true) : deviceOkB c' i h' v = true := by
  simp only [deviceOkB, Bool.and_eq_true, decide_eq_true_eq] at hd ⊢
  exact ⟨⟨⟨⟨⟨by omega, hd.1.1.1.1.2⟩, by omega⟩, hd.1.1.2⟩, e3⟩, hd.2⟩
theorem devOk_h {c i : List Bool} {h v : List Int} (hd : deviceOkB c i h v = true) : h.all wordB = true := by
  simp only [deviceOkB, Bool.and_eq_true] at hd
  exact hd.1.2
theorem reqB_w {k a n : Int} {w : List Int} {t : List Bool} {e : Int} (hr : reqB k a n w t e = true) : w.all wordB = true := by
  unfold reqB at hr
  simp only [Bool.and_eq_true] at hr
  exact hr.1.1
/-- The places that a right question touches do not depend on what stands there. -/
theorem there_len {c i c' : List Bool} {h v h' : List Int} {k a n : Int} {w : List Int} {t : List Bool} {e : Int} (e1 : c'.length = c.length) (e2 : h'.length = h.length) : thereB c' i h' v k a n w t e = thereB c i h v k a n w t e := by
  unfold thereB
  rw [e1, e2]
/-- A word of a device, masked. -/
theorem maskAt {c i : List Bool} {h v : List Int} {k a n : Int} {w : List Int} {t : List Bool} {e : Int} (hd : deviceOkB c i h v = true) (hr : reqB k a n w t e = true) (hw : w.length = 2) {p : Nat} (hp : p < h.length) :
    wordB (maskOf (rd h (p : Int)) (rd w 0) (rd w 1)) = true ∧ maskOf (maskOf (rd h (p : Int)) (rd w 0) (rd w 1)) (rd w 0) (rd w 1) = maskOf (rd h (p : Int)) (rd w 0) (rd w 1) := by
  obtain ⟨x, hx, hx6⟩ := dev_word hd hp
  obtain ⟨y, hy, hy6⟩ := req_word hr (show 0 < w.length by omega)
  obtain ⟨z, hz, hz6⟩ := req_word hr (show 1 < w.length by omega)
  simp only [Int.natCast_zero, Int.natCast_one] at hy hz
  rw [hx, hy, hz]
  exact ⟨mask_word hx6 hy6 hz6, mask_twice hx6 hy6 hz6⟩
/-- A right device stays right, and asked again it tells the same and stays as it is. -/
theorem served_twice {c i : List Bool} {h v : List Int} {k a n : Int} {w : List Int} {t : List Bool} {e : Int} {r1 r2 : List Bool} {r3 r4 : List Int} {r5 r6 r7 r8 : Int} {r9 : List Int} {r10 : List Bool} (hd : deviceOkB c i h v = true) (hr : reqB k a n w t e = true)
    (hS : servedOf c i h v k a n w t e = (r1, r2, r3, r4, r5, r6, r7, r8, r9, r10)) : deviceOkB r1 r2 r3 r4 = true ∧ servedOf r1 r2 r3 r4 k a n w t e = (r1, r2, r3, r4, r5, r6, r7, r8, r9, r10) := by
  have hS0 := hS
  unfold servedOf at hS
  rw [if_pos ⟨hd, hr⟩] at hS
  by_cases ht : thereB c i h v k a n w t e = true
  · rw [if_pos ht] at hS
    obtain ⟨hk, a0, a1, f12, f34, f5, f6, f15, f16, f22, f23⟩ := reqB_facts hr
    rcases kind_cases hk with rfl | rfl | rfl | rfl | rfl | rfl | rfl | rfl | rfl | rfl
    · simp only [doneOf, Int.reduceEq, if_true, if_false, true_or, or_true, false_or, or_false, or_self, Prod.mk.injEq] at hS
      obtain ⟨rfl, rfl, rfl, rfl, rfl, rfl, rfl, rfl, rfl, rfl⟩ := hS
      exact ⟨hd, hS0⟩
    · simp only [doneOf, Int.reduceEq, if_true, if_false, true_or, or_true, false_or, or_false, or_self, Prod.mk.injEq] at hS
      obtain ⟨rfl, rfl, rfl, rfl, rfl, rfl, rfl, rfl, rfl, rfl⟩ := hS
      exact ⟨hd, hS0⟩
    · simp only [doneOf, Int.reduceEq, if_true, if_false, true_or, or_true, false_or, or_false, or_self, Prod.mk.injEq] at hS
      obtain ⟨rfl, rfl, rfl, rfl, rfl, rfl, rfl, rfl, rfl, rfl⟩ := hS
      exact ⟨hd, hS0⟩
    · simp only [doneOf, Int.reduceEq, if_true, if_false, true_or, or_true, false_or, or_false, or_self, Prod.mk.injEq] at hS
      obtain ⟨rfl, rfl, rfl, rfl, rfl, rfl, rfl, rfl, rfl, rfl⟩ := hS
      exact ⟨hd, hS0⟩
    · have hb : a.toNat + t.length ≤ c.length := by (have hf := f5 rfl; simp [thereB] at ht; omega)
      simp only [doneOf, Int.reduceEq, if_true, if_false, true_or, or_true, false_or, or_false, or_self, Prod.mk.injEq] at hS
      obtain ⟨rfl, rfl, rfl, rfl, rfl, rfl, rfl, rfl, rfl, rfl⟩ := hS
      have hd' := devOk_of (c' := over c a.toNat t) (h' := h) hd (over_length _ _ _) rfl (devOk_h hd)
      refine ⟨hd', ?_⟩
      unfold servedOf
      rw [if_pos ⟨hd', hr⟩, if_pos ((there_len (over_length _ _ _) rfl).trans ht)]
      simp only [doneOf, Int.reduceEq, if_true, if_false, true_or, or_true, false_or, or_false, or_self, over_over hb]
    · have hb : a.toNat + w.length ≤ h.length := by (have hf := f6 rfl; simp [thereB] at ht; omega)
      simp only [doneOf, Int.reduceEq, if_true, if_false, true_or, or_true, false_or, or_false, or_self, Prod.mk.injEq] at hS
      obtain ⟨rfl, rfl, rfl, rfl, rfl, rfl, rfl, rfl, rfl, rfl⟩ := hS
      have hd' := devOk_of (c' := c) (h' := over h a.toNat w) hd rfl (over_length _ _ _) (over_words _ _ _ (devOk_h hd) (reqB_w hr))
      refine ⟨hd', ?_⟩
      unfold servedOf
      rw [if_pos ⟨hd', hr⟩, if_pos ((there_len rfl (over_length _ _ _)).trans ht)]
      simp only [doneOf, Int.reduceEq, if_true, if_false, true_or, or_true, false_or, or_false, or_self, over_over hb]
    · have hb : a.toNat + t.length ≤ c.length := by (have hf := f15 rfl; simp [thereB] at ht; omega)
      simp only [doneOf, Int.reduceEq, if_true, if_false, true_or, or_true, false_or, or_false, or_self, Prod.mk.injEq] at hS
      obtain ⟨rfl, rfl, rfl, rfl, rfl, rfl, rfl, rfl, rfl, rfl⟩ := hS
      have hd' := devOk_of (c' := over c a.toNat t) (h' := h) hd (over_length _ _ _) rfl (devOk_h hd)
      refine ⟨hd', ?_⟩
      unfold servedOf
      rw [if_pos ⟨hd', hr⟩, if_pos ((there_len (over_length _ _ _) rfl).trans ht)]
      simp only [doneOf, Int.reduceEq, if_true, if_false, true_or, or_true, false_or, or_false, or_self, over_over hb]
    · have hb : a.toNat + w.length ≤ h.length := by (have hf := f16 rfl; simp [thereB] at ht; omega)
      simp only [doneOf, Int.reduceEq, if_true, if_false, true_or, or_true, false_or, or_false, or_self, Prod.mk.injEq] at hS
      obtain ⟨rfl, rfl, rfl, rfl, rfl, rfl, rfl, rfl, rfl, rfl⟩ := hS
      have hd' := devOk_of (c' := c) (h' := over h a.toNat w) hd rfl (over_length _ _ _) (over_words _ _ _ (devOk_h hd) (reqB_w hr))
      refine ⟨hd', ?_⟩
      unfold servedOf
      rw [if_pos ⟨hd', hr⟩, if_pos ((there_len rfl (over_length _ _ _)).trans ht)]
      simp only [doneOf, Int.reduceEq, if_true, if_false, true_or, or_true, false_or, or_false, or_self, over_over hb]
    · obtain ⟨p, rfl⟩ : ∃ p : Nat, a = (p : Int) := ⟨a.toNat, by omega⟩
      have hb : p < h.length := by (simp [thereB] at ht; omega)
      have hm := maskAt hd hr (f22 rfl).2.1 hb
      simp only [doneOf, Int.reduceEq, if_true, if_false, true_or, or_true, false_or, or_false, or_self, Prod.mk.injEq] at hS
      obtain ⟨rfl, rfl, rfl, rfl, rfl, rfl, rfl, rfl, rfl, rfl⟩ := hS
      simp only [Int.toNat_natCast]
      have hd' := devOk_of (c' := c) (h' := h.set p (maskOf (rd h (p : Int)) (rd w 0) (rd w 1))) hd rfl (List.length_set ..) (set_word (devOk_h hd) hm.1)
      refine ⟨hd', ?_⟩
      have hx : rd (h.set p (maskOf (rd h (p : Int)) (rd w 0) (rd w 1))) (p : Int) = maskOf (rd h (p : Int)) (rd w 0) (rd w 1) := by
        rw [rd_get (by rw [List.length_set]; exact hb), List.getElem_set_self]
      unfold servedOf
      rw [if_pos ⟨hd', hr⟩, if_pos ((there_len rfl (List.length_set ..)).trans ht)]
      simp only [doneOf, Int.reduceEq, if_true, if_false, true_or, or_true, false_or, or_false, or_self, Int.toNat_natCast, hx, hm.2, List.set_set]
    · have hb : e.toNat + w.length ≤ h.length := by (have hf := f23 rfl; simp [thereB] at ht; omega)
      simp only [doneOf, Int.reduceEq, if_true, if_false, true_or, or_true, false_or, or_false, or_self, Prod.mk.injEq] at hS
      obtain ⟨rfl, rfl, rfl, rfl, rfl, rfl, rfl, rfl, rfl, rfl⟩ := hS
      have hd' := devOk_of (c' := c) (h' := over h e.toNat w) hd rfl (over_length _ _ _) (over_words _ _ _ (devOk_h hd) (reqB_w hr))
      refine ⟨hd', ?_⟩
      unfold servedOf
      rw [if_pos ⟨hd', hr⟩, if_pos ((there_len rfl (over_length _ _ _)).trans ht)]
      simp only [doneOf, Int.reduceEq, if_true, if_false, true_or, or_true, false_or, or_false, or_self, over_over hb]
  · rw [if_neg ht] at hS
    simp only [Prod.mk.injEq] at hS
    obtain ⟨rfl, rfl, rfl, rfl, rfl, rfl, rfl, rfl, rfl, rfl⟩ := hS
    exact ⟨hd, hS0⟩
theorem filled_take (l : List Bool) : l.length ≤ (filledOf l).length ∧ (filledOf l).take l.length = l := by
  unfold filledOf
  exact ⟨by rw [List.length_append]; omega, List.take_left' rfl⟩
/-- Words that were written are read. -/
theorem read_words {c i : List Bool} {h v : List Int} (hd : deviceOkB c i h v = true) {a : Int} {m : Nat} (a0 : 0 ≤ a) (a1 : a ≤ 65535) (m1 : 1 ≤ m) (m2 : m ≤ 125) (ha : a + m ≤ 65536) (hb : a.toNat + m ≤ h.length) :
    servedOf c i h v 3 a (m : Int) [] [] 0 = (c, i, h, v, 3, 0, 0, 0, (h.take (a.toNat + m)).drop a.toNat, []) := by
  have hr : reqB 3 a (m : Int) [] [] 0 = true := by
    unfold reqB
    simp only [List.all_nil, Bool.true_and, Bool.and_eq_true, wordB_eq, decide_eq_true_eq]
    refine ⟨⟨a0, a1⟩, ?_⟩
    simp
    omega
  unfold servedOf
  rw [if_pos ⟨hd, hr⟩, if_pos (by simp [thereB]; omega)]
  simp only [doneOf, Int.reduceEq, if_true, if_false, show (a + (m : Int)).toNat = a.toNat + m by omega]
/-- Flags that were written are read. -/
theorem read_bits {c i : List Bool} {h v : List Int} (hd : deviceOkB c i h v = true) {a : Int} {m : Nat} (a0 : 0 ≤ a) (a1 : a ≤ 65535) (m1 : 1 ≤ m) (m2 : m ≤ 2000) (ha : a + m ≤ 65536) (hb : a.toNat + m ≤ c.length) :
    servedOf c i h v 1 a (m : Int) [] [] 0 = (c, i, h, v, 1, 0, 0, 0, [], filledOf ((c.take (a.toNat + m)).drop a.toNat)) := by
  have hr : reqB 1 a (m : Int) [] [] 0 = true := by
    unfold reqB
    simp only [List.all_nil, Bool.true_and, Bool.and_eq_true, wordB_eq, decide_eq_true_eq]
    refine ⟨⟨a0, a1⟩, ?_⟩
    simp
    omega
  unfold servedOf
  rw [if_pos ⟨hd, hr⟩, if_pos (by simp [thereB]; omega)]
  simp only [doneOf, Int.reduceEq, if_true, if_false, show (a + (m : Int)).toNat = a.toNat + m by omega]
theorem sameInts_l0 (a b : List Int) (hl : a.length ≤ 140737488351232) (he : a.length = b.length) (d : Nat) : ∀ i : Nat, i ≤ a.length → a.length - i = d →
    Ev (fun k => laws_sameInts.l0 k a b (i : Int)) (decide (a.drop i = b.drop i)) := by
  induction d with
  | zero =>
    intro i hi hd
    obtain rfl : i = a.length := by omega
    refine evUp ?_
    have h1 : ¬ ((a.length : Nat) : Int) < (a.length : Int) := by omega
    simp only [laws_sameInts.l0, h1, if_false]
    have e : decide (a.drop a.length = b.drop a.length) = true := by
      rw [List.drop_length, he, List.drop_length]; rfl
    rw [e]
    exact Ev.now _
  | succ d ih =>
    intro i hi hd
    have ha : i < a.length := by omega
    have hb : i < b.length := by omega
    refine evUp ?_
    have h1 : (i : Int) < (a.length : Int) := by omega
    have h2 : 0 ≤ (i : Int) := by omega
    have h3 : (i : Int) < (b.length : Int) := by omega
    simp only [laws_sameInts.l0, h1, h2, h3, if_true]
    rw [rd_get ha, rd_get hb, w64 (by omega) (by omega)]
    by_cases e : a[i] = b[i]
    · simp only [e, if_true]
      have e2 : decide (a.drop i = b.drop i) = decide (a.drop (i + 1) = b.drop (i + 1)) := by
        rw [decide_eq_decide, drop_eq_iff ha hb]; simp [e]
      rw [e2]
      exact ih (i + 1) (by omega) (by omega)
    · simp only [e, if_false]
      have e2 : decide (a.drop i = b.drop i) = false := by
        rw [decide_eq_false_iff_not, drop_eq_iff ha hb]; simp [e]
      rw [e2]
      exact Ev.now _

theorem sameInts_ev (a b : List Int) (hl : a.length ≤ 140737488351232) : Ev (fun k => laws_sameInts.f k a b) (decide (a = b)) := by
  by_cases he : a.length = b.length
  · have h := sameInts_l0 a b hl he a.length 0 (by omega) (by omega)
    have h1 : (a.length : Int) = (b.length : Int) := by omega
    simp only [laws_sameInts.f, h1, if_true]
    exact h
  · have h1 : ¬ (a.length : Int) = (b.length : Int) := by omega
    have e : decide (a = b) = false := by
      rw [decide_eq_false_iff_not]; intro h; exact he (by rw [h])
    simp only [laws_sameInts.f, h1, if_false]
    rw [e]
    exact Ev.now _

theorem sameInts_refl (a : List Int) (hl : a.length ≤ 140737488351232) : Ev (fun k => laws_sameInts.f k a a) true := by
  have h := sameInts_ev a a hl
  rwa [decide_eq_true rfl] at h
theorem sameBits_l0 (a b : List Bool) (hl : a.length ≤ 140737488355328) (he : a.length = b.length) (d : Nat) : ∀ i : Nat, i ≤ a.length → a.length - i = d →
    Ev (fun k => laws_sameBits.l0 k a b (i : Int)) (decide (a.drop i = b.drop i)) := by
  induction d with
  | zero =>
    intro i hi hd
    obtain rfl : i = a.length := by omega
    refine evUp ?_
    have h1 : ¬ ((a.length : Nat) : Int) < (a.length : Int) := by omega
    simp only [laws_sameBits.l0, h1, if_false]
    have e : decide (a.drop a.length = b.drop a.length) = true := by
      rw [List.drop_length, he, List.drop_length]; rfl
    rw [e]
    exact Ev.now _
  | succ d ih =>
    intro i hi hd
    have ha : i < a.length := by omega
    have hb : i < b.length := by omega
    refine evUp ?_
    have h1 : (i : Int) < (a.length : Int) := by omega
    have h2 : 0 ≤ (i : Int) := by omega
    have h3 : (i : Int) < (b.length : Int) := by omega
    simp only [laws_sameBits.l0, h1, h2, h3, if_true]
    rw [rdOf_get ha, rdOf_get hb, w64 (by omega) (by omega)]
    by_cases e : a[i] = b[i]
    · simp only [e, bne_self_eq_false, Bool.false_eq_true, if_false]
      have e2 : decide (a.drop i = b.drop i) = decide (a.drop (i + 1) = b.drop (i + 1)) := by
        rw [decide_eq_decide, drop_eq_iff ha hb]; simp [e]
      rw [e2]
      exact ih (i + 1) (by omega) (by omega)
    · have e3 : (a[i] != b[i]) = true := by simpa using e
      simp only [e3, if_true]
      have e2 : decide (a.drop i = b.drop i) = false := by
        rw [decide_eq_false_iff_not, drop_eq_iff ha hb]; simp [e]
      rw [e2]
      exact Ev.now _

theorem sameBits_ev (a b : List Bool) (hl : a.length ≤ 140737488355328) : Ev (fun k => laws_sameBits.f k a b) (decide (a = b)) := by
  by_cases he : a.length = b.length
  · have h := sameBits_l0 a b hl he a.length 0 (by omega) (by omega)
    have h1 : (a.length : Int) = (b.length : Int) := by omega
    simp only [laws_sameBits.f, h1, if_true]
    exact h
  · have h1 : ¬ (a.length : Int) = (b.length : Int) := by omega
    have e : decide (a = b) = false := by
      rw [decide_eq_false_iff_not]; intro h; exact he (by rw [h])
    simp only [laws_sameBits.f, h1, if_false]
    rw [e]
    exact Ev.now _

theorem sameBits_refl (a : List Bool) (hl : a.length ≤ 140737488355328) : Ev (fun k => laws_sameBits.f k a a) true := by
  have h := sameBits_ev a a hl
  rwa [decide_eq_true rfl] at h
theorem sameResp_refl (k f a n : Int) (w : List Int) (t : List Bool) (hw : w.length ≤ 1048576) (ht : t.length ≤ 1048576) : Ev (fun r => laws_sameResp.f r k f a n w t k f a n w t) true := by
  simp only [laws_sameResp.f, if_true]
  refine evBind (sameInts_refl w (by omega)) ?_
  simp only [if_true]
  exact evBind (sameBits_refl t (by omega)) (Ev.now _)
theorem writes_right {k : Int} (hk : kindB k = true) (a n : Int) (w : List Int) (t : List Bool) (e : Int) : impl_Writes.f k a n w t e = some (decide (k > 4)) := by
  rcases kind_cases hk with rfl | rfl | rfl | rfl | rfl | rfl | rfl | rfl | rfl | rfl <;> rfl
theorem sameInts_own {w : World} {A B : Option Addr} {c d : Nat} {l : List Int} (hA : Kd.C (Kd.int .i64) w A l.length l) (kA : l.length ≤ c) (hB : Kd.C (Kd.int .i64) w B l.length l) (kB : l.length ≤ d) (m : l.length ≤ 1048576) : Calls Try.prog 21 #[.slice A l.length c, .slice B l.length d] w fun e w' => e = .returned (.bool true) ∧ Drawn0 w w' := by
  obtain ⟨r, hr⟩ := Ev.rounds (sameInts_refl l (by omega))
  exact laws_sameInts.calls r A c l B d l true w hA kA hB kB hr
theorem sameBits_own {w : World} {A B : Option Addr} {c d : Nat} {l : List Bool} (hA : Kd.C Kd.bool w A l.length l) (kA : l.length ≤ c) (hB : Kd.C Kd.bool w B l.length l) (kB : l.length ≤ d) (m : l.length ≤ 1048576) : Calls Try.prog 22 #[.slice A l.length c, .slice B l.length d] w fun e w' => e = .returned (.bool true) ∧ Drawn0 w w' := by
  obtain ⟨r, hr⟩ := Ev.rounds (sameBits_refl l (by omega))
  exact laws_sameBits.calls r A c l B d l true w hA kA hB kB hr
theorem sameResp_own {w : World} {A4 A5 B4 B5 : Option Addr} {c4 c5 d4 d5 : Nat} {k f a n : Int} {x : List Int} {y : List Bool} (h4 : Kd.C (Kd.int .i64) w A4 x.length x) (k4 : x.length ≤ c4) (h5 : Kd.C Kd.bool w A5 y.length y) (k5 : y.length ≤ c5) (i4 : Kd.C (Kd.int .i64) w B4 x.length x) (j4 : x.length ≤ d4) (i5 : Kd.C Kd.bool w B5 y.length y) (j5 : y.length ≤ d5) (mx : x.length ≤ 1048576) (my : y.length ≤ 1048576) :
    Calls Try.prog 10 #[.agg #[.int .i64 k, .int .i64 f, .int .i64 a, .int .i64 n, .slice A4 x.length c4, .slice A5 y.length c5], .agg #[.int .i64 k, .int .i64 f, .int .i64 a, .int .i64 n, .slice B4 x.length d4, .slice B5 y.length d5]] w fun e w' => e = .returned (.bool true) ∧ Below w.heap.size w w' := by
  obtain ⟨r, hr⟩ := Ev.rounds (sameResp_refl k f a n x y mx my)
  exact laws_sameResp.calls r k f a n A4 c4 x A5 c5 y k f a n B4 d4 x B5 d5 y true w h4 k4 h5 k5 i4 j4 i5 j5 hr
theorem same_refl (a b : List Bool) (c d : List Int) : sameB a b c d a b c d = true := by simp [sameB]
theorem filled_len (l : List Bool) : (filledOf l).length ≤ l.length + 8 := by
  unfold filledOf
  rw [List.length_append, List.length_replicate]
  omega
/-- How long what is told can be. -/
theorem told_len {l0 l1 : List Bool} {l2 l3 : List Int} {k a n wat : Int} {ws : List Int} {bs : List Bool} {r1 r2 : List Bool} {r3 r4 : List Int} {r5 r6 r7 r8 : Int} {r9 : List Int} {r10 : List Bool} (h : servedOf l0 l1 l2 l3 k a n ws bs wat = (r1, r2, r3, r4, r5, r6, r7, r8, r9, r10))
    (m0 : l0.length ≤ 100) (m1 : l1.length ≤ 100) (m2 : l2.length ≤ 100) (m3 : l3.length ≤ 100) (m4 : ws.length ≤ 1048576) (m5 : bs.length ≤ 1048576) : r9.length ≤ 1048576 ∧ r10.length ≤ 1048576 := by
  unfold servedOf at h
  split at h
  · split at h
    · unfold doneOf at h
      repeat' split at h
      all_goals
        simp only [Prod.mk.injEq] at h
        obtain ⟨rfl, rfl, rfl, rfl, rfl, rfl, rfl, rfl, rfl, rfl⟩ := h
        have f0 := filled_len ((l0.take (a + n).toNat).drop a.toNat)
        have f1 := filled_len ((l1.take (a + n).toNat).drop a.toNat)
        simp only [List.length_drop, List.length_take] at f0 f1
        (try simp only [over_length, List.length_drop, List.length_take, List.length_set, List.length_nil])
        omega
    · simp only [Prod.mk.injEq] at h
      obtain ⟨rfl, rfl, rfl, rfl, rfl, rfl, rfl, rfl, rfl, rfl⟩ := h
      (try simp only [List.length_nil])
      omega
  · split at h
    all_goals
      simp only [Prod.mk.injEq] at h
      obtain ⟨rfl, rfl, rfl, rfl, rfl, rfl, rfl, rfl, rfl, rfl⟩ := h
      (try simp only [List.length_nil])
      omega
set_option maxHeartbeats 16000000 in
set_option maxRecDepth 100000 in
theorem walk (v0 : Value) (l : List Int) (w : World) (i0 : InInts .u8 w v0 l) :
    Calls Try.prog 5 #[v0] w fun e w' => e = .returned (.bool true) ∧ Below w.heap.size w w' := by
  obtain ⟨A, c, rfl, hc0, hr0, hm0, hw0⟩ := i0
  have HC := aM hr0
  have Hc := aM hc0
  clear hr0 hc0 hm0 hw0
  have H := aM (Own.nil w)
  obtain ⟨b, hb⟩ : ∃ b, decide ((l.length : Int) > 1048576) = b := ⟨_, rfl⟩
  have Hb := aM hb
  clear hb
  have hu := Try.underlying27
  have hq := Try.underlying41
  have hR := Try.underlying37
  cases b with
  | true =>
    go_enter Try.func5, Try.ntmps5
    go_wp2_with ((with_reducible refine nD 18 ?_); refine gC 18 Try.func6 (laws_big.calls A c l true _ (H.out.arg HC.out) Hc.out (by unfold laws_big.f; rw [Hb.out])) ?_; rintro e w_ ⟨rfl, hd⟩; refine ⟨_, rfl, ?_⟩; replace H := aM (H.out.drawn hd); clear hd)
    go_ret
    exact ⟨rfl, H.out.below⟩
  | false =>
    go_enter Try.func5, Try.ntmps5
    go_upto_region 4 with (first | ((with_reducible refine nD 18 ?_); refine gC 18 Try.func6 (laws_big.calls A c l false _ (H.out.arg HC.out) Hc.out (by unfold laws_big.f; rw [Hb.out])) ?_; rintro e w_ ⟨rfl, hO⟩; refine ⟨_, rfl, ?_⟩; replace H := aM (H.out.drawn hO); clear hO; (try refine nmL ?_)) | ((with_reducible refine nD 21 ?_); refine gC 21 Try.func13 (DrawServe_own _ (H.out.arg HC.out) Hc.out) ?_; rintro e w_ ⟨A0, A1, A2, A3, c0, c1, c2, c3, l0, l1, l2, l3, k, a, n, wat, A4, A5, c4, c5, ws, bs, rfl, mD, m4, m5, hO⟩; refine ⟨_, rfl, ?_⟩; replace H := aM (H.out.app hO); clear hO; have hq_ := And.intro mD (And.intro m4 m5); clear mD m4 m5; (try refine nmL ?_)) | ((with_reducible refine nD 3 ?_); refine bxO 3 H.out #[.slice none 0 0, .slice none 0 0, .slice none 0 0, .slice none 0 0] 27 ?_; clear H; intro g3 _ H; (try refine nmL ?_)) | ((with_reducible refine nD 4 ?_); refine bxO 4 H.out #[.int .i64 0, .int .i64 0, .int .i64 0, .slice none 0 0, .slice none 0 0, .int .i64 0] 41 ?_; clear H; intro g4 _ H; (try refine nmL ?_)) | ((with_reducible refine nS 3 ?_); refine stO 1 H.out ?_; clear H; intro _ H; (try refine nmL ?_)) | ((with_reducible refine nS 4 ?_); refine stO 0 H.out ?_; clear H; intro _ H; (try refine nmL ?_)))
    obtain ⟨r1, r2, r3, r4, r5, r6, r7, r8, r9, r10, hS⟩ : ∃ r1 r2 r3 r4 r5 r6 r7 r8 r9 r10, servedOf l0 l1 l2 l3 k a n ws bs wat = (r1, r2, r3, r4, r5, r6, r7, r8, r9, r10) := ⟨_, _, _, _, _, _, _, _, _, _, rfl⟩
    have HQ := aM (show l0.length ≤ 1048576 ∧ l1.length ≤ 1048576 ∧ l2.length ≤ 1048576 ∧ l3.length ≤ 1048576 ∧ ws.length ≤ 1048576 ∧ bs.length ≤ 1048576 from by omega)
    have HB := aM (told_len hS hq_.1.1 hq_.1.2.1 hq_.1.2.2.1 hq_.1.2.2.2 HQ.out.2.2.2.2.1 HQ.out.2.2.2.2.2)
    have HS := aM hS
    obtain ⟨dok, hdk⟩ : ∃ dok, deviceOkB l0 l1 l2 l3 = dok := ⟨_, rfl⟩
    obtain ⟨rq, hrq⟩ : ∃ rq, reqB k a n ws bs wat = rq := ⟨_, rfl⟩
    obtain ⟨th, hth⟩ : ∃ th, thereB l0 l1 l2 l3 k a n ws bs wat = th := ⟨_, rfl⟩
    have HK := aM (And.intro hdk hrq)
    have HT := aM hth
    clear hS hq_ hdk hrq hth
    go_upto_region 8 with (first | ((with_reducible refine nD 25 ?_); refine ldO 25 1 H.out hu ?_; (try refine nmL ?_)) | ((with_reducible refine nD 26 ?_); refine ldO 26 0 H.out hq ?_; (try refine nmL ?_)) | ((with_reducible refine nD 27 ?_); refine gC 27 Try.func15 (serve_own HS.out (H.out.cb 2) (H.out.lb 2) (H.out.cb 3) (H.out.lb 3) (H.out.ci 4) (H.out.li 4) (H.out.ci 5) (H.out.li 5) (H.out.ci 6) (H.out.li 6) (H.out.cb 7) (H.out.lb 7) HQ.out.1 HQ.out.2.1 HQ.out.2.2.1 HQ.out.2.2.2.1 HQ.out.2.2.2.2.1 HQ.out.2.2.2.2.2) ?_; rintro e w_ ⟨nA0, nA1, nA2, nA3, nA4, nA5, nc0, nc1, nc2, nc3, nc4, nc5, rfl, hO⟩; refine ⟨_, rfl, ?_⟩; replace H := aM (H.out.app hO); clear hO; (try refine nmL ?_)) | ((with_reducible refine nD 5 ?_); refine bxO 5 H.out #[.slice none 0 0, .slice none 0 0, .slice none 0 0, .slice none 0 0] 27 ?_; clear H; intro g5 _ H; (try refine nmL ?_)) | ((with_reducible refine nD 6 ?_); refine bxO 6 H.out #[.int .i64 0, .int .i64 0, .int .i64 0, .int .i64 0, .slice none 0 0, .slice none 0 0] 37 ?_; clear H; intro g6 _ H; (try refine nmL ?_)) | ((with_reducible refine nS 5 ?_); refine stO 1 H.out ?_; clear H; intro _ H; (try refine nmL ?_)) | ((with_reducible refine nS 6 ?_); refine stO 0 H.out ?_; clear H; intro _ H; (try refine nmL ?_)) | ((with_reducible refine nD 31 ?_); refine ldO 31 9 H.out hu ?_; (try refine nmL ?_)) | ((with_reducible refine nD 32 ?_); refine ldO 32 8 H.out hq ?_; (try refine nmL ?_)) | ((with_reducible refine nD 33 ?_); refine gC 33 Try.func18 (specServe_own (H.out.cb 10) (H.out.lb 10) (H.out.cb 11) (H.out.lb 11) (H.out.ci 12) (H.out.li 12) (H.out.ci 13) (H.out.li 13) (H.out.ci 14) (H.out.li 14) (H.out.cb 15) (H.out.lb 15) HS.out HQ.out.1 HQ.out.2.1 HQ.out.2.2.1 HQ.out.2.2.2.1 HQ.out.2.2.2.2.1 HQ.out.2.2.2.2.2) ?_; rintro e w_ ⟨sA0, sA1, sA2, sA3, sA4, sA5, sc0, sc1, sc2, sc3, sc4, sc5, rfl, hO⟩; refine ⟨_, rfl, ?_⟩; replace H := aM (H.out.app hO); clear hO; (try refine nmL ?_)) | ((with_reducible refine nD 7 ?_); refine bxO 7 H.out #[.slice none 0 0, .slice none 0 0, .slice none 0 0, .slice none 0 0] 27 ?_; clear H; intro g7 _ H; (try refine nmL ?_)) | ((with_reducible refine nD 8 ?_); refine bxO 8 H.out #[.int .i64 0, .int .i64 0, .int .i64 0, .int .i64 0, .slice none 0 0, .slice none 0 0] 37 ?_; clear H; intro g8 _ H; (try refine nmL ?_)) | ((with_reducible refine nS 7 ?_); refine stO 1 H.out ?_; clear H; intro _ H; (try refine nmL ?_)) | ((with_reducible refine nS 8 ?_); refine stO 0 H.out ?_; clear H; intro _ H; (try refine nmL ?_)) | ((with_reducible refine nD 36 ?_); refine ldO 36 8 H.out hR ?_; (try refine nmL ?_)) | ((with_reducible refine nD 37 ?_); refine ldO 37 0 H.out hR ?_; (try refine nmL ?_)) | ((with_reducible refine nD 38 ?_); refine gC 38 Try.func10 (sameResp_own (H.out.ci 14) (H.out.li 14) (H.out.cb 15) (H.out.lb 15) (H.out.ci 6) (H.out.li 6) (H.out.cb 7) (H.out.lb 7) HB.out.1 HB.out.2) ?_; rintro e w_ ⟨rfl, hO⟩; refine ⟨_, rfl, ?_⟩; replace H := aM (H.out.step hO); clear hO; (try refine nmL ?_)))
    cases dok with
    | false =>
      have hS := HS.out
      rw [served_bad (by rw [HK.out.1]; simp)] at hS
      simp only [Prod.mk.injEq] at hS
      obtain ⟨rfl, rfl, rfl, rfl, e5, e6, rfl, rfl, rfl, rfl⟩ := hS
      clear e5 e6 HS
      go_wp2_with (first | ((with_reducible refine nD 40 ?_); refine ldO 40 17 H.out hu ?_; (try refine nmL ?_)) | ((with_reducible refine nD 41 ?_); refine gC 41 Try.func19 (by have h_ := specDevOk_own (H.out.cb 18) (H.out.lb 18) (H.out.cb 19) (H.out.lb 19) (H.out.ci 20) (H.out.li 20) (H.out.ci 21) (H.out.li 21) HQ.out.2.2.1 HQ.out.2.2.2.1; rw [HK.out.1] at h_; exact h_) ?_; rintro e w_ ⟨rfl, hO⟩; refine ⟨_, rfl, ?_⟩; replace H := aM (H.out.step hO); clear hO; (try refine nmL ?_)) | ((with_reducible refine nD 48 ?_); refine ldO 48 9 H.out hu ?_; (try refine nmL ?_)) | ((with_reducible refine nD 49 ?_); refine ldO 49 17 H.out hu ?_; (try refine nmL ?_)) | ((with_reducible refine nD 50 ?_); refine gC 50 Try.func11 (by have h_ := same_own (H.out.cb 10) (H.out.lb 10) (H.out.cb 11) (H.out.lb 11) (H.out.ci 12) (H.out.li 12) (H.out.ci 13) (H.out.li 13) (H.out.cb 18) (H.out.lb 18) (H.out.cb 19) (H.out.lb 19) (H.out.ci 20) (H.out.li 20) (H.out.ci 21) (H.out.li 21) HQ.out.1 HQ.out.2.1 HQ.out.2.2.1 HQ.out.2.2.2.1; rw [same_refl] at h_; exact h_) ?_; rintro e w_ ⟨rfl, hO⟩; refine ⟨_, rfl, ?_⟩; replace H := aM (H.out.step hO); clear hO; (try refine nmL ?_)))
      go_ret
      exact ⟨rfl, H.out.below⟩
    | true =>
      cases rq with
      | false =>
        have hS := HS.out
        rw [served_bad (by rw [HK.out.2]; simp)] at hS
        simp only [Prod.mk.injEq] at hS
        obtain ⟨rfl, rfl, rfl, rfl, e5, e6, rfl, rfl, rfl, rfl⟩ := hS
        clear e5 e6 HS
        go_wp2_with (first | ((with_reducible refine nD 40 ?_); refine ldO 40 17 H.out hu ?_; (try refine nmL ?_)) | ((with_reducible refine nD 41 ?_); refine gC 41 Try.func19 (by have h_ := specDevOk_own (H.out.cb 18) (H.out.lb 18) (H.out.cb 19) (H.out.lb 19) (H.out.ci 20) (H.out.li 20) (H.out.ci 21) (H.out.li 21) HQ.out.2.2.1 HQ.out.2.2.2.1; rw [HK.out.1] at h_; exact h_) ?_; rintro e w_ ⟨rfl, hO⟩; refine ⟨_, rfl, ?_⟩; replace H := aM (H.out.step hO); clear hO; (try refine nmL ?_)) | ((with_reducible refine nD 44 ?_); (try (refine gate_guard (by rfl) ?_; dsimp only)); refine ldO 44 16 H.out hq ?_; (try refine nmL ?_)) | ((with_reducible refine nD 45 ?_); (try (refine gate_guard (by rfl) ?_; dsimp only)); refine gC 45 Try.func16 (by have h_ := specReq_own (k := k) (a := a) (n := n) (wat := wat) (H.out.ci 22) (H.out.li 22) (H.out.cb 23) (H.out.lb 23) HQ.out.2.2.2.2.1 HQ.out.2.2.2.2.2; rw [HK.out.2] at h_; exact h_) ?_; rintro e w_ ⟨rfl, hO⟩; refine ⟨_, rfl, ?_⟩; replace H := aM (H.out.step hO); clear hO; (try refine nmL ?_)) | ((with_reducible refine nD 48 ?_); refine ldO 48 9 H.out hu ?_; (try refine nmL ?_)) | ((with_reducible refine nD 49 ?_); refine ldO 49 17 H.out hu ?_; (try refine nmL ?_)) | ((with_reducible refine nD 50 ?_); refine gC 50 Try.func11 (by have h_ := same_own (H.out.cb 10) (H.out.lb 10) (H.out.cb 11) (H.out.lb 11) (H.out.ci 12) (H.out.li 12) (H.out.ci 13) (H.out.li 13) (H.out.cb 18) (H.out.lb 18) (H.out.cb 19) (H.out.lb 19) (H.out.ci 20) (H.out.li 20) (H.out.ci 21) (H.out.li 21) HQ.out.1 HQ.out.2.1 HQ.out.2.2.1 HQ.out.2.2.2.1; rw [same_refl] at h_; exact h_) ?_; rintro e w_ ⟨rfl, hO⟩; refine ⟨_, rfl, ?_⟩; replace H := aM (H.out.step hO); clear hO; (try refine nmL ?_)))
        go_ret
        exact ⟨rfl, H.out.below⟩
      | true =>
        have h2 := served_twice HK.out.1 HK.out.2 HS.out
        have hl := deviceOkB_len h2.1
        have HR := aM (show r1.length ≤ 1048576 ∧ r2.length ≤ 1048576 ∧ r3.length ≤ 1048576 ∧ r4.length ≤ 1048576 from by omega)
        have H2 := aM h2
        clear h2 hl
        go_upto_region 13 with (first | ((with_reducible refine nD 40 ?_); refine ldO 40 17 H.out hu ?_; (try refine nmL ?_)) | ((with_reducible refine nD 41 ?_); refine gC 41 Try.func19 (by have h_ := specDevOk_own (H.out.cb 18) (H.out.lb 18) (H.out.cb 19) (H.out.lb 19) (H.out.ci 20) (H.out.li 20) (H.out.ci 21) (H.out.li 21) HQ.out.2.2.1 HQ.out.2.2.2.1; rw [HK.out.1] at h_; exact h_) ?_; rintro e w_ ⟨rfl, hO⟩; refine ⟨_, rfl, ?_⟩; replace H := aM (H.out.step hO); clear hO; (try refine nmL ?_)) | ((with_reducible refine nD 44 ?_); (try (refine gate_guard (by rfl) ?_; dsimp only)); refine ldO 44 16 H.out hq ?_; (try refine nmL ?_)) | ((with_reducible refine nD 45 ?_); (try (refine gate_guard (by rfl) ?_; dsimp only)); refine gC 45 Try.func16 (by have h_ := specReq_own (k := k) (a := a) (n := n) (wat := wat) (H.out.ci 22) (H.out.li 22) (H.out.cb 23) (H.out.lb 23) HQ.out.2.2.2.2.1 HQ.out.2.2.2.2.2; rw [HK.out.2] at h_; exact h_) ?_; rintro e w_ ⟨rfl, hO⟩; refine ⟨_, rfl, ?_⟩; replace H := aM (H.out.step hO); clear hO; (try refine nmL ?_)) | ((with_reducible refine nD 52 ?_); refine ldO 52 9 H.out hu ?_; (try refine nmL ?_)) | ((with_reducible refine nD 53 ?_); refine ldO 53 16 H.out hq ?_; (try refine nmL ?_)) | ((with_reducible refine nD 54 ?_); refine gC 54 Try.func15 (serve_own H2.out.2 (H.out.cb 10) (H.out.lb 10) (H.out.cb 11) (H.out.lb 11) (H.out.ci 12) (H.out.li 12) (H.out.ci 13) (H.out.li 13) (H.out.ci 22) (H.out.li 22) (H.out.cb 23) (H.out.lb 23) HR.out.1 HR.out.2.1 HR.out.2.2.1 HR.out.2.2.2 HQ.out.2.2.2.2.1 HQ.out.2.2.2.2.2) ?_; rintro e w_ ⟨mA0, mA1, mA2, mA3, mA4, mA5, mc0, mc1, mc2, mc3, mc4, mc5, rfl, hO⟩; refine ⟨_, rfl, ?_⟩; replace H := aM (H.out.app hO); clear hO; (try refine nmL ?_)) | ((with_reducible refine nD 9 ?_); refine bxO 9 H.out #[.slice none 0 0, .slice none 0 0, .slice none 0 0, .slice none 0 0] 27 ?_; clear H; intro g9 _ H; (try refine nmL ?_)) | ((with_reducible refine nD 10 ?_); refine bxO 10 H.out #[.int .i64 0, .int .i64 0, .int .i64 0, .int .i64 0, .slice none 0 0, .slice none 0 0] 37 ?_; clear H; intro g10 _ H; (try refine nmL ?_)) | ((with_reducible refine nS 9 ?_); refine stO 1 H.out ?_; clear H; intro _ H; (try refine nmL ?_)) | ((with_reducible refine nS 10 ?_); refine stO 0 H.out ?_; clear H; intro _ H; (try refine nmL ?_)) | ((with_reducible refine nD 57 ?_); refine ldO 57 1 H.out hu ?_; (try refine nmL ?_)) | ((with_reducible refine nD 58 ?_); refine ldO 58 17 H.out hu ?_; (try refine nmL ?_)) | ((with_reducible refine nD 59 ?_); refine gC 59 Try.func11 (by have h_ := same_own (H.out.cb 2) (H.out.lb 2) (H.out.cb 3) (H.out.lb 3) (H.out.ci 4) (H.out.li 4) (H.out.ci 5) (H.out.li 5) (H.out.cb 18) (H.out.lb 18) (H.out.cb 19) (H.out.lb 19) (H.out.ci 20) (H.out.li 20) (H.out.ci 21) (H.out.li 21) HR.out.1 HR.out.2.1 HR.out.2.2.1 HR.out.2.2.2; rw [same_refl] at h_; exact h_) ?_; rintro e w_ ⟨rfl, hO⟩; refine ⟨_, rfl, ?_⟩; replace H := aM (H.out.step hO); clear hO; (try refine nmL ?_)) | ((with_reducible refine nD 62 ?_); (try (refine gate_guard (by rfl) ?_; dsimp only)); refine ldO 62 0 H.out hR ?_; (try refine nmL ?_)) | ((with_reducible refine nD 63 ?_); (try (refine gate_guard (by rfl) ?_; dsimp only)); refine ldO 63 16 H.out hR ?_; (try refine nmL ?_)) | ((with_reducible refine nD 64 ?_); (try (refine gate_guard (by rfl) ?_; dsimp only)); refine gC 64 Try.func10 (sameResp_own (H.out.ci 6) (H.out.li 6) (H.out.cb 7) (H.out.lb 7) (H.out.ci 22) (H.out.li 22) (H.out.cb 23) (H.out.lb 23) HB.out.1 HB.out.2) ?_; rintro e w_ ⟨rfl, hO⟩; refine ⟨_, rfl, ?_⟩; replace H := aM (H.out.step hO); clear hO; (try refine nmL ?_)))
        have hS := HS.out
        unfold servedOf at hS
        cases th with
        | false =>
          rw [if_pos HK.out, if_neg (by rw [HT.out]; simp)] at hS
          simp only [Prod.mk.injEq] at hS
          obtain ⟨rfl, rfl, rfl, rfl, rfl, rfl, rfl, rfl, rfl, rfl⟩ := hS
          clear HS
          obtain ⟨zg61_0, zg61y_0, zg61_1, zg61y_1, zg61_2, zg61y_2, zg61_3, zg61y_3, zg61_4, zg61y_4, zg61_5, zg61y_5⟩ := bk6 (H.out.b 16)
          go_wp2_with (first | ((with_reducible refine nD 80 ?_); refine ldO 80 17 H.out hu ?_; (try refine nmL ?_)) | ((with_reducible refine nD 81 ?_); refine ldO 81 25 H.out hu ?_; (try refine nmL ?_)) | ((with_reducible refine nD 82 ?_); refine gC 82 Try.func11 (by have h_ := same_own (H.out.cb 18) (H.out.lb 18) (H.out.cb 19) (H.out.lb 19) (H.out.ci 20) (H.out.li 20) (H.out.ci 21) (H.out.li 21) (H.out.cb 26) (H.out.lb 26) (H.out.cb 27) (H.out.lb 27) (H.out.ci 28) (H.out.li 28) (H.out.ci 29) (H.out.li 29) HQ.out.1 HQ.out.2.1 HQ.out.2.2.1 HQ.out.2.2.2.1; rw [same_refl] at h_; exact h_) ?_; rintro e w_ ⟨rfl, hO⟩; refine ⟨_, rfl, ?_⟩; replace H := aM (H.out.step hO); clear hO; (try refine nmL ?_)))
          go_ret
          exact ⟨rfl, H.out.below⟩
        | true =>
          rw [if_pos HK.out, if_pos HT.out] at hS
          rcases kind_cases (reqB_facts HK.out.2).1 with rfl | rfl | rfl | rfl | rfl | rfl | rfl | rfl | rfl | rfl
          · simp only [doneOf, Int.reduceEq, if_true, if_false, true_or, or_true, false_or, or_false, or_self, Prod.mk.injEq] at hS
            obtain ⟨rfl, rfl, rfl, rfl, rfl, rfl, rfl, rfl, rfl, rfl⟩ := hS
            clear HS
            obtain ⟨zg62_0, zg62y_0, zg62_1, zg62y_1, zg62_2, zg62y_2, zg62_3, zg62y_3, zg62_4, zg62y_4, zg62_5, zg62y_5⟩ := bk6 (H.out.b 16)
            obtain ⟨zg43_0, zg43y_0, zg43_1, zg43y_1, zg43_2, zg43y_2, zg43_3, zg43y_3, zg43_4, zg43y_4, zg43_5, zg43y_5⟩ := bk6 (H.out.b 24)
            go_wp2_with (first | ((with_reducible refine nD 76 ?_); (try (refine gate_guard (by rfl) ?_; dsimp only)); refine ldO 76 24 H.out hq ?_; (try refine nmL ?_)) | ((with_reducible refine nD 77 ?_); (try (refine gate_guard (by rfl) ?_; dsimp only)); refine gC 77 Try.func20 (impl_Writes.calls 1 a n _ _ ws _ _ bs wat false _ (H.out.ci 30) (H.out.li 30) (H.out.cb 31) (H.out.lb 31) (writes_right rfl a n ws bs wat)) ?_; rintro e w_ ⟨rfl, hO⟩; refine ⟨_, rfl, ?_⟩; replace H := aM (H.out.step hO); clear hO; (try refine nmL ?_)) | ((with_reducible refine nD 80 ?_); refine ldO 80 17 H.out hu ?_; (try refine nmL ?_)) | ((with_reducible refine nD 81 ?_); refine ldO 81 25 H.out hu ?_; (try refine nmL ?_)) | ((with_reducible refine nD 82 ?_); refine gC 82 Try.func11 (by have h_ := same_own (H.out.cb 18) (H.out.lb 18) (H.out.cb 19) (H.out.lb 19) (H.out.ci 20) (H.out.li 20) (H.out.ci 21) (H.out.li 21) (H.out.cb 26) (H.out.lb 26) (H.out.cb 27) (H.out.lb 27) (H.out.ci 28) (H.out.li 28) (H.out.ci 29) (H.out.li 29) HQ.out.1 HQ.out.2.1 HQ.out.2.2.1 HQ.out.2.2.2.1; rw [same_refl] at h_; exact h_) ?_; rintro e w_ ⟨rfl, hO⟩; refine ⟨_, rfl, ?_⟩; replace H := aM (H.out.step hO); clear hO; (try refine nmL ?_)))
            go_ret
            exact ⟨rfl, H.out.below⟩
          · simp only [doneOf, Int.reduceEq, if_true, if_false, true_or, or_true, false_or, or_false, or_self, Prod.mk.injEq] at hS
            obtain ⟨rfl, rfl, rfl, rfl, rfl, rfl, rfl, rfl, rfl, rfl⟩ := hS
            clear HS
            obtain ⟨zg64_0, zg64y_0, zg64_1, zg64y_1, zg64_2, zg64y_2, zg64_3, zg64y_3, zg64_4, zg64y_4, zg64_5, zg64y_5⟩ := bk6 (H.out.b 16)
            obtain ⟨zg45_0, zg45y_0, zg45_1, zg45y_1, zg45_2, zg45y_2, zg45_3, zg45y_3, zg45_4, zg45y_4, zg45_5, zg45y_5⟩ := bk6 (H.out.b 24)
            go_wp2_with (first | ((with_reducible refine nD 76 ?_); (try (refine gate_guard (by rfl) ?_; dsimp only)); refine ldO 76 24 H.out hq ?_; (try refine nmL ?_)) | ((with_reducible refine nD 77 ?_); (try (refine gate_guard (by rfl) ?_; dsimp only)); refine gC 77 Try.func20 (impl_Writes.calls 2 a n _ _ ws _ _ bs wat false _ (H.out.ci 30) (H.out.li 30) (H.out.cb 31) (H.out.lb 31) (writes_right rfl a n ws bs wat)) ?_; rintro e w_ ⟨rfl, hO⟩; refine ⟨_, rfl, ?_⟩; replace H := aM (H.out.step hO); clear hO; (try refine nmL ?_)) | ((with_reducible refine nD 80 ?_); refine ldO 80 17 H.out hu ?_; (try refine nmL ?_)) | ((with_reducible refine nD 81 ?_); refine ldO 81 25 H.out hu ?_; (try refine nmL ?_)) | ((with_reducible refine nD 82 ?_); refine gC 82 Try.func11 (by have h_ := same_own (H.out.cb 18) (H.out.lb 18) (H.out.cb 19) (H.out.lb 19) (H.out.ci 20) (H.out.li 20) (H.out.ci 21) (H.out.li 21) (H.out.cb 26) (H.out.lb 26) (H.out.cb 27) (H.out.lb 27) (H.out.ci 28) (H.out.li 28) (H.out.ci 29) (H.out.li 29) HQ.out.1 HQ.out.2.1 HQ.out.2.2.1 HQ.out.2.2.2.1; rw [same_refl] at h_; exact h_) ?_; rintro e w_ ⟨rfl, hO⟩; refine ⟨_, rfl, ?_⟩; replace H := aM (H.out.step hO); clear hO; (try refine nmL ?_)))
            go_ret
            exact ⟨rfl, H.out.below⟩
          · simp only [doneOf, Int.reduceEq, if_true, if_false, true_or, or_true, false_or, or_false, or_self, Prod.mk.injEq] at hS
            obtain ⟨rfl, rfl, rfl, rfl, rfl, rfl, rfl, rfl, rfl, rfl⟩ := hS
            clear HS
            obtain ⟨zg66_0, zg66y_0, zg66_1, zg66y_1, zg66_2, zg66y_2, zg66_3, zg66y_3, zg66_4, zg66y_4, zg66_5, zg66y_5⟩ := bk6 (H.out.b 16)
            obtain ⟨zg47_0, zg47y_0, zg47_1, zg47y_1, zg47_2, zg47y_2, zg47_3, zg47y_3, zg47_4, zg47y_4, zg47_5, zg47y_5⟩ := bk6 (H.out.b 24)
            go_wp2_with (first | ((with_reducible refine nD 76 ?_); (try (refine gate_guard (by rfl) ?_; dsimp only)); refine ldO 76 24 H.out hq ?_; (try refine nmL ?_)) | ((with_reducible refine nD 77 ?_); (try (refine gate_guard (by rfl) ?_; dsimp only)); refine gC 77 Try.func20 (impl_Writes.calls 3 a n _ _ ws _ _ bs wat false _ (H.out.ci 30) (H.out.li 30) (H.out.cb 31) (H.out.lb 31) (writes_right rfl a n ws bs wat)) ?_; rintro e w_ ⟨rfl, hO⟩; refine ⟨_, rfl, ?_⟩; replace H := aM (H.out.step hO); clear hO; (try refine nmL ?_)) | ((with_reducible refine nD 80 ?_); refine ldO 80 17 H.out hu ?_; (try refine nmL ?_)) | ((with_reducible refine nD 81 ?_); refine ldO 81 25 H.out hu ?_; (try refine nmL ?_)) | ((with_reducible refine nD 82 ?_); refine gC 82 Try.func11 (by have h_ := same_own (H.out.cb 18) (H.out.lb 18) (H.out.cb 19) (H.out.lb 19) (H.out.ci 20) (H.out.li 20) (H.out.ci 21) (H.out.li 21) (H.out.cb 26) (H.out.lb 26) (H.out.cb 27) (H.out.lb 27) (H.out.ci 28) (H.out.li 28) (H.out.ci 29) (H.out.li 29) HQ.out.1 HQ.out.2.1 HQ.out.2.2.1 HQ.out.2.2.2.1; rw [same_refl] at h_; exact h_) ?_; rintro e w_ ⟨rfl, hO⟩; refine ⟨_, rfl, ?_⟩; replace H := aM (H.out.step hO); clear hO; (try refine nmL ?_)))
            go_ret
            exact ⟨rfl, H.out.below⟩
          · simp only [doneOf, Int.reduceEq, if_true, if_false, true_or, or_true, false_or, or_false, or_self, Prod.mk.injEq] at hS
            obtain ⟨rfl, rfl, rfl, rfl, rfl, rfl, rfl, rfl, rfl, rfl⟩ := hS
            clear HS
            obtain ⟨zg68_0, zg68y_0, zg68_1, zg68y_1, zg68_2, zg68y_2, zg68_3, zg68y_3, zg68_4, zg68y_4, zg68_5, zg68y_5⟩ := bk6 (H.out.b 16)
            obtain ⟨zg49_0, zg49y_0, zg49_1, zg49y_1, zg49_2, zg49y_2, zg49_3, zg49y_3, zg49_4, zg49y_4, zg49_5, zg49y_5⟩ := bk6 (H.out.b 24)
            go_wp2_with (first | ((with_reducible refine nD 76 ?_); (try (refine gate_guard (by rfl) ?_; dsimp only)); refine ldO 76 24 H.out hq ?_; (try refine nmL ?_)) | ((with_reducible refine nD 77 ?_); (try (refine gate_guard (by rfl) ?_; dsimp only)); refine gC 77 Try.func20 (impl_Writes.calls 4 a n _ _ ws _ _ bs wat false _ (H.out.ci 30) (H.out.li 30) (H.out.cb 31) (H.out.lb 31) (writes_right rfl a n ws bs wat)) ?_; rintro e w_ ⟨rfl, hO⟩; refine ⟨_, rfl, ?_⟩; replace H := aM (H.out.step hO); clear hO; (try refine nmL ?_)) | ((with_reducible refine nD 80 ?_); refine ldO 80 17 H.out hu ?_; (try refine nmL ?_)) | ((with_reducible refine nD 81 ?_); refine ldO 81 25 H.out hu ?_; (try refine nmL ?_)) | ((with_reducible refine nD 82 ?_); refine gC 82 Try.func11 (by have h_ := same_own (H.out.cb 18) (H.out.lb 18) (H.out.cb 19) (H.out.lb 19) (H.out.ci 20) (H.out.li 20) (H.out.ci 21) (H.out.li 21) (H.out.cb 26) (H.out.lb 26) (H.out.cb 27) (H.out.lb 27) (H.out.ci 28) (H.out.li 28) (H.out.ci 29) (H.out.li 29) HQ.out.1 HQ.out.2.1 HQ.out.2.2.1 HQ.out.2.2.2.1; rw [same_refl] at h_; exact h_) ?_; rintro e w_ ⟨rfl, hO⟩; refine ⟨_, rfl, ?_⟩; replace H := aM (H.out.step hO); clear hO; (try refine nmL ?_)))
            go_ret
            exact ⟨rfl, H.out.below⟩
          · obtain ⟨_, a0, a1, f12, f34, f5, f6, f15, f16, f22, f23⟩ := reqB_facts HK.out.2
            have fk := f5 rfl
            have hb : a.toNat + bs.length ≤ l0.length := by have := HT.out; simp [thereB] at this; omega
            simp only [doneOf, Int.reduceEq, if_true, if_false, true_or, or_true, false_or, or_false, or_self, Prod.mk.injEq] at hS
            obtain ⟨rfl, rfl, rfl, rfl, rfl, rfl, rfl, rfl, rfl, rfl⟩ := hS
            have h3 := read_bits H2.out.1 (a := a) (m := bs.length) a0 a1 (by omega) (by omega) (by omega) (by rw [over_length]; exact hb)
            rw [over_read hb] at h3
            have H3 := aM h3
            clear h3 fk hb HS a0 a1 f12 f34 f5 f6 f15 f16 f22 f23
            obtain ⟨zg610_0, zg610y_0, zg610_1, zg610y_1, zg610_2, zg610y_2, zg610_3, zg610y_3, zg610_4, zg610y_4, zg610_5, zg610y_5⟩ := bk6 (H.out.b 16)
            obtain ⟨zg411_0, zg411y_0, zg411_1, zg411y_1, zg411_2, zg411y_2, zg411_3, zg411y_3, zg411_4, zg411y_4, zg411_5, zg411y_5⟩ := bk6 (H.out.b 24)
            go_upto_region 23 with (first | ((with_reducible refine nD 76 ?_); (try (refine gate_guard (by rfl) ?_; dsimp only)); refine ldO 76 24 H.out hq ?_; (try refine nmL ?_)) | ((with_reducible refine nD 77 ?_); (try (refine gate_guard (by rfl) ?_; dsimp only)); refine gC 77 Try.func20 (impl_Writes.calls 5 a n _ _ ws _ _ bs wat true _ (H.out.ci 30) (H.out.li 30) (H.out.cb 31) (H.out.lb 31) (writes_right rfl a n ws bs wat)) ?_; rintro e w_ ⟨rfl, hO⟩; refine ⟨_, rfl, ?_⟩; replace H := aM (H.out.step hO); clear hO; obtain ⟨zg412_0, zg412y_0, zg412_1, zg412y_1, zg412_2, zg412y_2, zg412_3, zg412y_3, zg412_4, zg412y_4, zg412_5, zg412y_5⟩ := bk6 (H.out.b 24); (try refine nmL ?_)) | ((with_reducible refine nD 108 ?_); refine ldO 108 17 H.out hu ?_; (try refine nmL ?_)) | ((with_reducible refine nD 115 ?_); refine gC 115 Try.func15 (serve_own H3.out (H.out.cb 18) (H.out.lb 18) (H.out.cb 19) (H.out.lb 19) (H.out.ci 20) (H.out.li 20) (H.out.ci 21) (H.out.li 21) (H.out.nilI.ci 0) (Nat.zero_le _) (H.out.nilB.cb 0) (Nat.zero_le _) HR.out.1 HR.out.2.1 HR.out.2.2.1 HR.out.2.2.2 (Nat.zero_le _) (Nat.zero_le _)) ?_; rintro e w_ ⟨pA0, pA1, pA2, pA3, pA4, pA5, pc0, pc1, pc2, pc3, pc4, pc5, rfl, hO⟩; refine ⟨_, rfl, ?_⟩; replace H := aM (H.out.app hO); clear hO; (try refine nmL ?_)) | ((with_reducible refine nD 13 ?_); refine bxO 13 H.out #[.slice none 0 0, .slice none 0 0, .slice none 0 0, .slice none 0 0] 27 ?_; clear H; intro g13 _ H; (try refine nmL ?_)) | ((with_reducible refine nD 14 ?_); refine bxO 14 H.out #[.int .i64 0, .int .i64 0, .int .i64 0, .int .i64 0, .slice none 0 0, .slice none 0 0] 37 ?_; clear H; intro g14 _ H; (try refine nmL ?_)) | ((with_reducible refine nS 13 ?_); refine stO 1 H.out ?_; clear H; intro _ H; (try refine nmL ?_)) | ((with_reducible refine nS 14 ?_); refine stO 0 H.out ?_; clear H; intro _ H; (try refine nmL ?_)))
            have fl := filled_take bs
            have hge : decide ((bs.length : Int) ≤ ((filledOf bs).length : Int)) = true := decide_eq_true (by omega)
            have HF := aM fl
            have hle := fl.1
            have lc := H.out.lb 7
            have hcut : ∀ W : World, (Instr.slice 24 (.slice pA5 (filledOf bs).length pc5) none (some (.int .i64 (bs.length : Int))) none).run Try.prog W = .ok (.slice pA5 bs.length pc5) W := by
              obtain ⟨i0_, hi_, hz_⟩ := Option.map_eq_some_iff.1 zinfoB
              have h := cut_to (P := Try.prog) 24 4 .i64 Try.underlying24 hi_ pA5 (filledOf bs).length pc5 (bs.length : Int) (by omega) (by omega) lc
              rw [Int.toNat_natCast] at h
              exact h
            clear fl
            refine rgI [0, 32] 19 H.out ?_
            clear H
            intro w_ H
            have HL := aM (H.out.hasI [0, 32])
            refine pO 0 118 ?_
            refine fO 1 119 0 5 HL.out ?_
            refine pO 2 120 ?_
            refine pO 3 121 ?_
            refine fO 4 122 1 4 HL.out ?_
            refine pO 5 123 ?_
            refine pO 6 124 ?_
            refine pO 7 125 ?_
            refine pO 8 126 ?_
            refine fO 9 127 0 5 HL.out ?_
            refine pO 10 128 ?_
            refine fO 11 129 1 4 HL.out ?_
            refine pO 12 130 ?_
            refine pO 13 131 ?_
            refine pO 14 132 ?_
            refine fO 15 133 1 4 HL.out ?_
            clear HL
            refine clS 16 134 Try.func22 (sameBits_own (l := bs) (A := pA5) (c := pc5) (by have h := Kd.C_take (H.out.cb 7) HF.out.1; rw [HF.out.2] at h; exact h) (by have := HF.out.1; have := lc; omega) (H.out.cb 39) (H.out.lb 39) HQ.out.2.2.2.2.2) ?_
            rintro e w_2 ⟨rfl, hO⟩
            refine ⟨_, rfl, (H.out.drawn hO).hasI [0, 32], nm ?_⟩
            replace H := aM (H.out.drawn hO)
            clear hO
            refine pO 17 135 ?_
            refine pO 18 2 ?_
            refine done_ (by kernel_rfl) ?_
            go_wp2
            go_ret
            exact ⟨rfl, H.out.below⟩
          · obtain ⟨_, a0, a1, f12, f34, f5, f6, f15, f16, f22, f23⟩ := reqB_facts HK.out.2
            have fk := f6 rfl
            have hb : a.toNat + ws.length ≤ l2.length := by have := HT.out; simp [thereB] at this; omega
            simp only [doneOf, Int.reduceEq, if_true, if_false, true_or, or_true, false_or, or_false, or_self, Prod.mk.injEq] at hS
            obtain ⟨rfl, rfl, rfl, rfl, rfl, rfl, rfl, rfl, rfl, rfl⟩ := hS
            have h3 := read_words H2.out.1 (a := a) (m := ws.length) a0 a1 (by omega) (by omega) (by omega) (by rw [over_length]; exact hb)
            rw [over_read hb] at h3
            have H3 := aM h3
            clear h3 fk hb HS a0 a1 f12 f34 f5 f6 f15 f16 f22 f23
            obtain ⟨zg613_0, zg613y_0, zg613_1, zg613y_1, zg613_2, zg613y_2, zg613_3, zg613y_3, zg613_4, zg613y_4, zg613_5, zg613y_5⟩ := bk6 (H.out.b 16)
            obtain ⟨zg414_0, zg414y_0, zg414_1, zg414y_1, zg414_2, zg414y_2, zg414_3, zg414y_3, zg414_4, zg414y_4, zg414_5, zg414y_5⟩ := bk6 (H.out.b 24)
            go_wp2_with (first | ((with_reducible refine nD 76 ?_); (try (refine gate_guard (by rfl) ?_; dsimp only)); refine ldO 76 24 H.out hq ?_; (try refine nmL ?_)) | ((with_reducible refine nD 77 ?_); (try (refine gate_guard (by rfl) ?_; dsimp only)); refine gC 77 Try.func20 (impl_Writes.calls 6 a n _ _ ws _ _ bs wat true _ (H.out.ci 30) (H.out.li 30) (H.out.cb 31) (H.out.lb 31) (writes_right rfl a n ws bs wat)) ?_; rintro e w_ ⟨rfl, hO⟩; refine ⟨_, rfl, ?_⟩; replace H := aM (H.out.step hO); clear hO; obtain ⟨zg415_0, zg415y_0, zg415_1, zg415y_1, zg415_2, zg415y_2, zg415_3, zg415y_3, zg415_4, zg415y_4, zg415_5, zg415y_5⟩ := bk6 (H.out.b 24); (try refine nmL ?_)) | ((with_reducible refine nD 89 ?_); refine ldO 89 17 H.out hu ?_; (try refine nmL ?_)) | ((with_reducible refine nD 96 ?_); refine gC 96 Try.func15 (serve_own H3.out (H.out.cb 18) (H.out.lb 18) (H.out.cb 19) (H.out.lb 19) (H.out.ci 20) (H.out.li 20) (H.out.ci 21) (H.out.li 21) (H.out.nilI.ci 0) (Nat.zero_le _) (H.out.nilB.cb 0) (Nat.zero_le _) HR.out.1 HR.out.2.1 HR.out.2.2.1 HR.out.2.2.2 (Nat.zero_le _) (Nat.zero_le _)) ?_; rintro e w_ ⟨pA0, pA1, pA2, pA3, pA4, pA5, pc0, pc1, pc2, pc3, pc4, pc5, rfl, hO⟩; refine ⟨_, rfl, ?_⟩; replace H := aM (H.out.app hO); clear hO; (try refine nmL ?_)) | ((with_reducible refine nD 11 ?_); refine bxO 11 H.out #[.slice none 0 0, .slice none 0 0, .slice none 0 0, .slice none 0 0] 27 ?_; clear H; intro g11 _ H; (try refine nmL ?_)) | ((with_reducible refine nD 12 ?_); refine bxO 12 H.out #[.int .i64 0, .int .i64 0, .int .i64 0, .int .i64 0, .slice none 0 0, .slice none 0 0] 37 ?_; clear H; intro g12 _ H; (try refine nmL ?_)) | ((with_reducible refine nS 11 ?_); refine stO 1 H.out ?_; clear H; intro _ H; (try refine nmL ?_)) | ((with_reducible refine nS 12 ?_); refine stO 0 H.out ?_; clear H; intro _ H; obtain ⟨zg1216_0, zg1216y_0, zg1216_1, zg1216y_1, zg1216_2, zg1216y_2, zg1216_3, zg1216y_3, zg1216_4, zg1216y_4, zg1216_5, zg1216y_5⟩ := bk6 (H.out.b 0); obtain ⟨zg417_0, zg417y_0, zg417_1, zg417y_1, zg417_2, zg417y_2, zg417_3, zg417y_3, zg417_4, zg417y_4, zg417_5, zg417y_5⟩ := bk6 (H.out.b 32); (try refine nmL ?_)) | ((with_reducible refine nD 103 ?_); refine gC 103 Try.func21 (sameInts_own (H.out.ci 6) (H.out.li 6) (H.out.ci 38) (H.out.li 38) HQ.out.2.2.2.2.1) ?_; rintro e w_ ⟨rfl, hO⟩; refine ⟨_, rfl, ?_⟩; replace H := aM (H.out.drawn hO); clear hO; (try refine nmL ?_)))
            go_ret
            exact ⟨rfl, H.out.below⟩
          · obtain ⟨_, a0, a1, f12, f34, f5, f6, f15, f16, f22, f23⟩ := reqB_facts HK.out.2
            have fk := f15 rfl
            have hb : a.toNat + bs.length ≤ l0.length := by have := HT.out; simp [thereB] at this; omega
            simp only [doneOf, Int.reduceEq, if_true, if_false, true_or, or_true, false_or, or_false, or_self, Prod.mk.injEq] at hS
            obtain ⟨rfl, rfl, rfl, rfl, rfl, rfl, rfl, rfl, rfl, rfl⟩ := hS
            have h3 := read_bits H2.out.1 (a := a) (m := bs.length) a0 a1 (by omega) (by omega) (by omega) (by rw [over_length]; exact hb)
            rw [over_read hb] at h3
            have H3 := aM h3
            clear h3 fk hb HS a0 a1 f12 f34 f5 f6 f15 f16 f22 f23
            obtain ⟨zg618_0, zg618y_0, zg618_1, zg618y_1, zg618_2, zg618y_2, zg618_3, zg618y_3, zg618_4, zg618y_4, zg618_5, zg618y_5⟩ := bk6 (H.out.b 16)
            obtain ⟨zg419_0, zg419y_0, zg419_1, zg419y_1, zg419_2, zg419y_2, zg419_3, zg419y_3, zg419_4, zg419y_4, zg419_5, zg419y_5⟩ := bk6 (H.out.b 24)
            go_upto_region 23 with (first | ((with_reducible refine nD 76 ?_); (try (refine gate_guard (by rfl) ?_; dsimp only)); refine ldO 76 24 H.out hq ?_; (try refine nmL ?_)) | ((with_reducible refine nD 77 ?_); (try (refine gate_guard (by rfl) ?_; dsimp only)); refine gC 77 Try.func20 (impl_Writes.calls 15 a n _ _ ws _ _ bs wat true _ (H.out.ci 30) (H.out.li 30) (H.out.cb 31) (H.out.lb 31) (writes_right rfl a n ws bs wat)) ?_; rintro e w_ ⟨rfl, hO⟩; refine ⟨_, rfl, ?_⟩; replace H := aM (H.out.step hO); clear hO; obtain ⟨zg420_0, zg420y_0, zg420_1, zg420y_1, zg420_2, zg420y_2, zg420_3, zg420y_3, zg420_4, zg420y_4, zg420_5, zg420y_5⟩ := bk6 (H.out.b 24); (try refine nmL ?_)) | ((with_reducible refine nD 108 ?_); refine ldO 108 17 H.out hu ?_; (try refine nmL ?_)) | ((with_reducible refine nD 115 ?_); refine gC 115 Try.func15 (serve_own H3.out (H.out.cb 18) (H.out.lb 18) (H.out.cb 19) (H.out.lb 19) (H.out.ci 20) (H.out.li 20) (H.out.ci 21) (H.out.li 21) (H.out.nilI.ci 0) (Nat.zero_le _) (H.out.nilB.cb 0) (Nat.zero_le _) HR.out.1 HR.out.2.1 HR.out.2.2.1 HR.out.2.2.2 (Nat.zero_le _) (Nat.zero_le _)) ?_; rintro e w_ ⟨pA0, pA1, pA2, pA3, pA4, pA5, pc0, pc1, pc2, pc3, pc4, pc5, rfl, hO⟩; refine ⟨_, rfl, ?_⟩; replace H := aM (H.out.app hO); clear hO; (try refine nmL ?_)) | ((with_reducible refine nD 13 ?_); refine bxO 13 H.out #[.slice none 0 0, .slice none 0 0, .slice none 0 0, .slice none 0 0] 27 ?_; clear H; intro g13 _ H; (try refine nmL ?_)) | ((with_reducible refine nD 14 ?_); refine bxO 14 H.out #[.int .i64 0, .int .i64 0, .int .i64 0, .int .i64 0, .slice none 0 0, .slice none 0 0] 37 ?_; clear H; intro g14 _ H; (try refine nmL ?_)) | ((with_reducible refine nS 13 ?_); refine stO 1 H.out ?_; clear H; intro _ H; (try refine nmL ?_)) | ((with_reducible refine nS 14 ?_); refine stO 0 H.out ?_; clear H; intro _ H; (try refine nmL ?_)))
            have fl := filled_take bs
            have hge : decide ((bs.length : Int) ≤ ((filledOf bs).length : Int)) = true := decide_eq_true (by omega)
            have HF := aM fl
            have hle := fl.1
            have lc := H.out.lb 7
            have hcut : ∀ W : World, (Instr.slice 24 (.slice pA5 (filledOf bs).length pc5) none (some (.int .i64 (bs.length : Int))) none).run Try.prog W = .ok (.slice pA5 bs.length pc5) W := by
              obtain ⟨i0_, hi_, hz_⟩ := Option.map_eq_some_iff.1 zinfoB
              have h := cut_to (P := Try.prog) 24 4 .i64 Try.underlying24 hi_ pA5 (filledOf bs).length pc5 (bs.length : Int) (by omega) (by omega) lc
              rw [Int.toNat_natCast] at h
              exact h
            clear fl
            refine rgI [0, 32] 19 H.out ?_
            clear H
            intro w_ H
            have HL := aM (H.out.hasI [0, 32])
            refine pO 0 118 ?_
            refine fO 1 119 0 5 HL.out ?_
            refine pO 2 120 ?_
            refine pO 3 121 ?_
            refine fO 4 122 1 4 HL.out ?_
            refine pO 5 123 ?_
            refine pO 6 124 ?_
            refine pO 7 125 ?_
            refine pO 8 126 ?_
            refine fO 9 127 0 5 HL.out ?_
            refine pO 10 128 ?_
            refine fO 11 129 1 4 HL.out ?_
            refine pO 12 130 ?_
            refine pO 13 131 ?_
            refine pO 14 132 ?_
            refine fO 15 133 1 4 HL.out ?_
            clear HL
            refine clS 16 134 Try.func22 (sameBits_own (l := bs) (A := pA5) (c := pc5) (by have h := Kd.C_take (H.out.cb 7) HF.out.1; rw [HF.out.2] at h; exact h) (by have := HF.out.1; have := lc; omega) (H.out.cb 39) (H.out.lb 39) HQ.out.2.2.2.2.2) ?_
            rintro e w_2 ⟨rfl, hO⟩
            refine ⟨_, rfl, (H.out.drawn hO).hasI [0, 32], nm ?_⟩
            replace H := aM (H.out.drawn hO)
            clear hO
            refine pO 17 135 ?_
            refine pO 18 2 ?_
            refine done_ (by kernel_rfl) ?_
            go_wp2
            go_ret
            exact ⟨rfl, H.out.below⟩
          · obtain ⟨_, a0, a1, f12, f34, f5, f6, f15, f16, f22, f23⟩ := reqB_facts HK.out.2
            have fk := f16 rfl
            have hb : a.toNat + ws.length ≤ l2.length := by have := HT.out; simp [thereB] at this; omega
            simp only [doneOf, Int.reduceEq, if_true, if_false, true_or, or_true, false_or, or_false, or_self, Prod.mk.injEq] at hS
            obtain ⟨rfl, rfl, rfl, rfl, rfl, rfl, rfl, rfl, rfl, rfl⟩ := hS
            have h3 := read_words H2.out.1 (a := a) (m := ws.length) a0 a1 (by omega) (by omega) (by omega) (by rw [over_length]; exact hb)
            rw [over_read hb] at h3
            have H3 := aM h3
            clear h3 fk hb HS a0 a1 f12 f34 f5 f6 f15 f16 f22 f23
            obtain ⟨zg621_0, zg621y_0, zg621_1, zg621y_1, zg621_2, zg621y_2, zg621_3, zg621y_3, zg621_4, zg621y_4, zg621_5, zg621y_5⟩ := bk6 (H.out.b 16)
            obtain ⟨zg422_0, zg422y_0, zg422_1, zg422y_1, zg422_2, zg422y_2, zg422_3, zg422y_3, zg422_4, zg422y_4, zg422_5, zg422y_5⟩ := bk6 (H.out.b 24)
            go_wp2_with (first | ((with_reducible refine nD 76 ?_); (try (refine gate_guard (by rfl) ?_; dsimp only)); refine ldO 76 24 H.out hq ?_; (try refine nmL ?_)) | ((with_reducible refine nD 77 ?_); (try (refine gate_guard (by rfl) ?_; dsimp only)); refine gC 77 Try.func20 (impl_Writes.calls 16 a n _ _ ws _ _ bs wat true _ (H.out.ci 30) (H.out.li 30) (H.out.cb 31) (H.out.lb 31) (writes_right rfl a n ws bs wat)) ?_; rintro e w_ ⟨rfl, hO⟩; refine ⟨_, rfl, ?_⟩; replace H := aM (H.out.step hO); clear hO; obtain ⟨zg423_0, zg423y_0, zg423_1, zg423y_1, zg423_2, zg423y_2, zg423_3, zg423y_3, zg423_4, zg423y_4, zg423_5, zg423y_5⟩ := bk6 (H.out.b 24); (try refine nmL ?_)) | ((with_reducible refine nD 89 ?_); refine ldO 89 17 H.out hu ?_; (try refine nmL ?_)) | ((with_reducible refine nD 96 ?_); refine gC 96 Try.func15 (serve_own H3.out (H.out.cb 18) (H.out.lb 18) (H.out.cb 19) (H.out.lb 19) (H.out.ci 20) (H.out.li 20) (H.out.ci 21) (H.out.li 21) (H.out.nilI.ci 0) (Nat.zero_le _) (H.out.nilB.cb 0) (Nat.zero_le _) HR.out.1 HR.out.2.1 HR.out.2.2.1 HR.out.2.2.2 (Nat.zero_le _) (Nat.zero_le _)) ?_; rintro e w_ ⟨pA0, pA1, pA2, pA3, pA4, pA5, pc0, pc1, pc2, pc3, pc4, pc5, rfl, hO⟩; refine ⟨_, rfl, ?_⟩; replace H := aM (H.out.app hO); clear hO; (try refine nmL ?_)) | ((with_reducible refine nD 11 ?_); refine bxO 11 H.out #[.slice none 0 0, .slice none 0 0, .slice none 0 0, .slice none 0 0] 27 ?_; clear H; intro g11 _ H; (try refine nmL ?_)) | ((with_reducible refine nD 12 ?_); refine bxO 12 H.out #[.int .i64 0, .int .i64 0, .int .i64 0, .int .i64 0, .slice none 0 0, .slice none 0 0] 37 ?_; clear H; intro g12 _ H; (try refine nmL ?_)) | ((with_reducible refine nS 11 ?_); refine stO 1 H.out ?_; clear H; intro _ H; (try refine nmL ?_)) | ((with_reducible refine nS 12 ?_); refine stO 0 H.out ?_; clear H; intro _ H; obtain ⟨zg1224_0, zg1224y_0, zg1224_1, zg1224y_1, zg1224_2, zg1224y_2, zg1224_3, zg1224y_3, zg1224_4, zg1224y_4, zg1224_5, zg1224y_5⟩ := bk6 (H.out.b 0); obtain ⟨zg425_0, zg425y_0, zg425_1, zg425y_1, zg425_2, zg425y_2, zg425_3, zg425y_3, zg425_4, zg425y_4, zg425_5, zg425y_5⟩ := bk6 (H.out.b 32); (try refine nmL ?_)) | ((with_reducible refine nD 103 ?_); refine gC 103 Try.func21 (sameInts_own (H.out.ci 6) (H.out.li 6) (H.out.ci 38) (H.out.li 38) HQ.out.2.2.2.2.1) ?_; rintro e w_ ⟨rfl, hO⟩; refine ⟨_, rfl, ?_⟩; replace H := aM (H.out.drawn hO); clear hO; (try refine nmL ?_)))
            go_ret
            exact ⟨rfl, H.out.below⟩
          · simp only [doneOf, Int.reduceEq, if_true, if_false, true_or, or_true, false_or, or_false, or_self, Prod.mk.injEq] at hS
            obtain ⟨rfl, rfl, rfl, rfl, rfl, rfl, rfl, rfl, rfl, rfl⟩ := hS
            clear HS
            obtain ⟨zg626_0, zg626y_0, zg626_1, zg626y_1, zg626_2, zg626y_2, zg626_3, zg626y_3, zg626_4, zg626y_4, zg626_5, zg626y_5⟩ := bk6 (H.out.b 16)
            obtain ⟨zg427_0, zg427y_0, zg427_1, zg427y_1, zg427_2, zg427y_2, zg427_3, zg427y_3, zg427_4, zg427y_4, zg427_5, zg427y_5⟩ := bk6 (H.out.b 24)
            go_wp2_with (first | ((with_reducible refine nD 76 ?_); (try (refine gate_guard (by rfl) ?_; dsimp only)); refine ldO 76 24 H.out hq ?_; (try refine nmL ?_)) | ((with_reducible refine nD 77 ?_); (try (refine gate_guard (by rfl) ?_; dsimp only)); refine gC 77 Try.func20 (impl_Writes.calls 22 a n _ _ ws _ _ bs wat true _ (H.out.ci 30) (H.out.li 30) (H.out.cb 31) (H.out.lb 31) (writes_right rfl a n ws bs wat)) ?_; rintro e w_ ⟨rfl, hO⟩; refine ⟨_, rfl, ?_⟩; replace H := aM (H.out.step hO); clear hO; obtain ⟨zg428_0, zg428y_0, zg428_1, zg428y_1, zg428_2, zg428y_2, zg428_3, zg428y_3, zg428_4, zg428y_4, zg428_5, zg428y_5⟩ := bk6 (H.out.b 24); (try refine nmL ?_)))
            go_ret
            exact ⟨rfl, H.out.below⟩
          · obtain ⟨_, a0, a1, f12, f34, f5, f6, f15, f16, f22, f23⟩ := reqB_facts HK.out.2
            have fk := f23 rfl
            have hb : a.toNat + n.toNat ≤ l2.length := by have := HT.out; simp [thereB] at this; omega
            obtain ⟨m, rfl⟩ : ∃ m : Nat, n = (m : Int) := ⟨n.toNat, by omega⟩
            simp only [Int.toNat_natCast] at hb
            simp only [doneOf, Int.reduceEq, if_true, if_false, true_or, or_true, false_or, or_false, or_self, Prod.mk.injEq] at hS
            obtain ⟨rfl, rfl, rfl, rfl, rfl, rfl, rfl, rfl, rfl, rfl⟩ := hS
            have h3 := read_words H2.out.1 (a := a) (m := m) a0 a1 (by omega) (by omega) (by omega) (by rw [over_length]; exact hb)
            rw [show a.toNat + m = (a + (m : Int)).toNat by omega] at h3
            have H3 := aM h3
            clear h3 fk hb HS a0 a1 f12 f34 f5 f6 f15 f16 f22 f23
            obtain ⟨zg629_0, zg629y_0, zg629_1, zg629y_1, zg629_2, zg629y_2, zg629_3, zg629y_3, zg629_4, zg629y_4, zg629_5, zg629y_5⟩ := bk6 (H.out.b 16)
            obtain ⟨zg430_0, zg430y_0, zg430_1, zg430y_1, zg430_2, zg430y_2, zg430_3, zg430y_3, zg430_4, zg430y_4, zg430_5, zg430y_5⟩ := bk6 (H.out.b 24)
            go_wp2_with (first | ((with_reducible refine nD 76 ?_); (try (refine gate_guard (by rfl) ?_; dsimp only)); refine ldO 76 24 H.out hq ?_; (try refine nmL ?_)) | ((with_reducible refine nD 77 ?_); (try (refine gate_guard (by rfl) ?_; dsimp only)); refine gC 77 Try.func20 (impl_Writes.calls 23 a (m : Int) _ _ ws _ _ bs wat true _ (H.out.ci 30) (H.out.li 30) (H.out.cb 31) (H.out.lb 31) (writes_right rfl a (m : Int) ws bs wat)) ?_; rintro e w_ ⟨rfl, hO⟩; refine ⟨_, rfl, ?_⟩; replace H := aM (H.out.step hO); clear hO; obtain ⟨zg431_0, zg431y_0, zg431_1, zg431y_1, zg431_2, zg431y_2, zg431_3, zg431y_3, zg431_4, zg431y_4, zg431_5, zg431y_5⟩ := bk6 (H.out.b 24); (try refine nmL ?_)) | ((with_reducible refine nD 139 ?_); refine ldO 139 17 H.out hu ?_; (try refine nmL ?_)) | ((with_reducible refine nD 145 ?_); refine gC 145 Try.func15 (serve_own H3.out (H.out.cb 18) (H.out.lb 18) (H.out.cb 19) (H.out.lb 19) (H.out.ci 20) (H.out.li 20) (H.out.ci 21) (H.out.li 21) (H.out.nilI.ci 0) (Nat.zero_le _) (H.out.nilB.cb 0) (Nat.zero_le _) HR.out.1 HR.out.2.1 HR.out.2.2.1 HR.out.2.2.2 (Nat.zero_le _) (Nat.zero_le _)) ?_; rintro e w_ ⟨pA0, pA1, pA2, pA3, pA4, pA5, pc0, pc1, pc2, pc3, pc4, pc5, rfl, hO⟩; refine ⟨_, rfl, ?_⟩; replace H := aM (H.out.app hO); clear hO; (try refine nmL ?_)) | ((with_reducible refine nD 15 ?_); refine bxO 15 H.out #[.slice none 0 0, .slice none 0 0, .slice none 0 0, .slice none 0 0] 27 ?_; clear H; intro g15 _ H; (try refine nmL ?_)) | ((with_reducible refine nD 16 ?_); refine bxO 16 H.out #[.int .i64 0, .int .i64 0, .int .i64 0, .int .i64 0, .slice none 0 0, .slice none 0 0] 37 ?_; clear H; intro g16 _ H; (try refine nmL ?_)) | ((with_reducible refine nS 15 ?_); refine stO 1 H.out ?_; clear H; intro _ H; (try refine nmL ?_)) | ((with_reducible refine nS 16 ?_); refine stO 0 H.out ?_; clear H; intro _ H; obtain ⟨zg1632_0, zg1632y_0, zg1632_1, zg1632y_1, zg1632_2, zg1632y_2, zg1632_3, zg1632y_3, zg1632_4, zg1632y_4, zg1632_5, zg1632y_5⟩ := bk6 (H.out.b 0); obtain ⟨zg633_0, zg633y_0, zg633_1, zg633y_1, zg633_2, zg633y_2, zg633_3, zg633y_3, zg633_4, zg633y_4, zg633_5, zg633y_5⟩ := bk6 (H.out.b 24); (try refine nmL ?_)) | ((with_reducible refine nD 152 ?_); refine gC 152 Try.func21 (sameInts_own (H.out.ci 6) (H.out.li 6) (H.out.ci 30) (H.out.li 30) HB.out.1) ?_; rintro e w_ ⟨rfl, hO⟩; refine ⟨_, rfl, ?_⟩; replace H := aM (H.out.drawn hO); clear hO; (try refine nmL ?_)))
            go_ret
            exact ⟨rfl, H.out.below⟩
end Go.Proofs.Ytiiodfagedcofaa.XServed
