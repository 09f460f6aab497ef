/- The law on UnHex is true at every string. No condition. -/
import Derived.Test.YtioajlgddbnlgaaPFnExactUnHexx2
import Derived.Test.YtioajlgddbnlgaaC
namespace Go.Proofs.Ytioajlgddbnlgaa.Pure
open Go Go.RowKit Go.Proofs.Ytioajlgddbnlgaa.PFnExactUnHex Go.Proofs.YtioajlgddbnlgaaW.PrintWords Go.Proofs.YtioajlgddbnlgaaW.PrintLast Go.Proofs.Ytioajlgddbnlgaa.PlainC
set_option linter.unusedVariables false
set_option linter.unusedSimpArgs false

theorem eqByteS_l0 (a b : List Int) (hl : a.length ≤ 140737488351232) (he : a.length = b.length) (d : Nat) : ∀ i : Nat, i ≤ a.length → a.length - i = d →
    Ev (fun k => laws_eqByteS.l0 k a b (i : Int)) (decide (a.drop i = b.drop i)) := by
  induction d with
  | zero =>
    intro i hi hd
    obtain rfl : i = a.length := by omega
    refine evUp ?_
    have h1 : ¬ ((a.length : Nat) : Int) < (a.length : Int) := by omega
    simp only [laws_eqByteS.l0, h1, if_false]
    have e : decide (a.drop a.length = b.drop a.length) = true := by
      rw [List.drop_length, he, List.drop_length]; rfl
    rw [e]
    exact Ev.now _
  | succ d ih =>
    intro i hi hd
    have ha : i < a.length := by omega
    have hb : i < b.length := by omega
    refine evUp ?_
    have h1 : (i : Int) < (a.length : Int) := by omega
    have h2 : 0 ≤ (i : Int) := by omega
    have h3 : (i : Int) < (b.length : Int) := by omega
    simp only [laws_eqByteS.l0, h1, h2, h3, if_true]
    rw [rd_get ha, rd_get hb, w64 (by omega) (by omega)]
    by_cases e : a[i] = b[i]
    · simp only [e, if_true]
      have e2 : decide (a.drop i = b.drop i) = decide (a.drop (i + 1) = b.drop (i + 1)) := by
        rw [decide_eq_decide, drop_eq_iff ha hb]; simp [e]
      rw [e2]
      exact ih (i + 1) (by omega) (by omega)
    · simp only [e, if_false]
      have e2 : decide (a.drop i = b.drop i) = false := by
        rw [decide_eq_false_iff_not, drop_eq_iff ha hb]; simp [e]
      rw [e2]
      exact Ev.now _

theorem eqByteS_ev (a b : List Int) (hl : a.length ≤ 140737488351232) : Ev (fun k => laws_eqByteS.f k a b) (decide (a = b)) := by
  by_cases he : a.length = b.length
  · have h := eqByteS_l0 a b hl he a.length 0 (by omega) (by omega)
    have h1 : (a.length : Int) = (b.length : Int) := by omega
    simp only [laws_eqByteS.f, h1, if_true]
    exact h
  · have h1 : ¬ (a.length : Int) = (b.length : Int) := by omega
    have e : decide (a = b) = false := by
      rw [decide_eq_false_iff_not]; intro h; exact he (by rw [h])
    simp only [laws_eqByteS.f, h1, if_false]
    rw [e]
    exact Ev.now _

theorem eqByteS_refl (a : List Int) (hl : a.length ≤ 140737488351232) : Ev (fun k => laws_eqByteS.f k a a) true := by
  have h := eqByteS_ev a a hl
  rwa [decide_eq_true rfl] at h

theorem markByteS_l0 (l : List Int) (k0 : Int) (hk0 : 0 ≤ k0) (hk : k0 + l.length ≤ 4611686018427387904) (hl : l.length ≤ 140737488355328) (d : Nat) : ∀ i : Nat, i ≤ l.length → l.length - i = d →
    Ev (fun k => laws_markByteS.l0 k (marks (· % 256) k0 i ++ l.drop i) (k0 + i) (i : Int)) (k0 + l.length, marks (· % 256) k0 l.length) := by
  induction d with
  | zero =>
    intro i hi hd
    obtain rfl : i = l.length := by omega
    refine evUp ?_
    have h1 : ¬ ((l.length : Nat) : Int) < (((marks (· % 256) k0 l.length ++ l.drop l.length).length : Nat) : Int) := by
      rw [List.length_append, marks_length, List.drop_length, List.length_nil]; omega
    simp only [laws_markByteS.l0, h1, if_false]
    rw [List.drop_length, List.append_nil]
    exact Ev.now _
  | succ d ih =>
    intro i hi hd
    have hlt : i < l.length := by omega
    refine evUp ?_
    have h1 : (i : Int) < (((marks (· % 256) k0 i ++ l.drop i).length : Nat) : Int) := by
      rw [List.length_append, marks_length, List.length_drop]; omega
    have h2 : 0 ≤ (i : Int) := by omega
    simp only [laws_markByteS.l0, h1, h2, if_true]
    rw [Int.toNat_natCast, set_next _ l _ i (marks_length _ _ _) hlt, w64 (x := k0 + i + 1) (by omega) (by omega), w64 (x := (i : Int) + 1) (by omega) (by omega)]
    have h := ih (i + 1) (by omega) (by omega)
    rw [marks_succ] at h
    rw [show k0 + (i : Int) + 1 = k0 + ((i + 1 : Nat) : Int) from by omega]
    exact h

theorem markByteS_ev (l : List Int) (k0 : Int) (hk0 : 0 ≤ k0) (hk : k0 + l.length ≤ 4611686018427387904) (hl : l.length ≤ 140737488355328) :
    Ev (fun k => laws_markByteS.f k l k0) (k0 + l.length, marks (· % 256) k0 l.length) := by
  have h := markByteS_l0 l k0 hk0 hk hl l.length 0 (by omega) (by omega)
  simp only [laws_markByteS.f]
  simpa [marks] using h

theorem heldByteS_l0 (n : Nat) (k0 : Int) (hk0 : 0 ≤ k0) (hk : k0 + n ≤ 4611686018427387904) (hl : n ≤ 140737488355328) (d : Nat) : ∀ i : Nat, i ≤ n → n - i = d →
    Ev (fun k => laws_heldByteS.l0 k (marks (· % 256) k0 n) (k0 + i) (i : Int)) (k0 + n) := by
  induction d with
  | zero =>
    intro i hi hd
    obtain rfl : i = n := by omega
    refine evUp ?_
    have h1 : ¬ ((i : Nat) : Int) < (((marks (· % 256) k0 i).length : Nat) : Int) := by rw [marks_length]; omega
    simp only [laws_heldByteS.l0, h1, if_false]
    exact Ev.now _
  | succ d ih =>
    intro i hi hd
    have hlt : i < n := by omega
    refine evUp ?_
    have h1 : (i : Int) < (((marks (· % 256) k0 n).length : Nat) : Int) := by rw [marks_length]; omega
    have h2 : 0 ≤ (i : Int) := by omega
    have h3 : rd (marks (· % 256) k0 n) (i : Int) = (k0 + i) % 256 := by
      rw [rd_get (by rw [marks_length]; exact hlt), marks_get _ _ _ _ hlt]
    simp only [laws_heldByteS.l0, h1, h2, h3, if_true]
    rw [w64 (x := k0 + i + 1) (by omega) (by omega), w64 (x := (i : Int) + 1) (by omega) (by omega)]
    rw [show k0 + (i : Int) + 1 = k0 + ((i + 1 : Nat) : Int) from by omega]
    exact ih (i + 1) (by omega) (by omega)

theorem heldByteS_ev (n : Nat) (k0 : Int) (hk0 : 0 ≤ k0) (hk : k0 + n ≤ 4611686018427387904) (hl : n ≤ 140737488355328) :
    Ev (fun k => laws_heldByteS.f k (marks (· % 256) k0 n) k0) (k0 + n) := by
  have h := heldByteS_l0 n k0 hk0 hk hl n 0 (by omega) (by omega)
  simp only [laws_heldByteS.f]
  simpa using h

/-- What a digit counts; below nothing where it is none. -/
def digOf (c : Int) : Int := if 48 ≤ c ∧ c ≤ 57 then c - 48 else if 65 ≤ c ∧ c ≤ 70 then c - 55 else -1
theorem digOf_range (c : Int) : -1 ≤ digOf c ∧ digOf c ≤ 15 := by
  unfold digOf; split
  · omega
  · split <;> omega
/-- The bytes of so many pairs of digits, from a place on, behind what there was. -/
def unPairs (s : ByteArray) : Nat → Int → List Int → Option (List Int)
  | 0, _, acc => some acc
  | m + 1, i, acc => if digOf (bt s i) < 0 then none else if digOf (bt s (i + 1)) < 0 then none else unPairs s m (i + 2) (acc ++ [digOf (bt s i) * 16 + digOf (bt s (i + 1))])
def unTold : Option (List Int) → List Int × Bool
  | none => ([], false)
  | some l => (l, true)

theorem impl_hexValue_ev (c : Int) (h0 : 0 ≤ c) (h1 : c ≤ 255) : Ev (fun k => impl_hexValue.f k c) (if digOf c < 0 then (0, false) else (digOf c, true)) := by
  by_cases a : c ≥ 48
  · by_cases b : c ≤ 57
    · have e : digOf c = c - 48 := by unfold digOf; rw [if_pos (by omega)]
      have n : ¬ (c - 48 < 0) := by omega
      have e2 : (c - 48) % 256 = c - 48 := by omega
      simp only [impl_hexValue.f, a, b, if_true, decide_true]
      refine evUp ?_
      simp only [impl_hexValue.j0, if_true, e, n, if_false, e2]
      exact Ev.now _
    · simp only [impl_hexValue.f, a, b, if_true, decide_false]
      refine evUp ?_
      simp only [impl_hexValue.j0, Bool.false_eq_true, if_false]
      by_cases p : c ≥ 65
      · by_cases q : c ≤ 70
        · have e : digOf c = c - 55 := by unfold digOf; rw [if_neg (by omega), if_pos (by omega)]
          have n : ¬ (c - 55 < 0) := by omega
          have e2 : ((c - 65) % 256 + 10) % 256 = c - 55 := by omega
          simp only [p, q, if_true, e, n, if_false, e2]
          exact Ev.now _
        · have e : digOf c = -1 := by unfold digOf; rw [if_neg (by omega), if_neg (by omega)]
          have n : (-1 : Int) < 0 := by omega
          simp only [p, q, if_true, e, n, if_false]
          exact Ev.now _
      · have e : digOf c = -1 := by unfold digOf; rw [if_neg (by omega), if_neg (by omega)]
        have n : (-1 : Int) < 0 := by omega
        simp only [p, if_true, e, n, if_false]
        exact Ev.now _
  · have e : digOf c = -1 := by unfold digOf; rw [if_neg (by omega), if_neg (by omega)]
    have n : (-1 : Int) < 0 := by omega
    have p : ¬ c ≥ 65 := by omega
    simp only [impl_hexValue.f, a, if_false]
    refine evUp ?_
    simp only [impl_hexValue.j0, Bool.false_eq_true, if_false, p, e, n, if_true]
    exact Ev.now _

theorem or_u8_pair {a b : Int} (h0 : 0 ≤ a) (h1 : a ≤ 15) (h2 : 0 ≤ b) (h3 : b ≤ 15) : Go.bits .or .u8 ((a * 16) % 256) b = a * 16 + b := by
  rw [Int.emod_eq_of_lt (by omega) (by omega)]
  exact bits_join .u8 8 (by decide) wraps_u8 4 (a * 16) b (by omega) (by omega) (by omega) h2 (by omega) (by omega)

theorem impl_UnHex_l0 (s : ByteArray) (hs : s.size ≤ 140737488351232) (he : s.size % 2 = 0) (m : Nat) : ∀ (i : Nat) (acc : List Int), i + 2 * m = s.size → acc.length ≤ i →
    Ev (fun k => impl_UnHex.l0 k s acc (i : Int)) (unTold (unPairs s m (i : Int) acc)) := by
  induction m with
  | zero =>
    intro i acc hi ha
    refine evUp ?_
    have h1 : ¬ (i : Int) < (s.size : Int) := by omega
    simp only [impl_UnHex.l0, h1, if_false]
    exact Ev.now _
  | succ m ih =>
    intro i acc hi ha
    refine evUp ?_
    have h1 : (i : Int) < (s.size : Int) := by omega
    have h2 : 0 ≤ (i : Int) := by omega
    have e1 : wrap64 ((i : Int) + 1) = (i : Int) + 1 := w64 (by omega) (by omega)
    have e2 : wrap64 ((i : Int) + 2) = (i : Int) + 2 := w64 (by omega) (by omega)
    have h3 : 0 ≤ (i : Int) + 1 := by omega
    have h4 : (i : Int) + 1 < (s.size : Int) := by omega
    have r1 := bt_range s (i : Int)
    have r2 := bt_range s ((i : Int) + 1)
    have d1 := digOf_range (bt s (i : Int))
    have d2 := digOf_range (bt s ((i : Int) + 1))
    simp only [impl_UnHex.l0, h1, h2, if_true, e1, e2, h3, h4]
    refine evBind (impl_hexValue_ev _ r1.1 r1.2) ?_
    refine evBind (impl_hexValue_ev _ r2.1 r2.2) ?_
    by_cases c1 : digOf (bt s (i : Int)) < 0
    · simp only [c1, if_true, Bool.false_eq_true, if_false, unPairs, unTold]
      exact Ev.now _
    · by_cases c2 : digOf (bt s ((i : Int) + 1)) < 0
      · simp only [c1, c2, if_true, Bool.false_eq_true, if_false, unPairs, unTold]
        exact Ev.now _
      · have h5 : acc.length < 140737488355328 := by omega
        simp only [c1, c2, if_true, if_false, unPairs, h5]
        rw [or_u8_pair (by omega) d1.2 (by omega) d2.2]
        exact ih (i + 2) _ (by omega) (by rw [List.length_append]; simp; omega)

theorem impl_UnHex_ev (s : ByteArray) (hs : s.size ≤ 140737488351232) : Ev (fun k => impl_UnHex.f k s) (if s.size % 2 = 0 then unTold (unPairs s (s.size / 2) 0 []) else ([], false)) := by
  by_cases he : s.size % 2 = 0
  · have h1 : (s.size : Int) % 2 = 0 := by omega
    simp only [impl_UnHex.f, h1, he, if_true]
    exact impl_UnHex_l0 s hs he (s.size / 2) 0 [] (by omega) (by simp)
  · have h1 : ¬ (s.size : Int) % 2 = 0 := by omega
    simp only [impl_UnHex.f, h1, he, if_false]
    exact Ev.now _

theorem spec_l1Digit_eq (c : Int) (h0 : 0 ≤ c) (h1 : c ≤ 255) : spec_l1Digit.f c = some (digOf c) := by
  have e0 : wrap64 c = c := w64 (by omega) (by omega)
  by_cases a : c ≥ 48
  · by_cases b : c ≤ 57
    · have e : digOf c = c - 48 := by unfold digOf; rw [if_pos (by omega)]
      have e2 : (c - 48) % 256 = c - 48 := by omega
      simp only [spec_l1Digit.f, spec_l1In.f, e0, a, b, if_true, decide_true, Option.bind_some, e, e2]
    · by_cases p : c ≥ 65
      · by_cases q : c ≤ 70
        · have e : digOf c = c - 55 := by unfold digOf; rw [if_neg (by omega), if_pos (by omega)]
          have e2 : (c - 65) % 256 + 10 = c - 55 := by omega
          simp only [spec_l1Digit.f, spec_l1In.f, e0, a, b, p, q, if_true, decide_true, decide_false, Bool.false_eq_true, if_false, Option.bind_some, e, e2]
        · have e : digOf c = -1 := by unfold digOf; rw [if_neg (by omega), if_neg (by omega)]
          simp only [spec_l1Digit.f, spec_l1In.f, e0, a, b, p, q, if_true, decide_false, Bool.false_eq_true, if_false, Option.bind_some, e]
      · have e : digOf c = -1 := by unfold digOf; rw [if_neg (by omega), if_neg (by omega)]
        simp only [spec_l1Digit.f, spec_l1In.f, e0, a, b, p, if_true, decide_false, Bool.false_eq_true, if_false, Option.bind_some, e]
  · have e : digOf c = -1 := by unfold digOf; rw [if_neg (by omega), if_neg (by omega)]
    have p : ¬ c ≥ 65 := by omega
    simp only [spec_l1Digit.f, spec_l1In.f, e0, a, p, Bool.false_eq_true, if_false, Option.bind_some, e]

theorem spec_UnHex_l0 (s : ByteArray) (hs : s.size ≤ 140737488351232) (m : Nat) : ∀ (i : Nat) (acc : List Int), i + 2 * m ≤ s.size → s.size < i + 2 * m + 2 → acc.length ≤ i →
    Ev (fun k => spec_UnHex.l0 k s acc (i : Int)) (if s.size % 2 = 0 ∨ unPairs s m (i : Int) acc = none then unTold (unPairs s m (i : Int) acc) else ([], false)) := by
  induction m with
  | zero =>
    intro i acc hi hj ha
    refine evUp ?_
    have e1 : wrap64 ((i : Int) + 1) = (i : Int) + 1 := w64 (by omega) (by omega)
    have h1 : ¬ (i : Int) + 1 < (s.size : Int) := by omega
    by_cases he : s.size % 2 = 0
    · have h2 : (s.size : Int) % 2 = 0 := by omega
      simp only [spec_UnHex.l0, e1, h1, if_false, h2, if_true, he, true_or, unPairs, unTold]
      exact Ev.now _
    · have h2 : ¬ (s.size : Int) % 2 = 0 := by omega
      simp only [spec_UnHex.l0, e1, h1, if_false, h2, he, false_or, unPairs, reduceCtorEq]
      exact Ev.now _
  | succ m ih =>
    intro i acc hi hj ha
    refine evUp ?_
    have h1 : (i : Int) < (s.size : Int) := by omega
    have h2 : 0 ≤ (i : Int) := by omega
    have e1 : wrap64 ((i : Int) + 1) = (i : Int) + 1 := w64 (by omega) (by omega)
    have e2 : wrap64 ((i : Int) + 2) = (i : Int) + 2 := w64 (by omega) (by omega)
    have h3 : 0 ≤ (i : Int) + 1 := by omega
    have h4 : (i : Int) + 1 < (s.size : Int) := by omega
    have r1 := bt_range s (i : Int)
    have r2 := bt_range s ((i : Int) + 1)
    have d1 := digOf_range (bt s (i : Int))
    have d2 := digOf_range (bt s ((i : Int) + 1))
    simp only [spec_UnHex.l0, h1, h2, if_true, e1, e2, h3, h4, spec_l1Digit_eq _ r1.1 r1.2, spec_l1Digit_eq _ r2.1 r2.2, Option.bind_some]
    by_cases c1 : digOf (bt s (i : Int)) < 0
    · simp only [c1, if_true, unPairs, unTold, or_true]
      exact Ev.now _
    · by_cases c2 : digOf (bt s ((i : Int) + 1)) < 0
      · simp only [c1, c2, if_true, if_false, unPairs, unTold, or_true]
        exact Ev.now _
      · have h5 : acc.length < 140737488355328 := by omega
        have e3 : wrap64 (wrap64 (digOf (bt s (i : Int)) * 16) + digOf (bt s ((i : Int) + 1))) % 256 = digOf (bt s (i : Int)) * 16 + digOf (bt s ((i : Int) + 1)) := by
          rw [w64 (x := digOf (bt s (i : Int)) * 16) (by omega) (by omega), w64 (by omega) (by omega)]; omega
        simp only [c1, c2, if_true, if_false, unPairs, h5, e3]
        exact ih (i + 2) _ (by omega) (by omega) (by rw [List.length_append]; simp; omega)

theorem spec_UnHex_ev (s : ByteArray) (hs : s.size ≤ 140737488351232) : Ev (fun k => spec_UnHex.f k s) (if s.size % 2 = 0 then unTold (unPairs s (s.size / 2) 0 []) else ([], false)) := by
  have h := spec_UnHex_l0 s hs (s.size / 2) 0 [] (by omega) (by omega) (by simp)
  have e : (if s.size % 2 = 0 ∨ unPairs s (s.size / 2) ((0 : Nat) : Int) [] = none then unTold (unPairs s (s.size / 2) ((0 : Nat) : Int) []) else ([], false)) = (if s.size % 2 = 0 then unTold (unPairs s (s.size / 2) 0 []) else ([], false)) := by
    by_cases he : s.size % 2 = 0
    · simp only [he, true_or, if_true]; rfl
    · simp only [he, false_or, if_false]
      split
      · rename_i hn; rw [hn]; rfl
      · rfl
  rw [e] at h
  exact h

theorem unPairs_length (s : ByteArray) (m : Nat) : ∀ (i : Int) (acc l : List Int), unPairs s m i acc = some l → l.length = acc.length + m := by
  induction m with
  | zero => intro i acc l h; simp only [unPairs, Option.some.injEq] at h; subst h; rfl
  | succ m ih =>
    intro i acc l h
    simp only [unPairs] at h
    split at h
    · cases h
    · split at h
      · cases h
      · have := ih _ _ _ h
        rw [List.length_append] at this
        simp at this; omega

theorem FnExactUnHex : laws_FnExactUnHex.Pure := by
  intro s hs
  refine Ev.rounds (g := fun k => laws_FnExactUnHex.f k s) ?_
  by_cases hb : (s.size : Int) > 1048576
  · simp only [laws_FnExactUnHex.f, hb, if_true]; exact Ev.now _
  · simp only [laws_FnExactUnHex.f, hb, if_false]
    have hsz : s.size ≤ 1048576 := by omega
    have h1 := spec_UnHex_ev s hs
    have h2 := impl_UnHex_ev s hs
    have hlen : (if s.size % 2 = 0 then unTold (unPairs s (s.size / 2) 0 []) else ([], false)).1.length ≤ 1048576 := by
      split
      · cases hu : unPairs s (s.size / 2) 0 [] with
        | none => simp [unTold]
        | some l =>
          have := unPairs_length _ _ _ _ _ hu
          simp [unTold, this]; omega
      · simp
    generalize (if s.size % 2 = 0 then unTold (unPairs s (s.size / 2) 0 []) else ([], false)) = R at h1 h2 hlen
    refine evBind h1 ?_
    refine evBind h2 ?_
    refine evBind (eqByteS_refl R.1 (by omega)) ?_
    simp only [if_true]
    refine evUp ?_
    simp only [laws_FnExactUnHex.j0, bne_self_eq_false, Bool.false_eq_true, if_false]
    refine evBind (markByteS_ev R.1 1 (by omega) (by omega) (by omega)) ?_
    refine evBind (heldByteS_ev R.1.length 1 (by omega) (by omega) (by omega)) ?_
    have n2 : ¬ (1 + (R.1.length : Int) < 0) := by omega
    simp only [n2, if_false, if_true]
    refine evBind h2 ?_
    refine evBind (eqByteS_refl R.1 (by omega)) ?_
    simp only [if_true]
    refine evUp ?_
    simp only [laws_FnExactUnHex.j1, bne_self_eq_false, Bool.false_eq_true, if_false]
    refine evBind (heldByteS_ev R.1.length 1 (by omega) (by omega) (by omega)) ?_
    simp only [n2, if_false, if_true]
    exact Ev.now _

end Go.Proofs.Ytioajlgddbnlgaa.Pure
