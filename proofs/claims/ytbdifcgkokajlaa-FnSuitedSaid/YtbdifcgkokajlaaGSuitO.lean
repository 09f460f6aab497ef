/- Suits and FaultOf, told by what they compute. Condition: no row is longer than a machine's memory. -/
import Derived.Test.YtbdifcgkokajlaaGSrvO
import Derived.Test.YtbdifcgkokajlaaGSpecA
import Derived.Test.YtbdifcgkokajlaaGSuitA
import Derived.Test.YtbdifcgkokajlaaGSuitB
namespace Go.Proofs.Ytbdifcgkokajlaa.G
open Go.Proofs.Ytbdifcgkokajlaa.K Go Go.RowKit Go.Proofs.YtbdifcgkokajlaaW.PrintWords Go.Proofs.YtbdifcgkokajlaaW.PrintLast Go.Proofs.YtbdifcgkokajlaaW.PrintMore Go.Proofs.Ytbdifcgkokajlaa.PlainC
set_option linter.unusedVariables false
set_option linter.unusedSimpArgs false
theorem spec_in_eq (a b c : Int) : spec_l1In.f a b c = some (decide (b ≤ a ∧ a ≤ c)) := by
  by_cases h0 : a ≥ b
  · have h1 : b ≤ a := h0
    simp only [spec_l1In.f, h0, h1, if_true, true_and]
  · have h1 : ¬ b ≤ a := h0
    simp only [spec_l1In.f, h0, h1, if_false, false_and, decide_false]
theorem l3Words_l0 (l : List Int) (hl : l.length ≤ 1048576) (d : Nat) : ∀ i : Nat, i ≤ l.length → l.length - i = d →
    Ev (fun k => spec_l3Words.l0 k l (i : Int)) ((l.drop i).all wordB) := by
  induction d with
  | zero =>
    intro i hi hd
    obtain rfl : i = l.length := by omega
    refine evUp ?_
    have h1 : ¬ ((l.length : Nat) : Int) < (l.length : Int) := by omega
    simp only [spec_l3Words.l0, h1, if_false]
    rw [List.drop_length]
    exact Ev.now _
  | succ d ih =>
    intro i hi hd
    have hlt : i < l.length := by omega
    refine evUp ?_
    have h1 : (i : Int) < (l.length : Int) := by omega
    have h2 : 0 ≤ (i : Int) := by omega
    have hi2 : spec_l1In.f l[i] 0 65535 = some (wordB l[i]) := by
      unfold wordB
      by_cases g : l[i] ≥ 0
      · have g2 : 0 ≤ l[i] := g
        simp only [spec_l1In.f, g, g2, if_true, decide_true, Bool.true_and]
      · have g2 : ¬ 0 ≤ l[i] := g
        simp only [spec_l1In.f, g, g2, if_false, decide_false, Bool.false_and]
    have e : (l.drop i).all wordB = (wordB l[i] && (l.drop (i + 1)).all wordB) := by
      rw [List.drop_eq_getElem_cons hlt, List.all_cons]
    simp only [spec_l3Words.l0, h1, h2, if_true, rd_get hlt, hi2, Option.bind_some, e]
    rw [w64 (x := (i : Int) + 1) (by omega) (by omega)]
    by_cases hw : wordB l[i] = true
    · simp only [hw, if_true, Bool.true_and]
      exact ih (i + 1) (by omega) (by omega)
    · have hw2 : wordB l[i] = false := by simpa using hw
      simp only [hw2, Bool.false_eq_true, if_false, Bool.false_and]
      exact Ev.now _
theorem l3Words_ev (l : List Int) (hl : l.length ≤ 1048576) : Ev (fun k => spec_l3Words.f k l) (l.all wordB) := by
  have h := l3Words_l0 l hl l.length 0 (by omega) (by omega)
  rw [List.drop_zero] at h
  exact h
theorem spec_l3Zero_eq (k a n : Int) (w : List Int) (t : List Bool) (e : Int) (b1 b2 b3 b4 : Bool) : spec_l3Zero.f k a n w t e b1 b2 b3 b4 = some ((b1 || decide (n = 0)) && ((b2 || decide (w.length = 0)) && ((b3 || decide (t.length = 0)) && (b4 || decide (e = 0))))) := by
  have q : ∀ m : Nat, ((m : Int) = 0) = (m = 0) := fun m => propext ⟨fun h => by omega, fun h => by omega⟩
  simp only [spec_l3Zero.f, q]
  by_cases h1 : n = 0 <;> by_cases h2 : w.length = 0 <;> by_cases h3 : t.length = 0 <;> by_cases h4 : e = 0 <;> cases b1 <;> cases b2 <;> cases b3 <;> cases b4 <;> simp [h1, h2, h3, h4]
theorem spec_l3Fits_eq (a n : Int) (hn : 0 ≤ n) (hn2 : n ≤ 1048576) : spec_l3Fits.f a n = some (decide (0 ≤ a ∧ a ≤ 65535) && decide (a + n ≤ 65536)) := by
  simp only [spec_l3Fits.f, spec_in_eq, Option.bind_some]
  by_cases h : 0 ≤ a ∧ a ≤ 65535
  · have e : wrap64 (a + n) = a + n := w64 (by omega) (by omega)
    simp [h, e]
  · simp [h]
/-- What is asked where a number is known to lie between bounds. -/
theorem fits_in (a n m : Int) (hm : m ≤ 1048576) : ((some (decide (1 ≤ n ∧ n ≤ m))).bind fun b => if b = true then (spec_l3Fits.f a n).bind fun c => some c else some false) = some (decide (1 ≤ n ∧ n ≤ m) && (decide (0 ≤ a ∧ a ≤ 65535) && decide (a + n ≤ 65536))) := by
  simp only [Option.bind_some]
  by_cases h : 1 ≤ n ∧ n ≤ m
  · rw [spec_l3Fits_eq a n (by omega) (by omega)]
    simp [h]
  · simp [h]
theorem reqOkS_j0_no (k a n : Int) (w : List Int) (t : List Bool) (e : Int) : Ev (fun r => spec_ReqOk.j0 r true k a n w t e) false := by
  refine evUp ?_
  simp only [spec_ReqOk.j0, if_true]
  exact Ev.now _
theorem reqOkS_j2 (k a n : Int) (w : List Int) (t : List Bool) (e : Int) (hw : w.length ≤ 1048576) (ht : t.length ≤ 1048576) (h12 : ¬ (k = 1 ∨ k = 2)) (ha : wordB a = true) (hW : w.all wordB = true) (b : Bool) (hb : b = decide (k = 3 ∨ k = 4)) :
    Ev (fun r => spec_ReqOk.j2 r k b k a n w t e) (reqB k a n w t e) := by
  have ha2 := ha
  rw [wordB_eq, decide_eq_true_iff] at ha2
  have q1 : ∀ m : Nat, (((m : Nat) : Int) == 1) = decide (m = 1) := fun m => by rw [Bool.eq_iff_iff]; simp; omega
  have q2 : ∀ m : Nat, (((m : Nat) : Int) == 2) = decide (m = 2) := fun m => by rw [Bool.eq_iff_iff]; simp; omega
  refine evUp ?_
  by_cases h34 : k = 3 ∨ k = 4
  · have hb2 : b = true := by rw [hb]; exact decide_eq_true h34
    have er : reqB k a n w t e = decide ((1 ≤ n ∧ n ≤ 125) ∧ w.length = 0 ∧ t.length = 0 ∧ e = 0 ∧ a + n ≤ 65536) := by
      unfold reqB; rw [hW, ha, if_neg h12, if_pos h34]; rfl
    simp only [spec_ReqOk.j2, hb2, if_true, spec_l3Zero_eq, spec_in_eq, Option.bind_some, er]
    by_cases h : 1 ≤ n ∧ n ≤ 125
    · rw [spec_l3Fits_eq a n (by omega) (by omega)]
      simp only [h, and_self, decide_true, if_true, Option.bind_some, ha2, Bool.true_and, iteS, true_and]
      refine Ev.congr (fun _ => ?_) (Ev.now _)
      congr 1
      rw [Bool.eq_iff_iff]; simp [-List.length_eq_zero_iff]; omega
    · have hf : decide (1 ≤ n ∧ n ≤ 125) = false := decide_eq_false h
      simp only [hf, Bool.false_eq_true, if_false, ite_self]
      refine Ev.congr (fun _ => ?_) (Ev.now _)
      congr 1
      rw [Bool.eq_iff_iff]; simp [-List.length_eq_zero_iff]; omega
  · have hb2 : b = false := by rw [hb]; exact decide_eq_false h34
    have er : reqB k a n w t e = if k = 5 then decide (n = 0 ∧ w.length = 0 ∧ t.length = 1 ∧ e = 0)
      else if k = 6 then decide (n = 0 ∧ w.length = 1 ∧ t.length = 0 ∧ e = 0)
      else if k = 15 then decide (n = 0 ∧ w.length = 0 ∧ (1 ≤ t.length ∧ t.length ≤ 1968) ∧ e = 0 ∧ a + t.length ≤ 65536)
      else if k = 16 then decide (n = 0 ∧ (1 ≤ w.length ∧ w.length ≤ 123) ∧ t.length = 0 ∧ e = 0 ∧ a + w.length ≤ 65536)
      else if k = 22 then decide (n = 0 ∧ w.length = 2 ∧ t.length = 0 ∧ e = 0)
      else if k = 23 then decide ((1 ≤ n ∧ n ≤ 125) ∧ (1 ≤ w.length ∧ w.length ≤ 121) ∧ t.length = 0 ∧ (0 ≤ e ∧ e ≤ 65535) ∧ a + n ≤ 65536 ∧ e + w.length ≤ 65536)
      else false := by
      unfold reqB; rw [hW, ha, if_neg h12, if_neg h34]; rfl
    have hwl : 0 ≤ (w.length : Int) := by omega
    have htl : 0 ≤ (t.length : Int) := by omega
    simp only [spec_ReqOk.j2, hb2, Bool.false_eq_true, if_false, spec_l3Zero_eq, spec_in_eq, Option.bind_some, er, spec_l3Fits_eq a (w.length : Int) hwl (by omega), spec_l3Fits_eq a (t.length : Int) htl (by omega), spec_l3Fits_eq e (w.length : Int) hwl (by omega), q1, q2, iteS]
    by_cases h5 : k = 5
    · simp only [h5, if_true]
      refine Ev.congr (fun _ => ?_) (Ev.now _)
      congr 1
      rw [Bool.eq_iff_iff]; simp [-List.length_eq_zero_iff]; omega
    by_cases h6 : k = 6
    · simp only [h6, Int.reduceEq, if_true, if_false]
      refine Ev.congr (fun _ => ?_) (Ev.now _)
      congr 1
      rw [Bool.eq_iff_iff]; simp [-List.length_eq_zero_iff]; omega
    by_cases h15 : k = 15
    · simp only [h15, Int.reduceEq, if_true, if_false]
      refine Ev.congr (fun _ => ?_) (Ev.now _)
      congr 1
      rw [Bool.eq_iff_iff]; simp [ha2, -List.length_eq_zero_iff]; omega
    by_cases h16 : k = 16
    · simp only [h16, Int.reduceEq, if_true, if_false]
      refine Ev.congr (fun _ => ?_) (Ev.now _)
      congr 1
      rw [Bool.eq_iff_iff]; simp [ha2, -List.length_eq_zero_iff]; omega
    by_cases h22 : k = 22
    · simp only [h22, Int.reduceEq, if_true, if_false]
      refine Ev.congr (fun _ => ?_) (Ev.now _)
      congr 1
      rw [Bool.eq_iff_iff]; simp [-List.length_eq_zero_iff]; omega
    by_cases h23 : k = 23
    · simp only [h23, Int.reduceEq, if_true, if_false]
      by_cases h : 1 ≤ n ∧ n ≤ 125
      · rw [spec_l3Fits_eq a n (by omega) (by omega)]
        simp only [Option.bind_some, iteS]
        refine Ev.congr (fun _ => ?_) (Ev.now _)
        congr 1
        rw [Bool.eq_iff_iff]; simp [ha2, h, -List.length_eq_zero_iff]; omega
      · have hf : decide (1 ≤ n ∧ n ≤ 125) = false := decide_eq_false h
        simp only [hf, Bool.false_eq_true, if_false, ite_self]
        refine Ev.congr (fun _ => ?_) (Ev.now _)
        congr 1
        rw [Bool.eq_iff_iff]; simp [-List.length_eq_zero_iff]; omega
    · simp only [h5, h6, h15, h16, h22, h23, if_false]; exact Ev.now _
theorem reqOkS_j1 (k a n : Int) (w : List Int) (t : List Bool) (e : Int) (hw : w.length ≤ 1048576) (ht : t.length ≤ 1048576) (ha : wordB a = true) (hW : w.all wordB = true) (b : Bool) (hb : b = decide (k = 1 ∨ k = 2)) :
    Ev (fun r => spec_ReqOk.j1 r k b k a n w t e) (reqB k a n w t e) := by
  have ha2 := ha
  rw [wordB_eq, decide_eq_true_iff] at ha2
  refine evUp ?_
  by_cases h12 : k = 1 ∨ k = 2
  · have hb2 : b = true := by rw [hb]; exact decide_eq_true h12
    have er : reqB k a n w t e = decide ((1 ≤ n ∧ n ≤ 2000) ∧ w.length = 0 ∧ t.length = 0 ∧ e = 0 ∧ a + n ≤ 65536) := by
      unfold reqB; rw [hW, ha, if_pos h12]; rfl
    simp only [spec_ReqOk.j1, hb2, if_true, spec_l3Zero_eq, spec_in_eq, Option.bind_some, er]
    by_cases h : 1 ≤ n ∧ n ≤ 2000
    · rw [spec_l3Fits_eq a n (by omega) (by omega)]
      simp only [h, and_self, decide_true, if_true, Option.bind_some, ha2, Bool.true_and, iteS, true_and]
      refine Ev.congr (fun _ => ?_) (Ev.now _)
      congr 1
      rw [Bool.eq_iff_iff]; simp [-List.length_eq_zero_iff]; omega
    · have hf : decide (1 ≤ n ∧ n ≤ 2000) = false := decide_eq_false h
      simp only [hf, Bool.false_eq_true, if_false, ite_self]
      refine Ev.congr (fun _ => ?_) (Ev.now _)
      congr 1
      rw [Bool.eq_iff_iff]; simp [-List.length_eq_zero_iff]; omega
  · have hb2 : b = false := by rw [hb]; exact decide_eq_false h12
    simp only [spec_ReqOk.j1, hb2, Bool.false_eq_true, if_false]
    by_cases h3 : k = 3
    · subst h3
      simp only [if_true]
      exact reqOkS_j2 3 a n w t e hw ht h12 ha hW _ (by decide)
    · simp only [h3, if_false]
      exact reqOkS_j2 k a n w t e hw ht h12 ha hW _ (by simp [h3, BEq.beq])
theorem spec_ReqOk_ev (k a n : Int) (w : List Int) (t : List Bool) (e : Int) (hw : w.length ≤ 1048576) (ht : t.length ≤ 1048576) : Ev (fun r => spec_ReqOk.f r k a n w t e) (reqB k a n w t e) := by
  simp only [spec_ReqOk.f]
  refine evBind (l3Words_ev w hw) ?_
  by_cases hW : w.all wordB = true
  · simp only [hW, if_true, spec_in_eq, Option.bind_some]
    by_cases ha : wordB a = true
    · have ha2 := ha
      rw [wordB_eq] at ha2
      rw [ha2, Bool.not_true]
      refine evUp ?_
      simp only [spec_ReqOk.j0, Bool.false_eq_true, if_false]
      by_cases h1 : k = 1
      · subst h1
        simp only [if_true]
        exact reqOkS_j1 1 a n w t e hw ht ha hW _ (by decide)
      · simp only [h1, if_false]
        exact reqOkS_j1 k a n w t e hw ht ha hW _ (by simp [h1, BEq.beq])
    · have ha1 : wordB a = false := by simpa using ha
      have er : reqB k a n w t e = false := by unfold reqB; rw [ha1, Bool.and_false, Bool.false_and]
      rw [wordB_eq] at ha1
      rw [er, ha1, Bool.not_false]
      exact reqOkS_j0_no k a n w t e
  · have hW2 : w.all wordB = false := by simpa using hW
    have er : reqB k a n w t e = false := by unfold reqB; rw [hW2, Bool.false_and, Bool.false_and]
    simp only [hW2, Bool.false_eq_true, if_false, er]
    exact reqOkS_j0_no k a n w t e
/-- Is an answer right? -/
def respB (k f a n : Int) (w : List Int) (t : List Bool) : Bool :=
  kindB k && (decide (0 ≤ f ∧ f ≤ 255) && (w.all wordB && (decide (0 ≤ a ∧ a ≤ 65535) &&
  (if f > 0 then decide (a = 0 ∧ n = 0 ∧ w.length = 0 ∧ t.length = 0)
  else if k = 1 ∨ k = 2 then decide (a = 0 ∧ n = 0 ∧ w.length = 0 ∧ (1 ≤ t.length ∧ t.length ≤ 2000) ∧ t.length % 8 = 0)
  else if k = 3 ∨ k = 4 ∨ k = 23 then decide (a = 0 ∧ n = 0 ∧ (1 ≤ w.length ∧ w.length ≤ 125) ∧ t.length = 0)
  else if k = 5 then decide (n = 0 ∧ w.length = 0 ∧ t.length = 1)
  else if k = 6 then decide (n = 0 ∧ w.length = 1 ∧ t.length = 0)
  else if k = 22 then decide (n = 0 ∧ w.length = 2 ∧ t.length = 0)
  else if k = 15 then decide ((1 ≤ n ∧ n ≤ 1968) ∧ w.length = 0 ∧ t.length = 0)
  else decide ((1 ≤ n ∧ n ≤ 123) ∧ w.length = 0 ∧ t.length = 0)))))

/-- What shape an answer has. -/
def shapeOf (k : Int) : Int × Int × Int × Int × Int × Bool :=
  if k = 1 ∨ k = 2 then (0, 0, 1, 2000, 0, false) else if k = 3 ∨ k = 4 ∨ k = 23 then (1, 125, 0, 0, 0, false) else if k = 5 then (0, 0, 1, 1, 0, true)
  else if k = 6 then (1, 1, 0, 0, 0, true) else if k = 15 then (0, 0, 0, 0, 1968, true) else if k = 16 then (0, 0, 0, 0, 123, true) else (2, 2, 0, 0, 0, true)

theorem shape_j1 (k : Int) (h1 : ¬ (k = 1 ∨ k = 2)) (b : Bool) (hb : b = decide (k = 3 ∨ k = 4 ∨ k = 23)) : Ev (fun r => impl_shape.j1 r k b) (shapeOf k) := by
  refine evUp ?_
  by_cases h34 : k = 3 ∨ k = 4 ∨ k = 23
  · have hb2 : b = true := by rw [hb]; exact decide_eq_true h34
    have e : shapeOf k = (1, 125, 0, 0, 0, false) := by unfold shapeOf; rw [if_neg h1, if_pos h34]
    simp only [impl_shape.j1, hb2, if_true, e]
    exact Ev.now _
  · have hb2 : b = false := by rw [hb]; exact decide_eq_false h34
    have e : shapeOf k = if k = 5 then (0, 0, 1, 1, 0, true) else if k = 6 then (1, 1, 0, 0, 0, true) else if k = 15 then (0, 0, 0, 0, 1968, true) else if k = 16 then (0, 0, 0, 0, 123, true) else (2, 2, 0, 0, 0, true) := by
      unfold shapeOf; rw [if_neg h1, if_neg h34]
    simp only [impl_shape.j1, hb2, Bool.false_eq_true, if_false, e]
    by_cases h5 : k = 5
    · simp only [h5, if_true]; exact Ev.now _
    by_cases h6 : k = 6
    · simp only [h6, Int.reduceEq, if_true, if_false]; exact Ev.now _
    by_cases h15 : k = 15
    · simp only [h15, Int.reduceEq, if_true, if_false]; exact Ev.now _
    by_cases h16 : k = 16
    · simp only [h16, Int.reduceEq, if_true, if_false]; exact Ev.now _
    simp only [h5, h6, h15, h16, if_false]; exact Ev.now _
theorem shape_j0 (k : Int) (b : Bool) (hb : b = decide (k = 1 ∨ k = 2)) : Ev (fun r => impl_shape.j0 r k b) (shapeOf k) := by
  refine evUp ?_
  by_cases h12 : k = 1 ∨ k = 2
  · have hb2 : b = true := by rw [hb]; exact decide_eq_true h12
    have e : shapeOf k = (0, 0, 1, 2000, 0, false) := by unfold shapeOf; rw [if_pos h12]
    simp only [impl_shape.j0, hb2, if_true, e]
    exact Ev.now _
  · have hb2 : b = false := by rw [hb]; exact decide_eq_false h12
    simp only [impl_shape.j0, hb2, Bool.false_eq_true, if_false]
    by_cases h3 : k = 3
    · simp only [h3, if_true]
      exact shape_j1 3 (by omega) _ (by decide)
    by_cases h4 : k = 4
    · simp only [h4, Int.reduceEq, if_true, if_false]
      exact shape_j1 4 (by omega) _ (by decide)
    simp only [h3, h4, if_false]
    exact shape_j1 k h12 _ (by simp [h3, h4, BEq.beq])
theorem impl_shape_ev (k : Int) : Ev (fun r => impl_shape.f r k) (shapeOf k) := by
  by_cases h1 : k = 1
  · simp only [impl_shape.f, h1, if_true]
    exact shape_j0 1 _ (by decide)
  · simp only [impl_shape.f, h1, if_false]
    exact shape_j0 k _ (by simp [h1, BEq.beq])
theorem impl_isFault_eq (k f a n : Int) (w : List Int) (t : List Bool) : impl_isFault.f k f a n w t = some (decide (1 ≤ f ∧ f ≤ 255) && decide (a = 0 ∧ n = 0 ∧ w.length = 0 ∧ t.length = 0)) := by
  have q : ∀ m : Nat, ((m : Int) = 0) = (m = 0) := fun m => propext ⟨fun h => by omega, fun h => by omega⟩
  simp only [impl_isFault.f, impl_in_eq, Option.bind_some, q]
  generalize w.length = W
  generalize t.length = T
  have qT : ((T : Int) == 0) = decide (T = 0) := by rw [Bool.eq_iff_iff]; simp
  rw [qT]
  generalize decide (1 ≤ f ∧ f ≤ 255) = D
  by_cases h2 : a = 0 <;> by_cases h3 : n = 0 <;> by_cases h4 : W = 0 <;> by_cases h5 : T = 0 <;> cases D <;> simp [h2, h3, h4, h5]
theorem respOk_j0 (N : Int) (A : Bool) (b : Bool) (k f a n : Int) (w : List Int) (t : List Bool) (lo hi : Int) :
    Ev (fun r => impl_RespOk.j0 r N A b k f a n w t lo hi) (!b && (decide (¬ hi > 1 ∨ t.length % 8 = 0) && (decide (N ≠ 0 ∨ n = 0) && ((!decide (N > 0) || decide (1 ≤ n ∧ n ≤ N)) && (A && wordB a || decide (a = 0)))))) := by
  have q : ∀ m : Nat, ((m : Int) % 8 = 0) = (m % 8 = 0) := fun m => propext ⟨fun h => by omega, fun h => by omega⟩
  refine evUp ?_
  simp only [impl_RespOk.j0, impl_in_eq, impl_isWord_eq, Option.bind_some, q]
  generalize wordB a = W
  generalize t.length % 8 = T
  have key : ∀ X : Option Bool, X = some (!b && (decide (¬ hi > 1 ∨ T = 0) && (decide (N ≠ 0 ∨ n = 0) && ((!decide (N > 0) || decide (1 ≤ n ∧ n ≤ N)) && (A && W || decide (a = 0)))))) → Ev (fun _ : Nat => X) (!b && (decide (¬ hi > 1 ∨ T = 0) && (decide (N ≠ 0 ∨ n = 0) && ((!decide (N > 0) || decide (1 ≤ n ∧ n ≤ N)) && (A && W || decide (a = 0)))))) := fun X h => by rw [h]; exact Ev.now _
  refine key _ ?_
  have qa : (a == 0) = decide (a = 0) := by rw [Bool.eq_iff_iff]; simp
  rw [qa]
  generalize decide (1 ≤ n ∧ n ≤ N) = D
  generalize decide (a = 0) = Z
  cases b with
  | true => rfl
  | false =>
    by_cases h1 : hi > 1 <;> by_cases h2 : T = 0 <;> by_cases h3 : N = 0 <;> by_cases h4 : n = 0 <;> by_cases h5 : N > 0 <;> cases D <;> cases A <;> cases W <;> cases Z <;> simp [h1, h2, h3, h4, h5]

theorem impl_RespOk_raw (k f a n : Int) (w : List Int) (t : List Bool) :
    Ev (fun r => impl_RespOk.f r k f a n w t) (kindB k && (if f = 0 then decide ((shapeOf k).1 ≤ (w.length : Int) ∧ (w.length : Int) ≤ (shapeOf k).2.1) && (decide ((shapeOf k).2.2.1 ≤ (t.length : Int) ∧ (t.length : Int) ≤ (shapeOf k).2.2.2.1) && (w.all wordB && (decide (¬ (shapeOf k).2.2.2.1 > 1 ∨ t.length % 8 = 0) && (decide ((shapeOf k).2.2.2.2.1 ≠ 0 ∨ n = 0) && ((!decide ((shapeOf k).2.2.2.2.1 > 0) || decide (1 ≤ n ∧ n ≤ (shapeOf k).2.2.2.2.1)) && ((shapeOf k).2.2.2.2.2 && wordB a || decide (a = 0))))))) else decide (1 ≤ f ∧ f ≤ 255) && decide (a = 0 ∧ n = 0 ∧ w.length = 0 ∧ t.length = 0))) := by
  have hc := impl_shape_ev k
  generalize shapeOf k = T at hc
  have no : Ev (fun r => impl_RespOk.j0 r T.2.2.2.2.1 T.2.2.2.2.2 true k f a n w t T.2.2.1 T.2.2.2.1) false := by
    have h := respOk_j0 T.2.2.2.2.1 T.2.2.2.2.2 true k f a n w t T.2.2.1 T.2.2.2.1
    simpa using h
  simp only [impl_RespOk.f, impl_isKind_eq, Option.bind_some]
  by_cases h1 : kindB k = true
  · simp only [h1, if_true, Bool.true_and]
    by_cases hf : f = 0
    · simp only [hf, if_true]
      rw [hf] at no
      refine evBind hc ?_
      simp only [impl_in_eq, Option.bind_some]
      by_cases h2 : decide (T.1 ≤ (w.length : Int) ∧ (w.length : Int) ≤ T.2.1) = true
      · simp only [h2, if_true, Bool.true_and]
        by_cases h3 : decide (T.2.2.1 ≤ (t.length : Int) ∧ (t.length : Int) ≤ T.2.2.2.1) = true
        · simp only [h3, if_true, Bool.true_and, impl_allWords.f, Option.bind_some]
          have h := respOk_j0 T.2.2.2.2.1 T.2.2.2.2.2 (!w.all wordB) k 0 a n w t T.2.2.1 T.2.2.2.1
          rw [Bool.not_not] at h
          exact h
        · have h3' : decide (T.2.2.1 ≤ (t.length : Int) ∧ (t.length : Int) ≤ T.2.2.2.1) = false := by simpa using h3
          simp only [h3', Bool.false_eq_true, if_false, Bool.false_and]; exact no
      · have h2' : decide (T.1 ≤ (w.length : Int) ∧ (w.length : Int) ≤ T.2.1) = false := by simpa using h2
        simp only [h2', Bool.false_eq_true, if_false, Bool.false_and]; exact no
    · simp only [hf, if_false, impl_isFault_eq, Option.bind_some]; exact Ev.now _
  · have h1' : kindB k = false := by simpa using h1
    simp only [h1', Bool.false_eq_true, if_false, Bool.false_and]; exact Ev.now _

theorem impl_RespOk_ev (k f a n : Int) (w : List Int) (t : List Bool) : Ev (fun r => impl_RespOk.f r k f a n w t) (respB k f a n w t) := by
  have h := impl_RespOk_raw k f a n w t
  by_cases hk : kindB k = true
  · have e2 : respB k f a n w t = (kindB k && (if f = 0 then decide ((shapeOf k).1 ≤ (w.length : Int) ∧ (w.length : Int) ≤ (shapeOf k).2.1) && (decide ((shapeOf k).2.2.1 ≤ (t.length : Int) ∧ (t.length : Int) ≤ (shapeOf k).2.2.2.1) && (w.all wordB && (decide (¬ (shapeOf k).2.2.2.1 > 1 ∨ t.length % 8 = 0) && (decide ((shapeOf k).2.2.2.2.1 ≠ 0 ∨ n = 0) && ((!decide ((shapeOf k).2.2.2.2.1 > 0) || decide (1 ≤ n ∧ n ≤ (shapeOf k).2.2.2.2.1)) && ((shapeOf k).2.2.2.2.2 && wordB a || decide (a = 0))))))) else decide (1 ≤ f ∧ f ≤ 255) && decide (a = 0 ∧ n = 0 ∧ w.length = 0 ∧ t.length = 0))) := by
      have hW0 : w.length = 0 → w.all wordB = true := fun h => by rw [List.length_eq_zero_iff.1 h]; rfl
      simp only [respB, wordB_eq]
      by_cases hf : f = 0
      · simp only [hf, if_true]
        generalize w.all wordB = W
        rw [Bool.eq_iff_iff]
        rcases kind_cases hk with rfl | rfl | rfl | rfl | rfl | rfl | rfl | rfl | rfl | rfl <;> cases W <;> simp [kindB, shapeOf, -List.length_eq_zero_iff] <;> omega
      · simp only [hf, if_false, hk, Bool.true_and]
        by_cases hp : f > 0
        · rw [if_pos hp]
          by_cases hw0 : w.length = 0
          · rw [hW0 hw0, Bool.true_and, Bool.eq_iff_iff]
            simp [-List.length_eq_zero_iff]; omega
          · rw [Bool.eq_iff_iff]; simp [hw0, -List.length_eq_zero_iff]
        · have h1 : decide (0 ≤ f ∧ f ≤ 255) = false := decide_eq_false (by omega)
          have h2 : decide (1 ≤ f ∧ f ≤ 255) = false := decide_eq_false (by omega)
          rw [h1, h2, Bool.false_and, Bool.false_and]
    rw [e2]; exact h
  · have hk2 : kindB k = false := by simpa using hk
    have e2 : respB k f a n w t = false := by unfold respB; rw [hk2, Bool.false_and]
    rw [e2]
    rw [hk2] at h
    simpa using h

theorem spec_l4Zero_eq (k f a n : Int) (w : List Int) (t : List Bool) (b1 b2 b3 b4 : Bool) : spec_l4Zero.f k f a n w t b1 b2 b3 b4 = some ((b1 || decide (a = 0)) && ((b2 || decide (n = 0)) && ((b3 || decide (w.length = 0)) && (b4 || decide (t.length = 0))))) := by
  have q : ∀ m : Nat, ((m : Int) = 0) = (m = 0) := fun m => propext ⟨fun h => by omega, fun h => by omega⟩
  simp only [spec_l4Zero.f, q]
  by_cases h1 : a = 0 <;> by_cases h2 : n = 0 <;> by_cases h3 : w.length = 0 <;> by_cases h4 : t.length = 0 <;> cases b1 <;> cases b2 <;> cases b3 <;> cases b4 <;> simp [h1, h2, h3, h4]
theorem spec_l3Kind_eq (k : Int) : spec_l3Kind.f k = some (kindB k) := by
  simp only [spec_l3Kind.f, spec_in_eq, Option.bind_some, kindB]
  by_cases h : decide (1 ≤ k ∧ k ≤ 6) = true
  · rw [if_pos h, h]; rfl
  · have h2 : decide (1 ≤ k ∧ k ≤ 6) = false := by simpa using h
    rw [if_neg h, h2, Bool.false_or]
    by_cases h15 : k = 15
    · subst h15; rfl
    by_cases h16 : k = 16
    · subst h16; rfl
    by_cases h22 : k = 22
    · subst h22; rfl
    have g15 : (k == 15) = false := beq_eq_false_iff_ne.2 h15
    have g16 : (k == 16) = false := beq_eq_false_iff_ne.2 h16
    have g22 : (k == 22) = false := beq_eq_false_iff_ne.2 h22
    simp only [h15, h16, h22, if_false, g15, g16, g22, Bool.false_or]
/-- What is asked of an answer of no fault. -/
def respIn (k a n : Int) (w : List Int) (t : List Bool) : Bool :=
  if k = 1 ∨ k = 2 then decide (a = 0 ∧ n = 0 ∧ w.length = 0 ∧ (1 ≤ t.length ∧ t.length ≤ 2000) ∧ t.length % 8 = 0)
  else if k = 3 ∨ k = 4 ∨ k = 23 then decide (a = 0 ∧ n = 0 ∧ (1 ≤ w.length ∧ w.length ≤ 125) ∧ t.length = 0)
  else if k = 5 then decide (n = 0 ∧ w.length = 0 ∧ t.length = 1)
  else if k = 6 then decide (n = 0 ∧ w.length = 1 ∧ t.length = 0)
  else if k = 22 then decide (n = 0 ∧ w.length = 2 ∧ t.length = 0)
  else if k = 15 then decide ((1 ≤ n ∧ n ≤ 1968) ∧ w.length = 0 ∧ t.length = 0)
  else decide ((1 ≤ n ∧ n ≤ 123) ∧ w.length = 0 ∧ t.length = 0)
theorem respOkS_j2 (k f a n : Int) (w : List Int) (t : List Bool) (h12 : ¬ (k = 1 ∨ k = 2)) (b : Bool) (hb : b = decide (k = 3 ∨ k = 4 ∨ k = 23)) :
    Ev (fun r => spec_RespOk.j2 r k b k f a n w t) (respIn k a n w t) := by
  have q1 : ∀ m : Nat, (((m : Nat) : Int) == 1) = decide (m = 1) := fun m => by rw [Bool.eq_iff_iff]; simp; omega
  have q2 : ∀ m : Nat, (((m : Nat) : Int) == 2) = decide (m = 2) := fun m => by rw [Bool.eq_iff_iff]; simp; omega
  refine evUp ?_
  by_cases h34 : k = 3 ∨ k = 4 ∨ k = 23
  · have hb2 : b = true := by rw [hb]; exact decide_eq_true h34
    have er : respIn k a n w t = decide (a = 0 ∧ n = 0 ∧ (1 ≤ w.length ∧ w.length ≤ 125) ∧ t.length = 0) := by
      unfold respIn; rw [if_neg h12, if_pos h34]
    simp only [spec_RespOk.j2, hb2, if_true, spec_l4Zero_eq, spec_in_eq, Option.bind_some, er, iteS]
    refine Ev.congr (fun _ => ?_) (Ev.now _)
    congr 1
    rw [Bool.eq_iff_iff]; simp [-List.length_eq_zero_iff]; omega
  · have hb2 : b = false := by rw [hb]; exact decide_eq_false h34
    have er : respIn k a n w t = if k = 5 then decide (n = 0 ∧ w.length = 0 ∧ t.length = 1)
      else if k = 6 then decide (n = 0 ∧ w.length = 1 ∧ t.length = 0)
      else if k = 22 then decide (n = 0 ∧ w.length = 2 ∧ t.length = 0)
      else if k = 15 then decide ((1 ≤ n ∧ n ≤ 1968) ∧ w.length = 0 ∧ t.length = 0)
      else decide ((1 ≤ n ∧ n ≤ 123) ∧ w.length = 0 ∧ t.length = 0) := by
      unfold respIn; rw [if_neg h12, if_neg h34]
    simp only [spec_RespOk.j2, hb2, Bool.false_eq_true, if_false, spec_l4Zero_eq, spec_in_eq, Option.bind_some, er, q1, q2, iteS]
    by_cases h5 : k = 5
    · simp only [h5, if_true]
      refine Ev.congr (fun _ => ?_) (Ev.now _)
      congr 1
      rw [Bool.eq_iff_iff]; simp [-List.length_eq_zero_iff]; omega
    by_cases h6 : k = 6
    · simp only [h6, Int.reduceEq, if_true, if_false]
      refine Ev.congr (fun _ => ?_) (Ev.now _)
      congr 1
      rw [Bool.eq_iff_iff]; simp [-List.length_eq_zero_iff]; omega
    by_cases h22 : k = 22
    · simp only [h22, Int.reduceEq, if_true, if_false]
      refine Ev.congr (fun _ => ?_) (Ev.now _)
      congr 1
      rw [Bool.eq_iff_iff]; simp [-List.length_eq_zero_iff]; omega
    by_cases h15 : k = 15
    · simp only [h15, Int.reduceEq, if_true, if_false]
      refine Ev.congr (fun _ => ?_) (Ev.now _)
      congr 1
      rw [Bool.eq_iff_iff]; simp [-List.length_eq_zero_iff]; omega
    simp only [h5, h6, h22, h15, if_false]
    refine Ev.congr (fun _ => ?_) (Ev.now _)
    congr 1
    rw [Bool.eq_iff_iff]; simp [-List.length_eq_zero_iff]; omega
theorem respOkS_j1 (k f a n : Int) (w : List Int) (t : List Bool) (b : Bool) (hb : b = decide (k = 1 ∨ k = 2)) :
    Ev (fun r => spec_RespOk.j1 r k b k f a n w t) (respIn k a n w t) := by
  have q : ∀ m : Nat, (((m : Int) % 8) == 0) = decide (m % 8 = 0) := fun m => by rw [Bool.eq_iff_iff]; simp; omega
  refine evUp ?_
  by_cases h12 : k = 1 ∨ k = 2
  · have hb2 : b = true := by rw [hb]; exact decide_eq_true h12
    have er : respIn k a n w t = decide (a = 0 ∧ n = 0 ∧ w.length = 0 ∧ (1 ≤ t.length ∧ t.length ≤ 2000) ∧ t.length % 8 = 0) := by
      unfold respIn; rw [if_pos h12]
    simp only [spec_RespOk.j1, hb2, if_true, spec_l4Zero_eq, spec_in_eq, Option.bind_some, er, q, iteS]
    refine Ev.congr (fun _ => ?_) (Ev.now _)
    congr 1
    rw [Bool.eq_iff_iff]; simp [-List.length_eq_zero_iff]; omega
  · have hb2 : b = false := by rw [hb]; exact decide_eq_false h12
    simp only [spec_RespOk.j1, hb2, Bool.false_eq_true, if_false]
    by_cases h3 : k = 3
    · subst h3
      simp only [if_true]
      exact respOkS_j2 3 f a n w t h12 _ (by decide)
    by_cases h4 : k = 4
    · subst h4
      simp only [Int.reduceEq, if_true, if_false]
      exact respOkS_j2 4 f a n w t h12 _ (by decide)
    simp only [h3, h4, if_false]
    exact respOkS_j2 k f a n w t h12 _ (by simp [h3, h4, BEq.beq])
theorem respOkS_j0_no (k f a n : Int) (w : List Int) (t : List Bool) : Ev (fun r => spec_RespOk.j0 r true k f a n w t) false := by
  refine evUp ?_
  simp only [spec_RespOk.j0, if_true]
  exact Ev.now _
theorem spec_RespOk_ev (k f a n : Int) (w : List Int) (t : List Bool) (hw : w.length ≤ 1048576) : Ev (fun r => spec_RespOk.f r k f a n w t) (respB k f a n w t) := by
  have no := respOkS_j0_no k f a n w t
  simp only [spec_RespOk.f, spec_l3Kind_eq, spec_in_eq, Option.bind_some]
  by_cases h1 : kindB k = true
  · simp only [h1, if_true]
    by_cases h2 : decide (0 ≤ f ∧ f ≤ 255) = true
    · simp only [h2, if_true]
      refine evBind (l3Words_ev w hw) ?_
      by_cases hW : w.all wordB = true
      · simp only [hW, if_true]
        by_cases ha : decide (0 ≤ a ∧ a ≤ 65535) = true
        · rw [ha, Bool.not_true]
          have er : respB k f a n w t = if f > 0 then decide (a = 0 ∧ n = 0 ∧ w.length = 0 ∧ t.length = 0) else respIn k a n w t := by
            unfold respB respIn; rw [h1, h2, hW, ha]; rfl
          refine evUp ?_
          simp only [spec_RespOk.j0, Bool.false_eq_true, if_false, spec_l4Zero_eq, Option.bind_some, Bool.false_or, er]
          by_cases hf : f > 0
          · simp only [hf, if_true]
            refine Ev.congr (fun _ => ?_) (Ev.now _)
            congr 1
            rw [Bool.eq_iff_iff]; simp [-List.length_eq_zero_iff]
          · simp only [hf, if_false]
            by_cases hk1 : k = 1
            · subst hk1
              simp only [if_true]
              exact respOkS_j1 1 f a n w t _ (by decide)
            · simp only [hk1, if_false]
              exact respOkS_j1 k f a n w t _ (by simp [hk1, BEq.beq])
        · have ha2 : decide (0 ≤ a ∧ a ≤ 65535) = false := by simpa using ha
          have er : respB k f a n w t = false := by unfold respB; rw [ha2, Bool.false_and, Bool.and_false, Bool.and_false, Bool.and_false]
          rw [ha2, er, Bool.not_false]; exact no
      · have hW2 : w.all wordB = false := by simpa using hW
        have er : respB k f a n w t = false := by unfold respB; rw [hW2, Bool.false_and, Bool.and_false, Bool.and_false]
        simp only [hW2, Bool.false_eq_true, if_false, er]; exact no
    · have h2' : decide (0 ≤ f ∧ f ≤ 255) = false := by simpa using h2
      have er : respB k f a n w t = false := by unfold respB; rw [h2', Bool.false_and, Bool.and_false]
      simp only [h2', Bool.false_eq_true, if_false, er]; exact no
  · have h1' : kindB k = false := by simpa using h1
    have er : respB k f a n w t = false := by unfold respB; rw [h1', Bool.false_and]
    simp only [h1', Bool.false_eq_true, if_false, er]; exact no
theorem l4SameWords_l0 (a b : List Int) (hl : a.length ≤ 140737488351232) (he : a.length = b.length) (d : Nat) : ∀ i : Nat, i ≤ a.length → a.length - i = d →
    Ev (fun k => spec_l4SameWords.l0 k a b (i : Int)) (decide (a.drop i = b.drop i)) := by
  induction d with
  | zero =>
    intro i hi hd
    obtain rfl : i = a.length := by omega
    refine evUp ?_
    have h1 : ¬ ((a.length : Nat) : Int) < (a.length : Int) := by omega
    simp only [spec_l4SameWords.l0, h1, if_false]
    have e : decide (a.drop a.length = b.drop a.length) = true := by
      rw [List.drop_length, he, List.drop_length]; rfl
    rw [e]
    exact Ev.now _
  | succ d ih =>
    intro i hi hd
    have ha : i < a.length := by omega
    have hb : i < b.length := by omega
    refine evUp ?_
    have h1 : (i : Int) < (a.length : Int) := by omega
    have h2 : 0 ≤ (i : Int) := by omega
    have h3 : (i : Int) < (b.length : Int) := by omega
    simp only [spec_l4SameWords.l0, h1, h2, h3, if_true]
    rw [rd_get ha, rd_get hb, w64 (by omega) (by omega)]
    by_cases e : a[i] = b[i]
    · simp only [e, if_true]
      have e2 : decide (a.drop i = b.drop i) = decide (a.drop (i + 1) = b.drop (i + 1)) := by
        rw [decide_eq_decide, drop_eq_iff ha hb]; simp [e]
      rw [e2]
      exact ih (i + 1) (by omega) (by omega)
    · simp only [e, if_false]
      have e2 : decide (a.drop i = b.drop i) = false := by
        rw [decide_eq_false_iff_not, drop_eq_iff ha hb]; simp [e]
      rw [e2]
      exact Ev.now _

theorem l4SameWords_ev (a b : List Int) (hl : a.length ≤ 140737488351232) : Ev (fun k => spec_l4SameWords.f k a b) (decide (a = b)) := by
  by_cases he : a.length = b.length
  · have h := l4SameWords_l0 a b hl he a.length 0 (by omega) (by omega)
    have h1 : (a.length : Int) = (b.length : Int) := by omega
    simp only [spec_l4SameWords.f, h1, if_true]
    exact h
  · have h1 : ¬ (a.length : Int) = (b.length : Int) := by omega
    have e : decide (a = b) = false := by
      rw [decide_eq_false_iff_not]; intro h; exact he (by rw [h])
    simp only [spec_l4SameWords.f, h1, if_false]
    rw [e]
    exact Ev.now _

theorem l4SameWords_refl (a : List Int) (hl : a.length ≤ 140737488351232) : Ev (fun k => spec_l4SameWords.f k a a) true := by
  have h := l4SameWords_ev a a hl
  rwa [decide_eq_true rfl] at h
theorem equalB_l0 (a b : List Bool) (hl : a.length ≤ 140737488355328) (he : a.length = b.length) (d : Nat) : ∀ i : Nat, i ≤ a.length → a.length - i = d →
    Ev (fun k => slices_Equal_bool_bool.l0 k a b (a.length : Int) (i : Int)) (decide (a.drop i = b.drop i)) := by
  induction d with
  | zero =>
    intro i hi hd
    obtain rfl : i = a.length := by omega
    refine evUp ?_
    have h1 : ¬ ((a.length : Nat) : Int) < (a.length : Int) := by omega
    simp only [slices_Equal_bool_bool.l0, h1, if_false]
    have e : decide (a.drop a.length = b.drop a.length) = true := by
      rw [List.drop_length, he, List.drop_length]; rfl
    rw [e]
    exact Ev.now _
  | succ d ih =>
    intro i hi hd
    have ha : i < a.length := by omega
    have hb : i < b.length := by omega
    refine evUp ?_
    have h1 : (i : Int) < (a.length : Int) := by omega
    have h2 : 0 ≤ (i : Int) := by omega
    have h3 : (i : Int) < (b.length : Int) := by omega
    simp only [slices_Equal_bool_bool.l0, h1, h2, h3, if_true]
    rw [rdOf_get ha, rdOf_get hb, w64 (by omega) (by omega)]
    by_cases e : a[i] = b[i]
    · simp only [e, bne_self_eq_false, Bool.false_eq_true, if_false]
      have e2 : decide (a.drop i = b.drop i) = decide (a.drop (i + 1) = b.drop (i + 1)) := by
        rw [decide_eq_decide, drop_eq_iff ha hb]; simp [e]
      rw [e2]
      exact ih (i + 1) (by omega) (by omega)
    · have e3 : (a[i] != b[i]) = true := by simpa using e
      simp only [e3, if_true]
      have e2 : decide (a.drop i = b.drop i) = false := by
        rw [decide_eq_false_iff_not, drop_eq_iff ha hb]; simp [e]
      rw [e2]
      exact Ev.now _

theorem equalB_ev (a b : List Bool) (hl : a.length ≤ 140737488355328) : Ev (fun k => slices_Equal_bool_bool.f k a b) (decide (a = b)) := by
  by_cases he : a.length = b.length
  · have h := equalB_l0 a b hl he a.length 0 (by omega) (by omega)
    have h1 : (a.length : Int) = (b.length : Int) := by omega
    simp only [slices_Equal_bool_bool.f, if_pos h1]
    exact h
  · have h1 : ¬ (a.length : Int) = (b.length : Int) := by omega
    have e : decide (a = b) = false := by
      rw [decide_eq_false_iff_not]; intro h; exact he (by rw [h])
    simp only [slices_Equal_bool_bool.f, h1, if_false]
    rw [e]
    exact Ev.now _

theorem equalB_refl (a : List Bool) (hl : a.length ≤ 140737488355328) : Ev (fun k => slices_Equal_bool_bool.f k a a) true := by
  have h := equalB_ev a a hl
  rwa [decide_eq_true rfl] at h
theorem equalI_l0 (a b : List Int) (hl : a.length ≤ 140737488351232) (he : a.length = b.length) (d : Nat) : ∀ i : Nat, i ≤ a.length → a.length - i = d →
    Ev (fun k => slices_Equal_int_int.l0 k a b (a.length : Int) (i : Int)) (decide (a.drop i = b.drop i)) := by
  induction d with
  | zero =>
    intro i hi hd
    obtain rfl : i = a.length := by omega
    refine evUp ?_
    have h1 : ¬ ((a.length : Nat) : Int) < (a.length : Int) := by omega
    simp only [slices_Equal_int_int.l0, h1, if_false]
    have e : decide (a.drop a.length = b.drop a.length) = true := by
      rw [List.drop_length, he, List.drop_length]; rfl
    rw [e]
    exact Ev.now _
  | succ d ih =>
    intro i hi hd
    have ha : i < a.length := by omega
    have hb : i < b.length := by omega
    refine evUp ?_
    have h1 : (i : Int) < (a.length : Int) := by omega
    have h2 : 0 ≤ (i : Int) := by omega
    have h3 : (i : Int) < (b.length : Int) := by omega
    simp only [slices_Equal_int_int.l0, h1, h2, h3, if_true]
    rw [rd_get ha, rd_get hb, w64 (by omega) (by omega)]
    by_cases e : a[i] = b[i]
    · simp only [e, if_true]
      have e2 : decide (a.drop i = b.drop i) = decide (a.drop (i + 1) = b.drop (i + 1)) := by
        rw [decide_eq_decide, drop_eq_iff ha hb]; simp [e]
      rw [e2]
      exact ih (i + 1) (by omega) (by omega)
    · simp only [e, if_false]
      have e2 : decide (a.drop i = b.drop i) = false := by
        rw [decide_eq_false_iff_not, drop_eq_iff ha hb]; simp [e]
      rw [e2]
      exact Ev.now _

theorem equalI_ev (a b : List Int) (hl : a.length ≤ 140737488351232) : Ev (fun k => slices_Equal_int_int.f k a b) (decide (a = b)) := by
  by_cases he : a.length = b.length
  · have h := equalI_l0 a b hl he a.length 0 (by omega) (by omega)
    have h1 : (a.length : Int) = (b.length : Int) := by omega
    simp only [slices_Equal_int_int.f, if_pos h1]
    exact h
  · have h1 : ¬ (a.length : Int) = (b.length : Int) := by omega
    have e : decide (a = b) = false := by
      rw [decide_eq_false_iff_not]; intro h; exact he (by rw [h])
    simp only [slices_Equal_int_int.f, h1, if_false]
    rw [e]
    exact Ev.now _

theorem equalI_refl (a : List Int) (hl : a.length ≤ 140737488351232) : Ev (fun k => slices_Equal_int_int.f k a a) true := by
  have h := equalI_ev a a hl
  rwa [decide_eq_true rfl] at h
theorem respB_facts {k f a n : Int} {w : List Int} {t : List Bool} (h : respB k f a n w t = true) : kindB k = true ∧ 0 ≤ f ∧ f ≤ 255 ∧ 0 ≤ a ∧ a ≤ 65535 ∧
    (f = 0 → (k = 5 → w.length = 0 ∧ t.length = 1) ∧ (k = 6 → w.length = 1 ∧ t.length = 0) ∧ (k = 22 → w.length = 2 ∧ t.length = 0)) := by
  unfold respB at h
  rw [Bool.and_eq_true, Bool.and_eq_true, Bool.and_eq_true, Bool.and_eq_true, decide_eq_true_iff, decide_eq_true_iff] at h
  obtain ⟨hk, hf, _, ha, h2⟩ := h
  refine ⟨hk, hf.1, hf.2, ha.1, ha.2, fun h0 => ?_⟩
  subst h0
  generalize w.length = W at h2 ⊢
  generalize t.length = T at h2 ⊢
  rcases kind_cases hk with rfl | rfl | rfl | rfl | rfl | rfl | rfl | rfl | rfl | rfl <;> simp at h2 ⊢ <;> omega
theorem index_l0 (l : List Bool) (hl : l.length ≤ 1048576) (d : Nat) : ∀ i : Nat, i ≤ l.length → l.length - i = d →
    ∃ r : Int, Ev (fun k => slices_Index_bool_bool.l0 k l true (l.length : Int) (i : Int)) r ∧ decide (r ≥ 0) = !((l.drop i).all (fun x => !x)) := by
  induction d with
  | zero =>
    intro i hi hd
    obtain rfl : i = l.length := by omega
    have h1 : ¬ ((l.length : Nat) : Int) < (l.length : Int) := by omega
    refine ⟨-1, evUp ?_, by rw [List.drop_length]; rfl⟩
    simp only [slices_Index_bool_bool.l0, h1, if_false]
    exact Ev.now _
  | succ d ih =>
    intro i hi hd
    have hlt : i < l.length := by omega
    have h1 : (i : Int) < (l.length : Int) := by omega
    have h2 : 0 ≤ (i : Int) := by omega
    have e : (l.drop i).all (fun x => !x) = (!l[i] && (l.drop (i + 1)).all (fun x => !x)) := by rw [List.drop_eq_getElem_cons hlt, List.all_cons]
    by_cases hx : l[i] = true
    · refine ⟨(i : Int), evUp ?_, by rw [e, hx]; simp⟩
      have g : (true == l[i]) = true := by rw [hx]; rfl
      simp only [slices_Index_bool_bool.l0, h1, h2, if_true, rdOf_get hlt, g]
      exact Ev.now _
    · have hx2 : l[i] = false := by simpa using hx
      obtain ⟨r, h, h3⟩ := ih (i + 1) (by omega) (by omega)
      refine ⟨r, evUp ?_, by rw [e, hx2, h3]; simp⟩
      have g : (true == l[i]) = false := by rw [hx2]; rfl
      simp only [slices_Index_bool_bool.l0, h1, h2, if_true, rdOf_get hlt, g, Bool.false_eq_true, if_false]
      rw [w64 (x := (i : Int) + 1) (by omega) (by omega)]
      exact h
theorem contains_ev (l : List Bool) (hl : l.length ≤ 1048576) : Ev (fun k => slices_Contains_bool_bool.f k l true) (!(l.all (fun x => !x))) := by
  obtain ⟨r, h, h2⟩ := index_l0 l hl l.length 0 (by omega) (by omega)
  rw [List.drop_zero] at h2
  simp only [slices_Contains_bool_bool.f, slices_Index_bool_bool.f]
  refine evBind h ?_
  rw [h2]
  exact Ev.now _
/-- Are bits an answer's to a question of n? -/
def bitsB (n : Int) (l : List Bool) : Bool := decide ((l.length : Int) = (n + 7) / 8 * 8) && (l.drop n.toNat).all (fun x => !x)
theorem pad_eq {n : Int} (h0 : 0 ≤ n) (h1 : n ≤ 2000) : wrap64 ((wrap64 (Int.tdiv (wrap64 (n + 7)) 8)) * 8) = (n + 7) / 8 * 8 := by
  rw [w64 (x := n + 7) (by omega) (by omega), tdiv_pos (by omega), w64 (x := (n + 7) / 8) (by omega) (by omega), w64 (by omega) (by omega)]
theorem bitsSuit_ev (n : Int) (l : List Bool) (h0 : 0 ≤ n) (h1 : n ≤ 2000) (hl : l.length ≤ 1048576) : Ev (fun k => impl_bitsSuit.f k n l) (bitsB n l) := by
  simp only [impl_bitsSuit.f, pad_eq h0 h1, bitsB]
  by_cases h : (l.length : Int) = (n + 7) / 8 * 8
  · have h2 : n ≤ (l.length : Int) := by omega
    simp only [h0, h2, if_true, if_pos h]
    refine evBind (contains_ev (l.drop n.toNat) (by rw [List.length_drop]; omega)) ?_
    rw [decide_eq_true h, Bool.not_not, Bool.true_and]
    exact Ev.now _
  · have hd : decide ((l.length : Int) = (n + 7) / 8 * 8) = false := decide_eq_false h
    simp only [if_neg h, hd, Bool.false_and]
    exact Ev.now _
/-- Does an answer of no fault suit a question? -/
def suitIn (k a n : Int) (w : List Int) (t : List Bool) (a2 n2 : Int) (w2 : List Int) (t2 : List Bool) : Bool :=
  if k = 1 ∨ k = 2 then bitsB n t2 else if k = 3 ∨ k = 4 ∨ k = 23 then decide ((w2.length : Int) = n)
  else if k = 15 then decide (a2 = a ∧ n2 = (t.length : Int)) else if k = 16 then decide (a2 = a ∧ n2 = (w.length : Int))
  else decide (a2 = a) && (decide (w2 = w) && decide (t2 = t))
def suitsB (k a n : Int) (w : List Int) (t : List Bool) (e : Int) (k2 f a2 n2 : Int) (w2 : List Int) (t2 : List Bool) : Bool :=
  reqB k a n w t e && (respB k2 f a2 n2 w2 t2 && (decide (k = k2) && (if f = 0 then suitIn k a n w t a2 n2 w2 t2 else true)))
theorem suitsI_j3 (k a n : Int) (w : List Int) (t : List Bool) (e k2 f a2 n2 : Int) (w2 : List Int) (t2 : List Bool) (hw : w.length ≤ 1048576) (ht : t.length ≤ 1048576) (hw2 : w2.length ≤ 1048576) (ht2 : t2.length ≤ 1048576)
    (g15 : k = 15 → w.length = 0) (g16 : k = 16 → t.length = 0) (b : Bool) (hb : b = decide (k = 15 ∨ k = 16)) :
    Ev (fun r => impl_Suits.j3 r b k a n w t e k2 f a2 n2 w2 t2) (if k = 15 then decide (a2 = a ∧ n2 = (t.length : Int)) else if k = 16 then decide (a2 = a ∧ n2 = (w.length : Int)) else decide (a2 = a) && (decide (w2 = w) && decide (t2 = t))) := by
  have q : ∀ m : Int, (n2 == m) = decide (n2 = m) := fun m => by rw [Bool.eq_iff_iff]; simp
  refine evUp ?_
  by_cases h : k = 15 ∨ k = 16
  · have hb2 : b = true := by rw [hb]; exact decide_eq_true h
    simp only [impl_Suits.j3, hb2, if_true, impl_written_eq k a n w t e hw ht, Option.bind_some, q]
    have ev : decide (n2 = writtenOf k w t) = if k = 15 then decide (n2 = (t.length : Int)) else decide (n2 = (w.length : Int)) := by
      unfold writtenOf
      rcases h with h | h
      · have := g15 h; subst h; simp only [Int.reduceEq, if_true, if_false]; rw [decide_eq_decide]; omega
      · have := g16 h; subst h; simp only [Int.reduceEq, if_true, if_false]; rw [decide_eq_decide]; omega
    rw [ev]
    refine Ev.congr (fun _ => ?_) (Ev.now _)
    rcases h with h | h <;> subst h <;> by_cases ha : a2 = a <;> simp [ha]
  · have hb2 : b = false := by rw [hb]; exact decide_eq_false h
    have h15 : ¬ k = 15 := fun e => h (Or.inl e)
    have h16 : ¬ k = 16 := fun e => h (Or.inr e)
    simp only [impl_Suits.j3, hb2, Bool.false_eq_true, if_false, h15, h16]
    by_cases ha : a2 = a
    · simp only [ha, if_true, decide_true, Bool.true_and]
      refine evBind (equalI_ev w2 w (by omega)) ?_
      by_cases hw0 : w2 = w
      · simp only [hw0, decide_true, if_true, Bool.true_and]
        refine evBind (equalB_ev t2 t (by omega)) ?_
        exact Ev.now _
      · simp only [hw0, decide_false, Bool.false_eq_true, if_false, Bool.false_and]; exact Ev.now _
    · simp only [ha, if_false, decide_false, Bool.false_and]; exact Ev.now _
theorem suitsI_j2 (k a n : Int) (w : List Int) (t : List Bool) (e k2 f a2 n2 : Int) (w2 : List Int) (t2 : List Bool) (hw : w.length ≤ 1048576) (ht : t.length ≤ 1048576) (hw2 : w2.length ≤ 1048576) (ht2 : t2.length ≤ 1048576)
    (g15 : k = 15 → w.length = 0) (g16 : k = 16 → t.length = 0) (b : Bool) (hb : b = decide (k = 3 ∨ k = 4 ∨ k = 23)) :
    Ev (fun r => impl_Suits.j2 r k b k a n w t e k2 f a2 n2 w2 t2) (if k = 3 ∨ k = 4 ∨ k = 23 then decide ((w2.length : Int) = n) else if k = 15 then decide (a2 = a ∧ n2 = (t.length : Int)) else if k = 16 then decide (a2 = a ∧ n2 = (w.length : Int)) else decide (a2 = a) && (decide (w2 = w) && decide (t2 = t))) := by
  have q : ((w2.length : Int) == n) = decide ((w2.length : Int) = n) := by rw [Bool.eq_iff_iff]; simp
  refine evUp ?_
  by_cases h : k = 3 ∨ k = 4 ∨ k = 23
  · have hb2 : b = true := by rw [hb]; exact decide_eq_true h
    simp only [impl_Suits.j2, hb2, if_true, h, q]; exact Ev.now _
  · have hb2 : b = false := by rw [hb]; exact decide_eq_false h
    simp only [impl_Suits.j2, hb2, Bool.false_eq_true, if_false, if_neg h]
    by_cases h15 : k = 15
    · subst h15
      have hh := suitsI_j3 15 a n w t e k2 f a2 n2 w2 t2 hw ht hw2 ht2 g15 g16 (15 == 15) (by decide)
      simp only [if_true] at hh ⊢
      exact hh
    · have hh := suitsI_j3 k a n w t e k2 f a2 n2 w2 t2 hw ht hw2 ht2 g15 g16 (k == 16) (by simp [h15, BEq.beq])
      simp only [h15, if_false] at hh ⊢
      exact hh
theorem suitsI_j1 (k a n : Int) (w : List Int) (t : List Bool) (e k2 f a2 n2 : Int) (w2 : List Int) (t2 : List Bool) (hw : w.length ≤ 1048576) (ht : t.length ≤ 1048576) (hw2 : w2.length ≤ 1048576) (ht2 : t2.length ≤ 1048576)
    (g15 : k = 15 → w.length = 0) (g16 : k = 16 → t.length = 0) (hn : 0 ≤ n ∧ n ≤ 2000) (b : Bool) (hb : b = decide (k = 1 ∨ k = 2)) :
    Ev (fun r => impl_Suits.j1 r k b k a n w t e k2 f a2 n2 w2 t2) (suitIn k a n w t a2 n2 w2 t2) := by
  unfold suitIn
  refine evUp ?_
  by_cases h : k = 1 ∨ k = 2
  · have hb2 : b = true := by rw [hb]; exact decide_eq_true h
    simp only [impl_Suits.j1, hb2, if_true, h]
    exact evBind (bitsSuit_ev n t2 hn.1 hn.2 ht2) (Ev.now _)
  · have hb2 : b = false := by rw [hb]; exact decide_eq_false h
    simp only [impl_Suits.j1, hb2, Bool.false_eq_true, if_false, if_neg h]
    have key : ∀ b2 : Bool, b2 = decide (k = 3 ∨ k = 4 ∨ k = 23) → _ := fun b2 hb2 => suitsI_j2 k a n w t e k2 f a2 n2 w2 t2 hw ht hw2 ht2 g15 g16 b2 hb2
    by_cases h3 : k = 3
    · simp only [if_pos h3]
      exact key (k == 3) (by simp [h3])
    by_cases h4 : k = 4
    · simp only [if_neg h3, if_pos h4]
      exact key (k == 4) (by simp [h4])
    · simp only [if_neg h3, if_neg h4]
      exact key (k == 23) (by simp [h3, h4, BEq.beq])
theorem impl_Suits_ev (k a n : Int) (w : List Int) (t : List Bool) (e k2 f a2 n2 : Int) (w2 : List Int) (t2 : List Bool) (hw : w.length ≤ 1048576) (ht : t.length ≤ 1048576) (hw2 : w2.length ≤ 1048576) (ht2 : t2.length ≤ 1048576) :
    Ev (fun r => impl_Suits.f r k a n w t e k2 f a2 n2 w2 t2) (suitsB k a n w t e k2 f a2 n2 w2 t2) := by
  have no : Ev (fun r => impl_Suits.j0 r true k a n w t e k2 f a2 n2 w2 t2) false := by
    refine evUp ?_
    simp only [impl_Suits.j0, if_true]
    exact Ev.now _
  simp only [impl_Suits.f, suitsB]
  refine evBind (impl_ReqOk_ev k a n w t e hw ht) ?_
  by_cases h1 : reqB k a n w t e = true
  · simp only [h1, if_true, Bool.true_and]
    refine evBind (impl_RespOk_ev k2 f a2 n2 w2 t2) ?_
    by_cases h2 : respB k2 f a2 n2 w2 t2 = true
    · simp only [h2, if_true, Bool.true_and]
      by_cases hk : k = k2
      · subst hk
        obtain ⟨_, _, _, f12, f34, f5, f6, f15, f16, f22, f23⟩ := reqB_facts h1
        have hn : 0 ≤ n ∧ n ≤ 2000 := by
          rcases kind_cases (reqB_facts h1).1 with rfl | rfl | rfl | rfl | rfl | rfl | rfl | rfl | rfl | rfl <;> simp at f12 f34 f5 f6 f15 f16 f22 f23 <;> omega
        have jj : ∀ b : Bool, b = decide (k = 1 ∨ k = 2) → _ := fun b hb => suitsI_j1 k a n w t e k f a2 n2 w2 t2 hw ht hw2 ht2 (fun h => (f15 h).2.1) (fun h => (f16 h).2.2.2.1) hn b hb
        simp only [bne_self_eq_false, decide_true, Bool.true_and]
        refine evUp ?_
        simp only [impl_Suits.j0, Bool.false_eq_true, if_false]
        by_cases hf : f = 0
        · simp only [if_pos hf]
          by_cases hk1 : k = 1
          · simp only [if_pos hk1]
            exact jj (k == 1) (by simp [hk1])
          · simp only [if_neg hk1]
            exact jj (k == 2) (by simp [hk1, BEq.beq])
        · simp only [if_neg hf]; exact Ev.now _
      · have hk2 : (k2 != k) = true := by simp [bne_iff_ne]; exact fun h => hk h.symm
        have hk3 : decide (k = k2) = false := decide_eq_false hk
        rw [hk2, hk3, Bool.false_and]; exact no
    · have h2' : respB k2 f a2 n2 w2 t2 = false := by simpa using h2
      simp only [h2', Bool.false_eq_true, if_false, Bool.false_and]; exact no
  · have h1' : reqB k a n w t e = false := by simpa using h1
    simp only [h1', Bool.false_eq_true, if_false, Bool.false_and]; exact no
theorem suitsS_l0 (k a n : Int) (w : List Int) (t : List Bool) (e k2 f a2 n2 : Int) (w2 : List Int) (t2 : List Bool) (ht2 : t2.length ≤ 1048576) (hn : 0 ≤ n ∧ n ≤ 2000) (d : Nat) : ∀ i : Nat, t2.length - i = d → i ≤ 1048576 →
    Ev (fun r => spec_Suits.l0 r (i : Int) k a n w t e k2 f a2 n2 w2 t2) (decide ((t2.length : Int) = (n + 7) / 8 * 8) && (t2.drop i).all (fun x => !x)) := by
  have q : ((t2.length : Int) == (n + 7) / 8 * 8) = decide ((t2.length : Int) = (n + 7) / 8 * 8) := by rw [Bool.eq_iff_iff]; simp
  induction d with
  | zero =>
    intro i hd hi
    have h1 : ¬ (i : Int) < (t2.length : Int) := by omega
    refine evUp ?_
    simp only [spec_Suits.l0, h1, if_false, pad_eq hn.1 hn.2, q]
    rw [List.drop_eq_nil_of_le (by omega), List.all_nil, Bool.and_true]
    exact Ev.now _
  | succ d ih =>
    intro i hd hi
    have hlt : i < t2.length := by omega
    have h1 : (i : Int) < (t2.length : Int) := by omega
    have h2 : 0 ≤ (i : Int) := by omega
    have er : (t2.drop i).all (fun x => !x) = (!t2[i] && (t2.drop (i + 1)).all (fun x => !x)) := by rw [List.drop_eq_getElem_cons hlt, List.all_cons]
    refine evUp ?_
    simp only [spec_Suits.l0, h1, h2, if_true, rdOf_get hlt, er]
    by_cases hx : t2[i] = true
    · simp only [hx, if_true, Bool.not_true, Bool.false_and, Bool.and_false]; exact Ev.now _
    · have hx2 : t2[i] = false := by simpa using hx
      simp only [hx2, Bool.false_eq_true, if_false, Bool.not_false, Bool.true_and]
      rw [w64 (x := (i : Int) + 1) (by omega) (by omega)]
      exact ih (i + 1) (by omega) (by omega)
theorem suitsS_j4 (k a n : Int) (w : List Int) (t : List Bool) (e k2 f a2 n2 : Int) (w2 : List Int) (t2 : List Bool) (hw2 : w2.length ≤ 1048576) (hkk : k = 6 ∨ k = 15 ∨ k = 16 ∨ k = 22)
    (g : k = 6 ∨ k = 22 → t.length = 0 ∧ t2.length = 0) (b : Bool) (hb : b = decide (k = 6 ∨ k = 22)) :
    Ev (fun r => spec_Suits.j4 r k b k a n w t e k2 f a2 n2 w2 t2) (if k = 15 then decide (a2 = a ∧ n2 = (t.length : Int)) else if k = 16 then decide (a2 = a ∧ n2 = (w.length : Int)) else decide (a2 = a) && (decide (w2 = w) && decide (t2 = t))) := by
  have q : ∀ m : Int, (n2 == m) = decide (n2 = m) := fun m => by rw [Bool.eq_iff_iff]; simp
  refine evUp ?_
  by_cases h : k = 6 ∨ k = 22
  · have hb2 : b = true := by rw [hb]; exact decide_eq_true h
    obtain ⟨z1, z2⟩ := g h
    have z3 : decide (t2 = t) = true := by rw [List.length_eq_zero_iff.1 z1, List.length_eq_zero_iff.1 z2]; rfl
    have h15 : ¬ k = 15 := by omega
    have h16 : ¬ k = 16 := by omega
    simp only [spec_Suits.j4, hb2, if_true, if_neg h15, if_neg h16, z3, Bool.and_true]
    by_cases ha : a2 = a
    · simp only [ha, if_true, decide_true, Bool.true_and]
      exact evBind (l4SameWords_ev w2 w (by omega)) (Ev.now _)
    · simp only [ha, if_false, decide_false, Bool.false_and]; exact Ev.now _
  · have hb2 : b = false := by rw [hb]; exact decide_eq_false h
    simp only [spec_Suits.j4, hb2, Bool.false_eq_true, if_false, q]
    by_cases h15 : k = 15
    · simp only [if_pos h15]
      refine Ev.congr (fun _ => ?_) (Ev.now _)
      by_cases ha : a2 = a <;> simp [ha]
    · have h16 : k = 16 := by omega
      simp only [if_neg h15, if_pos h16]
      refine Ev.congr (fun _ => ?_) (Ev.now _)
      by_cases ha : a2 = a <;> simp [ha]
theorem suitsS_j3 (k a n : Int) (w : List Int) (t : List Bool) (e k2 f a2 n2 : Int) (w2 : List Int) (t2 : List Bool) (hw2 : w2.length ≤ 1048576) (hkk : kindB k = true) (h12 : ¬ (k = 1 ∨ k = 2))
    (g5 : k = 5 → w.length = 0 ∧ t.length = 1 ∧ w2.length = 0 ∧ t2.length = 1) (g : k = 6 ∨ k = 22 → t.length = 0 ∧ t2.length = 0) (b : Bool) (hb : b = decide (k = 3 ∨ k = 4 ∨ k = 23)) :
    Ev (fun r => spec_Suits.j3 r k b k a n w t e k2 f a2 n2 w2 t2) (if k = 3 ∨ k = 4 ∨ k = 23 then decide ((w2.length : Int) = n) else if k = 15 then decide (a2 = a ∧ n2 = (t.length : Int)) else if k = 16 then decide (a2 = a ∧ n2 = (w.length : Int)) else decide (a2 = a) && (decide (w2 = w) && decide (t2 = t))) := by
  have q : ((w2.length : Int) == n) = decide ((w2.length : Int) = n) := by rw [Bool.eq_iff_iff]; simp
  refine evUp ?_
  by_cases h : k = 3 ∨ k = 4 ∨ k = 23
  · have hb2 : b = true := by rw [hb]; exact decide_eq_true h
    simp only [spec_Suits.j3, hb2, if_true, if_pos h, q]; exact Ev.now _
  · have hb2 : b = false := by rw [hb]; exact decide_eq_false h
    simp only [spec_Suits.j3, hb2, Bool.false_eq_true, if_false, if_neg h]
    by_cases h5 : k = 5
    · obtain ⟨z1, z2, z3, z4⟩ := g5 h5
      obtain ⟨y, rfl⟩ := List.length_eq_one_iff.1 z2
      obtain ⟨x, rfl⟩ := List.length_eq_one_iff.1 z4
      have zw : decide (w2 = w) = true := by rw [List.length_eq_zero_iff.1 z1, List.length_eq_zero_iff.1 z3]; rfl
      have h15 : ¬ k = 15 := by omega
      have h16 : ¬ k = 16 := by omega
      have r1 : rdOf false [x] 0 = x := rfl
      have r2 : rdOf false [y] 0 = y := rfl
      have l1 : ∀ z : Bool, (0 : Int) < (([z] : List Bool).length : Int) := fun z => by simp
      simp only [if_pos h5, if_neg h15, if_neg h16, zw, Bool.true_and, r1, r2, l1, if_true]
      refine Ev.congr (fun _ => ?_) (Ev.now _)
      by_cases ha : a2 = a
      · simp only [if_pos ha, decide_eq_true ha, Bool.true_and]
        cases x <;> cases y <;> rfl
      · simp only [if_neg ha, decide_eq_false ha, Bool.false_and]
    · have hk4 : k = 6 ∨ k = 15 ∨ k = 16 ∨ k = 22 := by
        rcases kind_cases hkk with h | h | h | h | h | h | h | h | h | h <;> omega
      simp only [if_neg h5]
      by_cases h6 : k = 6
      · simp only [if_pos h6]
        exact suitsS_j4 k a n w t e k2 f a2 n2 w2 t2 hw2 hk4 g (k == 6) (by simp [h6])
      · simp only [if_neg h6]
        exact suitsS_j4 k a n w t e k2 f a2 n2 w2 t2 hw2 hk4 g (k == 22) (by simp [h6, BEq.beq])
theorem suitsS_j1 (k a n : Int) (w : List Int) (t : List Bool) (e k2 f a2 n2 : Int) (w2 : List Int) (t2 : List Bool) (hw2 : w2.length ≤ 1048576) (ht2 : t2.length ≤ 1048576) (hkk : kindB k = true) (hn : 0 ≤ n ∧ n ≤ 2000)
    (g5 : k = 5 → w.length = 0 ∧ t.length = 1 ∧ w2.length = 0 ∧ t2.length = 1) (g : k = 6 ∨ k = 22 → t.length = 0 ∧ t2.length = 0) (b : Bool) (hb : b = decide (k = 1 ∨ k = 2)) :
    Ev (fun r => spec_Suits.j1 r k b k a n w t e k2 f a2 n2 w2 t2) (suitIn k a n w t a2 n2 w2 t2) := by
  unfold suitIn
  refine evUp ?_
  by_cases h : k = 1 ∨ k = 2
  · have hb2 : b = true := by rw [hb]; exact decide_eq_true h
    simp only [spec_Suits.j1, hb2, if_true, if_pos h, bitsB]
    obtain ⟨m, rfl⟩ : ∃ m : Nat, n = (m : Int) := ⟨n.toNat, by omega⟩
    exact suitsS_l0 k a (m : Int) w t e k2 f a2 n2 w2 t2 ht2 hn (t2.length - m) m rfl (by omega)
  · have hb2 : b = false := by rw [hb]; exact decide_eq_false h
    simp only [spec_Suits.j1, hb2, Bool.false_eq_true, if_false, if_neg h]
    have key : ∀ b2 : Bool, b2 = decide (k = 3 ∨ k = 4 ∨ k = 23) → _ := fun b2 hb2 => suitsS_j3 k a n w t e k2 f a2 n2 w2 t2 hw2 hkk h g5 g b2 hb2
    by_cases h3 : k = 3
    · simp only [if_pos h3]
      exact key (k == 3) (by simp [h3])
    by_cases h4 : k = 4
    · simp only [if_neg h3, if_pos h4]
      exact key (k == 4) (by simp [h4])
    · simp only [if_neg h3, if_neg h4]
      exact key (k == 23) (by simp [h3, h4, BEq.beq])
theorem spec_Suits_ev (k a n : Int) (w : List Int) (t : List Bool) (e k2 f a2 n2 : Int) (w2 : List Int) (t2 : List Bool) (hw : w.length ≤ 1048576) (ht : t.length ≤ 1048576) (hw2 : w2.length ≤ 1048576) (ht2 : t2.length ≤ 1048576) :
    Ev (fun r => spec_Suits.f r k a n w t e k2 f a2 n2 w2 t2) (suitsB k a n w t e k2 f a2 n2 w2 t2) := by
  have no : Ev (fun r => spec_Suits.j0 r true k a n w t e k2 f a2 n2 w2 t2) false := by
    refine evUp ?_
    simp only [spec_Suits.j0, if_true]
    exact Ev.now _
  simp only [spec_Suits.f, suitsB]
  refine evBind (spec_ReqOk_ev k a n w t e hw ht) ?_
  by_cases h1 : reqB k a n w t e = true
  · simp only [h1, if_true, Bool.true_and]
    refine evBind (spec_RespOk_ev k2 f a2 n2 w2 t2 hw2) ?_
    by_cases h2 : respB k2 f a2 n2 w2 t2 = true
    · simp only [h2, if_true, Bool.true_and]
      by_cases hk : k = k2
      · subst hk
        obtain ⟨hkk, _, _, f12, f34, f5, f6, f15, f16, f22, f23⟩ := reqB_facts h1
        obtain ⟨_, hf0, _, _, _, gf⟩ := respB_facts h2
        have hn : 0 ≤ n ∧ n ≤ 2000 := by
          rcases kind_cases hkk with rfl | rfl | rfl | rfl | rfl | rfl | rfl | rfl | rfl | rfl <;> simp at f12 f34 f5 f6 f15 f16 f22 f23 <;> omega
        simp only [bne_self_eq_false, decide_true, Bool.true_and]
        refine evUp ?_
        simp only [spec_Suits.j0, Bool.false_eq_true, if_false]
        by_cases hf : f = 0
        · have hf1 : ¬ f > 0 := by omega
          obtain ⟨q5, q6, q22⟩ := gf hf
          have jj : ∀ b : Bool, b = decide (k = 1 ∨ k = 2) → _ := fun b hb => suitsS_j1 k a n w t e k f a2 n2 w2 t2 hw2 ht2 hkk hn (fun h => ⟨(f5 h).2.1, (f5 h).2.2.1, (q5 h).1, (q5 h).2⟩)
            (fun h => h.elim (fun h => ⟨(f6 h).2.2.1, (q6 h).2⟩) (fun h => ⟨(f22 h).2.2.1, (q22 h).2⟩)) b hb
          simp only [if_neg hf1, if_pos hf]
          by_cases hk1 : k = 1
          · simp only [if_pos hk1]
            exact jj (k == 1) (by simp [hk1])
          · simp only [if_neg hk1]
            exact jj (k == 2) (by simp [hk1, BEq.beq])
        · have hf1 : f > 0 := by omega
          simp only [if_pos hf1, if_neg hf]; exact Ev.now _
      · have hk2 : (k != k2) = true := by simpa [bne_iff_ne] using hk
        have hk3 : decide (k = k2) = false := decide_eq_false hk
        rw [hk2, hk3, Bool.false_and]; exact no
    · have h2' : respB k2 f a2 n2 w2 t2 = false := by simpa using h2
      simp only [h2', Bool.false_eq_true, if_false, Bool.false_and]; exact no
  · have h1' : reqB k a n w t e = false := by simpa using h1
    simp only [h1', Bool.false_eq_true, if_false, Bool.false_and]; exact no
theorem specReq_own {w : World} {A4 A5 : Option Addr} {c4 c5 : Nat} {k a n wat : Int} {ws : List Int} {bs : List Bool} {b : Bool} (hb : reqB k a n ws bs wat = b) (h4 : Kd.C (Kd.int .i64) w A4 ws.length ws) (k4 : ws.length ≤ c4) (h5 : Kd.C Kd.bool w A5 bs.length bs) (k5 : bs.length ≤ c5) (m4 : ws.length ≤ 1048576) (m5 : bs.length ≤ 1048576) : Calls Try.prog 14 #[.agg #[.int .i64 k, .int .i64 a, .int .i64 n, .slice A4 ws.length c4, .slice A5 bs.length c5, .int .i64 wat]] w fun e w' => e = .returned (.bool b) ∧ Below w.heap.size w w' := by
  obtain ⟨r, hr⟩ := Ev.rounds (spec_ReqOk_ev k a n ws bs wat m4 m5)
  rw [hb] at hr
  exact spec_ReqOk.calls r k a n A4 c4 ws A5 c5 bs wat _ w h4 k4 h5 k5 hr
theorem suitsI_own {w : World} {A4 A5 B4 B5 : Option Addr} {c4 c5 d4 d5 : Nat} {k a n wat k2 f2 a2 n2 : Int} {ws vs : List Int} {bs ts : List Bool} {b : Bool} (hb : suitsB k a n ws bs wat k2 f2 a2 n2 vs ts = b) (h4 : Kd.C (Kd.int .i64) w A4 ws.length ws) (k4 : ws.length ≤ c4) (h5 : Kd.C Kd.bool w A5 bs.length bs) (k5 : bs.length ≤ c5) (i4 : Kd.C (Kd.int .i64) w B4 vs.length vs) (j4 : vs.length ≤ d4) (i5 : Kd.C Kd.bool w B5 ts.length ts) (j5 : ts.length ≤ d5) (m4 : ws.length ≤ 1048576) (m5 : bs.length ≤ 1048576) (o4 : vs.length ≤ 1048576) (o5 : ts.length ≤ 1048576) : Calls Try.prog 24 #[.agg #[.int .i64 k, .int .i64 a, .int .i64 n, .slice A4 ws.length c4, .slice A5 bs.length c5, .int .i64 wat], .agg #[.int .i64 k2, .int .i64 f2, .int .i64 a2, .int .i64 n2, .slice B4 vs.length d4, .slice B5 ts.length d5]] w fun e w' => e = .returned (.bool b) ∧ Below w.heap.size w w' := by
  obtain ⟨r, hr⟩ := Ev.rounds (impl_Suits_ev k a n ws bs wat k2 f2 a2 n2 vs ts m4 m5 o4 o5)
  rw [hb] at hr
  exact impl_Suits.calls r k a n A4 c4 ws A5 c5 bs wat k2 f2 a2 n2 B4 d4 vs B5 d5 ts b w h4 k4 h5 k5 i4 j4 i5 j5 hr
theorem suitsS_own {w : World} {A4 A5 B4 B5 : Option Addr} {c4 c5 d4 d5 : Nat} {k a n wat k2 f2 a2 n2 : Int} {ws vs : List Int} {bs ts : List Bool} {b : Bool} (hb : suitsB k a n ws bs wat k2 f2 a2 n2 vs ts = b) (h4 : Kd.C (Kd.int .i64) w A4 ws.length ws) (k4 : ws.length ≤ c4) (h5 : Kd.C Kd.bool w A5 bs.length bs) (k5 : bs.length ≤ c5) (i4 : Kd.C (Kd.int .i64) w B4 vs.length vs) (j4 : vs.length ≤ d4) (i5 : Kd.C Kd.bool w B5 ts.length ts) (j5 : ts.length ≤ d5) (m4 : ws.length ≤ 1048576) (m5 : bs.length ≤ 1048576) (o4 : vs.length ≤ 1048576) (o5 : ts.length ≤ 1048576) : Calls Try.prog 23 #[.agg #[.int .i64 k, .int .i64 a, .int .i64 n, .slice A4 ws.length c4, .slice A5 bs.length c5, .int .i64 wat], .agg #[.int .i64 k2, .int .i64 f2, .int .i64 a2, .int .i64 n2, .slice B4 vs.length d4, .slice B5 ts.length d5]] w fun e w' => e = .returned (.bool b) ∧ Below w.heap.size w w' := by
  obtain ⟨r, hr⟩ := Ev.rounds (spec_Suits_ev k a n ws bs wat k2 f2 a2 n2 vs ts m4 m5 o4 o5)
  rw [hb] at hr
  exact spec_Suits.calls r k a n A4 c4 ws A5 c5 bs wat k2 f2 a2 n2 B4 d4 vs B5 d5 ts b w h4 k4 h5 k5 i4 j4 i5 j5 hr
def FaultIPost (w : World) (k s : Int) (e : Ending) (w' : World) : Prop := ∃ (B4 B5 : Option Addr) (d4 d5 : Nat), e = .returned (.agg #[.int .i64 k, .int .i64 s, .int .i64 0, .int .i64 0, .slice B4 ([] : List Int).length d4, .slice B5 ([] : List Bool).length d5]) ∧ Own w w' [ri (.slice B4 ([] : List Int).length d4) [], rb (.slice B5 ([] : List Bool).length d5) []]
theorem faultI_own {w : World} {A4 A5 : Option Addr} {c4 c5 : Nat} {k a n wat : Int} {ws : List Int} {bs : List Bool} {x y s : Int} (hs : 1 ≤ s ∧ s ≤ 255) (hx : (if reqB k a n ws bs wat = true then (k, s, (0 : Int), (0 : Int), ([] : List Int), ([] : List Bool)) else (0, 0, 0, 0, [], [])) = (x, y, 0, 0, [], [])) (h4 : Kd.C (Kd.int .i64) w A4 ws.length ws) (k4 : ws.length ≤ c4) (h5 : Kd.C Kd.bool w A5 bs.length bs) (k5 : bs.length ≤ c5) (m4 : ws.length ≤ 1048576) (m5 : bs.length ≤ 1048576) :
    Calls Try.prog 19 #[.agg #[.int .i64 k, .int .i64 a, .int .i64 n, .slice A4 ws.length c4, .slice A5 bs.length c5, .int .i64 wat], .int .i64 s] w (FaultIPost w x y) := by
  obtain ⟨r, hr⟩ := Ev.rounds (fault_ev k a n ws bs wat s m4 m5 hs)
  rw [hx] at hr
  refine (impl_FaultOf.calls r k a n A4 c4 ws A5 c5 bs wat s x y 0 0 [] [] w h4 k4 h5 k5 hr).mono ?_
  rintro e w' ⟨v4, v5, rfl, o4, o5, hb⟩
  obtain ⟨B4, d4, rfl⟩ := Kd.R_slice o4
  obtain ⟨B5, d5, rfl⟩ := Kd.R_slice o5
  exact ⟨B4, B5, d4, d5, rfl, (Own.nil w).r2 hb o4 o5⟩
end Go.Proofs.Ytbdifcgkokajlaa.G
