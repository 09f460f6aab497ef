/- The law on answers is true of all bytes. No condition. -/
import Derived.Test.YtfiplepbmennbaaSFnTold
import Derived.Test.YtfiplepbmennbaaC
namespace Go.Proofs.Ytfiplepbmennbaa.Pure
open Go.Proofs.Ytfiplepbmennbaa.G Go Go.RowKit Go.Proofs.Ytfiplepbmennbaa.PFnTold Go.Proofs.YtfiplepbmennbaaW.PrintWords Go.Proofs.YtfiplepbmennbaaW.PrintLast Go.Proofs.Ytfiplepbmennbaa.PlainC
set_option linter.unusedVariables false
set_option linter.unusedSimpArgs false

theorem l3Words_l0 (l : List Int) (hl : l.length ≤ 1048576) (d : Nat) : ∀ i : Nat, i ≤ l.length → l.length - i = d →
    Ev (fun k => spec_l3Words.l0 k l (i : Int)) ((l.drop i).all wordB) := by
  induction d with
  | zero =>
    intro i hi hd
    obtain rfl : i = l.length := by omega
    refine evUp ?_
    have h1 : ¬ ((l.length : Nat) : Int) < (l.length : Int) := by omega
    simp only [spec_l3Words.l0, h1, if_false]
    rw [List.drop_length]
    exact Ev.now _
  | succ d ih =>
    intro i hi hd
    have hlt : i < l.length := by omega
    refine evUp ?_
    have h1 : (i : Int) < (l.length : Int) := by omega
    have h2 : 0 ≤ (i : Int) := by omega
    have hi2 : spec_l1In.f l[i] 0 65535 = some (wordB l[i]) := by
      unfold wordB
      by_cases g : l[i] ≥ 0
      · have g2 : 0 ≤ l[i] := g
        simp only [spec_l1In.f, g, g2, if_true, decide_true, Bool.true_and]
      · have g2 : ¬ 0 ≤ l[i] := g
        simp only [spec_l1In.f, g, g2, if_false, decide_false, Bool.false_and]
    have e : (l.drop i).all wordB = (wordB l[i] && (l.drop (i + 1)).all wordB) := by
      rw [List.drop_eq_getElem_cons hlt, List.all_cons]
    simp only [spec_l3Words.l0, h1, h2, if_true, rd_get hlt, hi2, Option.bind_some, e]
    rw [w64 (x := (i : Int) + 1) (by omega) (by omega)]
    by_cases hw : wordB l[i] = true
    · simp only [hw, if_true, Bool.true_and]
      exact ih (i + 1) (by omega) (by omega)
    · have hw2 : wordB l[i] = false := by simpa using hw
      simp only [hw2, Bool.false_eq_true, if_false, Bool.false_and]
      exact Ev.now _
theorem l3Words_ev (l : List Int) (hl : l.length ≤ 1048576) : Ev (fun k => spec_l3Words.f k l) (l.all wordB) := by
  have h := l3Words_l0 l hl l.length 0 (by omega) (by omega)
  rw [List.drop_zero] at h
  exact h
theorem impl_in_eq (a b c : Int) : impl_in.f a b c = some (decide (b ≤ a ∧ a ≤ c)) := by
  by_cases h0 : a ≥ b
  · have h1 : b ≤ a := h0
    simp only [impl_in.f, h0, h1, if_true, true_and]
  · have h1 : ¬ b ≤ a := h0
    simp only [impl_in.f, h0, h1, if_false, false_and, decide_false]
theorem spec_in_eq (a b c : Int) : spec_l1In.f a b c = some (decide (b ≤ a ∧ a ≤ c)) := by
  by_cases h0 : a ≥ b
  · have h1 : b ≤ a := h0
    simp only [spec_l1In.f, h0, h1, if_true, true_and]
  · have h1 : ¬ b ≤ a := h0
    simp only [spec_l1In.f, h0, h1, if_false, false_and, decide_false]
theorem iteS (b c : Bool) : (if b = true then some c else some false) = some (b && c) := by cases b <;> rfl
theorem iteT (b c : Bool) : (if b = true then some true else some c) = some (b || c) := by cases b <;> rfl
def kindB (k : Int) : Bool := decide (1 ≤ k ∧ k ≤ 6) || (k == 15 || (k == 16 || (k == 22 || k == 23)))
theorem wordB_eq (n : Int) : wordB n = decide (0 ≤ n ∧ n ≤ 65535) := by unfold wordB; rw [Bool.decide_and]
theorem impl_isKind_eq (k : Int) : impl_isKind.f k = some (kindB k) := by
  simp only [impl_isKind.f, impl_in_eq, Option.bind_some, kindB]
  by_cases h : decide (1 ≤ k ∧ k ≤ 6) = true
  · rw [if_pos h, h]; rfl
  · have h2 : decide (1 ≤ k ∧ k ≤ 6) = false := by simpa using h
    rw [if_neg h, h2, Bool.false_or]
    by_cases h15 : k = 15
    · subst h15; rfl
    by_cases h16 : k = 16
    · subst h16; rfl
    by_cases h22 : k = 22
    · subst h22; rfl
    have g15 : (k == 15) = false := beq_eq_false_iff_ne.2 h15
    have g16 : (k == 16) = false := beq_eq_false_iff_ne.2 h16
    have g22 : (k == 22) = false := beq_eq_false_iff_ne.2 h22
    simp only [h15, h16, h22, if_false, g15, g16, g22, Bool.false_or]
theorem impl_isWord_eq (n : Int) : impl_isWord.f n = some (wordB n) := by
  simp only [impl_isWord.f, impl_in_eq, Option.bind_some, wordB_eq]
theorem kind_cases {k : Int} (h : kindB k = true) : k = 1 ∨ k = 2 ∨ k = 3 ∨ k = 4 ∨ k = 5 ∨ k = 6 ∨ k = 15 ∨ k = 16 ∨ k = 22 ∨ k = 23 := by
  simp [kindB] at h
  omega
/-- Is an answer right? -/
def respB (k f a n : Int) (w : List Int) (t : List Bool) : Bool :=
  kindB k && (decide (0 ≤ f ∧ f ≤ 255) && (w.all wordB && (decide (0 ≤ a ∧ a ≤ 65535) &&
  (if f > 0 then decide (a = 0 ∧ n = 0 ∧ w.length = 0 ∧ t.length = 0)
  else if k = 1 ∨ k = 2 then decide (a = 0 ∧ n = 0 ∧ w.length = 0 ∧ (1 ≤ t.length ∧ t.length ≤ 2000) ∧ t.length % 8 = 0)
  else if k = 3 ∨ k = 4 ∨ k = 23 then decide (a = 0 ∧ n = 0 ∧ (1 ≤ w.length ∧ w.length ≤ 125) ∧ t.length = 0)
  else if k = 5 then decide (n = 0 ∧ w.length = 0 ∧ t.length = 1)
  else if k = 6 then decide (n = 0 ∧ w.length = 1 ∧ t.length = 0)
  else if k = 22 then decide (n = 0 ∧ w.length = 2 ∧ t.length = 0)
  else if k = 15 then decide ((1 ≤ n ∧ n ≤ 1968) ∧ w.length = 0 ∧ t.length = 0)
  else decide ((1 ≤ n ∧ n ≤ 123) ∧ w.length = 0 ∧ t.length = 0)))))

/-- What shape an answer has. -/
def shapeOf (k : Int) : Int × Int × Int × Int × Int × Bool :=
  if k = 1 ∨ k = 2 then (0, 0, 1, 2000, 0, false) else if k = 3 ∨ k = 4 ∨ k = 23 then (1, 125, 0, 0, 0, false) else if k = 5 then (0, 0, 1, 1, 0, true)
  else if k = 6 then (1, 1, 0, 0, 0, true) else if k = 15 then (0, 0, 0, 0, 1968, true) else if k = 16 then (0, 0, 0, 0, 123, true) else (2, 2, 0, 0, 0, true)

theorem shape_j1 (k : Int) (h1 : ¬ (k = 1 ∨ k = 2)) (b : Bool) (hb : b = decide (k = 3 ∨ k = 4 ∨ k = 23)) : Ev (fun r => impl_shape.j1 r k b) (shapeOf k) := by
  refine evUp ?_
  by_cases h34 : k = 3 ∨ k = 4 ∨ k = 23
  · have hb2 : b = true := by rw [hb]; exact decide_eq_true h34
    have e : shapeOf k = (1, 125, 0, 0, 0, false) := by unfold shapeOf; rw [if_neg h1, if_pos h34]
    simp only [impl_shape.j1, hb2, if_true, e]
    exact Ev.now _
  · have hb2 : b = false := by rw [hb]; exact decide_eq_false h34
    have e : shapeOf k = if k = 5 then (0, 0, 1, 1, 0, true) else if k = 6 then (1, 1, 0, 0, 0, true) else if k = 15 then (0, 0, 0, 0, 1968, true) else if k = 16 then (0, 0, 0, 0, 123, true) else (2, 2, 0, 0, 0, true) := by
      unfold shapeOf; rw [if_neg h1, if_neg h34]
    simp only [impl_shape.j1, hb2, Bool.false_eq_true, if_false, e]
    by_cases h5 : k = 5
    · simp only [h5, if_true]; exact Ev.now _
    by_cases h6 : k = 6
    · simp only [h6, Int.reduceEq, if_true, if_false]; exact Ev.now _
    by_cases h15 : k = 15
    · simp only [h15, Int.reduceEq, if_true, if_false]; exact Ev.now _
    by_cases h16 : k = 16
    · simp only [h16, Int.reduceEq, if_true, if_false]; exact Ev.now _
    simp only [h5, h6, h15, h16, if_false]; exact Ev.now _
theorem shape_j0 (k : Int) (b : Bool) (hb : b = decide (k = 1 ∨ k = 2)) : Ev (fun r => impl_shape.j0 r k b) (shapeOf k) := by
  refine evUp ?_
  by_cases h12 : k = 1 ∨ k = 2
  · have hb2 : b = true := by rw [hb]; exact decide_eq_true h12
    have e : shapeOf k = (0, 0, 1, 2000, 0, false) := by unfold shapeOf; rw [if_pos h12]
    simp only [impl_shape.j0, hb2, if_true, e]
    exact Ev.now _
  · have hb2 : b = false := by rw [hb]; exact decide_eq_false h12
    simp only [impl_shape.j0, hb2, Bool.false_eq_true, if_false]
    by_cases h3 : k = 3
    · simp only [h3, if_true]
      exact shape_j1 3 (by omega) _ (by decide)
    by_cases h4 : k = 4
    · simp only [h4, Int.reduceEq, if_true, if_false]
      exact shape_j1 4 (by omega) _ (by decide)
    simp only [h3, h4, if_false]
    exact shape_j1 k h12 _ (by simp [h3, h4, BEq.beq])
theorem impl_shape_ev (k : Int) : Ev (fun r => impl_shape.f r k) (shapeOf k) := by
  by_cases h1 : k = 1
  · simp only [impl_shape.f, h1, if_true]
    exact shape_j0 1 _ (by decide)
  · simp only [impl_shape.f, h1, if_false]
    exact shape_j0 k _ (by simp [h1, BEq.beq])
theorem impl_isFault_eq (k f a n : Int) (w : List Int) (t : List Bool) : impl_isFault.f k f a n w t = some (decide (1 ≤ f ∧ f ≤ 255) && decide (a = 0 ∧ n = 0 ∧ w.length = 0 ∧ t.length = 0)) := by
  have q : ∀ m : Nat, ((m : Int) = 0) = (m = 0) := fun m => propext ⟨fun h => by omega, fun h => by omega⟩
  simp only [impl_isFault.f, impl_in_eq, Option.bind_some, q]
  generalize w.length = W
  generalize t.length = T
  have qT : ((T : Int) == 0) = decide (T = 0) := by rw [Bool.eq_iff_iff]; simp
  rw [qT]
  generalize decide (1 ≤ f ∧ f ≤ 255) = D
  by_cases h2 : a = 0 <;> by_cases h3 : n = 0 <;> by_cases h4 : W = 0 <;> by_cases h5 : T = 0 <;> cases D <;> simp [h2, h3, h4, h5]
theorem respOk_j0 (N : Int) (A : Bool) (b : Bool) (k f a n : Int) (w : List Int) (t : List Bool) (lo hi : Int) :
    Ev (fun r => impl_RespOk.j0 r N A b k f a n w t lo hi) (!b && (decide (¬ hi > 1 ∨ t.length % 8 = 0) && (decide (N ≠ 0 ∨ n = 0) && ((!decide (N > 0) || decide (1 ≤ n ∧ n ≤ N)) && (A && wordB a || decide (a = 0)))))) := by
  have q : ∀ m : Nat, ((m : Int) % 8 = 0) = (m % 8 = 0) := fun m => propext ⟨fun h => by omega, fun h => by omega⟩
  refine evUp ?_
  simp only [impl_RespOk.j0, impl_in_eq, impl_isWord_eq, Option.bind_some, q]
  generalize wordB a = W
  generalize t.length % 8 = T
  have key : ∀ X : Option Bool, X = some (!b && (decide (¬ hi > 1 ∨ T = 0) && (decide (N ≠ 0 ∨ n = 0) && ((!decide (N > 0) || decide (1 ≤ n ∧ n ≤ N)) && (A && W || decide (a = 0)))))) → Ev (fun _ : Nat => X) (!b && (decide (¬ hi > 1 ∨ T = 0) && (decide (N ≠ 0 ∨ n = 0) && ((!decide (N > 0) || decide (1 ≤ n ∧ n ≤ N)) && (A && W || decide (a = 0)))))) := fun X h => by rw [h]; exact Ev.now _
  refine key _ ?_
  have qa : (a == 0) = decide (a = 0) := by rw [Bool.eq_iff_iff]; simp
  rw [qa]
  generalize decide (1 ≤ n ∧ n ≤ N) = D
  generalize decide (a = 0) = Z
  cases b with
  | true => rfl
  | false =>
    by_cases h1 : hi > 1 <;> by_cases h2 : T = 0 <;> by_cases h3 : N = 0 <;> by_cases h4 : n = 0 <;> by_cases h5 : N > 0 <;> cases D <;> cases A <;> cases W <;> cases Z <;> simp [h1, h2, h3, h4, h5]

theorem impl_RespOk_raw (k f a n : Int) (w : List Int) (t : List Bool) :
    Ev (fun r => impl_RespOk.f r k f a n w t) (kindB k && (if f = 0 then decide ((shapeOf k).1 ≤ (w.length : Int) ∧ (w.length : Int) ≤ (shapeOf k).2.1) && (decide ((shapeOf k).2.2.1 ≤ (t.length : Int) ∧ (t.length : Int) ≤ (shapeOf k).2.2.2.1) && (w.all wordB && (decide (¬ (shapeOf k).2.2.2.1 > 1 ∨ t.length % 8 = 0) && (decide ((shapeOf k).2.2.2.2.1 ≠ 0 ∨ n = 0) && ((!decide ((shapeOf k).2.2.2.2.1 > 0) || decide (1 ≤ n ∧ n ≤ (shapeOf k).2.2.2.2.1)) && ((shapeOf k).2.2.2.2.2 && wordB a || decide (a = 0))))))) else decide (1 ≤ f ∧ f ≤ 255) && decide (a = 0 ∧ n = 0 ∧ w.length = 0 ∧ t.length = 0))) := by
  have hc := impl_shape_ev k
  generalize shapeOf k = T at hc
  have no : Ev (fun r => impl_RespOk.j0 r T.2.2.2.2.1 T.2.2.2.2.2 true k f a n w t T.2.2.1 T.2.2.2.1) false := by
    have h := respOk_j0 T.2.2.2.2.1 T.2.2.2.2.2 true k f a n w t T.2.2.1 T.2.2.2.1
    simpa using h
  simp only [impl_RespOk.f, impl_isKind_eq, Option.bind_some]
  by_cases h1 : kindB k = true
  · simp only [h1, if_true, Bool.true_and]
    by_cases hf : f = 0
    · simp only [hf, if_true]
      rw [hf] at no
      refine evBind hc ?_
      simp only [impl_in_eq, Option.bind_some]
      by_cases h2 : decide (T.1 ≤ (w.length : Int) ∧ (w.length : Int) ≤ T.2.1) = true
      · simp only [h2, if_true, Bool.true_and]
        by_cases h3 : decide (T.2.2.1 ≤ (t.length : Int) ∧ (t.length : Int) ≤ T.2.2.2.1) = true
        · simp only [h3, if_true, Bool.true_and, impl_allWords.f, Option.bind_some]
          have h := respOk_j0 T.2.2.2.2.1 T.2.2.2.2.2 (!w.all wordB) k 0 a n w t T.2.2.1 T.2.2.2.1
          rw [Bool.not_not] at h
          exact h
        · have h3' : decide (T.2.2.1 ≤ (t.length : Int) ∧ (t.length : Int) ≤ T.2.2.2.1) = false := by simpa using h3
          simp only [h3', Bool.false_eq_true, if_false, Bool.false_and]; exact no
      · have h2' : decide (T.1 ≤ (w.length : Int) ∧ (w.length : Int) ≤ T.2.1) = false := by simpa using h2
        simp only [h2', Bool.false_eq_true, if_false, Bool.false_and]; exact no
    · simp only [hf, if_false, impl_isFault_eq, Option.bind_some]; exact Ev.now _
  · have h1' : kindB k = false := by simpa using h1
    simp only [h1', Bool.false_eq_true, if_false, Bool.false_and]; exact Ev.now _

theorem impl_RespOk_ev (k f a n : Int) (w : List Int) (t : List Bool) : Ev (fun r => impl_RespOk.f r k f a n w t) (respB k f a n w t) := by
  have h := impl_RespOk_raw k f a n w t
  by_cases hk : kindB k = true
  · have e2 : respB k f a n w t = (kindB k && (if f = 0 then decide ((shapeOf k).1 ≤ (w.length : Int) ∧ (w.length : Int) ≤ (shapeOf k).2.1) && (decide ((shapeOf k).2.2.1 ≤ (t.length : Int) ∧ (t.length : Int) ≤ (shapeOf k).2.2.2.1) && (w.all wordB && (decide (¬ (shapeOf k).2.2.2.1 > 1 ∨ t.length % 8 = 0) && (decide ((shapeOf k).2.2.2.2.1 ≠ 0 ∨ n = 0) && ((!decide ((shapeOf k).2.2.2.2.1 > 0) || decide (1 ≤ n ∧ n ≤ (shapeOf k).2.2.2.2.1)) && ((shapeOf k).2.2.2.2.2 && wordB a || decide (a = 0))))))) else decide (1 ≤ f ∧ f ≤ 255) && decide (a = 0 ∧ n = 0 ∧ w.length = 0 ∧ t.length = 0))) := by
      have hW0 : w.length = 0 → w.all wordB = true := fun h => by rw [List.length_eq_zero_iff.1 h]; rfl
      simp only [respB, wordB_eq]
      by_cases hf : f = 0
      · simp only [hf, if_true]
        generalize w.all wordB = W
        rw [Bool.eq_iff_iff]
        rcases kind_cases hk with rfl | rfl | rfl | rfl | rfl | rfl | rfl | rfl | rfl | rfl <;> cases W <;> simp [kindB, shapeOf, -List.length_eq_zero_iff] <;> omega
      · simp only [hf, if_false, hk, Bool.true_and]
        by_cases hp : f > 0
        · rw [if_pos hp]
          by_cases hw0 : w.length = 0
          · rw [hW0 hw0, Bool.true_and, Bool.eq_iff_iff]
            simp [-List.length_eq_zero_iff]; omega
          · rw [Bool.eq_iff_iff]; simp [hw0, -List.length_eq_zero_iff]
        · have h1 : decide (0 ≤ f ∧ f ≤ 255) = false := decide_eq_false (by omega)
          have h2 : decide (1 ≤ f ∧ f ≤ 255) = false := decide_eq_false (by omega)
          rw [h1, h2, Bool.false_and, Bool.false_and]
    rw [e2]; exact h
  · have hk2 : kindB k = false := by simpa using hk
    have e2 : respB k f a n w t = false := by unfold respB; rw [hk2, Bool.false_and]
    rw [e2]
    rw [hk2] at h
    simpa using h

theorem spec_l4Zero_eq (k f a n : Int) (w : List Int) (t : List Bool) (b1 b2 b3 b4 : Bool) : spec_l4Zero.f k f a n w t b1 b2 b3 b4 = some ((b1 || decide (a = 0)) && ((b2 || decide (n = 0)) && ((b3 || decide (w.length = 0)) && (b4 || decide (t.length = 0))))) := by
  have q : ∀ m : Nat, ((m : Int) = 0) = (m = 0) := fun m => propext ⟨fun h => by omega, fun h => by omega⟩
  simp only [spec_l4Zero.f, q]
  by_cases h1 : a = 0 <;> by_cases h2 : n = 0 <;> by_cases h3 : w.length = 0 <;> by_cases h4 : t.length = 0 <;> cases b1 <;> cases b2 <;> cases b3 <;> cases b4 <;> simp [h1, h2, h3, h4]
theorem spec_l3Kind_eq (k : Int) : spec_l3Kind.f k = some (kindB k) := by
  simp only [spec_l3Kind.f, spec_in_eq, Option.bind_some, kindB]
  by_cases h : decide (1 ≤ k ∧ k ≤ 6) = true
  · rw [if_pos h, h]; rfl
  · have h2 : decide (1 ≤ k ∧ k ≤ 6) = false := by simpa using h
    rw [if_neg h, h2, Bool.false_or]
    by_cases h15 : k = 15
    · subst h15; rfl
    by_cases h16 : k = 16
    · subst h16; rfl
    by_cases h22 : k = 22
    · subst h22; rfl
    have g15 : (k == 15) = false := beq_eq_false_iff_ne.2 h15
    have g16 : (k == 16) = false := beq_eq_false_iff_ne.2 h16
    have g22 : (k == 22) = false := beq_eq_false_iff_ne.2 h22
    simp only [h15, h16, h22, if_false, g15, g16, g22, Bool.false_or]
/-- What is asked of an answer of no fault. -/
def respIn (k a n : Int) (w : List Int) (t : List Bool) : Bool :=
  if k = 1 ∨ k = 2 then decide (a = 0 ∧ n = 0 ∧ w.length = 0 ∧ (1 ≤ t.length ∧ t.length ≤ 2000) ∧ t.length % 8 = 0)
  else if k = 3 ∨ k = 4 ∨ k = 23 then decide (a = 0 ∧ n = 0 ∧ (1 ≤ w.length ∧ w.length ≤ 125) ∧ t.length = 0)
  else if k = 5 then decide (n = 0 ∧ w.length = 0 ∧ t.length = 1)
  else if k = 6 then decide (n = 0 ∧ w.length = 1 ∧ t.length = 0)
  else if k = 22 then decide (n = 0 ∧ w.length = 2 ∧ t.length = 0)
  else if k = 15 then decide ((1 ≤ n ∧ n ≤ 1968) ∧ w.length = 0 ∧ t.length = 0)
  else decide ((1 ≤ n ∧ n ≤ 123) ∧ w.length = 0 ∧ t.length = 0)
theorem respOkS_j2 (k f a n : Int) (w : List Int) (t : List Bool) (h12 : ¬ (k = 1 ∨ k = 2)) (b : Bool) (hb : b = decide (k = 3 ∨ k = 4 ∨ k = 23)) :
    Ev (fun r => spec_RespOk.j2 r k b k f a n w t) (respIn k a n w t) := by
  have q1 : ∀ m : Nat, (((m : Nat) : Int) == 1) = decide (m = 1) := fun m => by rw [Bool.eq_iff_iff]; simp; omega
  have q2 : ∀ m : Nat, (((m : Nat) : Int) == 2) = decide (m = 2) := fun m => by rw [Bool.eq_iff_iff]; simp; omega
  refine evUp ?_
  by_cases h34 : k = 3 ∨ k = 4 ∨ k = 23
  · have hb2 : b = true := by rw [hb]; exact decide_eq_true h34
    have er : respIn k a n w t = decide (a = 0 ∧ n = 0 ∧ (1 ≤ w.length ∧ w.length ≤ 125) ∧ t.length = 0) := by
      unfold respIn; rw [if_neg h12, if_pos h34]
    simp only [spec_RespOk.j2, hb2, if_true, spec_l4Zero_eq, spec_in_eq, Option.bind_some, er, iteS]
    refine Ev.congr (fun _ => ?_) (Ev.now _)
    congr 1
    rw [Bool.eq_iff_iff]; simp [-List.length_eq_zero_iff]; omega
  · have hb2 : b = false := by rw [hb]; exact decide_eq_false h34
    have er : respIn k a n w t = if k = 5 then decide (n = 0 ∧ w.length = 0 ∧ t.length = 1)
      else if k = 6 then decide (n = 0 ∧ w.length = 1 ∧ t.length = 0)
      else if k = 22 then decide (n = 0 ∧ w.length = 2 ∧ t.length = 0)
      else if k = 15 then decide ((1 ≤ n ∧ n ≤ 1968) ∧ w.length = 0 ∧ t.length = 0)
      else decide ((1 ≤ n ∧ n ≤ 123) ∧ w.length = 0 ∧ t.length = 0) := by
      unfold respIn; rw [if_neg h12, if_neg h34]
    simp only [spec_RespOk.j2, hb2, Bool.false_eq_true, if_false, spec_l4Zero_eq, spec_in_eq, Option.bind_some, er, q1, q2, iteS]
    by_cases h5 : k = 5
    · simp only [h5, if_true]
      refine Ev.congr (fun _ => ?_) (Ev.now _)
      congr 1
      rw [Bool.eq_iff_iff]; simp [-List.length_eq_zero_iff]; omega
    by_cases h6 : k = 6
    · simp only [h6, Int.reduceEq, if_true, if_false]
      refine Ev.congr (fun _ => ?_) (Ev.now _)
      congr 1
      rw [Bool.eq_iff_iff]; simp [-List.length_eq_zero_iff]; omega
    by_cases h22 : k = 22
    · simp only [h22, Int.reduceEq, if_true, if_false]
      refine Ev.congr (fun _ => ?_) (Ev.now _)
      congr 1
      rw [Bool.eq_iff_iff]; simp [-List.length_eq_zero_iff]; omega
    by_cases h15 : k = 15
    · simp only [h15, Int.reduceEq, if_true, if_false]
      refine Ev.congr (fun _ => ?_) (Ev.now _)
      congr 1
      rw [Bool.eq_iff_iff]; simp [-List.length_eq_zero_iff]; omega
    simp only [h5, h6, h22, h15, if_false]
    refine Ev.congr (fun _ => ?_) (Ev.now _)
    congr 1
    rw [Bool.eq_iff_iff]; simp [-List.length_eq_zero_iff]; omega
theorem respOkS_j1 (k f a n : Int) (w : List Int) (t : List Bool) (b : Bool) (hb : b = decide (k = 1 ∨ k = 2)) :
    Ev (fun r => spec_RespOk.j1 r k b k f a n w t) (respIn k a n w t) := by
  have q : ∀ m : Nat, (((m : Int) % 8) == 0) = decide (m % 8 = 0) := fun m => by rw [Bool.eq_iff_iff]; simp; omega
  refine evUp ?_
  by_cases h12 : k = 1 ∨ k = 2
  · have hb2 : b = true := by rw [hb]; exact decide_eq_true h12
    have er : respIn k a n w t = decide (a = 0 ∧ n = 0 ∧ w.length = 0 ∧ (1 ≤ t.length ∧ t.length ≤ 2000) ∧ t.length % 8 = 0) := by
      unfold respIn; rw [if_pos h12]
    simp only [spec_RespOk.j1, hb2, if_true, spec_l4Zero_eq, spec_in_eq, Option.bind_some, er, q, iteS]
    refine Ev.congr (fun _ => ?_) (Ev.now _)
    congr 1
    rw [Bool.eq_iff_iff]; simp [-List.length_eq_zero_iff]; omega
  · have hb2 : b = false := by rw [hb]; exact decide_eq_false h12
    simp only [spec_RespOk.j1, hb2, Bool.false_eq_true, if_false]
    by_cases h3 : k = 3
    · subst h3
      simp only [if_true]
      exact respOkS_j2 3 f a n w t h12 _ (by decide)
    by_cases h4 : k = 4
    · subst h4
      simp only [Int.reduceEq, if_true, if_false]
      exact respOkS_j2 4 f a n w t h12 _ (by decide)
    simp only [h3, h4, if_false]
    exact respOkS_j2 k f a n w t h12 _ (by simp [h3, h4, BEq.beq])
theorem respOkS_j0_no (k f a n : Int) (w : List Int) (t : List Bool) : Ev (fun r => spec_RespOk.j0 r true k f a n w t) false := by
  refine evUp ?_
  simp only [spec_RespOk.j0, if_true]
  exact Ev.now _
theorem spec_RespOk_ev (k f a n : Int) (w : List Int) (t : List Bool) (hw : w.length ≤ 1048576) : Ev (fun r => spec_RespOk.f r k f a n w t) (respB k f a n w t) := by
  have no := respOkS_j0_no k f a n w t
  simp only [spec_RespOk.f, spec_l3Kind_eq, spec_in_eq, Option.bind_some]
  by_cases h1 : kindB k = true
  · simp only [h1, if_true]
    by_cases h2 : decide (0 ≤ f ∧ f ≤ 255) = true
    · simp only [h2, if_true]
      refine evBind (l3Words_ev w hw) ?_
      by_cases hW : w.all wordB = true
      · simp only [hW, if_true]
        by_cases ha : decide (0 ≤ a ∧ a ≤ 65535) = true
        · rw [ha, Bool.not_true]
          have er : respB k f a n w t = if f > 0 then decide (a = 0 ∧ n = 0 ∧ w.length = 0 ∧ t.length = 0) else respIn k a n w t := by
            unfold respB respIn; rw [h1, h2, hW, ha]; rfl
          refine evUp ?_
          simp only [spec_RespOk.j0, Bool.false_eq_true, if_false, spec_l4Zero_eq, Option.bind_some, Bool.false_or, er]
          by_cases hf : f > 0
          · simp only [hf, if_true]
            refine Ev.congr (fun _ => ?_) (Ev.now _)
            congr 1
            rw [Bool.eq_iff_iff]; simp [-List.length_eq_zero_iff]
          · simp only [hf, if_false]
            by_cases hk1 : k = 1
            · subst hk1
              simp only [if_true]
              exact respOkS_j1 1 f a n w t _ (by decide)
            · simp only [hk1, if_false]
              exact respOkS_j1 k f a n w t _ (by simp [hk1, BEq.beq])
        · have ha2 : decide (0 ≤ a ∧ a ≤ 65535) = false := by simpa using ha
          have er : respB k f a n w t = false := by unfold respB; rw [ha2, Bool.false_and, Bool.and_false, Bool.and_false, Bool.and_false]
          rw [ha2, er, Bool.not_false]; exact no
      · have hW2 : w.all wordB = false := by simpa using hW
        have er : respB k f a n w t = false := by unfold respB; rw [hW2, Bool.false_and, Bool.and_false, Bool.and_false]
        simp only [hW2, Bool.false_eq_true, if_false, er]; exact no
    · have h2' : decide (0 ≤ f ∧ f ≤ 255) = false := by simpa using h2
      have er : respB k f a n w t = false := by unfold respB; rw [h2', Bool.false_and, Bool.and_false]
      simp only [h2', Bool.false_eq_true, if_false, er]; exact no
  · have h1' : kindB k = false := by simpa using h1
    have er : respB k f a n w t = false := by unfold respB; rw [h1', Bool.false_and]
    simp only [h1', Bool.false_eq_true, if_false, er]; exact no
theorem respB_facts {k f a n : Int} {w : List Int} {t : List Bool} (h : respB k f a n w t = true) : kindB k = true ∧ 0 ≤ f ∧ f ≤ 255 ∧ 0 ≤ a ∧ a ≤ 65535 ∧
    (f = 0 → (k = 5 → w.length = 0 ∧ t.length = 1) ∧ (k = 6 → w.length = 1 ∧ t.length = 0) ∧ (k = 22 → w.length = 2 ∧ t.length = 0)) := by
  unfold respB at h
  rw [Bool.and_eq_true, Bool.and_eq_true, Bool.and_eq_true, Bool.and_eq_true, decide_eq_true_iff, decide_eq_true_iff] at h
  obtain ⟨hk, hf, _, ha, h2⟩ := h
  refine ⟨hk, hf.1, hf.2, ha.1, ha.2, fun h0 => ?_⟩
  subst h0
  generalize w.length = W at h2 ⊢
  generalize t.length = T at h2 ⊢
  rcases kind_cases hk with rfl | rfl | rfl | rfl | rfl | rfl | rfl | rfl | rfl | rfl <;> simp at h2 ⊢ <;> omega
theorem encW_nil : encW [] = [] := rfl
theorem encW_cons (x : Int) (l : List Int) : encW (x :: l) = x / 256 % 256 :: x % 256 :: encW l := rfl
theorem encW_append (l m : List Int) : encW (l ++ m) = encW l ++ encW m := List.flatMap_append
/-- A coil as a word. -/
def coilW (b : Bool) : Int := if b = true then 65280 else 0
theorem evFin {x y : List Int} (h : x = y) : Ev (fun _ : Nat => some x) y := h ▸ Ev.now _
theorem evEq {g : Nat → Option (List Int)} {r : List Int} (h : ∀ k, g (k + 1) = some r) : Ev g r := evUp (by rw [show (fun k => g (k + 1)) = fun _ => some r from funext h]; exact Ev.now r)
theorem lt_lim {a b : Nat} (h0 : a ≤ 100) (h1 : b ≤ 1048576) : a + 2 * b < 35184372088832 := by omega
theorem impl_putWords_eq (l0 l1 : List Int) (h : l1.length ≠ 0) (h0 : l0.length ≤ 100) (h1 : l1.length ≤ 1048576) : impl_putWords.f l0 l1 = some (l0 ++ encW l1) := by
  unfold impl_putWords.f
  rw [if_neg h, if_pos (lt_lim h0 h1)]
theorem few1 (x : Int) : ([x] : List Int).length ≠ 0 ∧ ([x] : List Int).length ≤ 100 := ⟨by simp, by simp⟩
theorem few2 (x y : Int) : ([x, y] : List Int).length ≠ 0 ∧ ([x, y] : List Int).length ≤ 100 := ⟨by simp, by simp⟩
theorem few4 (x y z u : Int) : ([x, y, z, u] : List Int).length ≠ 0 ∧ ([x, y, z, u] : List Int).length ≤ 100 := ⟨by simp, by simp⟩
theorem few_le {n : Nat} (h : n ≤ 100) : n ≤ 1048576 := by omega
theorem impl_putCounted_eq (l0 l1 : List Int) (h0 : l0.length ≤ 100) (h1 : l1.length ≤ 8388608) : impl_putCounted.f l0 l1 = some (l0 ++ ((l1.length : Int) % 256 :: l1)) := by
  unfold impl_putCounted.f
  rw [if_pos (by omega)]
theorem impl_bitWord_eq (b : Bool) : impl_bitWord.f b = some (coilW b) := by cases b <;> rfl
section
variable (a : Int) (w : List Int)
theorem put_two (k x y : Int) : impl_putWords.f [k % 256] [x, y] = some ([k % 256] ++ encW [x, y]) := impl_putWords_eq _ _ (few2 _ _).1 (few1 _).2 (few_le (few2 _ _).2)
theorem put_one (k a : Int) : impl_putWords.f [k % 256] [a] = some ([k % 256] ++ encW [a]) := impl_putWords_eq _ _ (few1 _).1 (few1 _).2 (few_le (few1 _).2)
theorem put_four (k x y z u : Int) : impl_putWords.f [k % 256] [x, y, z, u] = some ([k % 256] ++ encW [x, y, z, u]) := impl_putWords_eq _ _ (few4 _ _ _ _).1 (few1 _).2 (few_le (few4 _ _ _ _).2)
theorem put_more (k : Int) (h0 : w.length ≠ 0) (hw : w.length ≤ 1048576) : impl_putWords.f ([k % 256] ++ encW [a]) w = some ([k % 256] ++ encW [a] ++ encW w) := impl_putWords_eq _ _ h0 (by simp [encW_length]) hw
theorem put_words (h0 : w.length ≠ 0) (hw : w.length ≤ 1048576) : impl_putWords.f [] w = some (encW w) := impl_putWords_eq _ _ h0 (by simp) hw
theorem put_cnt (X l : List Int) (hX : X.length ≤ 100) (hl : l.length ≤ 8388608) : impl_putCounted.f X l = some (X ++ ((l.length : Int) % 256 :: l)) := impl_putCounted_eq _ _ hX hl
end
def respBody (k a n : Int) (w : List Int) (t : List Bool) : List Int :=
  if k = 1 ∨ k = 2 then ((packed t).length : Int) % 256 :: packed t
  else if k = 3 ∨ k = 4 ∨ k = 23 then (2 * (w.length : Int)) % 256 :: encW w
  else if k = 5 then encW [a, coilW (rdOf false t 0)] else if k = 6 ∨ k = 22 then encW [a] ++ encW w
  else encW [a, n]
def putRespOf (k f a n : Int) (w : List Int) (t : List Bool) : List Int := if respB k f a n w t = true then (if f = 0 then k % 256 :: respBody k a n w t else [(k + 128) % 256, f % 256]) else []
/-- What is known of a right answer of no fault. -/
theorem respB_more {k a n : Int} {w : List Int} {t : List Bool} (h : respB k 0 a n w t = true) :
    ((k = 1 ∨ k = 2) → w.length = 0 ∧ 1 ≤ t.length ∧ t.length ≤ 2000) ∧ ((k = 3 ∨ k = 4 ∨ k = 23) → 1 ≤ w.length ∧ w.length ≤ 125 ∧ t.length = 0) ∧
    (k = 5 → w.length = 0 ∧ t.length = 1) ∧ (k = 6 → w.length = 1 ∧ t.length = 0) ∧ (k = 22 → w.length = 2 ∧ t.length = 0) := by
  unfold respB at h
  rw [Bool.and_eq_true, Bool.and_eq_true, Bool.and_eq_true, Bool.and_eq_true, decide_eq_true_iff, decide_eq_true_iff] at h
  obtain ⟨hk, hf, _, ha, h2⟩ := h
  generalize w.length = W at h2 ⊢
  generalize t.length = T at h2 ⊢
  rcases kind_cases hk with rfl | rfl | rfl | rfl | rfl | rfl | rfl | rfl | rfl | rfl <;> simp at h2 ⊢ <;> omega
theorem impl_PackBits_l0 (bits : List Bool) (hl : bits.length ≤ 140737488351232) (d : Nat) : ∀ i : Nat, i ≤ bits.length → bits.length - i = d →
    Ev (fun k => impl_PackBits.l0 k (packTo bits ((bits.length + 7) / 8) i) bits (bits.length : Int) (i : Int)) (packed bits) := by
  induction d with
  | zero =>
    intro i hi hd
    obtain rfl : i = bits.length := by omega
    refine evUp ?_
    have h1 : ¬ ((bits.length : Nat) : Int) < (bits.length : Int) := by omega
    simp only [impl_PackBits.l0, h1, if_false]
    exact Ev.now _
  | succ d ih =>
    intro i hi hd
    have hlt : i < bits.length := by omega
    refine evUp ?_
    have h1 : (i : Int) < (bits.length : Int) := by omega
    have h2 : 0 ≤ (i : Int) := by omega
    have e1 : wrap64 (Int.tdiv (i : Int) 8) = ((i / 8 : Nat) : Int) := by rw [tdiv_pos h2, w64 (by omega) (by omega)]; omega
    have e2 : Int.tmod (i : Int) 8 = ((i % 8 : Nat) : Int) := by rw [tmod_pos h2]; omega
    have h3 : 0 ≤ ((i / 8 : Nat) : Int) := by omega
    have h4 : ((i / 8 : Nat) : Int) < ((packTo bits ((bits.length + 7) / 8) i).length : Int) := by rw [packTo_length]; omega
    have h5 : 0 ≤ ((i % 8 : Nat) : Int) := by omega
    have e3 : wrap64 ((i : Int) + 1) = ((i + 1 : Nat) : Int) := by rw [w64 (by omega) (by omega)]; omega
    have hg : bits.getD i false = bits[i] := by rw [List.getD_eq_getElem?_getD, List.getElem?_eq_getElem hlt]; rfl
    have hn := ih (i + 1) (by omega) (by omega)
    simp only [impl_PackBits.l0, h1, h2, if_true, rdOf_get hlt, e1, e2, h3, h4, h5, e3, Int.toNat_natCast]
    simp only [packTo, hg] at hn
    by_cases hc : bits[i] = true
    · simp only [hc, if_true] at hn ⊢
      exact hn
    · simp only [hc, if_false] at hn ⊢
      exact hn

theorem impl_PackBits_ev (bits : List Bool) (hl : bits.length ≤ 140737488351232) : Ev (fun k => impl_PackBits.f k bits) (packed bits) := by
  have h := impl_PackBits_l0 bits hl bits.length 0 (by omega) (by omega)
  have e1 : wrap64 (Int.tdiv (wrap64 ((bits.length : Int) + 7)) 8) = (((bits.length + 7) / 8 : Nat) : Int) := by
    rw [w64 (x := (bits.length : Int) + 7) (by omega) (by omega), tdiv_pos (by omega), w64 (by omega) (by omega)]; omega
  have h1 : 0 ≤ (((bits.length + 7) / 8 : Nat) : Int) := by omega
  have h2 : (bits.length + 7) / 8 ≤ 281474976710656 := by omega
  simp only [impl_PackBits.f, e1, h1, if_true, Int.toNat_natCast, h2]
  exact h
section
variable (a n : Int) (w : List Int) (t : List Bool)
theorem resp_1 (k : Int) (r : Nat) : impl_PutResp.j0 (r + 1) [k % 256] k true k 0 a n w t = (impl_PackBits.f r t).bind fun p => (impl_putCounted.f [k % 256] p).bind fun q => some q := by
  rw [impl_PutResp.j0, if_pos rfl]
theorem resp_words (k x : Int) (h0 : w.length ≠ 0) (hw : w.length ≤ 1048576) (r : Nat) : impl_PutResp.j1 (r + 1) [k % 256] x true k 0 a n w t = some ([k % 256] ++ (((encW w).length : Int) % 256 :: encW w)) := by
  rw [impl_PutResp.j1, if_pos rfl, put_words w h0 hw, Option.bind_some, put_cnt _ _ (few1 _).2 (by rw [encW_length]; omega)]; rfl
theorem resp_coil (c : (0 : Int) < (t.length : Int)) (r : Nat) : impl_PutResp.j1 (r + 1) [5 % 256] 5 false 5 0 a n w t = some ([5 % 256] ++ encW [a, coilW (rdOf false t 0)]) := by
  rw [impl_PutResp.j1, if_neg (by decide), if_pos rfl, if_pos c, impl_bitWord_eq, Option.bind_some, put_two]; rfl
theorem resp_two (k : Int) (r : Nat) : impl_PutResp.j2 (r + 1) [k % 256] true k 0 a n w t = some ([k % 256] ++ encW [a, n]) := by
  rw [impl_PutResp.j2, if_pos rfl, put_two]; rfl
theorem resp_more (k : Int) (h0 : w.length ≠ 0) (hw : w.length ≤ 1048576) (r : Nat) : impl_PutResp.j2 (r + 1) [k % 256] false k 0 a n w t = some ([k % 256] ++ encW [a] ++ encW w) := by
  rw [impl_PutResp.j2, if_neg (by decide), put_one, Option.bind_some, put_more a w k h0 hw]; rfl
theorem resp_j0_3 (k : Int) (h : k = 3) (r : Nat) : impl_PutResp.j0 (r + 1) [k % 256] k false k 0 a n w t = impl_PutResp.j1 r [k % 256] k (k == 3) k 0 a n w t := by
  rw [impl_PutResp.j0, if_neg (by decide), if_pos h]
theorem resp_j0_4 (k : Int) (h : k = 4) (r : Nat) : impl_PutResp.j0 (r + 1) [k % 256] k false k 0 a n w t = impl_PutResp.j1 r [k % 256] k (k == 4) k 0 a n w t := by
  rw [impl_PutResp.j0, if_neg (by decide), if_neg (by omega), if_pos h]
theorem resp_j0_n (k : Int) (h : k ≠ 3 ∧ k ≠ 4) (r : Nat) : impl_PutResp.j0 (r + 1) [k % 256] k false k 0 a n w t = impl_PutResp.j1 r [k % 256] k (k == 23) k 0 a n w t := by
  rw [impl_PutResp.j0, if_neg (by decide), if_neg h.1, if_neg h.2]
theorem resp_j1_15 (k : Int) (h : k = 15) (r : Nat) : impl_PutResp.j1 (r + 1) [k % 256] k false k 0 a n w t = impl_PutResp.j2 r [k % 256] (k == 15) k 0 a n w t := by
  rw [impl_PutResp.j1, if_neg (by decide), if_neg (by omega), if_pos h]
theorem resp_j1_n (k : Int) (h : k ≠ 5 ∧ k ≠ 15) (r : Nat) : impl_PutResp.j1 (r + 1) [k % 256] k false k 0 a n w t = impl_PutResp.j2 r [k % 256] (k == 16) k 0 a n w t := by
  rw [impl_PutResp.j1, if_neg (by decide), if_neg h.1, if_neg h.2]
end
theorem evTo {α : Type} {g h : Nat → Option α} {r : α} (e : ∀ k, g (k + 1) = h k) (hh : Ev h r) : Ev g r := evUp (by rw [show (fun k => g (k + 1)) = h from funext e]; exact hh)
theorem evR {g : Nat → Option (List Int)} {x y : List Int} (h : ∀ k, g (k + 1) = some x) (e : x = y) : Ev g y := e ▸ evEq h
theorem impl_PutResp_ev (k f a n : Int) (w : List Int) (t : List Bool) (hw : w.length ≤ 1048576) (ht : t.length ≤ 1048576) : Ev (fun r => impl_PutResp.f r k f a n w t) (putRespOf k f a n w t) := by
  have hp := packed_length t
  simp only [impl_PutResp.f, putRespOf]
  refine evBind (impl_RespOk_ev k f a n w t) ?_
  by_cases hr : respB k f a n w t = true
  · obtain ⟨hk, hf0, _, _, _, _⟩ := respB_facts hr
    simp only [hr, if_true]
    by_cases hf : f = 0
    · subst hf
      obtain ⟨f12, f34, f5, f6, f22⟩ := respB_more hr
      simp only [if_true, Option.bind_some]
      have el : (((encW w).length : Nat) : Int) = 2 * (w.length : Int) := by rw [encW_length]; omega
      have first : ∀ k : Int, Ev (fun r => impl_PutResp.j0 r [k % 256] k true k 0 a n w t) (k % 256 :: (((packed t).length : Int) % 256 :: packed t)) := fun k => by
        refine evTo (resp_1 a n w t k) ?_
        refine evBind (impl_PackBits_ev t (by omega)) ?_
        rw [put_cnt _ _ (few1 _).2 (by omega)]
        exact Ev.now _
      rcases kind_cases hk with rfl | rfl | rfl | rfl | rfl | rfl | rfl | rfl | rfl | rfl
      all_goals simp only [Int.reduceEq, if_false, if_true, false_or, or_false, respBody]
      · exact first 1
      · exact first 2
      · exact evTo (resp_j0_3 a n w t 3 rfl) (evR (resp_words a n w t 3 3 (by have := f34 (by omega); omega) hw) (by rw [el]; rfl))
      · exact evTo (resp_j0_4 a n w t 4 rfl) (evR (resp_words a n w t 4 4 (by have := f34 (by omega); omega) hw) (by rw [el]; rfl))
      · exact evTo (resp_j0_n a n w t 5 (by decide)) (evR (resp_coil a n w t (by have := (f5 rfl).2; omega)) rfl)
      · exact evTo (resp_j0_n a n w t 6 (by decide)) (evTo (resp_j1_n a n w t 6 (by decide)) (evR (resp_more a n w t 6 (by have := f6 rfl; omega) hw) (by rw [List.append_assoc]; rfl)))
      · exact evTo (resp_j0_n a n w t 15 (by decide)) (evTo (resp_j1_15 a n w t 15 rfl) (evR (resp_two a n w t 15) rfl))
      · exact evTo (resp_j0_n a n w t 16 (by decide)) (evTo (resp_j1_n a n w t 16 (by decide)) (evR (resp_two a n w t 16) rfl))
      · exact evTo (resp_j0_n a n w t 22 (by decide)) (evTo (resp_j1_n a n w t 22 (by decide)) (evR (resp_more a n w t 22 (by have := f22 rfl; omega) hw) (by rw [List.append_assoc]; rfl)))
      · exact evTo (resp_j0_n a n w t 23 (by decide)) (evR (resp_words a n w t 23 23 (by have := f34 (by omega); omega) hw) (by rw [el]; rfl))
    · have e1 : Go.bits .or .u8 (k % 256) 128 = (k + 128) % 256 := by
        rcases kind_cases hk with rfl | rfl | rfl | rfl | rfl | rfl | rfl | rfl | rfl | rfl <;> decide
      simp only [hf, if_false, e1]; exact Ev.now _
  · simp only [hr, if_false]; exact Ev.now _
/-- Bytes are what their bits are. -/
theorem bytes_ext {x y : List Int} (hx : B8 x) (hy : B8 y) (hl : x.length = y.length) (h : ∀ j, j < 8 * x.length → bitOf x j = bitOf y j) : x = y := by
  apply List.ext_getElem hl
  intro i h1 h2
  have ga := hx _ (List.getElem_mem h1)
  have gb := hy _ (List.getElem_mem h2)
  obtain ⟨a, ha⟩ := Int.eq_ofNat_of_zero_le ga.1
  obtain ⟨b, hb⟩ := Int.eq_ofNat_of_zero_le gb.1
  have e : a = b := by
    apply Nat.eq_of_testBit_eq
    intro j
    by_cases hj : j < 8
    · have h3 := h (8 * i + j) (by omega)
      unfold bitOf at h3
      rw [show (8 * i + j) / 8 = i by omega, show (8 * i + j) % 8 = j by omega, List.getD_eq_getElem?_getD, List.getD_eq_getElem?_getD, List.getElem?_eq_getElem h1, List.getElem?_eq_getElem h2, Option.getD_some, Option.getD_some, ha, hb, Int.toNat_natCast, Int.toNat_natCast] at h3
      exact h3
    · have h8 : (2 : Nat) ^ 8 ≤ 2 ^ j := Nat.pow_le_pow_right (by decide) (by omega)
      rw [Nat.testBit_lt_two_pow (by omega), Nat.testBit_lt_two_pow (by omega)]
  rw [ha, hb, e]
/-- What unpacks comes back of its bits. -/
theorem packed_bitsOf {l : List Int} (hb : B8 l) {n : Nat} (h1 : n ≤ 8 * l.length) (h2 : 8 * l.length - n ≤ 7) (hs : noneSet l n (8 * l.length - n) = true) : packed (bitsOf l n) = l := by
  have hl : (packed (bitsOf l n)).length = l.length := by rw [packed_length, bitsOf_length]; omega
  refine bytes_ext (packed_8 _) hb hl fun j hj => ?_
  rw [packed_bit _ j (by rw [bitsOf_length]; omega)]
  by_cases c : j < n
  · rw [List.getD_eq_getElem?_getD, List.getElem?_eq_getElem (by rw [bitsOf_length]; exact c)]
    simp [bitsOf]
  · rw [List.getD_eq_getElem?_getD, List.getElem?_eq_none (by rw [bitsOf_length]; omega), Option.getD_none]
    unfold noneSet at hs
    rw [List.all_eq_true] at hs
    have h3 := hs (j - n) (by rw [List.mem_range]; omega)
    rw [show n + (j - n) = j by omega] at h3
    cases hq : bitOf l j with
    | false => rfl
    | true => rw [hq] at h3; cases h3
/-- Words out of bytes, as many as are there whole. -/
def decW : List Int → List Int
  | a :: b :: r => (a * 256 + b) :: decW r
  | _ => []
theorem decW_length : ∀ l : List Int, (decW l).length = l.length / 2
  | [] => rfl
  | [_] => by simp [decW]
  | a :: b :: r => by
    have := decW_length r
    simp only [decW, List.length_cons]; omega
theorem encW_decW : ∀ l : List Int, B8 l → l.length % 2 = 0 → encW (decW l) = l
  | [], _, _ => rfl
  | [_], _, h => by simp at h
  | a :: b :: r, hb, h => by
    have ha := hb a (by simp)
    have hb2 := hb b (by simp)
    have hr := encW_decW r (fun x hx => hb x (by simp [hx])) (by simp only [List.length_cons] at h; omega)
    have e1 : (a * 256 + b) / 256 % 256 = a := by omega
    have e2 : (a * 256 + b) % 256 = b := by omega
    rw [show decW (a :: b :: r) = (a * 256 + b) :: decW r from rfl, encW_cons, hr, e1, e2]
theorem decW_words : ∀ l : List Int, B8 l → ∀ x ∈ decW l, 0 ≤ x ∧ x ≤ 65535
  | [], _ => fun x hx => by cases hx
  | [_], _ => fun x hx => by cases hx
  | a :: b :: r, hb => fun x hx => by
    have ha := hb a (by simp)
    have hb2 := hb b (by simp)
    rcases List.mem_cons.1 hx with rfl | h
    · omega
    · exact decW_words r (fun x hx => hb x (by simp [hx])) x h
theorem decW_drop_step {l : List Int} {i : Nat} (h : i + 1 < l.length) : decW (l.drop i) = (l[i] * 256 + l[i + 1]) :: decW (l.drop (i + 2)) := by
  rw [List.drop_eq_getElem_cons (by omega), List.drop_eq_getElem_cons (by omega)]
  rfl
theorem decW_drop_none {l : List Int} {i : Nat} (h : ¬ i + 1 < l.length) : decW (l.drop i) = [] := by
  have hl : (l.drop i).length ≤ 1 := by rw [List.length_drop]; omega
  match l.drop i, hl with
  | [], _ => rfl
  | [_], _ => rfl
  | _ :: _ :: _, h => simp at h
/-- The word that lies at a place, where it lies there whole. -/
def wordOf (l : List Int) (a : Int) : Int × Bool := if 0 ≤ a ∧ a + 2 ≤ (l.length : Int) then (rd l a * 256 + rd l (a + 1), true) else (0, false)

theorem impl_WordAt_eq (l : List Int) (a : Int) (hl : l.length ≤ 140737488355328) (hb : B8 l) : impl_WordAt.f l a = some (wordOf l a) := by
  have e0 : wrap64 ((l.length : Int) - 2) = (l.length : Int) - 2 := w64 (by omega) (by omega)
  by_cases h0 : a ≥ 0
  · by_cases h1 : a ≤ (l.length : Int) - 2
    · have h2 : a < (l.length : Int) := by omega
      have e1 : wrap64 (a + 1) = a + 1 := w64 (by omega) (by omega)
      have h3 : 0 ≤ a + 1 := by omega
      have h4 : a + 1 < (l.length : Int) := by omega
      have h5 : 0 ≤ a := h0
      have r1 := hb.rd (i := a) h5 h2
      have r2 := hb.rd (i := a + 1) h3 h4
      have hw : wordOf l a = (rd l a * 256 + rd l (a + 1), true) := by unfold wordOf; rw [if_pos ⟨h5, by omega⟩]
      simp only [impl_WordAt.f, impl_in.f, e0, h0, h1, if_true, decide_true, Option.bind_some, h5, h2, e1, h3, h4, hw]
      rw [w64 (x := rd l a) (by omega) (by omega), w64 (x := rd l (a + 1)) (by omega) (by omega), w64 (x := rd l a * 256) (by omega) (by omega), or_byte r1.1 r1.2 r2.1 r2.2]
    · have hw : wordOf l a = (0, false) := by unfold wordOf; rw [if_neg (by omega)]
      simp only [impl_WordAt.f, impl_in.f, e0, h0, h1, if_true, decide_false, Bool.false_eq_true, if_false, Option.bind_some, hw]
  · have hw : wordOf l a = (0, false) := by unfold wordOf; rw [if_neg (by omega)]
    simp only [impl_WordAt.f, impl_in.f, e0, h0, Bool.false_eq_true, if_false, Option.bind_some, hw]
theorem impl_UnpackBits_l0 (l : List Int) (hl : l.length ≤ 1048576) (hb : B8 l) (n : Nat) (hn : n ≤ 8 * l.length) (d : Nat) : ∀ i : Nat, i ≤ 8 * l.length → 8 * l.length - i = d →
    Ev (fun k => impl_UnpackBits.l0 k l (n : Int) (bitsOf l (min i n) ++ List.replicate (n - min i n) false) (((8 * l.length : Nat)) : Int) (i : Int)) (if noneSet l (max i n) (8 * l.length - max i n) = true then (bitsOf l n, true) else ([], false)) := by
  induction d with
  | zero =>
    intro i hi hd
    obtain rfl : i = 8 * l.length := by omega
    refine evUp ?_
    have h1 : ¬ ((8 * l.length : Nat) : Int) < ((8 * l.length : Nat) : Int) := by omega
    have e1 : min (8 * l.length) n = n := Nat.min_eq_right hn
    have e2 : max (8 * l.length) n = 8 * l.length := Nat.max_eq_left hn
    simp only [impl_UnpackBits.l0, h1, if_false, e1, e2, Nat.sub_self, List.replicate_zero, List.append_nil]
    exact Ev.now _
  | succ d ih =>
    intro i hi hd
    refine evUp ?_
    have h1 : (i : Int) < ((8 * l.length : Nat) : Int) := by omega
    have h2 : 0 ≤ (i : Int) := by omega
    have e1 : wrap64 (Int.tdiv (i : Int) 8) = ((i / 8 : Nat) : Int) := by rw [tdiv_pos h2, w64 (by omega) (by omega)]; omega
    have e2 : Int.tmod (i : Int) 8 = ((i % 8 : Nat) : Int) := by rw [tmod_pos h2]; omega
    have h3 : 0 ≤ ((i / 8 : Nat) : Int) := by omega
    have h4 : ((i / 8 : Nat) : Int) < (l.length : Int) := by omega
    have h5 : 0 ≤ ((i % 8 : Nat) : Int) := by omega
    have e3 : wrap64 ((i : Int) + 1) = ((i + 1 : Nat) : Int) := by rw [w64 (by omega) (by omega)]; omega
    have hr := bit_read hb (i := i) (by omega)
    have hnx := ih (i + 1) (by omega) (by omega)
    by_cases hc : i < n
    · have c1 : (i : Int) < (n : Int) := by omega
      have m1 : min i n = i := by omega
      have m2 : min (i + 1) n = i + 1 := by omega
      have m3 : max i n = n := by omega
      have m4 : max (i + 1) n = n := by omega
      have h6 : (i : Int) < ((bitsOf l i ++ List.replicate (n - i) false).length : Int) := by
        rw [List.length_append, bitsOf_length, List.length_replicate]; omega
      have e4 : (bitsOf l i ++ List.replicate (n - i) false).set i (bitOf l i) = bitsOf l (i + 1) ++ List.replicate (n - (i + 1)) false := by
        rw [show n - i = (n - (i + 1)) + 1 from by omega, List.replicate_succ, List.set_append_right _ _ (by rw [bitsOf_length]; omega), bitsOf_length, Nat.sub_self, List.set_cons_zero, bitsOf_succ, List.append_assoc]
        rfl
      rw [m2, m4] at hnx
      simp only [m1, m3, impl_UnpackBits.l0, h1, h2, if_true, e1, e2, h3, h4, h5, e3, Int.toNat_natCast, c1, h6, hr, e4]
      exact hnx
    · have c1 : ¬ (i : Int) < (n : Int) := by omega
      have m1 : min i n = n := by omega
      have m2 : min (i + 1) n = n := by omega
      have m3 : max i n = i := by omega
      have m4 : max (i + 1) n = i + 1 := by omega
      rw [m2, m4] at hnx
      have e5 : noneSet l i (8 * l.length - i) = (!bitOf l i && noneSet l (i + 1) (8 * l.length - (i + 1))) := by
        rw [show 8 * l.length - i = (8 * l.length - (i + 1)) + 1 from by omega, noneSet_succ]
      by_cases hs : bitOf l i = true
      · have hq : Go.bits .and .u8 (shr .u8 (rd l ((i / 8 : Nat) : Int)) ((i % 8 : Nat) : Int)) 1 = 1 := by rw [hs] at hr; simpa using hr
        simp only [m1, m3, impl_UnpackBits.l0, h1, if_true, e1, e2, h3, h4, h5, c1, if_false, hq, e5, hs, Bool.not_true, Bool.false_and, Bool.false_eq_true]
        exact Ev.now _
      · have hs2 : bitOf l i = false := by simpa using hs
        have hq : ¬ Go.bits .and .u8 (shr .u8 (rd l ((i / 8 : Nat) : Int)) ((i % 8 : Nat) : Int)) 1 = 1 := by rw [hs2] at hr; simpa using hr
        simp only [m1, m3, impl_UnpackBits.l0, h1, if_true, e1, e2, h3, h4, h5, e3, c1, if_false, hq, e5, hs2, Bool.not_false, Bool.true_and]
        exact hnx

theorem impl_UnpackBits_ev (l : List Int) (hl : l.length ≤ 1048576) (hb : B8 l) (n : Int) (hn : n ≤ 9223372036854775807) : Ev (fun k => impl_UnpackBits.f k l n) (unpackOf l n) := by
  have e1 : wrap64 (8 * (l.length : Int)) = ((8 * l.length : Nat) : Int) := by rw [w64 (by omega) (by omega)]; omega
  by_cases h1 : n < 0
  · have hu : unpackOf l n = ([], false) := by unfold unpackOf; rw [if_pos (by omega)]
    rw [hu]
    simp only [impl_UnpackBits.f, h1, if_true]
    refine evUp ?_
    simp only [impl_UnpackBits.j0, if_true]
    exact Ev.now _
  · by_cases h2 : n > ((8 * l.length : Nat) : Int)
    · have hu : unpackOf l n = ([], false) := by unfold unpackOf; rw [if_pos (by omega)]
      rw [hu]
      simp only [impl_UnpackBits.f, h1, if_false, e1, h2, if_true]
      refine evUp ?_
      simp only [impl_UnpackBits.j0, if_true]
      exact Ev.now _
    · obtain ⟨m, rfl⟩ := Int.eq_ofNat_of_zero_le (show 0 ≤ n by omega)
      have e2 : wrap64 (((8 * l.length : Nat) : Int) - (m : Int)) = ((8 * l.length : Nat) : Int) - (m : Int) := w64 (by omega) (by omega)
      by_cases h3 : ((8 * l.length : Nat) : Int) - (m : Int) > 7
      · have hu : unpackOf l (m : Int) = ([], false) := by unfold unpackOf; rw [if_pos (by omega)]
        rw [hu]
        simp only [impl_UnpackBits.f, h1, if_false, e1, h2, e2, h3, decide_true]
        refine evUp ?_
        simp only [impl_UnpackBits.j0, if_true]
        exact Ev.now _
      · have hu : unpackOf l (m : Int) = if noneSet l m (8 * l.length - m) = true then (bitsOf l m, true) else ([], false) := by
          unfold unpackOf; rw [if_neg (by omega), Int.toNat_natCast]
        rw [hu]
        have h4 : 0 ≤ (m : Int) := by omega
        have h5 : m ≤ 281474976710656 := by omega
        have h := impl_UnpackBits_l0 l hl hb m (by omega) (8 * l.length) 0 (by omega) (by omega)
        rw [show min 0 m = 0 from by omega, show max 0 m = m from by omega] at h
        simp only [impl_UnpackBits.f, h1, if_false, e1, h2, e2, h3, decide_false]
        refine evUp ?_
        simp only [impl_UnpackBits.j0, Bool.false_eq_true, if_false, h4, if_true, Int.toNat_natCast, h5, e1]
        exact h
theorem unpack_length (l : List Int) (n : Int) (hl : l.length ≤ 1048576) : (unpackOf l n).1.length ≤ 8388608 := by
  unfold unpackOf
  split
  · simp
  · split
    · rw [bitsOf_length]; omega
    · simp
theorem evEqA {α : Type} {g : Nat → Option α} {r : α} (h : ∀ k, g (k + 1) = some r) : Ev g r := evUp (by rw [show (fun k => g (k + 1)) = fun _ => some r from funext h]; exact Ev.now r)
theorem evTo' {α : Type} {g h : Nat → Option α} {r : α} (e : ∀ k, g (k + 1) = h k) (hh : Ev h r) : Ev g r := evUp (by rw [show (fun k => g (k + 1)) = h from funext e]; exact hh)
theorem evSame {α : Type} {g h : Nat → Option α} {r : α} (e : ∀ k, g k = h k) (hh : Ev h r) : Ev g r := by rw [show g = h from funext e]; exact hh
theorem B8_drop {l : List Int} (h : B8 l) (n : Nat) : B8 (l.drop n) := fun x hx => h x (List.mem_of_mem_drop hx)
theorem impl_byte_no {l : List Int} {p : Int} (h1 : (l.length : Int) ≤ p) (b : Bool) : impl_taker_byte.f l p b = some (0, p, true) := by
  cases b
  · rw [impl_taker_byte.f, if_neg (by decide), if_pos h1]
  · rw [impl_taker_byte.f, if_pos rfl]
theorem impl_byte_bad {l : List Int} {p : Int} : impl_taker_byte.f l p true = some (0, p, true) := by rw [impl_taker_byte.f, if_pos rfl]
theorem impl_rest_ok {l : List Int} {p : Int} (h0 : 0 ≤ p) (h1 : p ≤ (l.length : Int)) : impl_taker_rest.f l p = some (l.drop p.toNat) := by rw [impl_taker_rest.f, if_pos h0, if_pos h1]
theorem words_stop {l : List Int} {p : Int} (n i : Int) (out : List Int) : Ev (fun k => impl_taker_words.l0 k n out i l p true) (out, p, true) := evEqA fun k => by
  rw [impl_taker_words.l0]
  by_cases c : i < n
  · rw [if_pos c, if_pos rfl]
  · rw [if_neg c]
section
variable {l : List Int} {p : Int} (hl : l.length ≤ 1048576) (hb : B8 l)
include hl hb
theorem impl_word_ok (h0 : 0 ≤ p) (h1 : p + 2 ≤ (l.length : Int)) : impl_taker_word.f l p false = some (rd l p * 256 + rd l (p + 1), p + 2, false) := by
  have e : wordOf l p = (rd l p * 256 + rd l (p + 1), true) := by unfold wordOf; rw [if_pos ⟨h0, h1⟩]
  rw [impl_taker_word.f, impl_WordAt_eq l p (by omega) hb, Option.bind_some, e, if_neg (by decide), if_pos rfl, w64 (x := p + 2) (by omega) (by omega)]
theorem impl_word_no (h : ¬ (0 ≤ p ∧ p + 2 ≤ (l.length : Int))) (b : Bool) : impl_taker_word.f l p b = some (0, p, true) := by
  have e : wordOf l p = (0, false) := by unfold wordOf; rw [if_neg h]
  rw [impl_taker_word.f, impl_WordAt_eq l p (by omega) hb, Option.bind_some, e]
  cases b <;> rfl
theorem impl_word_bad : impl_taker_word.f l p true = some (0, p, true) := by
  rw [impl_taker_word.f, impl_WordAt_eq l p (by omega) hb, Option.bind_some, if_pos rfl]
theorem impl_byte_ok (h0 : 0 ≤ p) (h1 : p < (l.length : Int)) : impl_taker_byte.f l p false = some (rd l p, p + 1, false) := by
  have r := hb.rd h0 h1
  have e1 : wrap64 (p + 1) = p + 1 := w64 (by omega) (by omega)
  have e2 : wrap64 (p + 1 - 1) = p := by rw [w64 (by omega) (by omega)]; omega
  rw [impl_taker_byte.f, if_neg (by decide), if_neg (by omega), e1, e2, if_pos h0, if_pos h1, w64 (by omega) (by omega)]
theorem impl_counted_ok (h0 : 0 ≤ p) (h1 : p < (l.length : Int)) : impl_taker_counted.f l p false = some (l.drop (p + 1).toNat, (l.length : Int), ((l.drop (p + 1).toNat).length : Int) != rd l p) := by
  rw [impl_taker_counted.f, impl_byte_ok hl hb h0 h1, Option.bind_some]
  dsimp only
  rw [impl_rest_ok (by omega) (by omega), Option.bind_some, Bool.false_or]
theorem impl_counted_bad (h0 : 0 ≤ p) (h1 : p ≤ (l.length : Int)) : impl_taker_counted.f l p true = some (l.drop p.toNat, (l.length : Int), true) := by
  have _h1 := hl
  have _h2 := hb
  rw [impl_taker_counted.f, impl_byte_bad, Option.bind_some]
  dsimp only
  rw [impl_rest_ok h0 h1, Option.bind_some, Bool.true_or]
theorem impl_counted_no (h1 : p = (l.length : Int)) (b : Bool) : impl_taker_counted.f l p b = some ([], (l.length : Int), true) := by
  have _h1 := hl
  have _h2 := hb
  rw [impl_taker_counted.f, impl_byte_no (by omega), Option.bind_some]
  dsimp only
  rw [impl_rest_ok (by omega) (by omega), Option.bind_some, Bool.true_or, h1, Int.toNat_natCast, List.drop_length]
/-- What a counted part tells: there is always something, and the taker is at the end. -/
theorem impl_counted_any (h0 : 0 ≤ p) (h1 : p ≤ (l.length : Int)) (b : Bool) : ∃ r c, impl_taker_counted.f l p b = some (r, (l.length : Int), c) ∧ r.length ≤ 1048576 ∧ B8 r ∧ (b = true → c = true) := by
  cases b with
  | true => exact ⟨_, _, impl_counted_bad hl hb h0 h1, by rw [List.length_drop]; omega, B8_drop hb _, fun _ => rfl⟩
  | false =>
    by_cases h2 : p < (l.length : Int)
    · exact ⟨_, _, impl_counted_ok hl hb h0 h2, by rw [List.length_drop]; omega, B8_drop hb _, fun h => by cases h⟩
    · exact ⟨[], true, impl_counted_no hl hb (by omega) false, by simp, B8.nil, fun h => by cases h⟩
theorem decW_take (h0 : 0 ≤ p) (h1 : p + 2 ≤ (l.length : Int)) (d : Nat) : decW ((l.drop p.toNat).take (2 * (d + 1))) = (rd l p * 256 + rd l (p + 1)) :: decW ((l.drop (p + 2).toNat).take (2 * d)) := by
  have _h1 := hl
  have _h2 := hb
  have g0 : p.toNat < l.length := by omega
  have g1 : p.toNat + 1 < l.length := by omega
  have e1 : rd l p = l[p.toNat] := by
    have h := rd_get g0
    rwa [Int.toNat_of_nonneg h0] at h
  have e2 : rd l (p + 1) = l[p.toNat + 1] := by
    have h := rd_get g1
    rwa [show ((p.toNat + 1 : Nat) : Int) = p + 1 by omega] at h
  rw [List.drop_eq_getElem_cons g0, List.drop_eq_getElem_cons g1, show 2 * (d + 1) = (2 * d + 1) + 1 by omega, List.take_succ_cons, List.take_succ_cons, e1, e2, show (p + 2).toNat = p.toNat + 1 + 1 by omega]
  rfl
theorem words_l0_ok (n : Nat) (hn : n ≤ 1048576) (d : Nat) : ∀ (i : Nat) (p : Int) (out : List Int), i + d = n → out.length ≤ i → 0 ≤ p → p + 2 * (d : Int) ≤ (l.length : Int) →
    Ev (fun k => impl_taker_words.l0 k (n : Int) out (i : Int) l p false) (out ++ decW ((l.drop p.toNat).take (2 * d)), p + 2 * (d : Int), false) := by
  induction d with
  | zero =>
    intro i p out hi _ h0 h1
    have e : decW ((l.drop p.toNat).take (2 * 0)) = [] := by simp [decW]
    rw [e, List.append_nil, show p + 2 * ((0 : Nat) : Int) = p by omega]
    exact evEqA fun k => by rw [impl_taker_words.l0, if_neg (by omega)]
  | succ d ih =>
    intro i p out hi ho h0 h1
    have h := ih (i + 1) (p + 2) (out ++ [rd l p * 256 + rd l (p + 1)]) (by omega) (by rw [List.length_append, List.length_singleton]; omega) (by omega) (by omega)
    rw [decW_take hl hb h0 (by omega), show p + 2 * ((d + 1 : Nat) : Int) = p + 2 + 2 * (d : Int) by omega]
    rw [List.append_assoc] at h
    refine evTo' (fun k => ?_) h
    rw [impl_taker_words.l0, if_pos (by omega), if_neg (by decide), impl_word_ok hl hb h0 (by omega), Option.bind_some, if_pos (by omega), w64 (x := (i : Int) + 1) (by omega) (by omega)]
    rfl
theorem words_l0_no (n : Nat) (hn : n ≤ 1048576) (d : Nat) : ∀ (i : Nat) (p : Int) (out : List Int), i + d = n → out.length ≤ i → 0 ≤ p → p ≤ (l.length : Int) → ¬ p + 2 * (d : Int) ≤ (l.length : Int) →
    ∃ r q, Ev (fun k => impl_taker_words.l0 k (n : Int) out (i : Int) l p false) (r, q, true) ∧ r.length ≤ n := by
  induction d with
  | zero => intro i p out _ _ h0 h1 h2; exact absurd h1 (by omega)
  | succ d ih =>
    intro i p out hi ho h0 h1 h2
    by_cases c : p + 2 ≤ (l.length : Int)
    · obtain ⟨r, q, h, hq⟩ := ih (i + 1) (p + 2) (out ++ [rd l p * 256 + rd l (p + 1)]) (by omega) (by rw [List.length_append, List.length_singleton]; omega) (by omega) (by omega) (by omega)
      refine ⟨r, q, evTo' (fun k => ?_) h, hq⟩
      rw [impl_taker_words.l0, if_pos (by omega), if_neg (by decide), impl_word_ok hl hb h0 c, Option.bind_some, if_pos (by omega), w64 (x := (i : Int) + 1) (by omega) (by omega)]
      rfl
    · refine ⟨out ++ [0], p, evTo' (fun k => ?_) (words_stop (l := l) (p := p) (n : Int) ((i + 1 : Nat) : Int) (out ++ [0])), by rw [List.length_append, List.length_singleton]; omega⟩
      rw [impl_taker_words.l0, if_pos (by omega), if_neg (by decide), impl_word_no hl hb (by omega), Option.bind_some, if_pos (by omega), w64 (x := (i : Int) + 1) (by omega) (by omega)]
      rfl
theorem impl_words_ok (n : Nat) (hn : n ≤ 1048576) (h0 : 0 ≤ p) (h1 : p + 2 * (n : Int) ≤ (l.length : Int)) : Ev (fun k => impl_taker_words.f k l p false (n : Int)) (decW ((l.drop p.toNat).take (2 * n)), p + 2 * (n : Int), false) := by
  have h := words_l0_ok hl hb n hn n 0 p [] (by omega) (by simp) h0 h1
  rw [List.nil_append] at h
  exact h
theorem impl_words_no (n : Nat) (hn : n ≤ 1048576) (h0 : 0 ≤ p) (h1 : p ≤ (l.length : Int)) (h2 : ¬ p + 2 * (n : Int) ≤ (l.length : Int)) : ∃ r q, Ev (fun k => impl_taker_words.f k l p false (n : Int)) (r, q, true) ∧ r.length ≤ n := by
  obtain ⟨r, q, h, hr⟩ := words_l0_no hl hb n hn n 0 p [] (by omega) (by simp) h0 h1 h2
  exact ⟨r, q, h, hr⟩
theorem impl_words_bad (n : Int) : Ev (fun k => impl_taker_words.f k l p true n) ([], p, true) := by
  have _h1 := hl
  have _h2 := hb
  exact words_stop n 0 []
/-- Counted words that are right. -/
theorem impl_cw_ok (n : Nat) (hn : n ≤ 65535) (h0 : 0 ≤ p) (h1 : p < (l.length : Int)) (h2 : ((l.drop (p + 1).toNat).length : Int) = rd l p) (h3 : (l.drop (p + 1).toNat).length = 2 * n) :
    Ev (fun k => impl_taker_countedWords.f k l p false (n : Int)) (decW (l.drop (p + 1).toNat), (l.length : Int), false) := by
  have e1 : (((l.drop (p + 1).toNat).length : Int) != rd l p) = false := bne_eq_false_iff_eq.2 h2
  have e2 : wrap64 (2 * (n : Int)) = 2 * (n : Int) := w64 (by omega) (by omega)
  have e3 : (((l.drop (p + 1).toNat).length : Int) != 2 * (n : Int)) = false := bne_eq_false_iff_eq.2 (by omega)
  have hr : (l.drop (p + 1).toNat).length ≤ 1048576 := by rw [List.length_drop]; omega
  have hw := impl_words_ok (p := 0) hr (B8_drop hb _) n (by omega) (by omega) (by omega)
  rw [show (0 : Int).toNat = 0 from rfl, List.drop_zero, ← h3, List.take_length] at hw
  refine evSame (h := fun k => (impl_taker_words.f k (l.drop (p + 1).toNat) 0 false (n : Int)).bind fun u => some (u.1, (l.length : Int), false)) (fun k => ?_) (evBind hw (Ev.now _))
  rw [impl_taker_countedWords.f, impl_counted_ok hl hb h0 h1, Option.bind_some]
  dsimp only
  rw [e2, e1, e3, if_neg (by decide)]
/-- Counted words that are not. -/
theorem impl_cw_no' (n : Int) (hn : 0 ≤ n ∧ n ≤ 4611686018427387) (h0 : 0 ≤ p) (h1 : p ≤ (l.length : Int)) (b : Bool)
    (h : ¬ (b = false ∧ p < (l.length : Int) ∧ ((l.drop (p + 1).toNat).length : Int) = rd l p ∧ ((l.drop (p + 1).toNat).length : Int) = 2 * n)) (k : Nat) :
    impl_taker_countedWords.f k l p b n = some ([], (l.length : Int), true) := by
  have e2 : wrap64 (2 * n) = 2 * n := w64 (by omega) (by omega)
  have bad : ∀ r, impl_taker_counted.f l p b = some (r, (l.length : Int), true) → impl_taker_countedWords.f k l p b n = some ([], (l.length : Int), true) := fun r hr => by
    rw [impl_taker_countedWords.f, hr, Option.bind_some]
    dsimp only
    rw [if_pos (by rw [Bool.true_or])]
  cases b with
  | true => exact bad _ (impl_counted_bad hl hb h0 h1)
  | false =>
    by_cases h2 : p < (l.length : Int)
    · have hc := impl_counted_ok hl hb h0 h2
      by_cases h3 : ((l.drop (p + 1).toNat).length : Int) = rd l p
      · have e3 : (((l.drop (p + 1).toNat).length : Int) != 2 * n) = true := by
          rw [bne_iff_ne]; exact fun e => h ⟨rfl, h2, h3, e⟩
        rw [impl_taker_countedWords.f, hc, Option.bind_some]
        dsimp only
        rw [e2, e3, if_pos (by rw [Bool.or_true])]
      · have e1 : (((l.drop (p + 1).toNat).length : Int) != rd l p) = true := bne_iff_ne.2 h3
        rw [e1] at hc
        exact bad _ hc
    · exact bad _ (impl_counted_no hl hb (by omega) false)
theorem impl_cw_no (n : Int) (hn : 0 ≤ n ∧ n ≤ 65535) (h0 : 0 ≤ p) (h1 : p ≤ (l.length : Int)) (b : Bool)
    (h : ¬ (b = false ∧ p < (l.length : Int) ∧ ((l.drop (p + 1).toNat).length : Int) = rd l p ∧ ((l.drop (p + 1).toNat).length : Int) = 2 * n)) (k : Nat) :
    impl_taker_countedWords.f k l p b n = some ([], (l.length : Int), true) := impl_cw_no' hl hb n ⟨hn.1, by omega⟩ h0 h1 b h k
end
theorem split5 {l : List Int} (h : 5 ≤ l.length) : ∃ k x0 x1 x2 x3 r, l = k :: x0 :: x1 :: x2 :: x3 :: r := by
  match l, h with
  | k :: x0 :: x1 :: x2 :: x3 :: r, _ => exact ⟨k, x0, x1, x2, x3, r, rfl⟩
  | [], h => simp at h
  | [_], h => simp at h
  | [_, _], h => simp at h
  | [_, _, _], h => simp at h
  | [_, _, _, _], h => simp at h
theorem wordOf_at {l : List Int} {p : Int} (h0 : 0 ≤ p) (h1 : p + 2 ≤ (l.length : Int)) : wordOf l p = (rd l p * 256 + rd l (p + 1), true) := by unfold wordOf; rw [if_pos ⟨h0, h1⟩]
theorem word_range {l : List Int} (hb : B8 l) {p : Int} (h0 : 0 ≤ p) (h1 : p + 2 ≤ (l.length : Int)) : 0 ≤ rd l p * 256 + rd l (p + 1) ∧ rd l p * 256 + rd l (p + 1) ≤ 65535 := by
  have r1 := hb.rd (i := p) h0 (by omega)
  have r2 := hb.rd (i := p + 1) (by omega) (by omega)
  omega
theorem encW_two (x y : Int) : encW [x, y] = [x / 256 % 256, x % 256, y / 256 % 256, y % 256] := rfl
theorem encW_one (x : Int) : encW [x] = [x / 256 % 256, x % 256] := rfl
theorem unpackOf_no {r : List Int} {n : Int} (h : (unpackOf r n).2 ≠ true) : (unpackOf r n).1 = [] := by
  unfold unpackOf at h ⊢
  split
  · rfl
  · rename_i c
    rw [if_neg c] at h
    split
    · rename_i c2
      rw [if_pos c2] at h
      exact absurd rfl h
    · rfl
theorem unpackOf_yes {r : List Int} {n : Int} (h : (unpackOf r n).2 = true) : 0 ≤ n ∧ n ≤ 8 * (r.length : Int) ∧ 8 * (r.length : Int) - n ≤ 7 ∧ noneSet r n.toNat (8 * r.length - n.toNat) = true ∧ (unpackOf r n).1 = bitsOf r n.toNat := by
  unfold unpackOf at h ⊢
  by_cases c : n < 0 ∨ n > 8 * (r.length : Int) ∨ 8 * (r.length : Int) - n > 7
  · rw [if_pos c] at h; cases h
  · rw [if_neg c] at h ⊢
    by_cases c2 : noneSet r n.toNat (8 * r.length - n.toNat) = true
    · rw [if_pos c2]
      exact ⟨by omega, by omega, by omega, c2, rfl⟩
    · rw [if_neg c2] at h; cases h
theorem unpackOf_len (r : List Int) (n : Int) : (unpackOf r n).1.length ≤ n.toNat := by
  cases hu : (unpackOf r n).2 with
  | true => rw [(unpackOf_yes hu).2.2.2.2, bitsOf_length]; omega
  | false => rw [unpackOf_no (by rw [hu]; decide)]; simp
theorem rd_first {l : List Int} {K : Int} (hb : B8 l) (h : rd l 0 = K) (hK : K ≠ 0 := by decide) : 1 ≤ l.length := by
  cases l with
  | nil => exact absurd h.symm hK
  | cons => simp
theorem rd_pos {l : List Int} {K : Int} (_hb : B8 l) (h : rd l 0 = K ∨ rd l 0 = 2 ∨ rd l 0 = 4 ∨ rd l 0 = 23) (hK : K ≠ 0 := by decide) : 1 ≤ l.length := by
  cases l with
  | nil =>
    have e : rd [] 0 = 0 := rfl
    rw [e] at h
    omega
  | cons => simp
section
variable {l : List Int} (hl : l.length ≤ 1048576) (hb : B8 l)
include hl hb
theorem bit_ev {p n p' : Int} {b b' : Bool} (w : impl_taker_word.f l p b = some (n, p', b')) : impl_taker_bit.f l p b = some ([n != 0], p', b' || (n != 0 && n != 65280)) := by
  have _h1 := hl
  have _h2 := hb
  rw [impl_taker_bit.f, w, Option.bind_some]
  dsimp only
  cases b' with
  | true => rw [if_pos rfl]; rfl
  | false =>
    rw [if_neg (by decide)]
    by_cases c : n = 0
    · rw [if_pos c]; subst c; rfl
    · rw [if_neg c, show (n != 0) = true from bne_iff_ne.2 c]; rfl
end
theorem putRespOf_yes {k a n : Int} {w : List Int} {t : List Bool} (h : respB k 0 a n w t = true) : putRespOf k 0 a n w t = k % 256 :: respBody k a n w t := by unfold putRespOf; rw [if_pos h, if_pos rfl]
theorem and_127 {x : Int} (h0 : 0 ≤ x) (h1 : x ≤ 255) : Go.bits .and .u8 x 127 = x % 128 := bits_mask .u8 8 (by decide) wraps_u8 7 (by decide) x h0 (by omega)
/-- All bits behind the first two bytes. -/
def bitsR (l : List Int) : List Bool := bitsOf (l.drop 2) (8 * (l.drop 2).length)
/-- The answer that bytes may be, if it is no fault. -/
def candR (l : List Int) : Int × Int × Int × Int × List Int × List Bool :=
  if rd l 0 < 3 then (rd l 0, 0, 0, 0, [], bitsR l)
  else if rd l 0 < 5 ∨ rd l 0 = 23 then (rd l 0, 0, 0, 0, decW (l.drop 2), [])
  else if rd l 0 = 5 then (rd l 0, 0, (wordOf l 1).1, 0, [], [(wordOf l 3).1 != 0])
  else if rd l 0 = 6 ∨ rd l 0 = 22 then (rd l 0, 0, (wordOf l 1).1, 0, decW (l.drop 3), [])
  else (rd l 0, 0, (wordOf l 1).1, (wordOf l 3).1, [], [])
def respT (q : Int × Int × Int × Int × List Int × List Bool) : Bool := respB q.1 q.2.1 q.2.2.1 q.2.2.2.1 q.2.2.2.2.1 q.2.2.2.2.2
def putRT (q : Int × Int × Int × Int × List Int × List Bool) : List Int := putRespOf q.1 q.2.1 q.2.2.1 q.2.2.2.1 q.2.2.2.2.1 q.2.2.2.2.2
/-- What the taker tells of an answer: right, or not. -/
def ShapeR (l : List Int) : Prop := ∃ k f a n w t p b, Ev (fun r => impl_taker_resp.f r l 1 false (rd l 0)) (k, f, a, n, w, t, p, b) ∧ w.length ≤ 1048576 ∧ t.length ≤ 8388608 ∧
  ((b = false ∧ p = (l.length : Int) ∧ candR l = (k, f, a, n, w, t) ∧ (respT (candR l) = true → putRT (candR l) = l)) ∨ ((b = true ∨ p ≠ (l.length : Int)) ∧ ¬ (respT (candR l) = true ∧ putRT (candR l) = l)))
section
variable {l : List Int} {a n p p' : Int} {b b' : Bool} {w : List Int} {t : List Bool}
theorem resp_1_ev (K : Int) (h : K = 1 ∨ K = 2) {u : List Int} {m : Int} {ok : Bool} (hm : wrap64 (8 * mx 0 (wrap64 ((l.length : Int) - 2))) = m) (w1 : impl_taker_counted.f l 1 false = some (u, p', b')) (w2 : Ev (fun k => impl_UnpackBits.f k u m) (t, ok)) : Ev (fun k => impl_taker_resp.f k l 1 false K) (K, 0, 0, 0, [], t, p', b') := by
  refine evSame (h := fun k => (impl_UnpackBits.f k u m).bind fun q => some (K, 0, 0, 0, [], q.1, p', b')) (fun k => ?_) (evBind w2 (Ev.now _))
  rw [impl_taker_resp.f, if_pos h, w1, Option.bind_some, hm]
theorem resp_3_ev (K : Int) (h : K = 3 ∨ K = 4 ∨ K = 23) {m : Int} (hm : wrap64 (Int.tdiv (mx 0 (wrap64 ((l.length : Int) - 2))) 2) = m) (w1 : Ev (fun k => impl_taker_countedWords.f k l 1 false m) (w, p', b')) : Ev (fun k => impl_taker_resp.f k l 1 false K) (K, 0, 0, 0, w, [], p', b') := by
  refine evSame (h := fun k => (impl_taker_countedWords.f k l 1 false m).bind fun q => some (K, 0, 0, 0, q.1, [], q.2.1, q.2.2)) (fun k => ?_) (evBind w1 (Ev.now _))
  rw [impl_taker_resp.f, if_neg (by omega), if_pos h, hm]
theorem resp_5_ev (w1 : impl_taker_word.f l 1 false = some (a, p, b)) (w2 : impl_taker_bit.f l p b = some (t, p', b')) : Ev (fun k => impl_taker_resp.f k l 1 false 5) (5, 0, a, 0, [], t, p', b') := evEqA fun k => by
  rw [impl_taker_resp.f, if_neg (by decide), if_neg (by decide), if_pos rfl, w1, Option.bind_some]
  dsimp only
  rw [w2, Option.bind_some]
theorem resp_15_ev (K : Int) (h : K = 15 ∨ K = 16) (w1 : impl_taker_word.f l 1 false = some (a, p, b)) (w2 : impl_taker_word.f l p b = some (n, p', b')) : Ev (fun k => impl_taker_resp.f k l 1 false K) (K, 0, a, n, [], [], p', b') := evEqA fun k => by
  rw [impl_taker_resp.f, if_neg (by omega), if_neg (by omega), if_neg (by omega), if_pos h, w1, Option.bind_some]
  dsimp only
  rw [w2, Option.bind_some]
theorem resp_6_ev (w1 : impl_taker_word.f l 1 false = some (a, p, b)) (w2 : Ev (fun k => impl_taker_words.f k l p b 1) (w, p', b')) : Ev (fun k => impl_taker_resp.f k l 1 false 6) (6, 0, a, 0, w, [], p', b') := by
  refine evSame (h := fun k => (impl_taker_words.f k l p b 1).bind fun q => some (6, 0, a, 0, q.1, [], q.2.1, q.2.2)) (fun k => ?_) (evBind w2 (Ev.now _))
  rw [impl_taker_resp.f, if_neg (by decide), if_neg (by decide), if_neg (by decide), if_neg (by decide), if_pos rfl, w1, Option.bind_some]
theorem resp_22_ev (w1 : impl_taker_word.f l 1 false = some (a, p, b)) (w2 : Ev (fun k => impl_taker_words.f k l p b 2) (w, p', b')) : Ev (fun k => impl_taker_resp.f k l 1 false 22) (22, 0, a, 0, w, [], p', b') := by
  refine evSame (h := fun k => (impl_taker_words.f k l p b 2).bind fun q => some (22, 0, a, 0, q.1, [], q.2.1, q.2.2)) (fun k => ?_) (evBind w2 (Ev.now _))
  rw [impl_taker_resp.f, if_neg (by decide), if_neg (by decide), if_neg (by decide), if_neg (by decide), if_neg (by decide), if_pos rfl, w1, Option.bind_some]
end
section
variable {l : List Int} (hl : l.length ≤ 1048576) (hb : B8 l)
include hl hb
theorem shapeR_bits (h : rd l 0 = 1 ∨ rd l 0 = 2) : ShapeR l := by
  have hc : candR l = (rd l 0, 0, 0, 0, [], bitsR l) := by unfold candR; rw [if_pos (by omega)]
  have hlb : (bitsR l).length = 8 * (l.drop 2).length := by unfold bitsR; rw [bitsOf_length]
  have hpk : packed (bitsR l) = l.drop 2 := packed_bitsOf (B8_drop hb 2) (Nat.le_refl _) (by omega) (by rw [Nat.sub_self]; rfl)
  have hput : respT (candR l) = true → (l.drop 2).length ≤ 250 ∧ putRT (candR l) = rd l 0 :: (((l.drop 2).length : Int) % 256 :: l.drop 2) := fun hq => by
    rw [hc] at hq ⊢
    have hq' : respB (rd l 0) 0 0 0 [] (bitsR l) = true := hq
    obtain ⟨f12, _⟩ := respB_more hq'
    have f := f12 h
    refine ⟨by omega, ?_⟩
    unfold putRT
    rw [putRespOf_yes hq]
    unfold respBody
    dsimp only
    rw [if_pos h, hpk, show rd l 0 % 256 = rd l 0 by omega]
  have h1 := rd_pos hb (K := 1) (by omega)
  unfold ShapeR
  by_cases c2 : 2 ≤ l.length
  · have hd : (l.drop 2).length = l.length - 2 := List.length_drop
    have w1 := impl_counted_ok hl hb (p := 1) (by omega) (by omega)
    rw [show ((1 : Int) + 1).toNat = 2 from rfl] at w1
    have hm : wrap64 (8 * mx 0 (wrap64 ((l.length : Int) - 2))) = 8 * ((l.drop 2).length : Int) := by
      rw [w64 (x := (l.length : Int) - 2) (by omega) (by omega), show mx 0 ((l.length : Int) - 2) = ((l.drop 2).length : Int) by unfold mx; split <;> omega, w64 (by omega) (by omega)]
    have hu : unpackOf (l.drop 2) (8 * ((l.drop 2).length : Int)) = (bitsR l, true) := by
      unfold unpackOf bitsR
      rw [if_neg (by omega), show (8 * ((l.drop 2).length : Int)).toNat = 8 * (l.drop 2).length by omega, Nat.sub_self, if_pos (show noneSet (l.drop 2) (8 * (l.drop 2).length) 0 = true from rfl)]
    have w2 := impl_UnpackBits_ev (l.drop 2) (by omega) (B8_drop hb 2) (8 * ((l.drop 2).length : Int)) (by omega)
    rw [hu] at w2
    refine ⟨_, _, _, _, [], _, _, _, resp_1_ev (rd l 0) h hm w1 w2, by simp, by omega, ?_⟩
    by_cases g : ((l.drop 2).length : Int) = rd l 1
    · refine .inl ⟨bne_eq_false_iff_eq.2 g, rfl, hc, fun hq => ?_⟩
      obtain ⟨f, e⟩ := hput hq
      rw [e]
      match l, c2 with
      | k :: c :: r, _ =>
        have g' : (r.length : Int) = c := g
        have f' : r.length ≤ 250 := f
        show k :: ((r.length : Int) % 256 :: r) = k :: c :: r
        rw [show (r.length : Int) % 256 = c by omega]
      | [], h => simp at h
      | [_], h => simp at h
    · refine .inr ⟨.inl (bne_iff_ne.2 g), fun hq => g ?_⟩
      obtain ⟨f, e⟩ := hput hq.1
      have e2 := e.symm.trans hq.2
      have e3 : rd (rd l 0 :: (((l.drop 2).length : Int) % 256 :: l.drop 2)) 1 = ((l.drop 2).length : Int) % 256 := rfl
      rw [e2] at e3
      omega
  · have w1 := impl_counted_no hl hb (p := 1) (by omega) false
    have hm : wrap64 (8 * mx 0 (wrap64 ((l.length : Int) - 2))) = 0 := by
      rw [w64 (x := (l.length : Int) - 2) (by omega) (by omega), show mx 0 ((l.length : Int) - 2) = 0 by unfold mx; rw [if_neg (by omega)]]
      unfold wrap64; omega
    have w2 := impl_UnpackBits_ev [] (by simp) B8.nil 0 (by omega)
    have hu : unpackOf [] 0 = ([], true) := rfl
    rw [hu] at w2
    refine ⟨_, _, _, _, [], _, _, _, resp_1_ev (rd l 0) h hm w1 w2, by simp, by simp, .inr ⟨.inl rfl, fun hq => c2 ?_⟩⟩
    obtain ⟨f, e⟩ := hput hq.1
    have e2 := e.symm.trans hq.2
    have e3 := congrArg List.length e2
    simp only [List.length_cons] at e3
    omega
theorem shapeR_words (h : rd l 0 = 3 ∨ rd l 0 = 4 ∨ rd l 0 = 23) : ShapeR l := by
  have hc : candR l = (rd l 0, 0, 0, 0, decW (l.drop 2), []) := by unfold candR; rw [if_neg (by omega), if_pos (by omega)]
  have hput : respT (candR l) = true → (decW (l.drop 2)).length ≤ 125 ∧ putRT (candR l) = rd l 0 :: ((2 * ((decW (l.drop 2)).length : Int)) % 256 :: encW (decW (l.drop 2))) := fun hq => by
    rw [hc] at hq ⊢
    have hq' : respB (rd l 0) 0 0 0 (decW (l.drop 2)) [] = true := hq
    obtain ⟨_, f34, _⟩ := respB_more hq'
    have f := f34 h
    refine ⟨f.2.1, ?_⟩
    unfold putRT
    rw [putRespOf_yes hq]
    unfold respBody
    dsimp only
    rw [if_neg (by omega), if_pos h, show rd l 0 % 256 = rd l 0 by omega]
  have hgood : respT (candR l) = true ∧ putRT (candR l) = l → 1 < l.length ∧ ((l.drop 2).length : Int) = rd l 1 ∧ (l.drop 2).length % 2 = 0 := fun hq => by
    obtain ⟨f, e⟩ := hput hq.1
    have e2 := e.symm.trans hq.2
    have e5 : l.drop 2 = encW (decW (l.drop 2)) := by
      have e6 : (rd l 0 :: ((2 * ((decW (l.drop 2)).length : Int)) % 256 :: encW (decW (l.drop 2)))).drop 2 = encW (decW (l.drop 2)) := rfl
      rw [e2] at e6; exact e6
    have e7 : rd l 1 = (2 * ((decW (l.drop 2)).length : Int)) % 256 := by
      have e6 : rd (rd l 0 :: ((2 * ((decW (l.drop 2)).length : Int)) % 256 :: encW (decW (l.drop 2)))) 1 = (2 * ((decW (l.drop 2)).length : Int)) % 256 := rfl
      rw [e2] at e6; exact e6
    have el : (l.drop 2).length = 2 * (decW (l.drop 2)).length := by
      have := congrArg List.length e5
      rwa [encW_length] at this
    have e3 := congrArg List.length e2
    simp only [List.length_cons] at e3
    refine ⟨by omega, ?_, by omega⟩
    rw [e7]; omega
  have h1 := rd_pos hb (K := 3) (by omega)
  have hd : (l.drop 2).length = l.length - 2 := List.length_drop
  unfold ShapeR
  by_cases g : 1 < l.length ∧ ((l.drop 2).length : Int) = rd l 1 ∧ (l.drop 2).length % 2 = 0
  · obtain ⟨g0, g1, g2⟩ := g
    have hr1 := hb.rd (i := 1) (by omega) (by omega)
    have hm : wrap64 (Int.tdiv (mx 0 (wrap64 ((l.length : Int) - 2))) 2) = (((l.drop 2).length / 2 : Nat) : Int) := by
      rw [w64 (x := (l.length : Int) - 2) (by omega) (by omega), show mx 0 ((l.length : Int) - 2) = ((l.drop 2).length : Int) by unfold mx; split <;> omega, tdiv_pos (by omega), w64 (by omega) (by omega)]
      omega
    have w1 := impl_cw_ok hl hb (p := 1) ((l.drop 2).length / 2) (by omega) (by omega) (by omega) (by rw [show ((1 : Int) + 1).toNat = 2 from rfl]; exact g1) (by rw [show ((1 : Int) + 1).toNat = 2 from rfl]; omega)
    rw [show ((1 : Int) + 1).toNat = 2 from rfl] at w1
    refine ⟨_, _, _, _, _, [], _, _, resp_3_ev (rd l 0) h hm w1, by rw [decW_length]; omega, by simp, .inl ⟨rfl, rfl, hc, fun hq => ?_⟩⟩
    obtain ⟨f, e⟩ := hput hq
    have hdl := decW_length (l.drop 2)
    rw [e, encW_decW _ (B8_drop hb 2) g2, hdl]
    match l, g0 with
    | k :: c :: r, _ =>
      have g' : (r.length : Int) = c := g1
      have g2' : r.length % 2 = 0 := g2
      have hc0 := hb c (by simp)
      show k :: ((2 * ((r.length / 2 : Nat) : Int)) % 256 :: r) = k :: c :: r
      rw [show (2 * ((r.length / 2 : Nat) : Int)) % 256 = c by omega]
    | [], h => simp at h
    | [_], h => simp at h
  · obtain ⟨m, hm⟩ : ∃ m, wrap64 (Int.tdiv (mx 0 (wrap64 ((l.length : Int) - 2))) 2) = m := ⟨_, rfl⟩
    have hm2 : 0 ≤ m ∧ m ≤ 4611686018427387 ∧ (1 < l.length → m = (l.length : Int) / 2 - 1) := by
      rw [w64 (x := (l.length : Int) - 2) (by omega) (by omega)] at hm
      by_cases c : 0 < (l.length : Int) - 2
      · rw [show mx 0 ((l.length : Int) - 2) = (l.length : Int) - 2 by unfold mx; rw [if_pos c], tdiv_pos (by omega), w64 (by omega) (by omega)] at hm
        omega
      · rw [show mx 0 ((l.length : Int) - 2) = 0 by unfold mx; rw [if_neg c], show Int.tdiv 0 2 = 0 from rfl, w64 (by omega) (by omega)] at hm
        omega
    have w1 := impl_cw_no' hl hb (p := 1) m ⟨hm2.1, hm2.2.1⟩ (by omega) (by omega) false (fun hh => by
      rw [show ((1 : Int) + 1).toNat = 2 from rfl] at hh
      have hl1 : 1 < l.length := by omega
      have := hm2.2.2 hl1
      exact g ⟨hl1, hh.2.2.1, by omega⟩)
    exact ⟨_, _, _, _, [], [], _, _, resp_3_ev (rd l 0) h hm (evEqA fun k => w1 (k + 1)), by simp, by simp, .inr ⟨.inl rfl, fun hq => g (hgood hq)⟩⟩
theorem shapeR_15 (h : rd l 0 = 15 ∨ rd l 0 = 16) : ShapeR l := by
  have hc : candR l = (rd l 0, 0, (wordOf l 1).1, (wordOf l 3).1, [], []) := by
    unfold candR; rw [if_neg (by omega), if_neg (by omega), if_neg (by omega), if_neg (by omega)]
  have hput : respT (candR l) = true → putRT (candR l) = rd l 0 :: encW [(wordOf l 1).1, (wordOf l 3).1] := fun hq => by
    rw [hc] at hq ⊢
    unfold putRT
    rw [putRespOf_yes hq]
    unfold respBody
    dsimp only
    rw [if_neg (by omega), if_neg (by omega), if_neg (by omega), if_neg (by omega), show rd l 0 % 256 = rd l 0 by omega]
  have hno : l.length ≠ 5 → ¬ (respT (candR l) = true ∧ putRT (candR l) = l) := fun h5 hq => h5 (by rw [← hq.2, hput hq.1]; rfl)
  unfold ShapeR
  by_cases c3 : 3 ≤ l.length
  · have w1 := impl_word_ok hl hb (p := 1) (by omega) (by omega)
    by_cases c5 : 5 ≤ l.length
    · have w2 := impl_word_ok hl hb (p := 1 + 2) (by omega) (by omega)
      refine ⟨_, _, _, _, [], [], _, _, resp_15_ev (rd l 0) h w1 w2, by simp, by simp, ?_⟩
      by_cases c : l.length = 5
      · refine .inl ⟨rfl, by omega, ?_, fun hq => ?_⟩
        · rw [hc, wordOf_at (by omega) (by omega), wordOf_at (by omega) (by omega)]; rfl
        · rw [hput hq]
          obtain ⟨k, x0, x1, x2, x3, r, rfl⟩ := split5 (by omega : 5 ≤ l.length)
          obtain rfl : r = [] := List.eq_nil_of_length_eq_zero (by simpa using c)
          have h0 := hb x0 (by simp)
          have h1 := hb x1 (by simp)
          have h2 := hb x2 (by simp)
          have h3 := hb x3 (by simp)
          show [k, (x0 * 256 + x1) / 256 % 256, (x0 * 256 + x1) % 256, (x2 * 256 + x3) / 256 % 256, (x2 * 256 + x3) % 256] = [k, x0, x1, x2, x3]
          simp only [List.cons.injEq, and_true, true_and]
          omega
      · exact .inr ⟨.inr (by omega), hno c⟩
    · exact ⟨_, _, _, _, [], [], _, _, resp_15_ev (rd l 0) h w1 (impl_word_no hl hb (by omega) false), by simp, by simp, .inr ⟨.inl rfl, hno (by omega)⟩⟩
  · exact ⟨_, _, _, _, [], [], _, _, resp_15_ev (rd l 0) h (impl_word_no hl hb (by omega) false) (impl_word_bad hl hb), by simp, by simp, .inr ⟨.inl rfl, hno (by omega)⟩⟩
theorem shapeR_5 (h : rd l 0 = 5) : ShapeR l := by
  have hc : candR l = (5, 0, (wordOf l 1).1, 0, [], [(wordOf l 3).1 != 0]) := by
    unfold candR
    rw [if_neg (by omega), if_neg (by omega), if_pos h, h]
  have hput : respT (candR l) = true → putRT (candR l) = 5 :: encW [(wordOf l 1).1, coilW ((wordOf l 3).1 != 0)] := fun hq => by
    rw [hc] at hq ⊢
    unfold putRT
    rw [putRespOf_yes hq]
    rfl
  have hno : l.length ≠ 5 → ¬ (respT (candR l) = true ∧ putRT (candR l) = l) := fun h5 hq => h5 (by rw [← hq.2, hput hq.1]; rfl)
  unfold ShapeR
  rw [h]
  by_cases c3 : 3 ≤ l.length
  · have w1 := impl_word_ok hl hb (p := 1) (by omega) (by omega)
    by_cases c5 : 5 ≤ l.length
    · have w2 := bit_ev hl hb (impl_word_ok hl hb (p := 1 + 2) (by omega) (by omega))
      refine ⟨_, _, _, _, [], _, _, _, resp_5_ev w1 w2, by simp, by simp, ?_⟩
      by_cases c : l.length = 5
      · obtain ⟨k, x0, x1, x2, x3, r, rfl⟩ := split5 (by omega : 5 ≤ l.length)
        obtain rfl : r = [] := List.eq_nil_of_length_eq_zero (by simpa using c)
        have hk := hb k (by simp)
        have h0 := hb x0 (by simp)
        have h1 := hb x1 (by simp)
        have h2 := hb x2 (by simp)
        have h3 := hb x3 (by simp)
        have e1 : wordOf [k, x0, x1, x2, x3] 1 = (x0 * 256 + x1, true) := rfl
        have e3 : wordOf [k, x0, x1, x2, x3] 3 = (x2 * 256 + x3, true) := rfl
        have hk5 : k = 5 := h
        have e4 : rd [k, x0, x1, x2, x3] (1 + 2) * 256 + rd [k, x0, x1, x2, x3] (1 + 2 + 1) = x2 * 256 + x3 := rfl
        rw [hc, e1, e3] at hput ⊢
        rw [e4]
        dsimp only at hput ⊢
        have hcoil : coilW (x2 * 256 + x3 != 0) = if x2 * 256 + x3 = 0 then 0 else 65280 := by
          by_cases z : x2 * 256 + x3 = 0
          · rw [if_pos z, z]; rfl
          · rw [if_neg z, show (x2 * 256 + x3 != 0) = true from bne_iff_ne.2 z]; rfl
        by_cases g : x2 * 256 + x3 = 0 ∨ x2 * 256 + x3 = 65280
        · refine .inl ⟨?_, by simp, by rfl, fun hq => ?_⟩
          · rcases g with g | g <;> rw [g] <;> rfl
          · rw [hput hq, encW_two, hcoil, hk5]
            simp only [List.cons.injEq, and_true, true_and]
            rcases g with g | g
            · rw [if_pos g]; omega
            · rw [if_neg (by omega)]; omega
        · have g1 : x2 * 256 + x3 ≠ 0 := fun z => g (.inl z)
          have g2 : x2 * 256 + x3 ≠ 65280 := fun z => g (.inr z)
          refine .inr ⟨.inl ?_, fun hq => ?_⟩
          · rw [show (x2 * 256 + x3 != 0) = true from bne_iff_ne.2 g1, show (x2 * 256 + x3 != 65280) = true from bne_iff_ne.2 g2]; rfl
          · have e := (hput hq.1).symm.trans hq.2
            rw [encW_two, hcoil, if_neg g1] at e
            simp only [List.cons.injEq, and_true, true_and] at e
            omega
      · exact .inr ⟨.inr (by omega), hno c⟩
    · exact ⟨_, _, _, _, [], _, _, _, resp_5_ev w1 (bit_ev hl hb (impl_word_no hl hb (by omega) false)), by simp, by simp, .inr ⟨.inl rfl, hno (by omega)⟩⟩
  · exact ⟨_, _, _, _, [], _, _, _, resp_5_ev (impl_word_no hl hb (by omega) false) (bit_ev hl hb (impl_word_bad hl hb)), by simp, by simp, .inr ⟨.inl rfl, hno (by omega)⟩⟩
theorem shapeR_more (K : Int) (m : Nat) (hK : (K = 6 ∧ m = 1) ∨ (K = 22 ∧ m = 2)) (h : rd l 0 = K) : ShapeR l := by
  have hm : m ≤ 2 := by omega
  have hc : candR l = (K, 0, (wordOf l 1).1, 0, decW (l.drop 3), []) := by
    unfold candR
    rw [if_neg (by omega), if_neg (by omega), if_neg (by omega), if_pos (by omega), h]
  have hput : respT (candR l) = true → (decW (l.drop 3)).length = m ∧ putRT (candR l) = K :: (encW [(wordOf l 1).1] ++ encW (decW (l.drop 3))) := fun hq => by
    rw [hc] at hq ⊢
    have hq' : respB K 0 (wordOf l 1).1 0 (decW (l.drop 3)) [] = true := hq
    obtain ⟨_, _, _, f6, f22⟩ := respB_more hq'
    refine ⟨?_, ?_⟩
    · rcases hK with ⟨rfl, rfl⟩ | ⟨rfl, rfl⟩
      · exact (f6 rfl).1
      · exact (f22 rfl).1
    · unfold putRT
      rw [putRespOf_yes hq]
      unfold respBody
      dsimp only
      rw [if_neg (by omega), if_neg (by omega), if_neg (by omega), if_pos (by omega), show K % 256 = K by omega]
  have hno : l.length ≠ 3 + 2 * m → ¬ (respT (candR l) = true ∧ putRT (candR l) = l) := fun h5 hq => h5 (by
    obtain ⟨e1, e2⟩ := hput hq.1
    rw [← hq.2, e2, List.length_cons, List.length_append, encW_length, encW_length, e1]
    simp only [List.length_cons, List.length_nil]
    omega)
  have req : ∀ {a p p' : Int} {b b' : Bool} {w : List Int}, impl_taker_word.f l 1 false = some (a, p, b) → Ev (fun k => impl_taker_words.f k l p b (m : Int)) (w, p', b') → Ev (fun k => impl_taker_resp.f k l 1 false K) (K, 0, a, 0, w, [], p', b') := by
    intro a p p' b b' w w1 w2
    rcases hK with ⟨rfl, rfl⟩ | ⟨rfl, rfl⟩
    · exact resp_6_ev w1 w2
    · exact resp_22_ev w1 w2
  unfold ShapeR
  rw [h]
  by_cases c3 : 3 ≤ l.length
  · have w1 := impl_word_ok hl hb (p := 1) (by omega) (by omega)
    by_cases c5 : 3 + 2 * m ≤ l.length
    · have w2 := impl_words_ok hl hb (p := 1 + 2) m (by omega) (by omega) (by omega)
      refine ⟨_, _, _, _, _, [], _, _, req w1 w2, ?_, by simp, ?_⟩
      · rw [decW_length, List.length_take]; omega
      · by_cases c : l.length = 3 + 2 * m
        · have ed : (l.drop (1 + 2 : Int).toNat).take (2 * m) = l.drop 3 := List.take_of_length_le (by rw [show (1 + 2 : Int).toNat = 3 from rfl, List.length_drop]; omega)
          refine .inl ⟨rfl, by omega, ?_, fun hq => ?_⟩
          · rw [hc, ed, wordOf_at (by omega) (by omega)]
          · obtain ⟨_, e2⟩ := hput hq
            rw [e2, encW_decW _ (B8_drop hb 3) (by rw [List.length_drop]; omega), wordOf_at (l := l) (p := 1) (by omega) (by omega)]
            match l, c3 with
            | k :: x0 :: x1 :: r, _ =>
              have h0 := hb x0 (by simp)
              have h1 := hb x1 (by simp)
              have hk : k = K := h
              show K :: ([(x0 * 256 + x1) / 256 % 256, (x0 * 256 + x1) % 256] ++ r) = k :: x0 :: x1 :: r
              rw [hk, show (x0 * 256 + x1) / 256 % 256 = x0 by omega, show (x0 * 256 + x1) % 256 = x1 by omega]
              rfl
            | [], h => simp at h
            | [_], h => simp at h
            | [_, _], h => simp at h
        · exact .inr ⟨.inr (by omega), hno c⟩
    · obtain ⟨r, q, w2, hr⟩ := impl_words_no hl hb (p := 1 + 2) m (by omega) (by omega) (by omega) (by omega)
      exact ⟨_, _, _, _, r, [], _, _, req w1 w2, by omega, by simp, .inr ⟨.inl rfl, hno (by omega)⟩⟩
  · exact ⟨_, _, _, _, [], [], _, _, req (impl_word_no hl hb (by omega) false) (impl_words_bad hl hb (m : Int)), by simp, by simp, .inr ⟨.inl rfl, hno (by omega)⟩⟩
theorem shapeR_all (hk : kindB (rd l 0) = true) : ShapeR l := by
  rcases kind_cases hk with h | h | h | h | h | h | h | h | h | h
  · exact shapeR_bits hl hb (.inl h)
  · exact shapeR_bits hl hb (.inr h)
  · exact shapeR_words hl hb (.inl h)
  · exact shapeR_words hl hb (.inr (.inl h))
  · exact shapeR_5 hl hb h
  · exact shapeR_more hl hb 6 1 (.inl ⟨rfl, rfl⟩) h
  · exact shapeR_15 hl hb (.inl h)
  · exact shapeR_15 hl hb (.inr h)
  · exact shapeR_more hl hb 22 2 (.inr ⟨rfl, rfl⟩) h
  · exact shapeR_words hl hb (.inr (.inr h))
end
theorem respB_len {k f a n : Int} {w : List Int} {t : List Bool} (h : respB k f a n w t = true) : w.length ≤ 1048576 ∧ t.length ≤ 1048576 ∧ kindB k = true ∧ 0 ≤ f ∧ f ≤ 255 := by
  unfold respB at h
  rw [Bool.and_eq_true, Bool.and_eq_true, Bool.and_eq_true, Bool.and_eq_true, decide_eq_true_iff, decide_eq_true_iff] at h
  obtain ⟨hk, hf, _, ha, h2⟩ := h
  generalize w.length = W at h2 ⊢
  generalize t.length = T at h2 ⊢
  by_cases c : f > 0
  · rw [if_pos c, decide_eq_true_iff] at h2
    exact ⟨by omega, by omega, hk, hf.1, hf.2⟩
  · rw [if_neg c] at h2
    refine ⟨?_, ?_, hk, hf.1, hf.2⟩
    all_goals rcases kind_cases hk with rfl | rfl | rfl | rfl | rfl | rfl | rfl | rfl | rfl | rfl <;> simp at h2 ⊢ <;> omega
/-- The fault that bytes may tell. -/
def candF (l : List Int) : Int × Int × Int × Int × List Int × List Bool := (rd l 0 % 128, rd l 1, 0, 0, [], [])
def candA (l : List Int) : Int × Int × Int × Int × List Int × List Bool := if 128 ≤ rd l 0 then candF l else candR l
def tellR (l : List Int) (q : Int × Int × Int × Int × List Int × List Bool) : Int × Int × Int × Int × List Int × List Bool × Int :=
  if respT q = true ∧ putRT q = l then (q.1, q.2.1, q.2.2.1, q.2.2.2.1, q.2.2.2.2.1, q.2.2.2.2.2, 0) else (0, 0, 0, 0, [], [], 3)
/-- What bytes are as an answer: it, and 0; or why there is none. -/
def getRespOf (l : List Int) : Int × Int × Int × Int × List Int × List Bool × Int :=
  if l.length = 0 then (0, 0, 0, 0, [], [], 1) else if kindB (rd l 0 % 128) = true then tellR l (candA l) else (0, 0, 0, 0, [], [], 1)
theorem getRespOf_len (l : List Int) : (getRespOf l).2.2.2.2.1.length ≤ 1048576 ∧ (getRespOf l).2.2.2.2.2.1.length ≤ 1048576 := by
  unfold getRespOf tellR
  split
  · exact ⟨by simp, by simp⟩
  · split
    · split
      · rename_i h
        have hq : respB (candA l).1 (candA l).2.1 (candA l).2.2.1 (candA l).2.2.2.1 (candA l).2.2.2.2.1 (candA l).2.2.2.2.2 = true := h.1
        exact ⟨(respB_len hq).1, (respB_len hq).2.1⟩
      · exact ⟨by simp, by simp⟩
    · exact ⟨by simp, by simp⟩
theorem bitsR_few {l : List Int} (h : l.length ≤ 2) : bitsR l = [] := by
  unfold bitsR; rw [List.drop_eq_nil_of_le h]; rfl
theorem respFin_ok (l : List Int) (q : Int × Int × Int × Int × List Int × List Bool) (hp : respT q = true → putRT q = l) : Ev (fun r => respFin r l q.1 q.2.1 q.2.2.1 q.2.2.2.1 q.2.2.2.2.1 q.2.2.2.2.2 (l.length : Int) false) (tellR l q) := by
  obtain ⟨k, f, a, n, w, t⟩ := q
  unfold respFin tellR
  dsimp only
  simp only [Bool.false_eq_true, if_false, if_true]
  refine evBind (impl_RespOk_ev k f a n w t) ?_
  by_cases hq : respB k f a n w t = true
  · simp only [hq, if_true]
    rw [if_pos ⟨hq, hp hq⟩]; exact Ev.now _
  · have hq2 : respB k f a n w t = false := by simpa using hq
    simp only [hq2, Bool.false_eq_true, if_false]
    rw [if_neg (fun hh => hq hh.1)]; exact Ev.now _
theorem respFin_no (l : List Int) (k f a n : Int) (w : List Int) (t : List Bool) (p : Int) (b : Bool) (q : Int × Int × Int × Int × List Int × List Bool) (h : b = true ∨ p ≠ (l.length : Int)) (hno : ¬ (respT q = true ∧ putRT q = l)) : Ev (fun r => respFin r l k f a n w t p b) (tellR l q) := by
  unfold respFin tellR
  rw [if_neg hno]
  rcases h with rfl | h
  · simp only [if_true]; exact Ev.now _
  · cases b with
    | true => simp only [if_true]; exact Ev.now _
    | false => simp only [Bool.false_eq_true, if_false, h]; exact Ev.now _
theorem impl_GetResp_ev (l : List Int) (hl : l.length ≤ 1048576) (hb : B8 l) : Ev (fun r => impl_GetResp.f r l) (getRespOf l) := by
  by_cases c0 : l.length = 0
  · have e : getRespOf l = (0, 0, 0, 0, [], [], 1) := by unfold getRespOf; rw [if_pos c0]
    rw [e]
    exact evEqA fun k => by rw [impl_GetResp.f, if_pos c0]
  · have hr := hb.rd (i := 0) (by omega) (by omega)
    have em : wrap64 (Go.bits .and .u8 (rd l 0) 127) = rd l 0 % 128 := by rw [and_127 hr.1 hr.2, w64 (by omega) (by omega)]
    by_cases hk : kindB (rd l 0 % 128) = true
    · have e : getRespOf l = tellR l (candA l) := by unfold getRespOf; rw [if_neg c0, if_pos hk]
      rw [e]
      by_cases c128 : 128 ≤ rd l 0
      · have ec : candA l = (rd l 0 % 128, rd l 1, 0, 0, [], []) := by unfold candA; rw [if_pos c128]; rfl
        rw [ec]
        have start : ∀ r, impl_GetResp.f r l = (impl_taker_byte.f l 1 false).bind fun q => respFin r l (rd l 0 % 128) q.1 0 0 [] [] q.2.1 (q.2.2 || (q.1 == 0)) := fun r => by
          rw [impl_GetResp.f, if_neg c0, em, impl_isKind_eq, Option.bind_some, if_pos hk, if_pos c128]
        have hno : ¬ (l.length = 2 ∧ rd l 1 ≠ 0) → ¬ (respT (rd l 0 % 128, rd l 1, 0, 0, [], []) = true ∧ putRT (rd l 0 % 128, rd l 1, 0, 0, [], []) = l) := fun hn hq => hn (by
          obtain ⟨q1, q2⟩ := hq
          have q1' : respB (rd l 0 % 128) (rd l 1) 0 0 [] [] = true := q1
          unfold putRT putRespOf at q2
          dsimp only at q2
          rw [if_pos q1'] at q2
          by_cases cz : rd l 1 = 0
          · rw [if_pos cz] at q2
            have e3 := congrArg (fun z => rd z 0) q2
            have e4 : rd l 0 % 128 % 256 = rd l 0 := e3
            omega
          · rw [if_neg cz] at q2
            have e3 := congrArg List.length q2
            simp only [List.length_cons, List.length_nil] at e3
            exact ⟨by omega, cz⟩)
        by_cases c2 : 1 < l.length
        · have hr1 := hb.rd (i := 1) (by omega) (by omega)
          have w1 := impl_byte_ok hl hb (p := 1) (by omega) (by omega)
          refine evSame (h := fun r => respFin r l (rd l 0 % 128) (rd l 1) 0 0 [] [] (1 + 1) (false || (rd l 1 == 0))) (fun r => by rw [start, w1, Option.bind_some]) ?_
          by_cases cz : l.length = 2 ∧ rd l 1 ≠ 0
          · have e1 : (1 : Int) + 1 = (l.length : Int) := by omega
            rw [e1, show (false || (rd l 1 == 0)) = false by rw [beq_eq_false_iff_ne.2 cz.2]; rfl]
            refine respFin_ok l (rd l 0 % 128, rd l 1, 0, 0, [], []) (fun hq => ?_)
            have q1' : respB (rd l 0 % 128) (rd l 1) 0 0 [] [] = true := hq
            unfold putRT putRespOf
            dsimp only
            rw [if_pos q1', if_neg cz.2]
            match l, cz.1 with
            | [x, y], _ =>
              have hx := hb x (by simp)
              have hy := hb y (by simp)
              have hx2 : 128 ≤ x := c128
              show [(x % 128 + 128) % 256, y % 256] = [x, y]
              simp only [List.cons.injEq, and_true]
              omega
          · refine respFin_no l _ _ 0 0 [] [] _ _ _ ?_ (hno cz)
            by_cases cl : l.length = 2
            · left
              have z : rd l 1 = 0 := Classical.byContradiction fun hz => cz ⟨cl, hz⟩
              rw [z]; rfl
            · right; omega
        · have w1 := impl_byte_no (l := l) (p := 1) (by omega) false
          refine evSame (h := fun r => respFin r l (rd l 0 % 128) 0 0 0 [] [] 1 (true || ((0 : Int) == 0))) (fun r => by rw [start, w1, Option.bind_some]) ?_
          exact respFin_no l _ _ 0 0 [] [] _ _ _ (.inl rfl) (hno (by omega))
      · have ek : rd l 0 % 128 = rd l 0 := by omega
        have ec : candA l = candR l := by unfold candA; rw [if_neg c128]
        rw [ek] at em hk
        rw [ec]
        have start : ∀ r, impl_GetResp.f r l = (impl_taker_resp.f r l 1 false (rd l 0)).bind fun q => respFin r l q.1 q.2.1 q.2.2.1 q.2.2.2.1 q.2.2.2.2.1 q.2.2.2.2.2.1 q.2.2.2.2.2.2.1 q.2.2.2.2.2.2.2 := fun r => by
          rw [impl_GetResp.f, if_neg c0, em, impl_isKind_eq, Option.bind_some, if_pos hk, if_neg c128]
        obtain ⟨k, f, a, n, w, t, p, b, hq, hw, ht, hs⟩ := shapeR_all hl hb hk
        refine evSame start ?_
        refine evBind hq ?_
        dsimp only
        rcases hs with ⟨rfl, rfl, hc, hp⟩ | ⟨hs, hno⟩
        · rw [hc] at hp ⊢
          exact respFin_ok l (k, f, a, n, w, t) hp
        · exact respFin_no l k f a n w t p b _ hs hno
    · have e : getRespOf l = (0, 0, 0, 0, [], [], 1) := by unfold getRespOf; rw [if_neg c0, if_neg hk]
      rw [e]
      exact evEqA fun k => by rw [impl_GetResp.f, if_neg c0, em, impl_isKind_eq, Option.bind_some, if_neg hk]
theorem decW_encW : ∀ w : List Int, (∀ x ∈ w, 0 ≤ x ∧ x ≤ 65535) → decW (encW w) = w
  | [], _ => rfl
  | x :: r, h => by
    have hx := h x (by simp)
    have hr := decW_encW r (fun y hy => h y (by simp [hy]))
    rw [encW_cons]
    show (x / 256 % 256 * 256 + x % 256) :: decW (encW r) = x :: r
    rw [hr, show x / 256 % 256 * 256 + x % 256 = x by omega]
theorem words_of_all {w : List Int} (h : w.all wordB = true) : ∀ x ∈ w, 0 ≤ x ∧ x ≤ 65535 := fun x hx => by
  have := List.all_eq_true.1 h x hx
  unfold wordB at this
  rw [Bool.and_eq_true, decide_eq_true_iff, decide_eq_true_iff] at this
  exact this
/-- What is known of a right answer's numbers. -/
theorem respB_all {k f a n : Int} {w : List Int} {t : List Bool} (h : respB k f a n w t = true) : kindB k = true ∧ 0 ≤ f ∧ f ≤ 255 ∧ (∀ x ∈ w, 0 ≤ x ∧ x ≤ 65535) ∧ 0 ≤ a ∧ a ≤ 65535 ∧
    (f ≠ 0 → a = 0 ∧ n = 0 ∧ w.length = 0 ∧ t.length = 0) ∧
    (f = 0 → ((k = 1 ∨ k = 2) → a = 0 ∧ n = 0 ∧ w.length = 0 ∧ 1 ≤ t.length ∧ t.length ≤ 2000 ∧ t.length % 8 = 0) ∧ ((k = 3 ∨ k = 4 ∨ k = 23) → a = 0 ∧ n = 0 ∧ 1 ≤ w.length ∧ w.length ≤ 125 ∧ t.length = 0) ∧
      (k = 5 → n = 0 ∧ w.length = 0 ∧ t.length = 1) ∧ (k = 6 → n = 0 ∧ w.length = 1 ∧ t.length = 0) ∧ (k = 22 → n = 0 ∧ w.length = 2 ∧ t.length = 0) ∧
      ((k = 15 ∨ k = 16) → 1 ≤ n ∧ n ≤ 1968 ∧ w.length = 0 ∧ t.length = 0)) := by
  unfold respB at h
  rw [Bool.and_eq_true, Bool.and_eq_true, Bool.and_eq_true, Bool.and_eq_true, decide_eq_true_iff, decide_eq_true_iff] at h
  obtain ⟨hk, hf, hw, ha, h2⟩ := h
  refine ⟨hk, hf.1, hf.2, words_of_all hw, ha.1, ha.2, fun h0 => ?_, fun h0 => ?_⟩
  · rw [if_pos (by omega), decide_eq_true_iff] at h2; exact h2
  · subst h0
    generalize w.length = W at h2 ⊢
    generalize t.length = T at h2 ⊢
    rcases kind_cases hk with rfl | rfl | rfl | rfl | rfl | rfl | rfl | rfl | rfl | rfl <;> simp at h2 ⊢ <;> omega
theorem wordOf1 (k x0 x1 : Int) (r : List Int) : wordOf (k :: x0 :: x1 :: r) 1 = (x0 * 256 + x1, true) := by
  rw [wordOf_at (by omega) (by simp only [List.length_cons]; omega)]; rfl
theorem wordOf3 (k x0 x1 x2 x3 : Int) (r : List Int) : wordOf (k :: x0 :: x1 :: x2 :: x3 :: r) 3 = (x2 * 256 + x3, true) := by
  rw [wordOf_at (by omega) (by simp only [List.length_cons]; omega)]; rfl
theorem rd_first0 (x : Int) (l : List Int) : rd (x :: l) 0 = x := rfl
theorem w16 {x : Int} (h0 : 0 ≤ x) (h1 : x ≤ 65535) : x / 256 % 256 * 256 + x % 256 = x := by omega
theorem nil_of {α : Type} {l : List α} (h : l.length = 0) : l = [] := List.eq_nil_of_length_eq_zero h
theorem putR_f {k f a n : Int} {w : List Int} {t : List Bool} (h : respB k f a n w t = true) (hf : f ≠ 0) : putRespOf k f a n w t = [(k + 128) % 256, f % 256] := by
  unfold putRespOf; rw [if_pos h, if_neg hf]
theorem putR_0 {k a n : Int} {w : List Int} {t : List Bool} (h : respB k 0 a n w t = true) : putRespOf k 0 a n w t = k % 256 :: respBody k a n w t := by
  unfold putRespOf; rw [if_pos h, if_pos rfl]
theorem kind_le {k : Int} (h : kindB k = true) : 1 ≤ k ∧ k ≤ 23 := by
  rcases kind_cases h with rfl | rfl | rfl | rfl | rfl | rfl | rfl | rfl | rfl | rfl <;> omega
/-- A right answer comes back of its bytes. -/
theorem candA_put {k f a n : Int} {w : List Int} {t : List Bool} (h : respB k f a n w t = true) : candA (putRespOf k f a n w t) = (k, f, a, n, w, t) := by
  obtain ⟨hk, f0, f1, hw, a0, a1, hF, hN⟩ := respB_all h
  have hk1 := kind_le hk
  by_cases c : f = 0
  · subst c
    obtain ⟨g12, g34, g5, g6, g22, g15⟩ := hN rfl
    have ha := w16 a0 a1
    rw [putR_0 h]
    unfold candA
    rw [rd_first0, if_neg (by omega)]
    unfold candR
    rw [rd_first0]
    rcases kind_cases hk with rfl | rfl | rfl | rfl | rfl | rfl | rfl | rfl | rfl | rfl
    · have g := g12 (.inl rfl)
      obtain rfl := nil_of g.2.2.1
      rw [if_pos (by decide), g.1, g.2.1]
      show (1, 0, 0, 0, [], bitsOf (packed t) (8 * (packed t).length)) = _
      rw [show 8 * (packed t).length = t.length by rw [packed_length]; omega, bitsOf_packed]
    · have g := g12 (.inr rfl)
      obtain rfl := nil_of g.2.2.1
      rw [if_pos (by decide), g.1, g.2.1]
      show (2, 0, 0, 0, [], bitsOf (packed t) (8 * (packed t).length)) = _
      rw [show 8 * (packed t).length = t.length by rw [packed_length]; omega, bitsOf_packed]
    · have g := g34 (.inl rfl)
      obtain rfl := nil_of g.2.2.2.2
      rw [if_neg (by decide), if_pos (by decide), g.1, g.2.1]
      show (3, 0, 0, 0, decW (encW w), []) = _
      rw [decW_encW w hw]
    · have g := g34 (.inr (.inl rfl))
      obtain rfl := nil_of g.2.2.2.2
      rw [if_neg (by decide), if_pos (by decide), g.1, g.2.1]
      show (4, 0, 0, 0, decW (encW w), []) = _
      rw [decW_encW w hw]
    · have g := g5 rfl
      obtain rfl := nil_of g.2.1
      match t, g.2.2 with
      | [b], _ =>
        rw [if_neg (by decide), if_neg (by decide), if_pos (by decide), g.1]
        show (5, 0, (wordOf (5 :: a / 256 % 256 :: a % 256 :: coilW b / 256 % 256 :: coilW b % 256 :: []) 1).1, 0, [], [(wordOf (5 :: a / 256 % 256 :: a % 256 :: coilW b / 256 % 256 :: coilW b % 256 :: []) 3).1 != 0]) = _
        rw [wordOf1, wordOf3, ha]
        cases b <;> rfl
    · have g := g6 rfl
      obtain rfl := nil_of g.2.2
      rw [if_neg (by decide), if_neg (by decide), if_neg (by decide), if_pos (by decide), g.1]
      show (6, 0, (wordOf (6 :: a / 256 % 256 :: a % 256 :: encW w) 1).1, 0, decW (encW w), []) = _
      rw [wordOf1, ha, decW_encW w hw]
    · have g := g15 (.inl rfl)
      obtain rfl := nil_of g.2.2.1
      obtain rfl := nil_of g.2.2.2
      rw [if_neg (by decide), if_neg (by decide), if_neg (by decide), if_neg (by decide)]
      show (15, 0, (wordOf (15 :: a / 256 % 256 :: a % 256 :: n / 256 % 256 :: n % 256 :: []) 1).1, (wordOf (15 :: a / 256 % 256 :: a % 256 :: n / 256 % 256 :: n % 256 :: []) 3).1, [], []) = _
      rw [wordOf1, wordOf3, ha, w16 (by omega) (by omega)]
    · have g := g15 (.inr rfl)
      obtain rfl := nil_of g.2.2.1
      obtain rfl := nil_of g.2.2.2
      rw [if_neg (by decide), if_neg (by decide), if_neg (by decide), if_neg (by decide)]
      show (16, 0, (wordOf (16 :: a / 256 % 256 :: a % 256 :: n / 256 % 256 :: n % 256 :: []) 1).1, (wordOf (16 :: a / 256 % 256 :: a % 256 :: n / 256 % 256 :: n % 256 :: []) 3).1, [], []) = _
      rw [wordOf1, wordOf3, ha, w16 (by omega) (by omega)]
    · have g := g22 rfl
      obtain rfl := nil_of g.2.2
      rw [if_neg (by decide), if_neg (by decide), if_neg (by decide), if_pos (by decide), g.1]
      show (22, 0, (wordOf (22 :: a / 256 % 256 :: a % 256 :: encW w) 1).1, 0, decW (encW w), []) = _
      rw [wordOf1, ha, decW_encW w hw]
    · have g := g34 (.inr (.inr rfl))
      obtain rfl := nil_of g.2.2.2.2
      rw [if_neg (by decide), if_pos (by decide), g.1, g.2.1]
      show (23, 0, 0, 0, decW (encW w), []) = _
      rw [decW_encW w hw]
  · have g := hF c
    obtain rfl := nil_of g.2.2.1
    obtain rfl := nil_of g.2.2.2
    rw [putR_f h c]
    unfold candA
    rw [rd_first0, if_pos (by omega)]
    unfold candF
    rw [rd_first0, show rd [(k + 128) % 256, f % 256] 1 = f % 256 from rfl, show (k + 128) % 256 % 128 = k by omega, show f % 256 = f by omega, g.1, g.2.1]
/-- How long an encoding says that it is. -/
def lenOf (l : List Int) : Int := if 128 ≤ rd l 0 then 2 else if rd l 0 < 5 ∨ rd l 0 = 23 then 2 + rd l 1 else if rd l 0 = 22 then 7 else 5
theorem putR_len {k f a n : Int} {w : List Int} {t : List Bool} (h : respB k f a n w t = true) :
    ((putRespOf k f a n w t).length : Int) = lenOf (putRespOf k f a n w t) ∧ 2 ≤ (putRespOf k f a n w t).length ∧ (f = 0 → 3 ≤ (putRespOf k f a n w t).length) ∧ (putRespOf k f a n w t).length ≤ 10000 ∧ rd (putRespOf k f a n w t) 0 = if f = 0 then k else k + 128 := by
  obtain ⟨hk, f0, f1, hw, a0, a1, hF, hN⟩ := respB_all h
  have hk1 := kind_le hk
  by_cases c : f = 0
  · subst c
    obtain ⟨g12, g34, g5, g6, g22, g15⟩ := hN rfl
    rw [putR_0 h]
    have hp := packed_length t
    have key : ∀ (l : List Int) (m : Nat), k % 256 :: respBody k a n w t = l → l.length = m → 3 ≤ m → m ≤ 10000 → (m : Int) = lenOf l → rd l 0 = k →
        ((k % 256 :: respBody k a n w t).length : Int) = lenOf (k % 256 :: respBody k a n w t) ∧ 2 ≤ (k % 256 :: respBody k a n w t).length ∧ ((0 : Int) = 0 → 3 ≤ (k % 256 :: respBody k a n w t).length) ∧ (k % 256 :: respBody k a n w t).length ≤ 10000 ∧ rd (k % 256 :: respBody k a n w t) 0 = if (0 : Int) = 0 then k else k + 128 := by
      intro l m e h1 h2 h3 h4 h5
      rw [e, h1]
      exact ⟨h4, by omega, fun _ => h2, h3, by rw [if_pos rfl]; exact h5⟩
    rcases kind_cases hk with rfl | rfl | rfl | rfl | rfl | rfl | rfl | rfl | rfl | rfl
    · have g := g12 (.inl rfl)
      refine key (1 :: ((packed t).length : Int) % 256 :: packed t) (2 + (packed t).length) rfl (by simp only [List.length_cons]; omega) (by omega) (by omega) ?_ rfl
      show _ = 2 + ((packed t).length : Int) % 256
      omega
    · have g := g12 (.inr rfl)
      refine key (2 :: ((packed t).length : Int) % 256 :: packed t) (2 + (packed t).length) rfl (by simp only [List.length_cons]; omega) (by omega) (by omega) ?_ rfl
      show _ = 2 + ((packed t).length : Int) % 256
      omega
    · have g := g34 (.inl rfl)
      refine key (3 :: (2 * (w.length : Int)) % 256 :: encW w) (2 + 2 * w.length) rfl (by simp only [List.length_cons, encW_length]; omega) (by omega) (by omega) ?_ rfl
      show _ = 2 + (2 * (w.length : Int)) % 256
      omega
    · have g := g34 (.inr (.inl rfl))
      refine key (4 :: (2 * (w.length : Int)) % 256 :: encW w) (2 + 2 * w.length) rfl (by simp only [List.length_cons, encW_length]; omega) (by omega) (by omega) ?_ rfl
      show _ = 2 + (2 * (w.length : Int)) % 256
      omega
    · exact key _ 5 rfl rfl (by omega) (by omega) rfl rfl
    · have g := g6 rfl
      exact key (6 :: a / 256 % 256 :: a % 256 :: encW w) 5 rfl (by simp only [List.length_cons, encW_length]; omega) (by omega) (by omega) rfl rfl
    · exact key _ 5 rfl rfl (by omega) (by omega) rfl rfl
    · exact key _ 5 rfl rfl (by omega) (by omega) rfl rfl
    · have g := g22 rfl
      exact key (22 :: a / 256 % 256 :: a % 256 :: encW w) 7 rfl (by simp only [List.length_cons, encW_length]; omega) (by omega) (by omega) rfl rfl
    · have g := g34 (.inr (.inr rfl))
      refine key (23 :: (2 * (w.length : Int)) % 256 :: encW w) (2 + 2 * w.length) rfl (by simp only [List.length_cons, encW_length]; omega) (by omega) (by omega) ?_ rfl
      show _ = 2 + (2 * (w.length : Int)) % 256
      omega
  · rw [putR_f h c]
    have e : rd [(k + 128) % 256, f % 256] 0 = k + 128 := by rw [rd_first0]; omega
    refine ⟨?_, by simp, fun h0 => absurd h0 c, by simp, by rw [if_neg c]; exact e⟩
    unfold lenOf
    rw [e, if_pos (by omega)]; rfl
theorem encR_prefix {q p : Int × Int × Int × Int × List Int × List Bool} (hq : respT q = true) (hp : respT p = true) (h : ∀ i : Nat, i < (putRT q).length → rd (putRT q) (i : Int) = rd (putRT p) (i : Int)) : (putRT q).length = (putRT p).length := by
  obtain ⟨e1, l1, _, _, _⟩ := putR_len hq
  obtain ⟨e2, _, _, _, _⟩ := putR_len hp
  change ((putRT q).length : Int) = lenOf (putRT q) at e1
  change ((putRT p).length : Int) = lenOf (putRT p) at e2
  change 2 ≤ (putRT q).length at l1
  have h0 := h 0 (by omega)
  have h1 := h 1 (by omega)
  have e : lenOf (putRT q) = lenOf (putRT p) := by
    unfold lenOf
    rw [show rd (putRT p) 0 = rd (putRT q) 0 from h0.symm, show rd (putRT p) 1 = rd (putRT q) 1 from h1.symm]
  omega
theorem rd_take {l : List Int} {m i : Nat} (h : i < m) : rd (l.take m) (i : Int) = rd l (i : Int) := by
  unfold rd
  rw [Int.toNat_natCast, List.getD_eq_getElem?_getD, List.getD_eq_getElem?_getD, List.getElem?_take_of_lt h]
theorem rd_app {l r : List Int} {i : Nat} (h : i < l.length) : rd (l ++ r) (i : Int) = rd l (i : Int) := by
  unfold rd
  rw [Int.toNat_natCast, List.getD_eq_getElem?_getD, List.getD_eq_getElem?_getD, List.getElem?_append_left h]
theorem cutR_none {q : Int × Int × Int × Int × List Int × List Bool} (hq : respT q = true) (p : Int × Int × Int × Int × List Int × List Bool) (hp : respT p = true) : putRT p ≠ (putRT q).take ((putRT q).length - 1) := fun h => by
  have l1 : 2 ≤ (putRT q).length := (putR_len hq).2.1
  have hl : (putRT p).length = (putRT q).length - 1 := by rw [h, List.length_take]; omega
  have := encR_prefix hp hq fun i hi => by rw [h, rd_take (by omega)]
  omega
theorem moreR_none {q : Int × Int × Int × Int × List Int × List Bool} (hq : respT q = true) (p : Int × Int × Int × Int × List Int × List Bool) (hp : respT p = true) (x : Int) : putRT p ≠ putRT q ++ [x] := fun h => by
  have hl : (putRT p).length = (putRT q).length + 1 := by rw [h, List.length_append]; rfl
  have := encR_prefix hq hp fun i hi => by rw [h, rd_app hi]
  omega
theorem getR_good {k f a n : Int} {w : List Int} {t : List Bool} (h : respB k f a n w t = true) : getRespOf (putRespOf k f a n w t) = (k, f, a, n, w, t, 0) := by
  obtain ⟨hk, f0, f1, _, _, _, _, _⟩ := respB_all h
  have hk1 := kind_le hk
  obtain ⟨_, hl, _, _, h0⟩ := putR_len h
  have e : rd (putRespOf k f a n w t) 0 % 128 = k := by rw [h0]; split <;> omega
  unfold getRespOf
  rw [if_neg (by omega), e, if_pos hk, candA_put h]
  unfold tellR
  rw [if_pos ⟨h, rfl⟩]
theorem getR_bad {x : List Int} (h : ∀ p, respT p = true → putRT p ≠ x) : (getRespOf x).2.2.2.2.2.2 ≠ 0 := by
  unfold getRespOf
  split
  · decide
  · split
    · unfold tellR
      rw [if_neg (fun hh => h _ hh.1 hh.2)]
      decide
    · decide
/-- A draw tells a number of which P holds, and a cursor that stands right. -/
def Told (o : Option (Int × Int × Int)) (P : Int → Prop) : Prop := ∃ v i h, o = some (v, i, h) ∧ P v ∧ 0 ≤ i

theorem l1New_l0 (l : List Int) (hl : l.length ≤ 140737488351232) (d : Nat) : ∀ (i : Nat) (x : Int), i ≤ l.length → l.length - i = d → ∃ h, Ev (fun k => spec_l1New.l0 k l x (i : Int)) (l, 0, h) := by
  induction d with
  | zero =>
    intro i x hi hd
    obtain rfl : i = l.length := by omega
    refine ⟨x, evUp ?_⟩
    have h1 : ¬ ((l.length : Nat) : Int) < (l.length : Int) := by omega
    simp only [spec_l1New.l0, h1, if_false]
    exact Ev.now _
  | succ d ih =>
    intro i x hi hd
    have h1 : (i : Int) < (l.length : Int) := by omega
    have h2 : 0 ≤ (i : Int) := by omega
    by_cases h3 : (i : Int) < 4000
    · obtain ⟨h, hh⟩ := ih (i + 1) (Go.bits .and .i64 (wrap64 ((wrap64 ((wrap64 (x * 137)) + (wrap64 (rd l i)))) + 11)) 1073741823) (by omega) (by omega)
      refine ⟨h, evUp ?_⟩
      simp only [spec_l1New.l0, h1, h2, h3, if_true]
      rw [w64 (x := (i : Int) + 1) (by omega) (by omega)]
      exact hh
    · refine ⟨x, evUp ?_⟩
      simp only [spec_l1New.l0, h1, h3, if_true, if_false]
      exact Ev.now _

theorem l1New_ev (l : List Int) (hl : l.length ≤ 140737488351232) : ∃ h, Ev (fun k => spec_l1New.f k l) (l, 0, h) :=
  l1New_l0 l hl l.length 0 _ (by omega) (by omega)

theorem l1Byte_told (l : List Int) (hl : l.length ≤ 140737488351232) (i h : Int) (hi : 0 ≤ i) : Told (spec_l1Byte.f l i h) (fun v => 0 ≤ v ∧ v ≤ 255) := by
  by_cases h1 : i < (l.length : Int)
  · refine ⟨_, _, _, by simp only [spec_l1Byte.f, h1, hi, if_true]; rfl, ?_, ?_⟩
    · rw [and_255]; omega
    · rw [w64 (by omega) (by omega)]; omega
  · refine ⟨_, _, _, by simp only [spec_l1Byte.f, h1, if_false]; rfl, ?_, hi⟩
    rw [and_255]; omega

theorem l1Below_told (l : List Int) (hl : l.length ≤ 140737488351232) (i h n : Int) (hi : 0 ≤ i) (hn : 0 < n) : Told (spec_l1Below.f l i h n) (fun v => 0 ≤ v ∧ v < n ∧ v ≤ 16777215) := by
  have n0 : ¬ n ≤ 0 := by omega
  have n1 : ¬ n = 0 := by omega
  obtain ⟨v1, i1, h1, e1, p1, hi1⟩ := l1Byte_told l hl i h hi
  by_cases h2 : n ≤ 256
  · refine ⟨_, _, _, by simp only [spec_l1Below.f, n0, n1, h2, if_false, if_true, e1, Option.bind_some]; rfl, ?_, hi1⟩
    rw [tmod_pos p1.1]
    have a1 := Int.emod_nonneg v1 n1
    have a2 := Int.emod_lt_of_pos v1 hn
    have a3 : v1 % n ≤ v1 := emod_le_self p1.1 hn
    omega
  · obtain ⟨v2, i2, h2', e2, p2, hi2⟩ := l1Byte_told l hl i1 h1 hi1
    obtain ⟨v3, i3, h3, e3, p3, hi3⟩ := l1Byte_told l hl i2 h2' hi2
    refine ⟨_, _, _, by simp only [spec_l1Below.f, n0, n1, h2, if_false, e1, e2, e3, Option.bind_some]; rfl, ?_, hi3⟩
    rw [w64 (x := v1 * 65536) (by omega) (by omega), w64 (x := v2 * 256) (by omega) (by omega), w64 (x := v1 * 65536 + v2 * 256) (by omega) (by omega), w64 (by omega) (by omega), tmod_pos (by omega)]
    have a0 : 0 ≤ v1 * 65536 + v2 * 256 + v3 := by omega
    have a1 := Int.emod_nonneg (v1 * 65536 + v2 * 256 + v3) n1
    have a2 := Int.emod_lt_of_pos (v1 * 65536 + v2 * 256 + v3) hn
    have a3 : (v1 * 65536 + v2 * 256 + v3) % n ≤ v1 * 65536 + v2 * 256 + v3 := emod_le_self a0 hn
    omega
theorem l1Int_told (l : List Int) (hl : l.length ≤ 140737488351232) (i h : Int) (xs : List Int) (hi : 0 ≤ i) (hx : 0 < xs.length) : Told (spec_l1Int.f l i h xs) (fun v => v ∈ xs) := by
  obtain ⟨v, i1, h1, e1, p1, hi1⟩ := l1Below_told l hl i h (xs.length : Int) hi (by omega)
  have a1 : 0 ≤ v := p1.1
  have a2 : v < (xs.length : Int) := p1.2.1
  exact ⟨_, _, _, by simp only [spec_l1Int.f, e1, Option.bind_some, a1, a2, if_true]; rfl, rd_mem a1 a2, hi1⟩
theorem l1Once_some (l : List Int) (hl : l.length ≤ 140737488351232) (i h n : Int) (hi : 0 ≤ i) (hn : 0 < n) : ∃ v i' h', spec_l1Once.f l i h n = some (v, i', h') ∧ 0 ≤ i' := by
  obtain ⟨v, i1, c1, e1, _, hi1⟩ := l1Below_told l hl i h n hi hn
  exact ⟨_, i1, c1, by simp only [spec_l1Once.f, e1, Option.bind_some]; rfl, hi1⟩
theorem l2Bits_l0 (l : List Int) (hl : l.length ≤ 140737488351232) (n : Nat) (hn : n ≤ 100000) (d : Nat) : ∀ (j : Nat) (acc : List Bool) (i h : Int), j ≤ n → n - j = d → acc.length = j → 0 ≤ i →
    ∃ xs i' h', Ev (fun k => spec_l2Bits.l0 k (n : Int) acc (j : Int) l i h) (xs, i', h') ∧ xs.length = n ∧ 0 ≤ i' := by
  induction d with
  | zero =>
    intro j acc i h hj hd ha hi
    obtain rfl : j = n := by omega
    refine ⟨acc, i, h, evUp ?_, ha, hi⟩
    have h1 : ¬ (j : Int) < (j : Int) := by omega
    simp only [spec_l2Bits.l0, h1, if_false]
    exact Ev.now _
  | succ d ih =>
    intro j acc i h hj hd ha hi
    have h1 : (j : Int) < (n : Int) := by omega
    have h2 : acc.length < 140737488355328 := by omega
    obtain ⟨v, i1, c1, e1, hi1⟩ := l1Once_some l hl i h 2 hi (by omega)
    obtain ⟨xs, i', h', hev, hlen, hi'⟩ := ih (j + 1) (acc ++ [v]) i1 c1 (by omega) (by omega) (by rw [List.length_append, ha]; rfl) hi1
    refine ⟨xs, i', h', evUp ?_, hlen, hi'⟩
    simp only [spec_l2Bits.l0, h1, h2, if_true, e1, Option.bind_some]
    rw [w64 (x := (j : Int) + 1) (by omega) (by omega)]
    exact hev

theorem l2Bits_ev (l : List Int) (hl : l.length ≤ 140737488351232) (i h : Int) (n : Int) (h0 : 0 ≤ n) (hn : n ≤ 100000) (hi : 0 ≤ i) :
    ∃ xs i' h', Ev (fun k => spec_l2Bits.f k l i h n) (xs, i', h') ∧ (xs.length : Int) = n ∧ 0 ≤ i' := by
  obtain ⟨m, rfl⟩ := Int.eq_ofNat_of_zero_le h0
  obtain ⟨xs, i', h', hev, hlen, hi'⟩ := l2Bits_l0 l hl m (by omega) m 0 [] i h (by omega) (by omega) rfl hi
  exact ⟨xs, i', h', hev, by omega, hi'⟩
/-- A draw tells a question with at most B words and bits, that asks for few. -/
def ReqTold (B : Nat) (g : Nat → Option (Int × Int × Int × List Int × List Bool × Int × Int × Int)) : Prop := ∃ k a n w t e i h, Ev g (k, a, n, w, t, e, i, h) ∧ w.length ≤ B ∧ t.length ≤ B ∧ 0 ≤ i ∧ 0 ≤ n ∧ n ≤ 6
theorem l3List_l0 (l : List Int) (hl : l.length ≤ 140737488351232) (n : Nat) (hn : n ≤ 100000) (d : Nat) : ∀ (j : Nat) (acc : List Int) (i h : Int), j ≤ n → n - j = d → acc.length = j → 0 ≤ i →
    ∃ xs i' h', Ev (fun k => spec_l3List.l0 k (n : Int) acc (j : Int) l i h) (xs, i', h') ∧ xs.length = n ∧ 0 ≤ i' := by
  induction d with
  | zero =>
    intro j acc i h hj hd ha hi
    obtain rfl : j = n := by omega
    refine ⟨acc, i, h, evUp ?_, ha, hi⟩
    have h1 : ¬ (j : Int) < (j : Int) := by omega
    simp only [spec_l3List.l0, h1, if_false]
    exact Ev.now _
  | succ d ih =>
    intro j acc i h hj hd ha hi
    have h1 : (j : Int) < (n : Int) := by omega
    have h2 : acc.length < 17592186044416 := by omega
    obtain ⟨v, i1, c1, e1, _, hi1⟩ := l1Below_told l hl i h 65536 hi (by omega)
    obtain ⟨u, i2, c2, e2, _, hi2⟩ := l1Int_told l hl i1 c1 [0, 1, 65535, 256, v] hi1 (by simp)
    obtain ⟨xs, i', h', hev, hlen, hi'⟩ := ih (j + 1) (acc ++ [u]) i2 c2 (by omega) (by omega) (by rw [List.length_append, ha]; rfl) hi2
    refine ⟨xs, i', h', evUp ?_, hlen, hi'⟩
    simp only [spec_l3List.l0, h1, h2, if_true, e1, e2, Option.bind_some]
    rw [w64 (x := (j : Int) + 1) (by omega) (by omega)]
    exact hev
theorem l3List_ev (l : List Int) (hl : l.length ≤ 140737488351232) (i h : Int) (n : Int) (h0 : 0 ≤ n) (hn : n ≤ 100000) (hi : 0 ≤ i) :
    ∃ xs i' h', Ev (fun k => spec_l3List.f k l i h n) (xs, i', h') ∧ (xs.length : Int) = n ∧ 0 ≤ i' := by
  obtain ⟨m, rfl⟩ := Int.eq_ofNat_of_zero_le h0
  obtain ⟨xs, i', h', hev, hlen, hi'⟩ := l3List_l0 l hl m (by omega) m 0 [] i h (by omega) (by omega) rfl hi
  exact ⟨xs, i', h', hev, by omega, hi'⟩
theorem l3Draw_ev (l : List Int) (hl : l.length ≤ 140737488351232) (i h a1 : Int) (hi : 0 ≤ i) : ReqTold 100 (fun k => spec_l3Draw.f k l i h a1) := by
  obtain ⟨k, i1, c1, e1, p1, hi1⟩ := l1Int_told l hl i h [1, 2, 3, 4, 5, 6, 15, 16, 22, 23, 3, 16] hi (by simp)
  obtain ⟨x, i2, c2, e2, p2, hi2⟩ := l1Below_told l hl i1 c1 12 hi1 (by omega)
  obtain ⟨n, i3, c3, e3, p3, hi3⟩ := l1Below_told l hl i2 c2 6 hi2 (by omega)
  have wn : wrap64 (1 + n) = 1 + n := w64 (by omega) (by omega)
  by_cases h5 : k = 5
  · subst h5
    obtain ⟨xs, i4, c4, hev, hlen, hi4⟩ := l2Bits_ev l hl i3 c3 1 (by omega) (by omega) hi3
    refine ⟨5, wrap64 (a1 + x), 0, [], xs, 0, i4, c4, ?_, by simp, by omega, hi4, by omega, by omega⟩
    simp only [spec_l3Draw.f, e1, e2, e3, Option.bind_some, Int.reduceEq, if_true, if_false]
    exact evBind hev (Ev.now _)
  by_cases h6 : k = 6
  · subst h6
    obtain ⟨xs, i4, c4, hev, hlen, hi4⟩ := l3List_ev l hl i3 c3 1 (by omega) (by omega) hi3
    refine ⟨6, wrap64 (a1 + x), 0, xs, [], 0, i4, c4, ?_, by omega, by simp, hi4, by omega, by omega⟩
    simp only [spec_l3Draw.f, e1, e2, e3, Option.bind_some, Int.reduceEq, if_true, if_false]
    exact evBind hev (Ev.now _)
  by_cases h22 : k = 22
  · subst h22
    obtain ⟨xs, i4, c4, hev, hlen, hi4⟩ := l3List_ev l hl i3 c3 2 (by omega) (by omega) hi3
    refine ⟨22, wrap64 (a1 + x), 0, xs, [], 0, i4, c4, ?_, by omega, by simp, hi4, by omega, by omega⟩
    simp only [spec_l3Draw.f, e1, e2, e3, Option.bind_some, Int.reduceEq, if_true, if_false]
    exact evBind hev (Ev.now _)
  by_cases h15 : k = 15
  · subst h15
    obtain ⟨y, i4, c4, e4, p4, hi4⟩ := l1Below_told l hl i3 c3 8 hi3 (by omega)
    obtain ⟨xs, i5, c5, hev, hlen, hi5⟩ := l2Bits_ev l hl i4 c4 (1 + n + y) (by omega) (by omega) hi4
    have wy : wrap64 (1 + n + y) = 1 + n + y := w64 (by omega) (by omega)
    refine ⟨15, wrap64 (a1 + x), 0, [], xs, 0, i5, c5, ?_, by simp, by omega, hi5, by omega, by omega⟩
    simp only [spec_l3Draw.f, e1, e2, e3, e4, Option.bind_some, Int.reduceEq, if_true, if_false, wn, wy]
    exact evBind hev (Ev.now _)
  by_cases h16 : k = 16
  · subst h16
    obtain ⟨xs, i4, c4, hev, hlen, hi4⟩ := l3List_ev l hl i3 c3 (1 + n) (by omega) (by omega) hi3
    refine ⟨16, wrap64 (a1 + x), 0, xs, [], 0, i4, c4, ?_, by omega, by simp, hi4, by omega, by omega⟩
    simp only [spec_l3Draw.f, e1, e2, e3, Option.bind_some, Int.reduceEq, if_true, if_false, wn]
    exact evBind hev (Ev.now _)
  by_cases h23 : k = 23
  · subst h23
    obtain ⟨y, i4, c4, e4, p4, hi4⟩ := l1Below_told l hl i3 c3 12 hi3 (by omega)
    obtain ⟨z, i5, c5, e5, p5, hi5⟩ := l1Below_told l hl i4 c4 4 hi4 (by omega)
    obtain ⟨xs, i6, c6, hev, hlen, hi6⟩ := l3List_ev l hl i5 c5 (1 + z) (by omega) (by omega) hi5
    have wz : wrap64 (1 + z) = 1 + z := w64 (by omega) (by omega)
    refine ⟨23, wrap64 (a1 + x), 1 + n, xs, [], wrap64 (a1 + y), i6, c6, ?_, by omega, by simp, hi6, by omega, by omega⟩
    simp only [spec_l3Draw.f, e1, e2, e3, e4, e5, Option.bind_some, Int.reduceEq, if_true, if_false, wn, wz]
    exact evBind hev (Ev.now _)
  refine ⟨k, wrap64 (a1 + x), 1 + n, [], [], 0, i3, c3, ?_, by simp, by simp, hi3, by omega, by omega⟩
  simp only [spec_l3Draw.f, e1, e2, e3, Option.bind_some, h5, h6, h22, h15, h16, h23, if_false, wn]
  exact Ev.now _
/-- A draw tells an answer with at most B words and bits. -/
def RespTold (B : Nat) (g : Nat → Option (Int × Int × Int × Int × List Int × List Bool × Int × Int)) : Prop := ∃ k f a n w t i h, Ev g (k, f, a, n, w, t, i, h) ∧ w.length ≤ B ∧ t.length ≤ B ∧ 0 ≤ i
theorem l4Draw_l0 (l : List Int) (i h k f a n : Int) (hi : 0 ≤ i) (d : Nat) : ∀ xs : List Bool, (xs.length + d) % 8 = 0 → xs.length + d ≤ 50 → RespTold 50 (fun r => spec_l4Draw.l0 r l i h k f a n xs) := by
  induction d with
  | zero =>
    intro xs h1 h2
    have c : (xs.length : Int) % 8 = 0 := by omega
    refine ⟨k, f, a, n, [], xs, i, h, evUp ?_, by simp, by omega, hi⟩
    simp only [spec_l4Draw.l0, c, if_true]
    exact Ev.now _
  | succ d ih =>
    intro xs h1 h2
    by_cases c : (xs.length : Int) % 8 = 0
    · refine ⟨k, f, a, n, [], xs, i, h, evUp ?_, by simp, by omega, hi⟩
      simp only [spec_l4Draw.l0, c, if_true]
      exact Ev.now _
    · obtain ⟨k', f', a', n', w', t', i', h', hev, q⟩ := ih (xs ++ [false]) (by rw [List.length_append, List.length_singleton]; omega) (by rw [List.length_append, List.length_singleton]; omega)
      have c2 : xs.length < 140737488355328 := by omega
      refine ⟨k', f', a', n', w', t', i', h', evUp ?_, q⟩
      simp only [spec_l4Draw.l0, c, c2, if_true, if_false]
      exact hev
section
variable (l : List Int) (hl : l.length ≤ 140737488351232) (i h : Int) (hi : 0 ≤ i) (x : Int) (b : Bool) (k a n : Int) (w : List Int) (t : List Bool) (e k' f' a' n' : Int) (hn : 0 ≤ n ∧ n ≤ 6) (hw : w.length ≤ 100) (ht : t.length ≤ 100)
include hl hi hn hw ht
theorem l4Draw_j3 : RespTold 100 (fun r => spec_l4Draw.j3 r x b l i h k a n w t e k' f' a' n') := by
  have _u := And.intro hl (And.intro hn ht)
  cases b with
  | true =>
    have g1 : ([] : List Int).length + w.length < 17592186044416 := by rw [List.length_nil]; omega
    refine ⟨k', f', a, n', w, [], i, h, evUp ?_, hw, by simp, hi⟩
    simp only [spec_l4Draw.j3, if_true, Option.bind_some, g1, List.nil_append]
    exact Ev.now _
  | false =>
    by_cases c : x = 15
    · refine ⟨k', f', a, (t.length : Int), [], [], i, h, evUp ?_, by simp, by simp, hi⟩
      simp only [spec_l4Draw.j3, Bool.false_eq_true, if_false, c, if_true]
      exact Ev.now _
    · refine ⟨k', f', a, (w.length : Int), [], [], i, h, evUp ?_, by simp, by simp, hi⟩
      simp only [spec_l4Draw.j3, Bool.false_eq_true, if_false, c]
      exact Ev.now _
theorem l4Draw_j2 : RespTold 100 (fun r => spec_l4Draw.j2 r x b l i h k a n w t e k' f' a' n') := by
  cases b with
  | true =>
    obtain ⟨xs, i1, c1, hev, hlen, hi1⟩ := l3List_ev l hl i h n hn.1 (by omega) hi
    refine ⟨k', f', a', n', xs, [], i1, c1, evUp ?_, by omega, by simp, hi1⟩
    simp only [spec_l4Draw.j2, if_true]
    exact evBind hev (Ev.now _)
  | false =>
    by_cases c : x = 5
    · have g1 : ([] : List Bool).length + t.length < 140737488355328 := by rw [List.length_nil]; omega
      refine ⟨k', f', a, n', [], t, i, h, evUp ?_, by simp, ht, hi⟩
      simp only [spec_l4Draw.j2, Bool.false_eq_true, if_false, c, if_true, Option.bind_some, g1, List.nil_append]
      exact Ev.now _
    · by_cases c6 : x = 6
      · obtain ⟨k2, f2, a2, n2, w2, t2, i2, h2, hev, q⟩ := l4Draw_j3 l hl i h hi x (x == 6) k a n w t e k' f' a' n' hn hw ht
        refine ⟨k2, f2, a2, n2, w2, t2, i2, h2, evUp ?_, q⟩
        have e2 : ∀ r, spec_l4Draw.j2 (r + 1) x false l i h k a n w t e k' f' a' n' = spec_l4Draw.j3 r x (x == 6) l i h k a n w t e k' f' a' n' := fun r => by rw [spec_l4Draw.j2, if_neg (by decide), if_neg c, if_pos c6]
        simp only [e2]; exact hev
      · obtain ⟨k2, f2, a2, n2, w2, t2, i2, h2, hev, q⟩ := l4Draw_j3 l hl i h hi x (x == 22) k a n w t e k' f' a' n' hn hw ht
        refine ⟨k2, f2, a2, n2, w2, t2, i2, h2, evUp ?_, q⟩
        have e2 : ∀ r, spec_l4Draw.j2 (r + 1) x false l i h k a n w t e k' f' a' n' = spec_l4Draw.j3 r x (x == 22) l i h k a n w t e k' f' a' n' := fun r => by rw [spec_l4Draw.j2, if_neg (by decide), if_neg c, if_neg c6]
        simp only [e2]; exact hev
theorem l4Draw_j0 : RespTold 100 (fun r => spec_l4Draw.j0 r x b l i h k a n w t e k' f' a' n') := by
  cases b with
  | true =>
    obtain ⟨xs, i1, c1, hev, hlen, hi1⟩ := l2Bits_ev l hl i h n hn.1 (by omega) hi
    obtain ⟨k2, f2, a2, n2, w2, t2, i2, h2, hev2, q1, q2, q3⟩ := l4Draw_l0 l i1 c1 k' f' a' n' hi1 ((8 - xs.length % 8) % 8) xs (by omega) (by omega)
    refine ⟨k2, f2, a2, n2, w2, t2, i2, h2, evUp ?_, by omega, by omega, q3⟩
    simp only [spec_l4Draw.j0, if_true]
    exact evBind hev hev2
  | false =>
    have go : ∀ y : Int, (∀ r, spec_l4Draw.j0 (r + 1) x false l i h k a n w t e k' f' a' n' = spec_l4Draw.j2 r x (x == y) l i h k a n w t e k' f' a' n') → RespTold 100 (fun r => spec_l4Draw.j0 r x false l i h k a n w t e k' f' a' n') := fun y e2 => by
      obtain ⟨k2, f2, a2, n2, w2, t2, i2, h2, hev, q⟩ := l4Draw_j2 l hl i h hi x (x == y) k a n w t e k' f' a' n' hn hw ht
      refine ⟨k2, f2, a2, n2, w2, t2, i2, h2, evUp ?_, q⟩
      simp only [e2]; exact hev
    by_cases c3 : x = 3
    · exact go 3 fun r => by rw [spec_l4Draw.j0, if_neg (by decide), if_pos c3]
    · by_cases c4 : x = 4
      · exact go 4 fun r => by rw [spec_l4Draw.j0, if_neg (by decide), if_neg c3, if_pos c4]
      · exact go 23 fun r => by rw [spec_l4Draw.j0, if_neg (by decide), if_neg c3, if_neg c4]
end
theorem l4Draw_ev (l : List Int) (hl : l.length ≤ 140737488351232) (i h : Int) (hi : 0 ≤ i) (k a n : Int) (w : List Int) (t : List Bool) (e : Int) (hn : 0 ≤ n ∧ n ≤ 6) (hw : w.length ≤ 100) (ht : t.length ≤ 100) :
    RespTold 100 (fun r => spec_l4Draw.f r l i h k a n w t e) := by
  obtain ⟨v, i1, c1, e1, hi1⟩ := l1Once_some l hl i h 6 hi (by omega)
  cases v with
  | true =>
    obtain ⟨x, i2, c2, e2, p2, hi2⟩ := l1Below_told l hl i1 c1 11 hi1 (by omega)
    refine ⟨k, wrap64 (1 + x), 0, 0, [], [], i2, c2, ?_, by simp, by simp, hi2⟩
    simp only [spec_l4Draw.f, e1, e2, Option.bind_some, if_true]
    exact Ev.now _
  | false =>
    have go : ∀ y : Int, (∀ r, spec_l4Draw.f r l i h k a n w t e = spec_l4Draw.j0 r k (k == y) l i1 c1 k a n w t e k 0 0 0) → RespTold 100 (fun r => spec_l4Draw.f r l i h k a n w t e) := fun y e2 => by
      obtain ⟨k2, f2, a2, n2, w2, t2, i2, h2, hev, q⟩ := l4Draw_j0 l hl i1 c1 hi1 k (k == y) k a n w t e k 0 0 0 hn hw ht
      refine ⟨k2, f2, a2, n2, w2, t2, i2, h2, ?_, q⟩
      simp only [e2]; exact hev
    by_cases c : k = 1
    · exact go 1 fun r => by rw [spec_l4Draw.f, e1, Option.bind_some, if_neg (by simp), if_pos c]
    · exact go 2 fun r => by rw [spec_l4Draw.f, e1, Option.bind_some, if_neg (by simp), if_neg c]
theorem l4Bend_some (l : List Int) (hl : l.length ≤ 140737488351232) (i h : Int) (hi : 0 ≤ i) (k f a n : Int) (w : List Int) (t : List Bool) (hw : w.length ≤ 100) (ht : t.length ≤ 100) :
    ∃ k' f' a' n' w' t' i' h', spec_l4Bend.f l i h k f a n w t = some (k', f', a', n', w', t', i', h') ∧ w'.length ≤ 101 ∧ t'.length ≤ 101 ∧ 0 ≤ i' := by
  obtain ⟨v, i1, c1, e1, p1, hi1⟩ := l1Below_told l hl i h 7 hi (by omega)
  by_cases h0 : v = 0
  · subst h0
    obtain ⟨x, i2, c2, e2, p2, hi2⟩ := l1Below_told l hl i1 c1 25 hi1 (by omega)
    exact ⟨x, f, a, n, w, t, i2, c2, by simp only [spec_l4Bend.f, e1, e2, Option.bind_some, Int.reduceEq, if_true, if_false], by omega, by omega, hi2⟩
  by_cases h1 : v = 1
  · subst h1
    obtain ⟨x, i2, c2, e2, p2, hi2⟩ := l1Int_told l hl i1 c1 [0, 1, 255, 256, (-1)] hi1 (by simp)
    exact ⟨k, x, a, n, w, t, i2, c2, by simp only [spec_l4Bend.f, e1, e2, Option.bind_some, Int.reduceEq, if_true, if_false], by omega, by omega, hi2⟩
  by_cases h2 : v = 2
  · subst h2
    obtain ⟨x, i2, c2, e2, p2, hi2⟩ := l1Int_told l hl i1 c1 [1, (-1), 65536] hi1 (by simp)
    exact ⟨k, f, wrap64 (a + x), n, w, t, i2, c2, by simp only [spec_l4Bend.f, e1, e2, Option.bind_some, Int.reduceEq, if_true, if_false], by omega, by omega, hi2⟩
  by_cases h3 : v = 3
  · subst h3
    exact ⟨k, f, a, wrap64 (n + 1), w, t, i1, c1, by simp only [spec_l4Bend.f, e1, Option.bind_some, Int.reduceEq, if_true, if_false], by omega, by omega, hi1⟩
  by_cases h4 : v = 4
  · subst h4
    obtain ⟨x, i2, c2, e2, p2, hi2⟩ := l1Int_told l hl i1 c1 [0, 65536] hi1 (by simp)
    have g1 : ([] : List Int).length + w.length < 17592186044416 := by rw [List.length_nil]; omega
    have g2 : w.length < 17592186044416 := by omega
    exact ⟨k, f, a, n, w ++ [x], t, i2, c2, by simp only [spec_l4Bend.f, e1, e2, Option.bind_some, Int.reduceEq, if_true, if_false, g1, List.nil_append, g2], by rw [List.length_append, List.length_singleton]; omega, by omega, hi2⟩
  by_cases h5 : v = 5
  · subst h5
    have g1 : ([] : List Bool).length + t.length < 140737488355328 := by rw [List.length_nil]; omega
    have g2 : t.length < 140737488355328 := by omega
    exact ⟨k, f, a, n, w, t ++ [true], i1, c1, by simp only [spec_l4Bend.f, e1, Option.bind_some, Int.reduceEq, if_true, if_false, g1, List.nil_append, g2], by omega, by rw [List.length_append, List.length_singleton]; omega, hi1⟩
  exact ⟨k, f, a, n, w, t, i1, c1, by simp only [spec_l4Bend.f, e1, Option.bind_some, h0, h1, h2, h3, h4, h5, if_false], by omega, by omega, hi1⟩
theorem l4DrawAny_ev (l : List Int) (hl : l.length ≤ 140737488351232) (i h : Int) (hi : 0 ≤ i) : RespTold 101 (fun r => spec_l4DrawAny.f r l i h) := by
  obtain ⟨k, a, n, w, t, e, i1, c1, hev, hw, ht, hi1, n0, n1⟩ := l3Draw_ev l hl i h 0 hi
  obtain ⟨k1, f1, a1, m1, w1, t1, i2, c2, hev2, hw1, ht1, hi2⟩ := l4Draw_ev l hl i1 c1 hi1 k a n w t e ⟨n0, n1⟩ hw ht
  obtain ⟨v, i3, c3, e3, hi3⟩ := l1Once_some l hl i2 c2 4 hi2 (by omega)
  cases v with
  | true =>
    obtain ⟨k', f', a', n', w', t', i4, c4, e4, hw', ht', hi4⟩ := l4Bend_some l hl i3 c3 hi3 k1 f1 a1 m1 w1 t1 hw1 ht1
    refine ⟨k', f', a', n', w', t', i4, c4, ?_, hw', ht', hi4⟩
    unfold spec_l4DrawAny.f
    refine evBind hev ?_
    refine evBind hev2 ?_
    simp only [e3, e4, Option.bind_some, if_true]
    exact Ev.now _
  | false =>
    refine ⟨k1, f1, a1, m1, w1, t1, i3, c3, ?_, by omega, by omega, hi3⟩
    unfold spec_l4DrawAny.f
    refine evBind hev ?_
    refine evBind hev2 ?_
    simp only [e3, Option.bind_some, Bool.false_eq_true, if_false]
    exact Ev.now _
theorem drawPutResp_ev (l : List Int) (hl : l.length ≤ 140737488351232) : ∃ k f a n w t, Ev (fun r => spec_DrawPutResp.f r l) (k, f, a, n, w, t) ∧ w.length ≤ 101 ∧ t.length ≤ 101 := by
  obtain ⟨h, e0⟩ := l1New_ev l hl
  obtain ⟨k, f, a, n, w, t, i1, c1, hev, hw, ht, _⟩ := l4DrawAny_ev l hl 0 h (by omega)
  refine ⟨k, f, a, n, w, t, ?_, hw, ht⟩
  unfold spec_DrawPutResp.f
  exact evBind e0 (evBind hev (Ev.now _))
theorem sameInts_l0 (a b : List Int) (hl : a.length ≤ 140737488351232) (he : a.length = b.length) (d : Nat) : ∀ i : Nat, i ≤ a.length → a.length - i = d →
    Ev (fun k => laws_sameInts.l0 k a b (i : Int)) (decide (a.drop i = b.drop i)) := by
  induction d with
  | zero =>
    intro i hi hd
    obtain rfl : i = a.length := by omega
    refine evUp ?_
    have h1 : ¬ ((a.length : Nat) : Int) < (a.length : Int) := by omega
    simp only [laws_sameInts.l0, h1, if_false]
    have e : decide (a.drop a.length = b.drop a.length) = true := by
      rw [List.drop_length, he, List.drop_length]; rfl
    rw [e]
    exact Ev.now _
  | succ d ih =>
    intro i hi hd
    have ha : i < a.length := by omega
    have hb : i < b.length := by omega
    refine evUp ?_
    have h1 : (i : Int) < (a.length : Int) := by omega
    have h2 : 0 ≤ (i : Int) := by omega
    have h3 : (i : Int) < (b.length : Int) := by omega
    simp only [laws_sameInts.l0, h1, h2, h3, if_true]
    rw [rd_get ha, rd_get hb, w64 (by omega) (by omega)]
    by_cases e : a[i] = b[i]
    · simp only [e, if_true]
      have e2 : decide (a.drop i = b.drop i) = decide (a.drop (i + 1) = b.drop (i + 1)) := by
        rw [decide_eq_decide, drop_eq_iff ha hb]; simp [e]
      rw [e2]
      exact ih (i + 1) (by omega) (by omega)
    · simp only [e, if_false]
      have e2 : decide (a.drop i = b.drop i) = false := by
        rw [decide_eq_false_iff_not, drop_eq_iff ha hb]; simp [e]
      rw [e2]
      exact Ev.now _

theorem sameInts_ev (a b : List Int) (hl : a.length ≤ 140737488351232) : Ev (fun k => laws_sameInts.f k a b) (decide (a = b)) := by
  by_cases he : a.length = b.length
  · have h := sameInts_l0 a b hl he a.length 0 (by omega) (by omega)
    have h1 : (a.length : Int) = (b.length : Int) := by omega
    simp only [laws_sameInts.f, h1, if_true]
    exact h
  · have h1 : ¬ (a.length : Int) = (b.length : Int) := by omega
    have e : decide (a = b) = false := by
      rw [decide_eq_false_iff_not]; intro h; exact he (by rw [h])
    simp only [laws_sameInts.f, h1, if_false]
    rw [e]
    exact Ev.now _

theorem sameInts_refl (a : List Int) (hl : a.length ≤ 140737488351232) : Ev (fun k => laws_sameInts.f k a a) true := by
  have h := sameInts_ev a a hl
  rwa [decide_eq_true rfl] at h
theorem sameBits_l0 (a b : List Bool) (hl : a.length ≤ 140737488355328) (he : a.length = b.length) (d : Nat) : ∀ i : Nat, i ≤ a.length → a.length - i = d →
    Ev (fun k => laws_sameBits.l0 k a b (i : Int)) (decide (a.drop i = b.drop i)) := by
  induction d with
  | zero =>
    intro i hi hd
    obtain rfl : i = a.length := by omega
    refine evUp ?_
    have h1 : ¬ ((a.length : Nat) : Int) < (a.length : Int) := by omega
    simp only [laws_sameBits.l0, h1, if_false]
    have e : decide (a.drop a.length = b.drop a.length) = true := by
      rw [List.drop_length, he, List.drop_length]; rfl
    rw [e]
    exact Ev.now _
  | succ d ih =>
    intro i hi hd
    have ha : i < a.length := by omega
    have hb : i < b.length := by omega
    refine evUp ?_
    have h1 : (i : Int) < (a.length : Int) := by omega
    have h2 : 0 ≤ (i : Int) := by omega
    have h3 : (i : Int) < (b.length : Int) := by omega
    simp only [laws_sameBits.l0, h1, h2, h3, if_true]
    rw [rdOf_get ha, rdOf_get hb, w64 (by omega) (by omega)]
    by_cases e : a[i] = b[i]
    · simp only [e, bne_self_eq_false, Bool.false_eq_true, if_false]
      have e2 : decide (a.drop i = b.drop i) = decide (a.drop (i + 1) = b.drop (i + 1)) := by
        rw [decide_eq_decide, drop_eq_iff ha hb]; simp [e]
      rw [e2]
      exact ih (i + 1) (by omega) (by omega)
    · have e3 : (a[i] != b[i]) = true := by simpa using e
      simp only [e3, if_true]
      have e2 : decide (a.drop i = b.drop i) = false := by
        rw [decide_eq_false_iff_not, drop_eq_iff ha hb]; simp [e]
      rw [e2]
      exact Ev.now _

theorem sameBits_ev (a b : List Bool) (hl : a.length ≤ 140737488355328) : Ev (fun k => laws_sameBits.f k a b) (decide (a = b)) := by
  by_cases he : a.length = b.length
  · have h := sameBits_l0 a b hl he a.length 0 (by omega) (by omega)
    have h1 : (a.length : Int) = (b.length : Int) := by omega
    simp only [laws_sameBits.f, h1, if_true]
    exact h
  · have h1 : ¬ (a.length : Int) = (b.length : Int) := by omega
    have e : decide (a = b) = false := by
      rw [decide_eq_false_iff_not]; intro h; exact he (by rw [h])
    simp only [laws_sameBits.f, h1, if_false]
    rw [e]
    exact Ev.now _

theorem sameBits_refl (a : List Bool) (hl : a.length ≤ 140737488355328) : Ev (fun k => laws_sameBits.f k a a) true := by
  have h := sameBits_ev a a hl
  rwa [decide_eq_true rfl] at h
theorem B8_encW (w : List Int) : B8 (encW w) := fun x hx => by
  unfold encW at hx
  obtain ⟨y, _, hy⟩ := List.mem_flatMap.1 hx
  simp only [List.mem_cons, List.not_mem_nil, or_false] at hy
  omega
theorem B8_cons {x : Int} {l : List Int} (h0 : 0 ≤ x ∧ x ≤ 255) (h : B8 l) : B8 (x :: l) := fun y hy => by
  rcases List.mem_cons.1 hy with rfl | h1
  · exact h0
  · exact h y h1
theorem putRespOf_8 (k f a n : Int) (w : List Int) (t : List Bool) : B8 (putRespOf k f a n w t) := by
  unfold putRespOf
  split
  · split
    · refine B8_cons (by omega) ?_
      unfold respBody
      split
      · exact B8_cons (by omega) (packed_8 t)
      split
      · exact B8_cons (by omega) (B8_encW _)
      split
      · exact B8_encW _
      split
      · exact (B8_encW _).append (B8_encW _)
      · exact B8_encW _
    · exact B8_cons (by omega) (B8_cons (by omega) B8.nil)
  · exact B8.nil
theorem sameResp_refl (k f a n : Int) (w : List Int) (t : List Bool) (hw : w.length ≤ 1048576) (ht : t.length ≤ 1048576) : Ev (fun r => laws_sameResp.f r k f a n w t k f a n w t) true := by
  simp only [laws_sameResp.f, if_true]
  refine evBind (sameInts_refl w (by omega)) ?_
  simp only [if_true]
  exact evBind (sameBits_refl t (by omega)) (Ev.now _)
theorem at_range (l : List Int) (hl : l.length ≤ 1048576) (hb : B8 l) : ∃ x, laws_at.f l 2 = some x ∧ 0 ≤ x ∧ x ≤ 255 := by
  unfold laws_at.f
  by_cases h : (2 : Int) < (l.length : Int)
  · have r := hb.rd (i := 2) (by omega) h
    exact ⟨_, by rw [if_pos h, if_pos (by omega)], by rw [w64 (by omega) (by omega)]; omega, by rw [w64 (by omega) (by omega)]; omega⟩
  · refine ⟨_, by rw [if_neg h], ?_⟩
    rw [w64 (x := (l.length : Int) * 7) (by omega) (by omega), w64 (x := (2 : Int) * 31) (by omega) (by omega), w64 (by omega) (by omega), tmod_pos (by omega)]
    omega
theorem fault_right {k : Int} (hk : kindB k = true) {f : Int} (h0 : 1 ≤ f) (h1 : f ≤ 255) : respB k f 0 0 [] [] = true := by
  unfold respB
  rw [hk, if_pos (by omega)]
  simp
  omega
theorem FnTold : laws_FnTold.Pure := by
  intro l h1 h2
  refine Ev.rounds (g := fun k => laws_FnTold.f k l) ?_
  by_cases hbig : (l.length : Int) > 1048576
  · simp only [laws_FnTold.f, laws_big.f, hbig, decide_true, Option.bind_some, if_true]; exact Ev.now _
  have hb : laws_big.f l = some false := by unfold laws_big.f; rw [decide_eq_false hbig]
  obtain ⟨k, f, a, n, w, t, e0, hw, ht⟩ := drawPutResp_ev l (by omega)
  simp only [laws_FnTold.f, hb, Option.bind_some, Bool.false_eq_true, if_false]
  refine evBind e0 ?_
  refine evBind (impl_PutResp_ev k f a n w t (by omega) (by omega)) ?_
  refine evBind (spec_RespOk_ev k f a n w t (by omega)) ?_
  have ok := impl_RespOk_ev k f a n w t
  by_cases hr : respB k f a n w t = true
  · have good := getR_good hr
    have cut := getR_bad (cutR_none (q := (k, f, a, n, w, t)) hr)
    have more := getR_bad (fun p hp => moreR_none (q := (k, f, a, n, w, t)) hr p hp 0)
    change (getRespOf ((putRespOf k f a n w t).take ((putRespOf k f a n w t).length - 1))).2.2.2.2.2.2 ≠ 0 at cut
    change (getRespOf (putRespOf k f a n w t ++ [0])).2.2.2.2.2.2 ≠ 0 at more
    have hB := putRespOf_8 k f a n w t
    obtain ⟨_, l2, _, lm, _⟩ := putR_len hr
    obtain ⟨x, hx, x0, x1⟩ := at_range l (by omega) (B8.of h2)
    have ex : wrap64 (1 + Int.tmod x 255) = 1 + x % 255 := by rw [tmod_pos x0, w64 (by omega) (by omega)]
    have hF := fault_right (respB_all hr).1 (f := 1 + x % 255) (by omega) (by omega)
    have putF := impl_PutResp_ev k (1 + x % 255) 0 0 [] [] (by simp) (by simp)
    have goodF := getR_good hF
    obtain ⟨_, _, _, lF, _⟩ := putR_len hF
    have gF := impl_GetResp_ev (putRespOf k (1 + x % 255) 0 0 [] []) (by omega) (putRespOf_8 _ _ _ _ _ _)
    rw [goodF] at gF
    rw [hr] at ok ⊢
    generalize putRespOf k f a n w t = L at good cut more hB l2 lm
    have c1 : wrap64 ((L.length : Int) - 1) = ((L.length - 1 : Nat) : Int) := by rw [w64 (by omega) (by omega)]; omega
    have c2 : (0 : Int) ≤ ((L.length - 1 : Nat) : Int) := by omega
    have c3 : ((L.length - 1 : Nat) : Int) ≤ (L.length : Int) := by omega
    have c4 : ([] : List Int).length + L.length < 140737488355328 := by rw [List.length_nil]; omega
    have c5 : L.length < 140737488355328 := by omega
    have g1 := impl_GetResp_ev L (by omega) hB
    have g2 := impl_GetResp_ev (L.take (L.length - 1)) (by rw [List.length_take]; omega) (fun x hx => hB x (List.mem_of_mem_take hx))
    have g3 := impl_GetResp_ev (L ++ [0]) (by rw [List.length_append, List.length_singleton]; omega) (hB.append (B8_cons (by omega) B8.nil))
    rw [good] at g1
    simp only [if_true]
    refine evBind g1 ?_
    simp only [c1, c2, c3, if_true, Int.toNat_natCast]
    refine evBind g2 ?_
    simp only [Option.bind_some, c4, if_true, List.nil_append, c5]
    refine evBind g3 ?_
    simp only [hx, Option.bind_some, ex]
    refine evBind putF ?_
    refine evBind gF ?_
    simp only [if_true]
    refine evBind (sameResp_refl k f a n w t (by omega) (by omega)) ?_
    simp only [if_true, cut, more, if_false]
    refine evBind (sameResp_refl k (1 + x % 255) 0 0 [] [] (by simp) (by simp)) ?_
    simp only [if_true]
    refine evBind ok ?_
    exact Ev.now _
  · have hr2 : respB k f a n w t = false := by simpa using hr
    have e1 : putRespOf k f a n w t = [] := by unfold putRespOf; rw [if_neg hr]
    rw [e1]
    rw [hr2] at ok ⊢
    simp only [Bool.false_eq_true, if_false, List.length_nil, Int.natCast_zero, if_true]
    refine evBind ok ?_
    simp only [Bool.not_false]
    exact Ev.now _

end Go.Proofs.Ytfiplepbmennbaa.Pure
