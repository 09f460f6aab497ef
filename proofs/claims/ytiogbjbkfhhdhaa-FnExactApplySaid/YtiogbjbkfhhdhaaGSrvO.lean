/- What impl.Serve computes, and leaves as its caller's own. Condition: no row is longer than a machine's memory. -/
import Derived.Test.YtiogbjbkfhhdhaaGServe
import Derived.Test.YtiogbjbkfhhdhaaGOwn
import Derived.Test.YtiogbjbkfhhdhaaC
namespace Go.Proofs.Ytiogbjbkfhhdhaa.G
open Go.Proofs.Ytiogbjbkfhhdhaa.K Go Go.RowKit Go.Proofs.YtiogbjbkfhhdhaaW.PrintWords Go.Proofs.YtiogbjbkfhhdhaaW.PrintLast Go.Proofs.YtiogbjbkfhhdhaaW.PrintMore Go.Proofs.Ytiogbjbkfhhdhaa.PlainC
set_option linter.unusedVariables false
set_option linter.unusedSimpArgs false
theorem impl_in_eq (a b c : Int) : impl_in.f a b c = some (decide (b ≤ a ∧ a ≤ c)) := by
  by_cases h0 : a ≥ b
  · have h1 : b ≤ a := h0
    simp only [impl_in.f, h0, h1, if_true, true_and]
  · have h1 : ¬ b ≤ a := h0
    simp only [impl_in.f, h0, h1, if_false, false_and, decide_false]
theorem iteS (b c : Bool) : (if b = true then some c else some false) = some (b && c) := by cases b <;> rfl
theorem iteT (b c : Bool) : (if b = true then some true else some c) = some (b || c) := by cases b <;> rfl
/-- Is a question right? -/
def reqB (k a n : Int) (w : List Int) (t : List Bool) (e : Int) : Bool :=
  (w.all wordB && wordB a) &&
  (if k = 1 ∨ k = 2 then decide ((1 ≤ n ∧ n ≤ 2000) ∧ w.length = 0 ∧ t.length = 0 ∧ e = 0 ∧ a + n ≤ 65536)
  else if k = 3 ∨ k = 4 then decide ((1 ≤ n ∧ n ≤ 125) ∧ w.length = 0 ∧ t.length = 0 ∧ e = 0 ∧ a + n ≤ 65536)
  else if k = 5 then decide (n = 0 ∧ w.length = 0 ∧ t.length = 1 ∧ e = 0)
  else if k = 6 then decide (n = 0 ∧ w.length = 1 ∧ t.length = 0 ∧ e = 0)
  else if k = 15 then decide (n = 0 ∧ w.length = 0 ∧ (1 ≤ t.length ∧ t.length ≤ 1968) ∧ e = 0 ∧ a + t.length ≤ 65536)
  else if k = 16 then decide (n = 0 ∧ (1 ≤ w.length ∧ w.length ≤ 123) ∧ t.length = 0 ∧ e = 0 ∧ a + w.length ≤ 65536)
  else if k = 22 then decide (n = 0 ∧ w.length = 2 ∧ t.length = 0 ∧ e = 0)
  else if k = 23 then decide ((1 ≤ n ∧ n ≤ 125) ∧ (1 ≤ w.length ∧ w.length ≤ 121) ∧ t.length = 0 ∧ (0 ≤ e ∧ e ≤ 65535) ∧ a + n ≤ 65536 ∧ e + w.length ≤ 65536)
  else false)
def kindB (k : Int) : Bool := decide (1 ≤ k ∧ k ≤ 6) || (k == 15 || (k == 16 || (k == 22 || k == 23)))
theorem wordB_eq (n : Int) : wordB n = decide (0 ≤ n ∧ n ≤ 65535) := by unfold wordB; rw [Bool.decide_and]
theorem impl_isKind_eq (k : Int) : impl_isKind.f k = some (kindB k) := by
  simp only [impl_isKind.f, impl_in_eq, Option.bind_some, kindB]
  by_cases h : decide (1 ≤ k ∧ k ≤ 6) = true
  · rw [if_pos h, h]; rfl
  · have h2 : decide (1 ≤ k ∧ k ≤ 6) = false := by simpa using h
    rw [if_neg h, h2, Bool.false_or]
    by_cases h15 : k = 15
    · subst h15; rfl
    by_cases h16 : k = 16
    · subst h16; rfl
    by_cases h22 : k = 22
    · subst h22; rfl
    have g15 : (k == 15) = false := beq_eq_false_iff_ne.2 h15
    have g16 : (k == 16) = false := beq_eq_false_iff_ne.2 h16
    have g22 : (k == 22) = false := beq_eq_false_iff_ne.2 h22
    simp only [h15, h16, h22, if_false, g15, g16, g22, Bool.false_or]
theorem impl_isWord_eq (n : Int) : impl_isWord.f n = some (wordB n) := by
  simp only [impl_isWord.f, impl_in_eq, Option.bind_some, wordB_eq]
theorem impl_counts_ev (k : Int) : Ev (fun r => impl_counts.f r k) (countsOf k) := Ev.now _

def writtenOf (k : Int) (w : List Int) (t : List Bool) : Int := if k = 22 then 1 else (w.length : Int) + (t.length : Int)
theorem impl_written_eq (k a n : Int) (w : List Int) (t : List Bool) (e : Int) (hw : w.length ≤ 1048576) (ht : t.length ≤ 1048576) : impl_written.f k a n w t e = some (writtenOf k w t) := by
  have e1 : wrap64 ((w.length : Int) + (t.length : Int)) = (w.length : Int) + (t.length : Int) := w64 (by omega) (by omega)
  unfold writtenOf
  by_cases h : k = 22
  · simp only [impl_written.f, h, if_true]
  · simp only [impl_written.f, h, if_false, e1]

def endB (k a : Int) (w : List Int) (t : List Bool) (e : Int) : Bool := if k = 23 then decide (e + writtenOf k w t ≤ 65536) else decide (e = 0 ∧ a + writtenOf k w t ≤ 65536)
theorem reqOk_j1 (b : Bool) (k a n : Int) (w : List Int) (t : List Bool) (e : Int) (hw : w.length ≤ 1048576) (ht : t.length ≤ 1048576) (hb : b = false → wordB a = true ∧ wordB e = true) :
    Ev (fun r => impl_ReqOk.j1 r b k a n w t e) (!b && endB k a w t e) := by
  refine evUp ?_
  cases b with
  | true => simp only [impl_ReqOk.j1, if_true, Bool.not_true, Bool.false_and]; exact Ev.now _
  | false =>
    obtain ⟨ha, he⟩ := hb rfl
    rw [wordB_eq, decide_eq_true_iff] at ha he
    have hwr : 0 ≤ writtenOf k w t ∧ writtenOf k w t ≤ 2097152 := by unfold writtenOf; split <;> omega
    have e1 : wrap64 (e + writtenOf k w t) = e + writtenOf k w t := w64 (by omega) (by omega)
    have e2 : wrap64 (a + writtenOf k w t) = a + writtenOf k w t := w64 (by omega) (by omega)
    simp only [impl_ReqOk.j1, Bool.false_eq_true, if_false, impl_written_eq k a n w t e hw ht, Option.bind_some, e1, e2, Bool.not_false, Bool.true_and, endB]
    by_cases h23 : k = 23
    · simp only [h23, if_true]; exact Ev.now _
    · simp only [h23, if_false]
      by_cases h0 : e = 0
      · simp only [h0, if_true, true_and]; exact Ev.now _
      · simp only [h0, if_false, false_and, decide_false]; exact Ev.now _
theorem reqOk_j0 (b : Bool) (k a n : Int) (w : List Int) (t : List Bool) (e : Int) (hw : w.length ≤ 1048576) (ht : t.length ≤ 1048576) (hb : b = false → 0 ≤ n ∧ n ≤ 2000) :
    Ev (fun r => impl_ReqOk.j0 r b k a n w t e) (!b && (wordB a && (wordB e && (w.all wordB && (decide (a + n ≤ 65536) && endB k a w t e))))) := by
  refine evUp ?_
  cases b with
  | true => simp only [impl_ReqOk.j0, if_true, Bool.not_true, Bool.false_and]; exact Ev.now _
  | false =>
    have hn := hb rfl
    have no : Ev (fun r => impl_ReqOk.j1 r true k a n w t e) false := by
      have h := reqOk_j1 true k a n w t e hw ht (fun h => by cases h)
      simpa using h
    simp only [impl_ReqOk.j0, Bool.false_eq_true, if_false, impl_isWord_eq, impl_allWords.f, Option.bind_some, Bool.not_false, Bool.true_and]
    by_cases h1 : wordB a = true
    · simp only [h1, if_true, Bool.true_and]
      by_cases h2 : wordB e = true
      · simp only [h2, if_true, Bool.true_and]
        by_cases h3 : w.all wordB = true
        · simp only [h3, if_true, Bool.true_and]
          have ha := h1
          rw [wordB_eq, decide_eq_true_iff] at ha
          have e1 : wrap64 (a + n) = a + n := w64 (by omega) (by omega)
          have e2 : decide (a + n ≤ 65536) = !decide (a + n > 65536) := by
            rw [Bool.eq_iff_iff]; simp
          rw [e1, e2]
          exact reqOk_j1 _ k a n w t e hw ht (fun _ => ⟨h1, h2⟩)
        · have h3' : w.all wordB = false := by simpa using h3
          simp only [h3', Bool.false_eq_true, if_false, Bool.false_and]; exact no
      · have h2' : wordB e = false := by simpa using h2
        simp only [h2', Bool.false_eq_true, if_false, Bool.false_and]; exact no
    · have h1' : wordB a = false := by simpa using h1
      simp only [h1', Bool.false_eq_true, if_false, Bool.false_and]; exact no

theorem countsOf_n (k : Int) : 0 ≤ (countsOf k).1 ∧ (countsOf k).2.1 ≤ 2000 := by
  unfold countsOf
  repeat' split
  all_goals simp

theorem impl_ReqOk_raw (k a n : Int) (w : List Int) (t : List Bool) (e : Int) (hw : w.length ≤ 1048576) (ht : t.length ≤ 1048576) :
    Ev (fun r => impl_ReqOk.f r k a n w t e) (kindB k && (decide ((countsOf k).1 ≤ n ∧ n ≤ (countsOf k).2.1) && (decide ((countsOf k).2.2.1 ≤ (w.length : Int) ∧ (w.length : Int) ≤ (countsOf k).2.2.2.1) && (decide ((countsOf k).2.2.2.2.1 ≤ (t.length : Int) ∧ (t.length : Int) ≤ (countsOf k).2.2.2.2.2) && (wordB a && (wordB e && (w.all wordB && (decide (a + n ≤ 65536) && endB k a w t e)))))))) := by
  have hc := impl_counts_ev k
  have hn := countsOf_n k
  generalize countsOf k = T at hc hn
  have no : Ev (fun r => impl_ReqOk.j0 r true k a n w t e) false := by
    have h := reqOk_j0 true k a n w t e hw ht (fun h => by cases h)
    simpa using h
  simp only [impl_ReqOk.f, impl_isKind_eq, impl_in_eq]
  refine evBind hc ?_
  simp only [Option.bind_some]
  by_cases h1 : kindB k = true
  · simp only [h1, if_true, Bool.true_and]
    by_cases h2 : decide (T.1 ≤ n ∧ n ≤ T.2.1) = true
    · simp only [h2, if_true, Bool.true_and]
      rw [decide_eq_true_iff] at h2
      by_cases h3 : decide (T.2.2.1 ≤ (w.length : Int) ∧ (w.length : Int) ≤ T.2.2.2.1) = true
      · simp only [h3, if_true, Bool.true_and]
        have h := reqOk_j0 (!decide (T.2.2.2.2.1 ≤ (t.length : Int) ∧ (t.length : Int) ≤ T.2.2.2.2.2)) k a n w t e hw ht (fun _ => by omega)
        rw [Bool.not_not] at h
        exact h
      · have h3' : decide (T.2.2.1 ≤ (w.length : Int) ∧ (w.length : Int) ≤ T.2.2.2.1) = false := by simpa using h3
        simp only [h3', Bool.false_eq_true, if_false, Bool.false_and]; exact no
    · have h2' : decide (T.1 ≤ n ∧ n ≤ T.2.1) = false := by simpa using h2
      simp only [h2', Bool.false_eq_true, if_false, Bool.false_and]; exact no
  · have h1' : kindB k = false := by simpa using h1
    simp only [h1', Bool.false_eq_true, if_false, Bool.false_and]; exact no

theorem kind_cases {k : Int} (h : kindB k = true) : k = 1 ∨ k = 2 ∨ k = 3 ∨ k = 4 ∨ k = 5 ∨ k = 6 ∨ k = 15 ∨ k = 16 ∨ k = 22 ∨ k = 23 := by
  simp [kindB] at h
  omega
theorem reqB_kind {k a n : Int} {w : List Int} {t : List Bool} {e : Int} (h : kindB k = false) : reqB k a n w t e = false := by
  have hk : ¬ (k = 1 ∨ k = 2) ∧ ¬ (k = 3 ∨ k = 4) ∧ k ≠ 5 ∧ k ≠ 6 ∧ k ≠ 15 ∧ k ≠ 16 ∧ k ≠ 22 ∧ k ≠ 23 := by
    simp [kindB] at h
    omega
  obtain ⟨h1, h2, h3, h4, h5, h6, h7, h8⟩ := hk
  unfold reqB
  rw [if_neg h1, if_neg h2, if_neg h3, if_neg h4, if_neg h5, if_neg h6, if_neg h7, if_neg h8, Bool.and_false]

theorem impl_ReqOk_ev (k a n : Int) (w : List Int) (t : List Bool) (e : Int) (hw : w.length ≤ 1048576) (ht : t.length ≤ 1048576) : Ev (fun r => impl_ReqOk.f r k a n w t e) (reqB k a n w t e) := by
  have h := impl_ReqOk_raw k a n w t e hw ht
  by_cases hk : kindB k = true
  · have e2 : reqB k a n w t e = (kindB k && (decide ((countsOf k).1 ≤ n ∧ n ≤ (countsOf k).2.1) && (decide ((countsOf k).2.2.1 ≤ (w.length : Int) ∧ (w.length : Int) ≤ (countsOf k).2.2.2.1) && (decide ((countsOf k).2.2.2.2.1 ≤ (t.length : Int) ∧ (t.length : Int) ≤ (countsOf k).2.2.2.2.2) && (wordB a && (wordB e && (w.all wordB && (decide (a + n ≤ 65536) && endB k a w t e)))))))) := by
      simp only [reqB, endB, writtenOf, wordB_eq]
      generalize w.all wordB = W
      rw [Bool.eq_iff_iff]
      rcases kind_cases hk with rfl | rfl | rfl | rfl | rfl | rfl | rfl | rfl | rfl | rfl <;> cases W <;> simp [kindB, countsOf, -List.length_eq_zero_iff] <;> omega
    rw [e2]; exact h
  · have hk2 : kindB k = false := by simpa using hk
    rw [reqB_kind hk2]
    rw [hk2] at h
    simpa using h
/-- What is known of a right question's numbers. -/
theorem reqB_facts {k a n : Int} {w : List Int} {t : List Bool} {e : Int} (h : reqB k a n w t e = true) : kindB k = true ∧ 0 ≤ a ∧ a ≤ 65535 ∧
    ((k = 1 ∨ k = 2) → 1 ≤ n ∧ n ≤ 2000 ∧ w.length = 0 ∧ t.length = 0 ∧ e = 0 ∧ a + n ≤ 65536) ∧ ((k = 3 ∨ k = 4) → 1 ≤ n ∧ n ≤ 125 ∧ w.length = 0 ∧ t.length = 0 ∧ e = 0 ∧ a + n ≤ 65536) ∧
    (k = 5 → n = 0 ∧ w.length = 0 ∧ t.length = 1 ∧ e = 0) ∧ (k = 6 → n = 0 ∧ w.length = 1 ∧ t.length = 0 ∧ e = 0) ∧
    (k = 15 → n = 0 ∧ w.length = 0 ∧ 1 ≤ t.length ∧ t.length ≤ 1968 ∧ e = 0 ∧ a + t.length ≤ 65536) ∧ (k = 16 → n = 0 ∧ 1 ≤ w.length ∧ w.length ≤ 123 ∧ t.length = 0 ∧ e = 0 ∧ a + w.length ≤ 65536) ∧
    (k = 22 → n = 0 ∧ w.length = 2 ∧ t.length = 0 ∧ e = 0) ∧
    (k = 23 → 1 ≤ n ∧ n ≤ 125 ∧ 1 ≤ w.length ∧ w.length ≤ 121 ∧ t.length = 0 ∧ 0 ≤ e ∧ e ≤ 65535 ∧ a + n ≤ 65536 ∧ e + w.length ≤ 65536) := by
  have hk : kindB k = true := by
    cases hk : kindB k with
    | true => rfl
    | false => rw [reqB_kind hk] at h; cases h
  refine ⟨hk, ?_⟩
  unfold reqB at h
  rw [wordB_eq, Bool.and_eq_true, Bool.and_eq_true] at h
  obtain ⟨⟨_, ha⟩, h2⟩ := h
  rw [decide_eq_true_iff] at ha
  refine ⟨ha.1, ha.2, ?_⟩
  generalize w.length = W at h2 ⊢
  generalize t.length = T at h2 ⊢
  rcases kind_cases hk with rfl | rfl | rfl | rfl | rfl | rfl | rfl | rfl | rfl | rfl <;> simp at h2 ⊢ <;> omega
def deviceOkB (a b : List Bool) (c d : List Int) : Bool := decide (a.length ≤ 64) && decide (b.length ≤ 64) && decide (c.length ≤ 64) && decide (d.length ≤ 64) && c.all wordB && d.all wordB

theorem impl_DeviceOk_eq (a b : List Bool) (c d : List Int) : impl_DeviceOk.f a b c d = some (deviceOkB a b c d) := by
  have q : ∀ n : Nat, ((n : Int) ≤ 64) = (n ≤ 64) := fun n => propext ⟨fun h => by omega, fun h => by omega⟩
  simp only [impl_DeviceOk.f, impl_allWords.f, Option.bind_some, q, deviceOkB]
  by_cases h1 : a.length ≤ 64 <;> by_cases h2 : b.length ≤ 64 <;> by_cases h3 : c.length ≤ 64 <;> by_cases h4 : d.length ≤ 64 <;> cases h5 : c.all wordB <;> simp [h1, h2, h3, h4]
/-- What a right question touches: which table, from where, how many. -/
def spacesOf (k a n : Int) (w : List Int) (t : List Bool) (e : Int) : Int × Int × Int :=
  if reqB k a n w t e = true then
    (if k = 1 then (0, a, n) else if k = 5 ∨ k = 15 then (0, a, (t.length : Int)) else if k = 2 then (1, a, n) else if k = 4 then (3, a, n)
     else if k = 6 ∨ k = 22 then (2, a, 1) else if k = 16 then (2, a, (w.length : Int)) else (2, a, n))
  else (-1, 0, 0)
theorem spacesI_j1 (m k a n : Int) (w : List Int) (t : List Bool) (e : Int) (b : Bool) (hb : b = decide (k = 1 ∨ k = 5 ∨ k = 15)) :
    Ev (fun r => impl_Spaces.j1 r m k b k a n w t e) (if k = 1 ∨ k = 5 ∨ k = 15 then (0, a, m) else if k = 2 then (1, a, m) else if k = 4 then (3, a, m) else (2, a, m)) := by
  refine evUp ?_
  by_cases h : k = 1 ∨ k = 5 ∨ k = 15
  · have hb2 : b = true := by rw [hb]; exact decide_eq_true h
    simp only [impl_Spaces.j1, hb2, h, if_true]; exact Ev.now _
  · have hb2 : b = false := by rw [hb]; exact decide_eq_false h
    simp only [impl_Spaces.j1, hb2, h, Bool.false_eq_true, if_false]
    split
    · exact Ev.now _
    · split <;> exact Ev.now _
theorem spacesI_j0 (m k a n : Int) (w : List Int) (t : List Bool) (e : Int) :
    Ev (fun r => impl_Spaces.j0 r m k a n w t e) (if k = 1 ∨ k = 5 ∨ k = 15 then (0, a, m) else if k = 2 then (1, a, m) else if k = 4 then (3, a, m) else (2, a, m)) := by
  refine evUp ?_
  by_cases h1 : k = 1
  · subst h1
    simp only [impl_Spaces.j0, if_true]
    exact spacesI_j1 m 1 a n w t e _ (by decide)
  by_cases h5 : k = 5
  · subst h5
    simp only [impl_Spaces.j0, Int.reduceEq, if_true, if_false]
    exact spacesI_j1 m 5 a n w t e _ (by decide)
  have hh := spacesI_j1 m k a n w t e (k == 15) (by simp [h1, h5, BEq.beq])
  simp only [impl_Spaces.j0, h1, h5, if_false, false_or] at hh ⊢
  exact hh
theorem impl_Spaces_ev (k a n : Int) (w : List Int) (t : List Bool) (e : Int) (hw : w.length ≤ 1048576) (ht : t.length ≤ 1048576) : Ev (fun r => impl_Spaces.f r k a n w t e) (spacesOf k a n w t e) := by
  simp only [impl_Spaces.f, impl_written_eq k a n w t e hw ht, Option.bind_some]
  refine evBind (impl_ReqOk_ev k a n w t e hw ht) ?_
  by_cases hr : reqB k a n w t e = true
  · have f := reqB_facts hr
    have key : ∀ m : Int, m = (if n = 0 then writtenOf k w t else n) → (if k = 1 ∨ k = 5 ∨ k = 15 then ((0 : Int), a, m) else if k = 2 then (1, a, m) else if k = 4 then (3, a, m) else (2, a, m)) = spacesOf k a n w t e := by
      intro m hm
      have hm1 : m = if k = 1 ∨ k = 2 ∨ k = 3 ∨ k = 4 ∨ k = 23 then n else if k = 5 ∨ k = 15 then (t.length : Int) else if k = 6 ∨ k = 22 then 1 else (w.length : Int) := by
        rw [hm]; unfold writtenOf
        generalize w.length = W at f ⊢
        generalize t.length = T at f ⊢
        rcases kind_cases f.1 with rfl | rfl | rfl | rfl | rfl | rfl | rfl | rfl | rfl | rfl <;> simp at f ⊢ <;> (try split) <;> omega
      rw [hm1]
      unfold spacesOf
      simp only [hr, if_true]
      rcases kind_cases f.1 with rfl | rfl | rfl | rfl | rfl | rfl | rfl | rfl | rfl | rfl <;> rfl
    simp only [hr, if_true]
    by_cases h0 : n = 0
    · simp only [h0, if_true]
      have hh := spacesI_j0 (writtenOf k w t) k a n w t e
      rw [key _ (by rw [if_pos h0])] at hh
      rw [h0] at hh
      exact hh
    · simp only [h0, if_false]
      have hh := spacesI_j0 n k a n w t e
      rw [key _ (by rw [if_neg h0])] at hh
      exact hh
  · have er : spacesOf k a n w t e = (-1, 0, 0) := by unfold spacesOf; rw [if_neg hr]
    simp only [hr, if_false, er]; exact Ev.now _
/-- Bits, filled up to whole bytes. -/
def filledOf (l : List Bool) : List Bool := l ++ List.replicate ((8 - l.length % 8) % 8) false
theorem filled_l0 (d : Nat) : ∀ l : List Bool, l.length ≤ 1048576 + (8 - d) → d ≤ 8 → (8 - l.length % 8) % 8 = d → Ev (fun r => impl_filled.l0 r l) (l ++ List.replicate d false) := by
  induction d with
  | zero =>
    intro l hl _ hd
    have h0 : ((l.length : Int) % 8) = 0 := by omega
    refine evUp ?_
    simp only [impl_filled.l0, h0, if_true, List.replicate_zero, List.append_nil]
    exact Ev.now _
  | succ d ih =>
    intro l hl h8 hd
    have h0 : ¬ ((l.length : Int) % 8) = 0 := by omega
    have h1 : l.length < 140737488355328 := by omega
    have hh := ih (l ++ [false]) (by rw [List.length_append, List.length_singleton]; omega) (by omega) (by rw [List.length_append, List.length_singleton]; omega)
    rw [List.append_assoc, List.singleton_append, ← List.replicate_succ] at hh
    refine evUp ?_
    simp only [impl_filled.l0, h0, h1, if_true, if_false]
    exact hh
theorem impl_filled_ev (l : List Bool) (hl : l.length ≤ 1048576) : Ev (fun r => impl_filled.f r l) (filledOf l) := by
  have h1 : l.length < 140737488355328 := by omega
  simp only [impl_filled.f, slices_Clone_bool_bool.f, h1, if_true, Option.bind_some]
  exact filled_l0 _ l (by omega) (by omega) rfl

/-- Is all there that a right question touches? -/
def thereB (c i : List Bool) (h v : List Int) (k a n : Int) (w : List Int) (t : List Bool) (e : Int) : Bool :=
  if k = 1 then decide (a + n ≤ (c.length : Int)) else if k = 2 then decide (a + n ≤ (i.length : Int)) else if k = 4 then decide (a + n ≤ (v.length : Int))
  else if k = 5 ∨ k = 15 then decide (a + (t.length : Int) ≤ (c.length : Int)) else if k = 6 ∨ k = 22 then decide (a + 1 ≤ (h.length : Int)) else if k = 16 then decide (a + (w.length : Int) ≤ (h.length : Int))
  else if k = 23 then decide (a + n ≤ (h.length : Int) ∧ e + (w.length : Int) ≤ (h.length : Int)) else decide (a + n ≤ (h.length : Int))
/-- A word masked. -/
def maskOf (x a o : Int) : Int := Go.bits .or .i64 (Go.bits .and .i64 x a) (Go.bits .andNot .i64 o a)
abbrev Served := List Bool × List Bool × List Int × List Int × Int × Int × Int × Int × List Int × List Bool
/-- What a device whose places are there does with a right question, and tells. -/
def doneOf (c i : List Bool) (h v : List Int) (k a n : Int) (w : List Int) (t : List Bool) (e : Int) : Served :=
  if k = 1 then (c, i, h, v, k, 0, 0, 0, [], filledOf ((c.take (a + n).toNat).drop a.toNat))
  else if k = 2 then (c, i, h, v, k, 0, 0, 0, [], filledOf ((i.take (a + n).toNat).drop a.toNat))
  else if k = 3 then (c, i, h, v, k, 0, 0, 0, (h.take (a + n).toNat).drop a.toNat, [])
  else if k = 4 then (c, i, h, v, k, 0, 0, 0, (v.take (a + n).toNat).drop a.toNat, [])
  else if k = 5 then (over c a.toNat t, i, h, v, k, 0, a, 0, w, t)
  else if k = 6 then (c, i, over h a.toNat w, v, k, 0, a, 0, w, t)
  else if k = 15 then (over c a.toNat t, i, h, v, k, 0, a, (t.length : Int), [], [])
  else if k = 16 then (c, i, over h a.toNat w, v, k, 0, a, (w.length : Int), [], [])
  else if k = 22 then (c, i, h.set a.toNat (maskOf (rd h a) (rd w 0) (rd w 1)), v, k, 0, a, 0, w, t)
  else (c, i, over h e.toNat w, v, k, 0, 0, 0, ((over h e.toNat w).take (a + n).toNat).drop a.toNat, [])
/-- What a device does with a question, and tells. -/
def servedOf (c i : List Bool) (h v : List Int) (k a n : Int) (w : List Int) (t : List Bool) (e : Int) : Served :=
  if deviceOkB c i h v = true ∧ reqB k a n w t e = true then (if thereB c i h v k a n w t e = true then doneOf c i h v k a n w t e else (c, i, h, v, k, 2, 0, 0, [], []))
  else if reqB k a n w t e = true then (c, i, h, v, k, 4, 0, 0, [], []) else (c, i, h, v, 0, 0, 0, 0, [], [])
theorem deviceOkB_len {c i : List Bool} {h v : List Int} (hd : deviceOkB c i h v = true) : c.length ≤ 64 ∧ i.length ≤ 64 ∧ h.length ≤ 64 ∧ v.length ≤ 64 := by
  simp only [deviceOkB, Bool.and_eq_true, decide_eq_true_eq] at hd
  exact ⟨hd.1.1.1.1.1, hd.1.1.1.1.2, hd.1.1.1.2, hd.1.1.2⟩
theorem fault_ev (k a n : Int) (w : List Int) (t : List Bool) (e s : Int) (hw : w.length ≤ 1048576) (ht : t.length ≤ 1048576) (hs : 1 ≤ s ∧ s ≤ 255) :
    Ev (fun r => impl_FaultOf.f r k a n w t e s) (if reqB k a n w t e = true then (k, s, 0, 0, ([] : List Int), ([] : List Bool)) else (0, 0, 0, 0, [], [])) := by
  simp only [impl_FaultOf.f, impl_in_eq, decide_eq_true hs, Option.bind_some, if_true]
  refine evBind (impl_ReqOk_ev k a n w t e hw ht) ?_
  split <;> exact Ev.now _
theorem room_eq (c i : List Bool) (h v : List Int) (s : Int) (h0 : 0 ≤ s) (h3 : s ≤ 3) : impl_room.f c i h v s = some (rd [(c.length : Int), (i.length : Int), (h.length : Int), (v.length : Int)] s) := by
  have h4 : s < (([(c.length : Int), (i.length : Int), (h.length : Int), (v.length : Int)] : List Int).length : Int) := by simp; omega
  simp only [impl_room.f, Option.bind_some, if_pos h0, if_pos h4]
theorem clone_b (l : List Bool) (hl : l.length ≤ 1048576) : slices_Clone_bool_bool.f l = some l := by
  have h1 : l.length < 140737488355328 := by omega
  simp only [slices_Clone_bool_bool.f, h1, if_true]
theorem clone_i (l : List Int) (hl : l.length ≤ 1048576) : slices_Clone_int_int.f l = some l := by
  have h1 : l.length < 17592186044416 := by omega
  simp only [slices_Clone_int_int.f, h1, if_true]
/-- What impl.does comes to. -/
theorem does_ev (c i : List Bool) (h v : List Int) (k a n : Int) (w : List Int) (t : List Bool) (e : Int) (hd : deviceOkB c i h v = true) (hr : reqB k a n w t e = true) (ht : thereB c i h v k a n w t e = true) (hw : w.length ≤ 1048576) (hb : t.length ≤ 1048576) :
    Ev (fun r => (impl_does.f r c i h v k a n w t e).bind fun z => some ((z.1, i, z.2.1, v, k, (0 : Int), z.2.2.1, z.2.2.2.1, z.2.2.2.2.1, z.2.2.2.2.2) : Served)) (doneOf c i h v k a n w t e) := by
  obtain ⟨c64, i64, h64, v64⟩ := deviceOkB_len hd
  obtain ⟨hk, a0, a1, f12, f34, f5, f6, f15, f16, f22, f23⟩ := reqB_facts hr
  have hcut : ∀ (l : List Int), l.length ≤ 64 → ((l.take (a + n).toNat).drop a.toNat).length ≤ 1048576 := fun l hl => by rw [List.length_drop, List.length_take]; omega
  have hcutb : ∀ (l : List Bool), l.length ≤ 64 → ((l.take (a + n).toNat).drop a.toNat).length ≤ 1048576 := fun l hl => by rw [List.length_drop, List.length_take]; omega
  rcases kind_cases hk with rfl | rfl | rfl | rfl | rfl | rfl | rfl | rfl | rfl | rfl
  · have q : 0 ≤ a ∧ 0 ≤ n ∧ a + n ≤ (c.length : Int) := by have := f12 (.inl rfl); simp [thereB] at ht; omega
    simp only [impl_does.f, doneOf, if_true, if_pos q]
    refine evBind (evBind (impl_filled_ev _ (hcutb c c64)) (Ev.now _)) (Ev.now _)
  · have q : 0 ≤ a ∧ 0 ≤ n ∧ a + n ≤ (i.length : Int) := by have := f12 (.inr rfl); simp [thereB] at ht; omega
    simp only [impl_does.f, doneOf, Int.reduceEq, if_true, if_false, if_pos q]
    refine evBind (evBind (impl_filled_ev _ (hcutb i i64)) (Ev.now _)) (Ev.now _)
  · have q : 0 ≤ a ∧ 0 ≤ n ∧ a + n ≤ (h.length : Int) := by have := f34 (.inl rfl); simp [thereB] at ht; omega
    simp only [impl_does.f, doneOf, Int.reduceEq, if_true, if_false, if_pos q, clone_i _ (hcut h h64), Option.bind_some]
    exact Ev.now _
  · have q : 0 ≤ a ∧ 0 ≤ n ∧ a + n ≤ (v.length : Int) := by have := f34 (.inr rfl); simp [thereB] at ht; omega
    simp only [impl_does.f, doneOf, Int.reduceEq, if_true, if_false, if_pos q, clone_i _ (hcut v v64), Option.bind_some]
    exact Ev.now _
  · have q : 0 ≤ a ∧ a + (t.length : Int) ≤ (c.length : Int) := by simp [thereB] at ht; exact ⟨a0, ht⟩
    simp only [impl_does.f, doneOf, Int.reduceEq, if_true, if_false, clone_i w hw, clone_b t hb, and_true, if_pos q, Option.bind_some]
    exact Ev.now _
  · have q : 0 ≤ a ∧ a + (w.length : Int) ≤ (h.length : Int) := by have := f6 rfl; simp [thereB] at ht; omega
    simp only [impl_does.f, doneOf, Int.reduceEq, if_true, if_false, clone_i w hw, clone_b t hb, and_true, if_pos q, Option.bind_some]
    exact Ev.now _
  · have q : 0 ≤ a ∧ a + (t.length : Int) ≤ (c.length : Int) := by simp [thereB] at ht; exact ⟨a0, ht⟩
    have m : writtenOf 15 w t = (t.length : Int) := by have := f15 rfl; simp [writtenOf]; omega
    simp only [impl_does.f, doneOf, Int.reduceEq, if_true, if_false, if_pos q, impl_written_eq 15 a n w t e hw hb, Option.bind_some, m]
    exact Ev.now _
  · have q : 0 ≤ a ∧ a + (w.length : Int) ≤ (h.length : Int) := by simp [thereB] at ht; exact ⟨a0, ht⟩
    have m : writtenOf 16 w t = (w.length : Int) := by have := f16 rfl; simp [writtenOf]; omega
    simp only [impl_does.f, doneOf, Int.reduceEq, if_true, if_false, if_pos q, impl_written_eq 16 a n w t e hw hb, Option.bind_some, m]
    exact Ev.now _
  · have q : 0 ≤ a ∧ a < (h.length : Int) ∧ w.length = 2 := by have := f22 rfl; simp [thereB] at ht; omega
    simp only [impl_does.f, doneOf, Int.reduceEq, if_true, if_false, clone_i w hw, clone_b t hb, and_true, if_pos q, Option.bind_some, maskOf]
    exact Ev.now _
  · have q : (0 ≤ e ∧ e + (w.length : Int) ≤ (h.length : Int)) ∧ 0 ≤ a ∧ 0 ≤ n ∧ a + n ≤ (h.length : Int) := by have := f23 rfl; simp [thereB] at ht; omega
    simp only [impl_does.f, doneOf, Int.reduceEq, if_true, if_false, if_pos q, clone_i _ (hcut (over h e.toNat w) (by rw [over_length]; exact h64)), Option.bind_some]
    exact Ev.now _
theorem impl_Serve_ev (c i : List Bool) (h v : List Int) (k a n : Int) (w : List Int) (t : List Bool) (e : Int) (hc : c.length ≤ 1048576) (hi : i.length ≤ 1048576) (hh : h.length ≤ 1048576) (hv : v.length ≤ 1048576) (hw : w.length ≤ 1048576) (hb : t.length ≤ 1048576) :
    Ev (fun r => impl_Serve.f r c i h v k a n w t e) (servedOf c i h v k a n w t e) := by
  have f4 := fault_ev k a n w t e 4 hw hb (by omega)
  have f2 := fault_ev k a n w t e 2 hw hb (by omega)
  simp only [impl_Serve.f, impl_cloneDevice.f, clone_b c hc, clone_b i hi, clone_i h hh, clone_i v hv, Option.bind_some, impl_DeviceOk_eq, servedOf]
  by_cases hd : deviceOkB c i h v = true
  · simp only [hd, if_true, true_and]
    refine evBind (impl_ReqOk_ev k a n w t e hw hb) ?_
    by_cases hr : reqB k a n w t e = true
    · simp only [hr, if_true] at f2 ⊢
      refine evBind (impl_Spaces_ev k a n w t e hw hb) ?_
      obtain ⟨c64, i64, h64, v64⟩ := deviceOkB_len hd
      have done := fun ht => does_ev c i h v k a n w t e hd hr ht hw hb
      have wr := impl_written_eq k a n w t e hw hb
      have fin : Ev (fun r => (impl_FaultOf.f r k a n w t e 2).bind fun f => some ((c, i, h, v, f.1, f.2.1, f.2.2.1, f.2.2.2.1, f.2.2.2.2.1, f.2.2.2.2.2) : Served)) (c, i, h, v, k, 2, 0, 0, [], []) := evBind f2 (Ev.now _)
      obtain ⟨hk, a0, a1, g12, g34, g5, g6, g15, g16, g22, g23⟩ := reqB_facts hr
      have main : ∀ s m rm : Int, spacesOf k a n w t e = (s, a, m) → impl_room.f c i h v s = some rm → 0 ≤ m → m ≤ 100000 → k ≠ 23 → thereB c i h v k a n w t e = decide (a + m ≤ rm) →
          Ev (fun r => (impl_room.f c i h v (spacesOf k a n w t e).1).bind fun rm => if wrap64 ((spacesOf k a n w t e).2.1 + (spacesOf k a n w t e).2.2) > rm then ((impl_FaultOf.f r k a n w t e 2).bind fun f => some ((c, i, h, v, f.1, f.2.1, f.2.2.1, f.2.2.2.1, f.2.2.2.2.1, f.2.2.2.2.2) : Served)) else if k = 23 then ((impl_written.f k a n w t e).bind fun wr => if wrap64 (e + wr) > rm then ((impl_FaultOf.f r k a n w t e 2).bind fun f => some ((c, i, h, v, f.1, f.2.1, f.2.2.1, f.2.2.2.1, f.2.2.2.2.1, f.2.2.2.2.2) : Served)) else ((impl_does.f r c i h v k a n w t e).bind fun z => some ((z.1, i, z.2.1, v, k, (0 : Int), z.2.2.1, z.2.2.2.1, z.2.2.2.2.1, z.2.2.2.2.2) : Served))) else ((impl_does.f r c i h v k a n w t e).bind fun z => some ((z.1, i, z.2.1, v, k, (0 : Int), z.2.2.1, z.2.2.2.1, z.2.2.2.2.1, z.2.2.2.2.2) : Served)))
            (if thereB c i h v k a n w t e = true then doneOf c i h v k a n w t e else (c, i, h, v, k, 2, 0, 0, [], [])) := by
        intro s m rm hs hrm m0 m1 hne hth
        have ww : wrap64 (a + m) = a + m := w64 (by omega) (by omega)
        simp only [hs, hrm, Option.bind_some, ww, hne, if_false]
        by_cases x : a + m > rm
        · rw [hth, decide_eq_false (by omega)]
          simp only [x, if_true, Bool.false_eq_true, if_false]
          exact fin
        · have y := hth.trans (decide_eq_true (by omega : a + m ≤ rm))
          simp only [x, y, if_true, if_false]
          exact done y
      have sp : spacesOf k a n w t e = (if k = 1 then ((0 : Int), a, n) else if k = 5 ∨ k = 15 then (0, a, (t.length : Int)) else if k = 2 then (1, a, n) else if k = 4 then (3, a, n) else if k = 6 ∨ k = 22 then (2, a, 1) else if k = 16 then (2, a, (w.length : Int)) else (2, a, n)) := by
        unfold spacesOf; rw [if_pos hr]
      rcases kind_cases hk with rfl | rfl | rfl | rfl | rfl | rfl | rfl | rfl | rfl | rfl
      · have := g12 (.inl rfl); exact main 0 n c.length (by rw [sp]; rfl) (room_eq c i h v 0 (by omega) (by omega)) (by omega) (by omega) (by decide) rfl
      · have := g12 (.inr rfl); exact main 1 n i.length (by rw [sp]; rfl) (room_eq c i h v 1 (by omega) (by omega)) (by omega) (by omega) (by decide) rfl
      · have := g34 (.inl rfl); exact main 2 n h.length (by rw [sp]; rfl) (room_eq c i h v 2 (by omega) (by omega)) (by omega) (by omega) (by decide) rfl
      · have := g34 (.inr rfl); exact main 3 n v.length (by rw [sp]; rfl) (room_eq c i h v 3 (by omega) (by omega)) (by omega) (by omega) (by decide) rfl
      · have := g5 rfl; exact main 0 t.length c.length (by rw [sp]; rfl) (room_eq c i h v 0 (by omega) (by omega)) (by omega) (by omega) (by decide) rfl
      · exact main 2 1 h.length (by rw [sp]; rfl) (room_eq c i h v 2 (by omega) (by omega)) (by omega) (by omega) (by decide) rfl
      · have := g15 rfl; exact main 0 t.length c.length (by rw [sp]; rfl) (room_eq c i h v 0 (by omega) (by omega)) (by omega) (by omega) (by decide) rfl
      · have := g16 rfl; exact main 2 w.length h.length (by rw [sp]; rfl) (room_eq c i h v 2 (by omega) (by omega)) (by omega) (by omega) (by decide) rfl
      · exact main 2 1 h.length (by rw [sp]; rfl) (room_eq c i h v 2 (by omega) (by omega)) (by omega) (by omega) (by decide) rfl
      · have g := g23 rfl
        have hs : spacesOf 23 a n w t e = (2, a, n) := by rw [sp]; rfl
        have hrm : impl_room.f c i h v 2 = some (h.length : Int) := room_eq c i h v 2 (by omega) (by omega)
        have ww : wrap64 (a + n) = a + n := w64 (by omega) (by omega)
        have m : writtenOf 23 w t = (w.length : Int) := by simp [writtenOf]; omega
        have we : wrap64 (e + (w.length : Int)) = e + (w.length : Int) := w64 (by omega) (by omega)
        have hth : thereB c i h v 23 a n w t e = decide (a + n ≤ (h.length : Int) ∧ e + (w.length : Int) ≤ (h.length : Int)) := rfl
        simp only [hs, hrm, Option.bind_some, ww, if_true, impl_written_eq 23 a n w t e hw hb, m, we]
        by_cases x : a + n > (h.length : Int)
        · rw [hth, decide_eq_false (by omega)]
          simp only [x, if_true, Bool.false_eq_true, if_false]
          exact fin
        · by_cases x2 : e + (w.length : Int) > (h.length : Int)
          · rw [hth, decide_eq_false (by omega)]
            simp only [x, x2, if_true, Bool.false_eq_true, if_false]
            exact fin
          · have y := hth.trans (decide_eq_true (⟨by omega, by omega⟩ : a + n ≤ (h.length : Int) ∧ e + (w.length : Int) ≤ (h.length : Int)))
            simp only [x, x2, y, if_true, if_false]
            exact done y
    · have hr2 : reqB k a n w t e = false := by simpa using hr
      simp only [hr2, Bool.false_eq_true, if_false] at f4 ⊢
      exact evBind f4 (Ev.now _)
  · simp only [hd, Bool.false_eq_true, if_false, false_and]
    by_cases hr : reqB k a n w t e = true
    · simp only [hr, if_true] at f4 ⊢
      exact evBind f4 (Ev.now _)
    · have hr2 : reqB k a n w t e = false := by simpa using hr
      simp only [hr2, Bool.false_eq_true, if_false] at f4 ⊢
      exact evBind f4 (Ev.now _)
/-- A device and an answer, as a call's own. -/
def SrvPost (w : World) (r1 r2 : List Bool) (r3 r4 : List Int) (r5 r6 r7 r8 : Int) (r9 : List Int) (r10 : List Bool) (e : Ending) (w' : World) : Prop := ∃ B0 B1 B2 B3 B8 B9 e0 e1 e2 e3 e8 e9, e = .returned (.tuple #[.agg #[.slice B0 r1.length e0, .slice B1 r2.length e1, .slice B2 r3.length e2, .slice B3 r4.length e3], .agg #[.int .i64 r5, .int .i64 r6, .int .i64 r7, .int .i64 r8, .slice B8 r9.length e8, .slice B9 r10.length e9]]) ∧
  Own w w' [rb (.slice B0 r1.length e0) r1, rb (.slice B1 r2.length e1) r2, ri (.slice B2 r3.length e2) r3, ri (.slice B3 r4.length e3) r4, ri (.slice B8 r9.length e8) r9, rb (.slice B9 r10.length e9) r10]
theorem serve_own {w : World} {A0 A1 A2 A3 A4 A5 : Option Addr} {c0 c1 c2 c3 c4 c5 : Nat} {l0 l1 l5 : List Bool} {l2 l3 l4 : List Int} {kd at_ n wat : Int} {r1 r2 : List Bool} {r3 r4 : List Int} {r5 r6 r7 r8 : Int} {r9 : List Int} {r10 : List Bool} (hS : servedOf l0 l1 l2 l3 kd at_ n l4 l5 wat = (r1, r2, r3, r4, r5, r6, r7, r8, r9, r10)) (h0 : Kd.C Kd.bool w A0 l0.length l0) (k0 : l0.length ≤ c0) (h1 : Kd.C Kd.bool w A1 l1.length l1) (k1 : l1.length ≤ c1) (h2 : Kd.C (Kd.int .i64) w A2 l2.length l2) (k2 : l2.length ≤ c2) (h3 : Kd.C (Kd.int .i64) w A3 l3.length l3) (k3 : l3.length ≤ c3) (h4 : Kd.C (Kd.int .i64) w A4 l4.length l4) (k4 : l4.length ≤ c4) (h5 : Kd.C Kd.bool w A5 l5.length l5) (k5 : l5.length ≤ c5)
    (m0 : l0.length ≤ 1048576 := by first | decide | (simp; done) | omega) (m1 : l1.length ≤ 1048576 := by first | decide | (simp; done) | omega) (m2 : l2.length ≤ 1048576 := by first | decide | (simp; done) | omega) (m3 : l3.length ≤ 1048576 := by first | decide | (simp; done) | omega) (m4 : l4.length ≤ 1048576 := by first | decide | (simp; done) | omega) (m5 : l5.length ≤ 1048576 := by first | decide | (simp; done) | omega) :
    Calls Try.prog 10 #[.agg #[.slice A0 l0.length c0, .slice A1 l1.length c1, .slice A2 l2.length c2, .slice A3 l3.length c3], .agg #[.int .i64 kd, .int .i64 at_, .int .i64 n, .slice A4 l4.length c4, .slice A5 l5.length c5, .int .i64 wat]] w (SrvPost w r1 r2 r3 r4 r5 r6 r7 r8 r9 r10) := by
  obtain ⟨k, hk⟩ := Ev.rounds (g := fun k => impl_Serve.f k l0 l1 l2 l3 kd at_ n l4 l5 wat) (hS ▸ impl_Serve_ev l0 l1 l2 l3 kd at_ n l4 l5 wat m0 m1 m2 m3 m4 m5)
  refine (impl_Serve.calls k A0 c0 l0 A1 c1 l1 A2 c2 l2 A3 c3 l3 kd at_ n A4 c4 l4 A5 c5 l5 wat r1 r2 r3 r4 r5 r6 r7 r8 r9 r10 w h0 k0 h1 k1 h2 k2 h3 k3 h4 k4 h5 k5 hk).mono ?_
  rintro e w' ⟨v0, v1, v2, v3, v8, v9, rfl, o0, o1, o2, o3, o8, o9, hb⟩
  obtain ⟨B0, e0, rfl⟩ := Kd.R_slice o0
  obtain ⟨B1, e1, rfl⟩ := Kd.R_slice o1
  obtain ⟨B2, e2, rfl⟩ := Kd.R_slice o2
  obtain ⟨B3, e3, rfl⟩ := Kd.R_slice o3
  obtain ⟨B8, e8, rfl⟩ := Kd.R_slice o8
  obtain ⟨B9, e9, rfl⟩ := Kd.R_slice o9
  exact ⟨_, _, _, _, _, _, _, _, _, _, _, _, rfl, (Own.nil w).r6 hb o0 o1 o2 o3 o8 o9⟩
end Go.Proofs.Ytiogbjbkfhhdhaa.G
