/- The law on PutResp is true at every answer. No condition. -/
import Derived.Test.YtfiplepbmennbaaSFnExactPutResp
import Derived.Test.YtfiplepbmennbaaC
namespace Go.Proofs.Ytfiplepbmennbaa.Pure
open Go.Proofs.Ytfiplepbmennbaa.G Go Go.RowKit Go.Proofs.Ytfiplepbmennbaa.PFnExactPutResp Go.Proofs.YtfiplepbmennbaaW.PrintWords Go.Proofs.YtfiplepbmennbaaW.PrintLast Go.Proofs.Ytfiplepbmennbaa.PlainC
set_option linter.unusedVariables false
set_option linter.unusedSimpArgs false

theorem szIntS_some (l : List Int) (m : Int) (hl : l.length ≤ maxLen) (h0 : 0 ≤ m) (h1 : m ≤ 1048576) : ∃ v, laws_szIntS.f l m = some v ∧ (¬ v < 0 → v = m - l.length ∧ l.length ≤ 1048576) := by
  unfold maxLen at hl
  have e : wrap64 (m - (l.length : Int)) = m - (l.length : Int) := w64 (by omega) (by omega)
  by_cases h : m - (l.length : Int) < 0
  · exact ⟨-1, by simp only [laws_szIntS.f, e, h, if_true], fun hn => absurd (by decide) hn⟩
  · exact ⟨_, by simp only [laws_szIntS.f, e, h, if_false], fun _ => ⟨rfl, by omega⟩⟩

theorem szBoolS_some (l : List Bool) (m : Int) (hl : l.length ≤ maxLen) (h0 : 0 ≤ m) (h1 : m ≤ 1048576) : ∃ v, laws_szBoolS.f l m = some v ∧ (¬ v < 0 → v = m - l.length ∧ l.length ≤ 1048576) := by
  unfold maxLen at hl
  have e : wrap64 (m - (l.length : Int)) = m - (l.length : Int) := w64 (by omega) (by omega)
  by_cases h : m - (l.length : Int) < 0
  · exact ⟨-1, by simp only [laws_szBoolS.f, e, h, if_true], fun hn => absurd (by decide) hn⟩
  · exact ⟨_, by simp only [laws_szBoolS.f, e, h, if_false], fun _ => ⟨rfl, by omega⟩⟩

theorem toIntS_l0 (l : List Int) (hl : l.length ≤ 35184372088832) (d : Nat) : ∀ i : Nat, i ≤ l.length → l.length - i = d →
    Ev (fun k => laws_toIntS.l0 k l (l.take i ++ List.replicate (l.length - i) 0) (i : Int)) l := by
  induction d with
  | zero =>
    intro i hi hd
    obtain rfl : i = l.length := by omega
    refine evUp ?_
    have h1 : ¬ ((l.length : Nat) : Int) < (l.length : Int) := by omega
    simp only [laws_toIntS.l0, h1, if_false]
    rw [List.take_length, Nat.sub_self, List.replicate_zero, List.append_nil]
    exact Ev.now _
  | succ d ih =>
    intro i hi hd
    have hlt : i < l.length := by omega
    refine evUp ?_
    have h1 : (i : Int) < (l.length : Int) := by omega
    have h2 : 0 ≤ (i : Int) := by omega
    have h3 : (i : Int) < ((l.take i ++ List.replicate (l.length - i) (0 : Int)).length : Int) := by
      rw [List.length_append, List.length_take, List.length_replicate]; omega
    simp only [laws_toIntS.l0, h1, h2, h3, if_true]
    rw [rd_get hlt, Int.toNat_natCast, set_copy (0 : Int) l i hlt, w64 (by omega) (by omega)]
    exact ih (i + 1) (by omega) (by omega)

theorem toIntS_ev (l : List Int) (hl : l.length ≤ 35184372088832) : Ev (fun k => laws_toIntS.f k l) l := by
  have h := toIntS_l0 l hl l.length 0 (by omega) (by omega)
  have h1 : 0 ≤ (l.length : Int) := by omega
  have h2 : ((l.length : Int)).toNat ≤ 35184372088832 := by omega
  simp only [laws_toIntS.f, h1, h2, if_true]
  rw [Int.toNat_natCast]
  simpa using h

theorem toBoolS_l0 (l : List Bool) (hl : l.length ≤ 140737488351232) (d : Nat) : ∀ i : Nat, i ≤ l.length → l.length - i = d →
    Ev (fun k => laws_toBoolS.l0 k l (l.take i ++ List.replicate (l.length - i) false) (i : Int)) l := by
  induction d with
  | zero =>
    intro i hi hd
    obtain rfl : i = l.length := by omega
    refine evUp ?_
    have h1 : ¬ ((l.length : Nat) : Int) < (l.length : Int) := by omega
    simp only [laws_toBoolS.l0, h1, if_false]
    rw [List.take_length, Nat.sub_self, List.replicate_zero, List.append_nil]
    exact Ev.now _
  | succ d ih =>
    intro i hi hd
    have hlt : i < l.length := by omega
    refine evUp ?_
    have h1 : (i : Int) < (l.length : Int) := by omega
    have h2 : 0 ≤ (i : Int) := by omega
    have h3 : (i : Int) < ((l.take i ++ List.replicate (l.length - i) false).length : Int) := by
      rw [List.length_append, List.length_take, List.length_replicate]; omega
    simp only [laws_toBoolS.l0, h1, h2, h3, if_true]
    rw [rdOf_get hlt, Int.toNat_natCast, set_copy false l i hlt, w64 (by omega) (by omega)]
    exact ih (i + 1) (by omega) (by omega)

theorem toBoolS_ev (l : List Bool) (hl : l.length ≤ 140737488351232) : Ev (fun k => laws_toBoolS.f k l) l := by
  have h := toBoolS_l0 l hl l.length 0 (by omega) (by omega)
  have h1 : 0 ≤ (l.length : Int) := by omega
  have h2 : ((l.length : Int)).toNat ≤ 281474976710656 := by omega
  simp only [laws_toBoolS.f, h1, h2, if_true]
  rw [Int.toNat_natCast]
  simpa using h

theorem eqIntS_l0 (a b : List Int) (hl : a.length ≤ 140737488351232) (he : a.length = b.length) (d : Nat) : ∀ i : Nat, i ≤ a.length → a.length - i = d →
    Ev (fun k => laws_eqIntS.l0 k a b (i : Int)) (decide (a.drop i = b.drop i)) := by
  induction d with
  | zero =>
    intro i hi hd
    obtain rfl : i = a.length := by omega
    refine evUp ?_
    have h1 : ¬ ((a.length : Nat) : Int) < (a.length : Int) := by omega
    simp only [laws_eqIntS.l0, h1, if_false]
    have e : decide (a.drop a.length = b.drop a.length) = true := by
      rw [List.drop_length, he, List.drop_length]; rfl
    rw [e]
    exact Ev.now _
  | succ d ih =>
    intro i hi hd
    have ha : i < a.length := by omega
    have hb : i < b.length := by omega
    refine evUp ?_
    have h1 : (i : Int) < (a.length : Int) := by omega
    have h2 : 0 ≤ (i : Int) := by omega
    have h3 : (i : Int) < (b.length : Int) := by omega
    simp only [laws_eqIntS.l0, h1, h2, h3, if_true]
    rw [rd_get ha, rd_get hb, w64 (by omega) (by omega)]
    by_cases e : a[i] = b[i]
    · simp only [e, if_true]
      have e2 : decide (a.drop i = b.drop i) = decide (a.drop (i + 1) = b.drop (i + 1)) := by
        rw [decide_eq_decide, drop_eq_iff ha hb]; simp [e]
      rw [e2]
      exact ih (i + 1) (by omega) (by omega)
    · simp only [e, if_false]
      have e2 : decide (a.drop i = b.drop i) = false := by
        rw [decide_eq_false_iff_not, drop_eq_iff ha hb]; simp [e]
      rw [e2]
      exact Ev.now _

theorem eqIntS_ev (a b : List Int) (hl : a.length ≤ 140737488351232) : Ev (fun k => laws_eqIntS.f k a b) (decide (a = b)) := by
  by_cases he : a.length = b.length
  · have h := eqIntS_l0 a b hl he a.length 0 (by omega) (by omega)
    have h1 : (a.length : Int) = (b.length : Int) := by omega
    simp only [laws_eqIntS.f, h1, if_true]
    exact h
  · have h1 : ¬ (a.length : Int) = (b.length : Int) := by omega
    have e : decide (a = b) = false := by
      rw [decide_eq_false_iff_not]; intro h; exact he (by rw [h])
    simp only [laws_eqIntS.f, h1, if_false]
    rw [e]
    exact Ev.now _

theorem eqIntS_refl (a : List Int) (hl : a.length ≤ 140737488351232) : Ev (fun k => laws_eqIntS.f k a a) true := by
  have h := eqIntS_ev a a hl
  rwa [decide_eq_true rfl] at h

theorem eqBoolS_l0 (a b : List Bool) (hl : a.length ≤ 140737488355328) (he : a.length = b.length) (d : Nat) : ∀ i : Nat, i ≤ a.length → a.length - i = d →
    Ev (fun k => laws_eqBoolS.l0 k a b (i : Int)) (decide (a.drop i = b.drop i)) := by
  induction d with
  | zero =>
    intro i hi hd
    obtain rfl : i = a.length := by omega
    refine evUp ?_
    have h1 : ¬ ((a.length : Nat) : Int) < (a.length : Int) := by omega
    simp only [laws_eqBoolS.l0, h1, if_false]
    have e : decide (a.drop a.length = b.drop a.length) = true := by
      rw [List.drop_length, he, List.drop_length]; rfl
    rw [e]
    exact Ev.now _
  | succ d ih =>
    intro i hi hd
    have ha : i < a.length := by omega
    have hb : i < b.length := by omega
    refine evUp ?_
    have h1 : (i : Int) < (a.length : Int) := by omega
    have h2 : 0 ≤ (i : Int) := by omega
    have h3 : (i : Int) < (b.length : Int) := by omega
    simp only [laws_eqBoolS.l0, h1, h2, h3, if_true]
    rw [rdOf_get ha, rdOf_get hb, w64 (by omega) (by omega)]
    by_cases e : a[i] = b[i]
    · simp only [e, bne_self_eq_false, Bool.false_eq_true, if_false]
      have e2 : decide (a.drop i = b.drop i) = decide (a.drop (i + 1) = b.drop (i + 1)) := by
        rw [decide_eq_decide, drop_eq_iff ha hb]; simp [e]
      rw [e2]
      exact ih (i + 1) (by omega) (by omega)
    · have e3 : (a[i] != b[i]) = true := by simpa using e
      simp only [e3, if_true]
      have e2 : decide (a.drop i = b.drop i) = false := by
        rw [decide_eq_false_iff_not, drop_eq_iff ha hb]; simp [e]
      rw [e2]
      exact Ev.now _

theorem eqBoolS_ev (a b : List Bool) (hl : a.length ≤ 140737488355328) : Ev (fun k => laws_eqBoolS.f k a b) (decide (a = b)) := by
  by_cases he : a.length = b.length
  · have h := eqBoolS_l0 a b hl he a.length 0 (by omega) (by omega)
    have h1 : (a.length : Int) = (b.length : Int) := by omega
    simp only [laws_eqBoolS.f, h1, if_true]
    exact h
  · have h1 : ¬ (a.length : Int) = (b.length : Int) := by omega
    have e : decide (a = b) = false := by
      rw [decide_eq_false_iff_not]; intro h; exact he (by rw [h])
    simp only [laws_eqBoolS.f, h1, if_false]
    rw [e]
    exact Ev.now _

theorem eqBoolS_refl (a : List Bool) (hl : a.length ≤ 140737488355328) : Ev (fun k => laws_eqBoolS.f k a a) true := by
  have h := eqBoolS_ev a a hl
  rwa [decide_eq_true rfl] at h

theorem szResp_some (a b c d : Int) (w : List Int) (t : List Bool) (m : Int) (hw : w.length ≤ maxLen) (ht : t.length ≤ maxLen) (h0 : 0 ≤ m) (h1 : m ≤ 1048576) : ∃ v, laws_szResp.f a b c d w t m = some v ∧ (¬ v < 0 → v = m - w.length - t.length ∧ w.length ≤ 1048576 ∧ t.length ≤ 1048576) := by
  obtain ⟨v, e, h⟩ := szIntS_some w m hw h0 h1
  by_cases c1 : v < 0
  · exact ⟨-1, by simp only [laws_szResp.f, e, Option.bind_some, c1, if_true], fun hn => absurd (by decide) hn⟩
  · have h2 := h c1
    obtain ⟨u, e2, h3⟩ := szBoolS_some t v ht (by omega) (by omega)
    by_cases c2 : u < 0
    · exact ⟨-1, by simp only [laws_szResp.f, e, e2, Option.bind_some, c1, c2, if_true, if_false], fun hn => absurd (by decide) hn⟩
    · have h4 := h3 c2
      exact ⟨u, by simp only [laws_szResp.f, e, e2, Option.bind_some, c1, c2, if_false], fun _ => ⟨by omega, by omega, by omega⟩⟩
theorem toResp_ev (a b c d : Int) (w : List Int) (t : List Bool) (hw : w.length ≤ 1048576) (ht : t.length ≤ 1048576) : Ev (fun k => laws_toResp.f k a b c d w t) (a, b, c, d, w, t) := by
  simp only [laws_toResp.f]
  exact evBind (toIntS_ev w (by omega)) (evBind (toBoolS_ev t (by omega)) (Ev.now _))
theorem eqResp_refl (a b c d : Int) (w : List Int) (t : List Bool) (hw : w.length ≤ 1048576) (ht : t.length ≤ 1048576) : Ev (fun k => laws_eqResp.f k a b c d w t a b c d w t) true := by
  simp only [laws_eqResp.f, if_true]
  refine evBind (eqIntS_refl w (by omega)) ?_
  simp only [if_true]
  refine evBind (eqBoolS_refl t (by omega)) ?_
  simp only [if_true]
  exact Ev.now _

theorem l3Words_l0 (l : List Int) (hl : l.length ≤ 1048576) (d : Nat) : ∀ i : Nat, i ≤ l.length → l.length - i = d →
    Ev (fun k => spec_l3Words.l0 k l (i : Int)) ((l.drop i).all wordB) := by
  induction d with
  | zero =>
    intro i hi hd
    obtain rfl : i = l.length := by omega
    refine evUp ?_
    have h1 : ¬ ((l.length : Nat) : Int) < (l.length : Int) := by omega
    simp only [spec_l3Words.l0, h1, if_false]
    rw [List.drop_length]
    exact Ev.now _
  | succ d ih =>
    intro i hi hd
    have hlt : i < l.length := by omega
    refine evUp ?_
    have h1 : (i : Int) < (l.length : Int) := by omega
    have h2 : 0 ≤ (i : Int) := by omega
    have hi2 : spec_l1In.f l[i] 0 65535 = some (wordB l[i]) := by
      unfold wordB
      by_cases g : l[i] ≥ 0
      · have g2 : 0 ≤ l[i] := g
        simp only [spec_l1In.f, g, g2, if_true, decide_true, Bool.true_and]
      · have g2 : ¬ 0 ≤ l[i] := g
        simp only [spec_l1In.f, g, g2, if_false, decide_false, Bool.false_and]
    have e : (l.drop i).all wordB = (wordB l[i] && (l.drop (i + 1)).all wordB) := by
      rw [List.drop_eq_getElem_cons hlt, List.all_cons]
    simp only [spec_l3Words.l0, h1, h2, if_true, rd_get hlt, hi2, Option.bind_some, e]
    rw [w64 (x := (i : Int) + 1) (by omega) (by omega)]
    by_cases hw : wordB l[i] = true
    · simp only [hw, if_true, Bool.true_and]
      exact ih (i + 1) (by omega) (by omega)
    · have hw2 : wordB l[i] = false := by simpa using hw
      simp only [hw2, Bool.false_eq_true, if_false, Bool.false_and]
      exact Ev.now _
theorem l3Words_ev (l : List Int) (hl : l.length ≤ 1048576) : Ev (fun k => spec_l3Words.f k l) (l.all wordB) := by
  have h := l3Words_l0 l hl l.length 0 (by omega) (by omega)
  rw [List.drop_zero] at h
  exact h

theorem impl_in_eq (a b c : Int) : impl_in.f a b c = some (decide (b ≤ a ∧ a ≤ c)) := by
  by_cases h0 : a ≥ b
  · have h1 : b ≤ a := h0
    simp only [impl_in.f, h0, h1, if_true, true_and]
  · have h1 : ¬ b ≤ a := h0
    simp only [impl_in.f, h0, h1, if_false, false_and, decide_false]
theorem spec_in_eq (a b c : Int) : spec_l1In.f a b c = some (decide (b ≤ a ∧ a ≤ c)) := by
  by_cases h0 : a ≥ b
  · have h1 : b ≤ a := h0
    simp only [spec_l1In.f, h0, h1, if_true, true_and]
  · have h1 : ¬ b ≤ a := h0
    simp only [spec_l1In.f, h0, h1, if_false, false_and, decide_false]

theorem iteS (b c : Bool) : (if b = true then some c else some false) = some (b && c) := by cases b <;> rfl
theorem iteT (b c : Bool) : (if b = true then some true else some c) = some (b || c) := by cases b <;> rfl
def kindB (k : Int) : Bool := decide (1 ≤ k ∧ k ≤ 6) || (k == 15 || (k == 16 || (k == 22 || k == 23)))
theorem wordB_eq (n : Int) : wordB n = decide (0 ≤ n ∧ n ≤ 65535) := by unfold wordB; rw [Bool.decide_and]
theorem impl_isKind_eq (k : Int) : impl_isKind.f k = some (kindB k) := by
  simp only [impl_isKind.f, impl_in_eq, Option.bind_some, kindB]
  by_cases h : decide (1 ≤ k ∧ k ≤ 6) = true
  · rw [if_pos h, h]; rfl
  · have h2 : decide (1 ≤ k ∧ k ≤ 6) = false := by simpa using h
    rw [if_neg h, h2, Bool.false_or]
    by_cases h15 : k = 15
    · subst h15; rfl
    by_cases h16 : k = 16
    · subst h16; rfl
    by_cases h22 : k = 22
    · subst h22; rfl
    have g15 : (k == 15) = false := beq_eq_false_iff_ne.2 h15
    have g16 : (k == 16) = false := beq_eq_false_iff_ne.2 h16
    have g22 : (k == 22) = false := beq_eq_false_iff_ne.2 h22
    simp only [h15, h16, h22, if_false, g15, g16, g22, Bool.false_or]
theorem impl_isWord_eq (n : Int) : impl_isWord.f n = some (wordB n) := by
  simp only [impl_isWord.f, impl_in_eq, Option.bind_some, wordB_eq]
theorem kind_cases {k : Int} (h : kindB k = true) : k = 1 ∨ k = 2 ∨ k = 3 ∨ k = 4 ∨ k = 5 ∨ k = 6 ∨ k = 15 ∨ k = 16 ∨ k = 22 ∨ k = 23 := by
  simp [kindB] at h
  omega
/-- Is an answer right? -/
def respB (k f a n : Int) (w : List Int) (t : List Bool) : Bool :=
  kindB k && (decide (0 ≤ f ∧ f ≤ 255) && (w.all wordB && (decide (0 ≤ a ∧ a ≤ 65535) &&
  (if f > 0 then decide (a = 0 ∧ n = 0 ∧ w.length = 0 ∧ t.length = 0)
  else if k = 1 ∨ k = 2 then decide (a = 0 ∧ n = 0 ∧ w.length = 0 ∧ (1 ≤ t.length ∧ t.length ≤ 2000) ∧ t.length % 8 = 0)
  else if k = 3 ∨ k = 4 ∨ k = 23 then decide (a = 0 ∧ n = 0 ∧ (1 ≤ w.length ∧ w.length ≤ 125) ∧ t.length = 0)
  else if k = 5 then decide (n = 0 ∧ w.length = 0 ∧ t.length = 1)
  else if k = 6 then decide (n = 0 ∧ w.length = 1 ∧ t.length = 0)
  else if k = 22 then decide (n = 0 ∧ w.length = 2 ∧ t.length = 0)
  else if k = 15 then decide ((1 ≤ n ∧ n ≤ 1968) ∧ w.length = 0 ∧ t.length = 0)
  else decide ((1 ≤ n ∧ n ≤ 123) ∧ w.length = 0 ∧ t.length = 0)))))

/-- What shape an answer has. -/
def shapeOf (k : Int) : Int × Int × Int × Int × Int × Bool :=
  if k = 1 ∨ k = 2 then (0, 0, 1, 2000, 0, false) else if k = 3 ∨ k = 4 ∨ k = 23 then (1, 125, 0, 0, 0, false) else if k = 5 then (0, 0, 1, 1, 0, true)
  else if k = 6 then (1, 1, 0, 0, 0, true) else if k = 15 then (0, 0, 0, 0, 1968, true) else if k = 16 then (0, 0, 0, 0, 123, true) else (2, 2, 0, 0, 0, true)

theorem shape_j1 (k : Int) (h1 : ¬ (k = 1 ∨ k = 2)) (b : Bool) (hb : b = decide (k = 3 ∨ k = 4 ∨ k = 23)) : Ev (fun r => impl_shape.j1 r k b) (shapeOf k) := by
  refine evUp ?_
  by_cases h34 : k = 3 ∨ k = 4 ∨ k = 23
  · have hb2 : b = true := by rw [hb]; exact decide_eq_true h34
    have e : shapeOf k = (1, 125, 0, 0, 0, false) := by unfold shapeOf; rw [if_neg h1, if_pos h34]
    simp only [impl_shape.j1, hb2, if_true, e]
    exact Ev.now _
  · have hb2 : b = false := by rw [hb]; exact decide_eq_false h34
    have e : shapeOf k = if k = 5 then (0, 0, 1, 1, 0, true) else if k = 6 then (1, 1, 0, 0, 0, true) else if k = 15 then (0, 0, 0, 0, 1968, true) else if k = 16 then (0, 0, 0, 0, 123, true) else (2, 2, 0, 0, 0, true) := by
      unfold shapeOf; rw [if_neg h1, if_neg h34]
    simp only [impl_shape.j1, hb2, Bool.false_eq_true, if_false, e]
    by_cases h5 : k = 5
    · simp only [h5, if_true]; exact Ev.now _
    by_cases h6 : k = 6
    · simp only [h6, Int.reduceEq, if_true, if_false]; exact Ev.now _
    by_cases h15 : k = 15
    · simp only [h15, Int.reduceEq, if_true, if_false]; exact Ev.now _
    by_cases h16 : k = 16
    · simp only [h16, Int.reduceEq, if_true, if_false]; exact Ev.now _
    simp only [h5, h6, h15, h16, if_false]; exact Ev.now _
theorem shape_j0 (k : Int) (b : Bool) (hb : b = decide (k = 1 ∨ k = 2)) : Ev (fun r => impl_shape.j0 r k b) (shapeOf k) := by
  refine evUp ?_
  by_cases h12 : k = 1 ∨ k = 2
  · have hb2 : b = true := by rw [hb]; exact decide_eq_true h12
    have e : shapeOf k = (0, 0, 1, 2000, 0, false) := by unfold shapeOf; rw [if_pos h12]
    simp only [impl_shape.j0, hb2, if_true, e]
    exact Ev.now _
  · have hb2 : b = false := by rw [hb]; exact decide_eq_false h12
    simp only [impl_shape.j0, hb2, Bool.false_eq_true, if_false]
    by_cases h3 : k = 3
    · simp only [h3, if_true]
      exact shape_j1 3 (by omega) _ (by decide)
    by_cases h4 : k = 4
    · simp only [h4, Int.reduceEq, if_true, if_false]
      exact shape_j1 4 (by omega) _ (by decide)
    simp only [h3, h4, if_false]
    exact shape_j1 k h12 _ (by simp [h3, h4, BEq.beq])
theorem impl_shape_ev (k : Int) : Ev (fun r => impl_shape.f r k) (shapeOf k) := by
  by_cases h1 : k = 1
  · simp only [impl_shape.f, h1, if_true]
    exact shape_j0 1 _ (by decide)
  · simp only [impl_shape.f, h1, if_false]
    exact shape_j0 k _ (by simp [h1, BEq.beq])
theorem impl_isFault_eq (k f a n : Int) (w : List Int) (t : List Bool) : impl_isFault.f k f a n w t = some (decide (1 ≤ f ∧ f ≤ 255) && decide (a = 0 ∧ n = 0 ∧ w.length = 0 ∧ t.length = 0)) := by
  have q : ∀ m : Nat, ((m : Int) = 0) = (m = 0) := fun m => propext ⟨fun h => by omega, fun h => by omega⟩
  simp only [impl_isFault.f, impl_in_eq, Option.bind_some, q]
  generalize w.length = W
  generalize t.length = T
  have qT : ((T : Int) == 0) = decide (T = 0) := by rw [Bool.eq_iff_iff]; simp
  rw [qT]
  generalize decide (1 ≤ f ∧ f ≤ 255) = D
  by_cases h2 : a = 0 <;> by_cases h3 : n = 0 <;> by_cases h4 : W = 0 <;> by_cases h5 : T = 0 <;> cases D <;> simp [h2, h3, h4, h5]
theorem respOk_j0 (N : Int) (A : Bool) (b : Bool) (k f a n : Int) (w : List Int) (t : List Bool) (lo hi : Int) :
    Ev (fun r => impl_RespOk.j0 r N A b k f a n w t lo hi) (!b && (decide (¬ hi > 1 ∨ t.length % 8 = 0) && (decide (N ≠ 0 ∨ n = 0) && ((!decide (N > 0) || decide (1 ≤ n ∧ n ≤ N)) && (A && wordB a || decide (a = 0)))))) := by
  have q : ∀ m : Nat, ((m : Int) % 8 = 0) = (m % 8 = 0) := fun m => propext ⟨fun h => by omega, fun h => by omega⟩
  refine evUp ?_
  simp only [impl_RespOk.j0, impl_in_eq, impl_isWord_eq, Option.bind_some, q]
  generalize wordB a = W
  generalize t.length % 8 = T
  have key : ∀ X : Option Bool, X = some (!b && (decide (¬ hi > 1 ∨ T = 0) && (decide (N ≠ 0 ∨ n = 0) && ((!decide (N > 0) || decide (1 ≤ n ∧ n ≤ N)) && (A && W || decide (a = 0)))))) → Ev (fun _ : Nat => X) (!b && (decide (¬ hi > 1 ∨ T = 0) && (decide (N ≠ 0 ∨ n = 0) && ((!decide (N > 0) || decide (1 ≤ n ∧ n ≤ N)) && (A && W || decide (a = 0)))))) := fun X h => by rw [h]; exact Ev.now _
  refine key _ ?_
  have qa : (a == 0) = decide (a = 0) := by rw [Bool.eq_iff_iff]; simp
  rw [qa]
  generalize decide (1 ≤ n ∧ n ≤ N) = D
  generalize decide (a = 0) = Z
  cases b with
  | true => rfl
  | false =>
    by_cases h1 : hi > 1 <;> by_cases h2 : T = 0 <;> by_cases h3 : N = 0 <;> by_cases h4 : n = 0 <;> by_cases h5 : N > 0 <;> cases D <;> cases A <;> cases W <;> cases Z <;> simp [h1, h2, h3, h4, h5]

theorem impl_RespOk_raw (k f a n : Int) (w : List Int) (t : List Bool) :
    Ev (fun r => impl_RespOk.f r k f a n w t) (kindB k && (if f = 0 then decide ((shapeOf k).1 ≤ (w.length : Int) ∧ (w.length : Int) ≤ (shapeOf k).2.1) && (decide ((shapeOf k).2.2.1 ≤ (t.length : Int) ∧ (t.length : Int) ≤ (shapeOf k).2.2.2.1) && (w.all wordB && (decide (¬ (shapeOf k).2.2.2.1 > 1 ∨ t.length % 8 = 0) && (decide ((shapeOf k).2.2.2.2.1 ≠ 0 ∨ n = 0) && ((!decide ((shapeOf k).2.2.2.2.1 > 0) || decide (1 ≤ n ∧ n ≤ (shapeOf k).2.2.2.2.1)) && ((shapeOf k).2.2.2.2.2 && wordB a || decide (a = 0))))))) else decide (1 ≤ f ∧ f ≤ 255) && decide (a = 0 ∧ n = 0 ∧ w.length = 0 ∧ t.length = 0))) := by
  have hc := impl_shape_ev k
  generalize shapeOf k = T at hc
  have no : Ev (fun r => impl_RespOk.j0 r T.2.2.2.2.1 T.2.2.2.2.2 true k f a n w t T.2.2.1 T.2.2.2.1) false := by
    have h := respOk_j0 T.2.2.2.2.1 T.2.2.2.2.2 true k f a n w t T.2.2.1 T.2.2.2.1
    simpa using h
  simp only [impl_RespOk.f, impl_isKind_eq, Option.bind_some]
  by_cases h1 : kindB k = true
  · simp only [h1, if_true, Bool.true_and]
    by_cases hf : f = 0
    · simp only [hf, if_true]
      rw [hf] at no
      refine evBind hc ?_
      simp only [impl_in_eq, Option.bind_some]
      by_cases h2 : decide (T.1 ≤ (w.length : Int) ∧ (w.length : Int) ≤ T.2.1) = true
      · simp only [h2, if_true, Bool.true_and]
        by_cases h3 : decide (T.2.2.1 ≤ (t.length : Int) ∧ (t.length : Int) ≤ T.2.2.2.1) = true
        · simp only [h3, if_true, Bool.true_and, impl_allWords.f, Option.bind_some]
          have h := respOk_j0 T.2.2.2.2.1 T.2.2.2.2.2 (!w.all wordB) k 0 a n w t T.2.2.1 T.2.2.2.1
          rw [Bool.not_not] at h
          exact h
        · have h3' : decide (T.2.2.1 ≤ (t.length : Int) ∧ (t.length : Int) ≤ T.2.2.2.1) = false := by simpa using h3
          simp only [h3', Bool.false_eq_true, if_false, Bool.false_and]; exact no
      · have h2' : decide (T.1 ≤ (w.length : Int) ∧ (w.length : Int) ≤ T.2.1) = false := by simpa using h2
        simp only [h2', Bool.false_eq_true, if_false, Bool.false_and]; exact no
    · simp only [hf, if_false, impl_isFault_eq, Option.bind_some]; exact Ev.now _
  · have h1' : kindB k = false := by simpa using h1
    simp only [h1', Bool.false_eq_true, if_false, Bool.false_and]; exact Ev.now _

theorem impl_RespOk_ev (k f a n : Int) (w : List Int) (t : List Bool) : Ev (fun r => impl_RespOk.f r k f a n w t) (respB k f a n w t) := by
  have h := impl_RespOk_raw k f a n w t
  by_cases hk : kindB k = true
  · have e2 : respB k f a n w t = (kindB k && (if f = 0 then decide ((shapeOf k).1 ≤ (w.length : Int) ∧ (w.length : Int) ≤ (shapeOf k).2.1) && (decide ((shapeOf k).2.2.1 ≤ (t.length : Int) ∧ (t.length : Int) ≤ (shapeOf k).2.2.2.1) && (w.all wordB && (decide (¬ (shapeOf k).2.2.2.1 > 1 ∨ t.length % 8 = 0) && (decide ((shapeOf k).2.2.2.2.1 ≠ 0 ∨ n = 0) && ((!decide ((shapeOf k).2.2.2.2.1 > 0) || decide (1 ≤ n ∧ n ≤ (shapeOf k).2.2.2.2.1)) && ((shapeOf k).2.2.2.2.2 && wordB a || decide (a = 0))))))) else decide (1 ≤ f ∧ f ≤ 255) && decide (a = 0 ∧ n = 0 ∧ w.length = 0 ∧ t.length = 0))) := by
      have hW0 : w.length = 0 → w.all wordB = true := fun h => by rw [List.length_eq_zero_iff.1 h]; rfl
      simp only [respB, wordB_eq]
      by_cases hf : f = 0
      · simp only [hf, if_true]
        generalize w.all wordB = W
        rw [Bool.eq_iff_iff]
        rcases kind_cases hk with rfl | rfl | rfl | rfl | rfl | rfl | rfl | rfl | rfl | rfl <;> cases W <;> simp [kindB, shapeOf, -List.length_eq_zero_iff] <;> omega
      · simp only [hf, if_false, hk, Bool.true_and]
        by_cases hp : f > 0
        · rw [if_pos hp]
          by_cases hw0 : w.length = 0
          · rw [hW0 hw0, Bool.true_and, Bool.eq_iff_iff]
            simp [-List.length_eq_zero_iff]; omega
          · rw [Bool.eq_iff_iff]; simp [hw0, -List.length_eq_zero_iff]
        · have h1 : decide (0 ≤ f ∧ f ≤ 255) = false := decide_eq_false (by omega)
          have h2 : decide (1 ≤ f ∧ f ≤ 255) = false := decide_eq_false (by omega)
          rw [h1, h2, Bool.false_and, Bool.false_and]
    rw [e2]; exact h
  · have hk2 : kindB k = false := by simpa using hk
    have e2 : respB k f a n w t = false := by unfold respB; rw [hk2, Bool.false_and]
    rw [e2]
    rw [hk2] at h
    simpa using h

theorem spec_l4Zero_eq (k f a n : Int) (w : List Int) (t : List Bool) (b1 b2 b3 b4 : Bool) : spec_l4Zero.f k f a n w t b1 b2 b3 b4 = some ((b1 || decide (a = 0)) && ((b2 || decide (n = 0)) && ((b3 || decide (w.length = 0)) && (b4 || decide (t.length = 0))))) := by
  have q : ∀ m : Nat, ((m : Int) = 0) = (m = 0) := fun m => propext ⟨fun h => by omega, fun h => by omega⟩
  simp only [spec_l4Zero.f, q]
  by_cases h1 : a = 0 <;> by_cases h2 : n = 0 <;> by_cases h3 : w.length = 0 <;> by_cases h4 : t.length = 0 <;> cases b1 <;> cases b2 <;> cases b3 <;> cases b4 <;> simp [h1, h2, h3, h4]
theorem spec_l3Kind_eq (k : Int) : spec_l3Kind.f k = some (kindB k) := by
  simp only [spec_l3Kind.f, spec_in_eq, Option.bind_some, kindB]
  by_cases h : decide (1 ≤ k ∧ k ≤ 6) = true
  · rw [if_pos h, h]; rfl
  · have h2 : decide (1 ≤ k ∧ k ≤ 6) = false := by simpa using h
    rw [if_neg h, h2, Bool.false_or]
    by_cases h15 : k = 15
    · subst h15; rfl
    by_cases h16 : k = 16
    · subst h16; rfl
    by_cases h22 : k = 22
    · subst h22; rfl
    have g15 : (k == 15) = false := beq_eq_false_iff_ne.2 h15
    have g16 : (k == 16) = false := beq_eq_false_iff_ne.2 h16
    have g22 : (k == 22) = false := beq_eq_false_iff_ne.2 h22
    simp only [h15, h16, h22, if_false, g15, g16, g22, Bool.false_or]
/-- What is asked of an answer of no fault. -/
def respIn (k a n : Int) (w : List Int) (t : List Bool) : Bool :=
  if k = 1 ∨ k = 2 then decide (a = 0 ∧ n = 0 ∧ w.length = 0 ∧ (1 ≤ t.length ∧ t.length ≤ 2000) ∧ t.length % 8 = 0)
  else if k = 3 ∨ k = 4 ∨ k = 23 then decide (a = 0 ∧ n = 0 ∧ (1 ≤ w.length ∧ w.length ≤ 125) ∧ t.length = 0)
  else if k = 5 then decide (n = 0 ∧ w.length = 0 ∧ t.length = 1)
  else if k = 6 then decide (n = 0 ∧ w.length = 1 ∧ t.length = 0)
  else if k = 22 then decide (n = 0 ∧ w.length = 2 ∧ t.length = 0)
  else if k = 15 then decide ((1 ≤ n ∧ n ≤ 1968) ∧ w.length = 0 ∧ t.length = 0)
  else decide ((1 ≤ n ∧ n ≤ 123) ∧ w.length = 0 ∧ t.length = 0)
theorem respOkS_j2 (k f a n : Int) (w : List Int) (t : List Bool) (h12 : ¬ (k = 1 ∨ k = 2)) (b : Bool) (hb : b = decide (k = 3 ∨ k = 4 ∨ k = 23)) :
    Ev (fun r => spec_RespOk.j2 r k b k f a n w t) (respIn k a n w t) := by
  have q1 : ∀ m : Nat, (((m : Nat) : Int) == 1) = decide (m = 1) := fun m => by rw [Bool.eq_iff_iff]; simp; omega
  have q2 : ∀ m : Nat, (((m : Nat) : Int) == 2) = decide (m = 2) := fun m => by rw [Bool.eq_iff_iff]; simp; omega
  refine evUp ?_
  by_cases h34 : k = 3 ∨ k = 4 ∨ k = 23
  · have hb2 : b = true := by rw [hb]; exact decide_eq_true h34
    have er : respIn k a n w t = decide (a = 0 ∧ n = 0 ∧ (1 ≤ w.length ∧ w.length ≤ 125) ∧ t.length = 0) := by
      unfold respIn; rw [if_neg h12, if_pos h34]
    simp only [spec_RespOk.j2, hb2, if_true, spec_l4Zero_eq, spec_in_eq, Option.bind_some, er, iteS]
    refine Ev.congr (fun _ => ?_) (Ev.now _)
    congr 1
    rw [Bool.eq_iff_iff]; simp [-List.length_eq_zero_iff]; omega
  · have hb2 : b = false := by rw [hb]; exact decide_eq_false h34
    have er : respIn k a n w t = if k = 5 then decide (n = 0 ∧ w.length = 0 ∧ t.length = 1)
      else if k = 6 then decide (n = 0 ∧ w.length = 1 ∧ t.length = 0)
      else if k = 22 then decide (n = 0 ∧ w.length = 2 ∧ t.length = 0)
      else if k = 15 then decide ((1 ≤ n ∧ n ≤ 1968) ∧ w.length = 0 ∧ t.length = 0)
      else decide ((1 ≤ n ∧ n ≤ 123) ∧ w.length = 0 ∧ t.length = 0) := by
      unfold respIn; rw [if_neg h12, if_neg h34]
    simp only [spec_RespOk.j2, hb2, Bool.false_eq_true, if_false, spec_l4Zero_eq, spec_in_eq, Option.bind_some, er, q1, q2, iteS]
    by_cases h5 : k = 5
    · simp only [h5, if_true]
      refine Ev.congr (fun _ => ?_) (Ev.now _)
      congr 1
      rw [Bool.eq_iff_iff]; simp [-List.length_eq_zero_iff]; omega
    by_cases h6 : k = 6
    · simp only [h6, Int.reduceEq, if_true, if_false]
      refine Ev.congr (fun _ => ?_) (Ev.now _)
      congr 1
      rw [Bool.eq_iff_iff]; simp [-List.length_eq_zero_iff]; omega
    by_cases h22 : k = 22
    · simp only [h22, Int.reduceEq, if_true, if_false]
      refine Ev.congr (fun _ => ?_) (Ev.now _)
      congr 1
      rw [Bool.eq_iff_iff]; simp [-List.length_eq_zero_iff]; omega
    by_cases h15 : k = 15
    · simp only [h15, Int.reduceEq, if_true, if_false]
      refine Ev.congr (fun _ => ?_) (Ev.now _)
      congr 1
      rw [Bool.eq_iff_iff]; simp [-List.length_eq_zero_iff]; omega
    simp only [h5, h6, h22, h15, if_false]
    refine Ev.congr (fun _ => ?_) (Ev.now _)
    congr 1
    rw [Bool.eq_iff_iff]; simp [-List.length_eq_zero_iff]; omega
theorem respOkS_j1 (k f a n : Int) (w : List Int) (t : List Bool) (b : Bool) (hb : b = decide (k = 1 ∨ k = 2)) :
    Ev (fun r => spec_RespOk.j1 r k b k f a n w t) (respIn k a n w t) := by
  have q : ∀ m : Nat, (((m : Int) % 8) == 0) = decide (m % 8 = 0) := fun m => by rw [Bool.eq_iff_iff]; simp; omega
  refine evUp ?_
  by_cases h12 : k = 1 ∨ k = 2
  · have hb2 : b = true := by rw [hb]; exact decide_eq_true h12
    have er : respIn k a n w t = decide (a = 0 ∧ n = 0 ∧ w.length = 0 ∧ (1 ≤ t.length ∧ t.length ≤ 2000) ∧ t.length % 8 = 0) := by
      unfold respIn; rw [if_pos h12]
    simp only [spec_RespOk.j1, hb2, if_true, spec_l4Zero_eq, spec_in_eq, Option.bind_some, er, q, iteS]
    refine Ev.congr (fun _ => ?_) (Ev.now _)
    congr 1
    rw [Bool.eq_iff_iff]; simp [-List.length_eq_zero_iff]; omega
  · have hb2 : b = false := by rw [hb]; exact decide_eq_false h12
    simp only [spec_RespOk.j1, hb2, Bool.false_eq_true, if_false]
    by_cases h3 : k = 3
    · subst h3
      simp only [if_true]
      exact respOkS_j2 3 f a n w t h12 _ (by decide)
    by_cases h4 : k = 4
    · subst h4
      simp only [Int.reduceEq, if_true, if_false]
      exact respOkS_j2 4 f a n w t h12 _ (by decide)
    simp only [h3, h4, if_false]
    exact respOkS_j2 k f a n w t h12 _ (by simp [h3, h4, BEq.beq])
theorem respOkS_j0_no (k f a n : Int) (w : List Int) (t : List Bool) : Ev (fun r => spec_RespOk.j0 r true k f a n w t) false := by
  refine evUp ?_
  simp only [spec_RespOk.j0, if_true]
  exact Ev.now _
theorem spec_RespOk_ev (k f a n : Int) (w : List Int) (t : List Bool) (hw : w.length ≤ 1048576) : Ev (fun r => spec_RespOk.f r k f a n w t) (respB k f a n w t) := by
  have no := respOkS_j0_no k f a n w t
  simp only [spec_RespOk.f, spec_l3Kind_eq, spec_in_eq, Option.bind_some]
  by_cases h1 : kindB k = true
  · simp only [h1, if_true]
    by_cases h2 : decide (0 ≤ f ∧ f ≤ 255) = true
    · simp only [h2, if_true]
      refine evBind (l3Words_ev w hw) ?_
      by_cases hW : w.all wordB = true
      · simp only [hW, if_true]
        by_cases ha : decide (0 ≤ a ∧ a ≤ 65535) = true
        · rw [ha, Bool.not_true]
          have er : respB k f a n w t = if f > 0 then decide (a = 0 ∧ n = 0 ∧ w.length = 0 ∧ t.length = 0) else respIn k a n w t := by
            unfold respB respIn; rw [h1, h2, hW, ha]; rfl
          refine evUp ?_
          simp only [spec_RespOk.j0, Bool.false_eq_true, if_false, spec_l4Zero_eq, Option.bind_some, Bool.false_or, er]
          by_cases hf : f > 0
          · simp only [hf, if_true]
            refine Ev.congr (fun _ => ?_) (Ev.now _)
            congr 1
            rw [Bool.eq_iff_iff]; simp [-List.length_eq_zero_iff]
          · simp only [hf, if_false]
            by_cases hk1 : k = 1
            · subst hk1
              simp only [if_true]
              exact respOkS_j1 1 f a n w t _ (by decide)
            · simp only [hk1, if_false]
              exact respOkS_j1 k f a n w t _ (by simp [hk1, BEq.beq])
        · have ha2 : decide (0 ≤ a ∧ a ≤ 65535) = false := by simpa using ha
          have er : respB k f a n w t = false := by unfold respB; rw [ha2, Bool.false_and, Bool.and_false, Bool.and_false, Bool.and_false]
          rw [ha2, er, Bool.not_false]; exact no
      · have hW2 : w.all wordB = false := by simpa using hW
        have er : respB k f a n w t = false := by unfold respB; rw [hW2, Bool.false_and, Bool.and_false, Bool.and_false]
        simp only [hW2, Bool.false_eq_true, if_false, er]; exact no
    · have h2' : decide (0 ≤ f ∧ f ≤ 255) = false := by simpa using h2
      have er : respB k f a n w t = false := by unfold respB; rw [h2', Bool.false_and, Bool.and_false]
      simp only [h2', Bool.false_eq_true, if_false, er]; exact no
  · have h1' : kindB k = false := by simpa using h1
    have er : respB k f a n w t = false := by unfold respB; rw [h1', Bool.false_and]
    simp only [h1', Bool.false_eq_true, if_false, er]; exact no
theorem respB_facts {k f a n : Int} {w : List Int} {t : List Bool} (h : respB k f a n w t = true) : kindB k = true ∧ 0 ≤ f ∧ f ≤ 255 ∧ 0 ≤ a ∧ a ≤ 65535 ∧
    (f = 0 → (k = 5 → w.length = 0 ∧ t.length = 1) ∧ (k = 6 → w.length = 1 ∧ t.length = 0) ∧ (k = 22 → w.length = 2 ∧ t.length = 0)) := by
  unfold respB at h
  rw [Bool.and_eq_true, Bool.and_eq_true, Bool.and_eq_true, Bool.and_eq_true, decide_eq_true_iff, decide_eq_true_iff] at h
  obtain ⟨hk, hf, _, ha, h2⟩ := h
  refine ⟨hk, hf.1, hf.2, ha.1, ha.2, fun h0 => ?_⟩
  subst h0
  generalize w.length = W at h2 ⊢
  generalize t.length = T at h2 ⊢
  rcases kind_cases hk with rfl | rfl | rfl | rfl | rfl | rfl | rfl | rfl | rfl | rfl <;> simp at h2 ⊢ <;> omega

theorem eqByteS_l0 (a b : List Int) (hl : a.length ≤ 140737488351232) (he : a.length = b.length) (d : Nat) : ∀ i : Nat, i ≤ a.length → a.length - i = d →
    Ev (fun k => laws_eqByteS.l0 k a b (i : Int)) (decide (a.drop i = b.drop i)) := by
  induction d with
  | zero =>
    intro i hi hd
    obtain rfl : i = a.length := by omega
    refine evUp ?_
    have h1 : ¬ ((a.length : Nat) : Int) < (a.length : Int) := by omega
    simp only [laws_eqByteS.l0, h1, if_false]
    have e : decide (a.drop a.length = b.drop a.length) = true := by
      rw [List.drop_length, he, List.drop_length]; rfl
    rw [e]
    exact Ev.now _
  | succ d ih =>
    intro i hi hd
    have ha : i < a.length := by omega
    have hb : i < b.length := by omega
    refine evUp ?_
    have h1 : (i : Int) < (a.length : Int) := by omega
    have h2 : 0 ≤ (i : Int) := by omega
    have h3 : (i : Int) < (b.length : Int) := by omega
    simp only [laws_eqByteS.l0, h1, h2, h3, if_true]
    rw [rd_get ha, rd_get hb, w64 (by omega) (by omega)]
    by_cases e : a[i] = b[i]
    · simp only [e, if_true]
      have e2 : decide (a.drop i = b.drop i) = decide (a.drop (i + 1) = b.drop (i + 1)) := by
        rw [decide_eq_decide, drop_eq_iff ha hb]; simp [e]
      rw [e2]
      exact ih (i + 1) (by omega) (by omega)
    · simp only [e, if_false]
      have e2 : decide (a.drop i = b.drop i) = false := by
        rw [decide_eq_false_iff_not, drop_eq_iff ha hb]; simp [e]
      rw [e2]
      exact Ev.now _

theorem eqByteS_ev (a b : List Int) (hl : a.length ≤ 140737488351232) : Ev (fun k => laws_eqByteS.f k a b) (decide (a = b)) := by
  by_cases he : a.length = b.length
  · have h := eqByteS_l0 a b hl he a.length 0 (by omega) (by omega)
    have h1 : (a.length : Int) = (b.length : Int) := by omega
    simp only [laws_eqByteS.f, h1, if_true]
    exact h
  · have h1 : ¬ (a.length : Int) = (b.length : Int) := by omega
    have e : decide (a = b) = false := by
      rw [decide_eq_false_iff_not]; intro h; exact he (by rw [h])
    simp only [laws_eqByteS.f, h1, if_false]
    rw [e]
    exact Ev.now _

theorem eqByteS_refl (a : List Int) (hl : a.length ≤ 140737488351232) : Ev (fun k => laws_eqByteS.f k a a) true := by
  have h := eqByteS_ev a a hl
  rwa [decide_eq_true rfl] at h

theorem markIntS_l0 (l : List Int) (k0 : Int) (hk0 : 0 ≤ k0) (hk : k0 + l.length ≤ 4611686018427387904) (hl : l.length ≤ 140737488355328) (d : Nat) : ∀ i : Nat, i ≤ l.length → l.length - i = d →
    Ev (fun k => laws_markIntS.l0 k (marks id k0 i ++ l.drop i) (k0 + i) (i : Int)) (k0 + l.length, marks id k0 l.length) := by
  induction d with
  | zero =>
    intro i hi hd
    obtain rfl : i = l.length := by omega
    refine evUp ?_
    have h1 : ¬ ((l.length : Nat) : Int) < (((marks id k0 l.length ++ l.drop l.length).length : Nat) : Int) := by
      rw [List.length_append, marks_length, List.drop_length, List.length_nil]; omega
    simp only [laws_markIntS.l0, h1, if_false]
    rw [List.drop_length, List.append_nil]
    exact Ev.now _
  | succ d ih =>
    intro i hi hd
    have hlt : i < l.length := by omega
    refine evUp ?_
    have h1 : (i : Int) < (((marks id k0 i ++ l.drop i).length : Nat) : Int) := by
      rw [List.length_append, marks_length, List.length_drop]; omega
    have h2 : 0 ≤ (i : Int) := by omega
    simp only [laws_markIntS.l0, h1, h2, if_true]
    rw [Int.toNat_natCast, set_next _ l _ i (marks_length _ _ _) hlt, w64 (x := k0 + i + 1) (by omega) (by omega), w64 (x := (i : Int) + 1) (by omega) (by omega)]
    have h := ih (i + 1) (by omega) (by omega)
    rw [marks_succ] at h
    rw [show k0 + (i : Int) + 1 = k0 + ((i + 1 : Nat) : Int) from by omega]
    exact h

theorem markIntS_ev (l : List Int) (k0 : Int) (hk0 : 0 ≤ k0) (hk : k0 + l.length ≤ 4611686018427387904) (hl : l.length ≤ 140737488355328) :
    Ev (fun k => laws_markIntS.f k l k0) (k0 + l.length, marks id k0 l.length) := by
  have h := markIntS_l0 l k0 hk0 hk hl l.length 0 (by omega) (by omega)
  simp only [laws_markIntS.f]
  simpa [marks] using h

theorem markBoolS_l0 (l : List Bool) (k0 : Int) (hk0 : 0 ≤ k0) (hk : k0 + l.length ≤ 4611686018427387904) (hl : l.length ≤ 140737488355328) (d : Nat) : ∀ i : Nat, i ≤ l.length → l.length - i = d →
    Ev (fun k => laws_markBoolS.l0 k (marks markB k0 i ++ l.drop i) (k0 + i) (i : Int)) (k0 + l.length, marks markB k0 l.length) := by
  induction d with
  | zero =>
    intro i hi hd
    obtain rfl : i = l.length := by omega
    refine evUp ?_
    have h1 : ¬ ((l.length : Nat) : Int) < (((marks markB k0 l.length ++ l.drop l.length).length : Nat) : Int) := by
      rw [List.length_append, marks_length, List.drop_length, List.length_nil]; omega
    simp only [laws_markBoolS.l0, h1, if_false]
    rw [List.drop_length, List.append_nil]
    exact Ev.now _
  | succ d ih =>
    intro i hi hd
    have hlt : i < l.length := by omega
    refine evUp ?_
    have h1 : (i : Int) < (((marks markB k0 i ++ l.drop i).length : Nat) : Int) := by
      rw [List.length_append, marks_length, List.length_drop]; omega
    have h2 : 0 ≤ (i : Int) := by omega
    have h3 : (Int.tmod (k0 + i) 3 == 0) = markB (k0 + (i : Int)) := by unfold markB; rw [tmod_pos (by omega)]
    simp only [laws_markBoolS.l0, h1, h2, if_true, h3]
    rw [Int.toNat_natCast, set_next _ l _ i (marks_length _ _ _) hlt, w64 (x := k0 + i + 1) (by omega) (by omega), w64 (x := (i : Int) + 1) (by omega) (by omega)]
    have h := ih (i + 1) (by omega) (by omega)
    rw [marks_succ] at h
    rw [show k0 + (i : Int) + 1 = k0 + ((i + 1 : Nat) : Int) from by omega]
    exact h

theorem markBoolS_ev (l : List Bool) (k0 : Int) (hk0 : 0 ≤ k0) (hk : k0 + l.length ≤ 4611686018427387904) (hl : l.length ≤ 140737488355328) :
    Ev (fun k => laws_markBoolS.f k l k0) (k0 + l.length, marks markB k0 l.length) := by
  have h := markBoolS_l0 l k0 hk0 hk hl l.length 0 (by omega) (by omega)
  simp only [laws_markBoolS.f]
  simpa [marks] using h

theorem markResp_ev (a b c d : Int) (w : List Int) (t : List Bool) (k0 : Int) (hk0 : 0 ≤ k0) (hk : k0 ≤ 1048577) (hw : w.length ≤ 1048576) (ht : t.length ≤ 1048576) :
    Ev (fun k => laws_markResp.f k a b c d w t k0) (k0 + w.length + t.length, marks id k0 w.length, marks markB (k0 + w.length) t.length) := by
  simp only [laws_markResp.f]
  refine evBind (markIntS_ev w k0 hk0 (by omega) (by omega)) ?_
  refine evBind (markBoolS_ev t (k0 + w.length) (by omega) (by omega) (by omega)) ?_
  exact Ev.now _
theorem markByteS_l0 (l : List Int) (k0 : Int) (hk0 : 0 ≤ k0) (hk : k0 + l.length ≤ 4611686018427387904) (hl : l.length ≤ 140737488355328) (d : Nat) : ∀ i : Nat, i ≤ l.length → l.length - i = d →
    Ev (fun k => laws_markByteS.l0 k (marks (· % 256) k0 i ++ l.drop i) (k0 + i) (i : Int)) (k0 + l.length, marks (· % 256) k0 l.length) := by
  induction d with
  | zero =>
    intro i hi hd
    obtain rfl : i = l.length := by omega
    refine evUp ?_
    have h1 : ¬ ((l.length : Nat) : Int) < (((marks (· % 256) k0 l.length ++ l.drop l.length).length : Nat) : Int) := by
      rw [List.length_append, marks_length, List.drop_length, List.length_nil]; omega
    simp only [laws_markByteS.l0, h1, if_false]
    rw [List.drop_length, List.append_nil]
    exact Ev.now _
  | succ d ih =>
    intro i hi hd
    have hlt : i < l.length := by omega
    refine evUp ?_
    have h1 : (i : Int) < (((marks (· % 256) k0 i ++ l.drop i).length : Nat) : Int) := by
      rw [List.length_append, marks_length, List.length_drop]; omega
    have h2 : 0 ≤ (i : Int) := by omega
    simp only [laws_markByteS.l0, h1, h2, if_true]
    rw [Int.toNat_natCast, set_next _ l _ i (marks_length _ _ _) hlt, w64 (x := k0 + i + 1) (by omega) (by omega), w64 (x := (i : Int) + 1) (by omega) (by omega)]
    have h := ih (i + 1) (by omega) (by omega)
    rw [marks_succ] at h
    rw [show k0 + (i : Int) + 1 = k0 + ((i + 1 : Nat) : Int) from by omega]
    exact h

theorem markByteS_ev (l : List Int) (k0 : Int) (hk0 : 0 ≤ k0) (hk : k0 + l.length ≤ 4611686018427387904) (hl : l.length ≤ 140737488355328) :
    Ev (fun k => laws_markByteS.f k l k0) (k0 + l.length, marks (· % 256) k0 l.length) := by
  have h := markByteS_l0 l k0 hk0 hk hl l.length 0 (by omega) (by omega)
  simp only [laws_markByteS.f]
  simpa [marks] using h

theorem heldByteS_l0 (n : Nat) (k0 : Int) (hk0 : 0 ≤ k0) (hk : k0 + n ≤ 4611686018427387904) (hl : n ≤ 140737488355328) (d : Nat) : ∀ i : Nat, i ≤ n → n - i = d →
    Ev (fun k => laws_heldByteS.l0 k (marks (· % 256) k0 n) (k0 + i) (i : Int)) (k0 + n) := by
  induction d with
  | zero =>
    intro i hi hd
    obtain rfl : i = n := by omega
    refine evUp ?_
    have h1 : ¬ ((i : Nat) : Int) < (((marks (· % 256) k0 i).length : Nat) : Int) := by rw [marks_length]; omega
    simp only [laws_heldByteS.l0, h1, if_false]
    exact Ev.now _
  | succ d ih =>
    intro i hi hd
    have hlt : i < n := by omega
    refine evUp ?_
    have h1 : (i : Int) < (((marks (· % 256) k0 n).length : Nat) : Int) := by rw [marks_length]; omega
    have h2 : 0 ≤ (i : Int) := by omega
    have h3 : rd (marks (· % 256) k0 n) (i : Int) = (k0 + i) % 256 := by
      rw [rd_get (by rw [marks_length]; exact hlt), marks_get _ _ _ _ hlt]
    simp only [laws_heldByteS.l0, h1, h2, h3, if_true]
    rw [w64 (x := k0 + i + 1) (by omega) (by omega), w64 (x := (i : Int) + 1) (by omega) (by omega)]
    rw [show k0 + (i : Int) + 1 = k0 + ((i + 1 : Nat) : Int) from by omega]
    exact ih (i + 1) (by omega) (by omega)

theorem heldByteS_ev (n : Nat) (k0 : Int) (hk0 : 0 ≤ k0) (hk : k0 + n ≤ 4611686018427387904) (hl : n ≤ 140737488355328) :
    Ev (fun k => laws_heldByteS.f k (marks (· % 256) k0 n) k0) (k0 + n) := by
  have h := heldByteS_l0 n k0 hk0 hk hl n 0 (by omega) (by omega)
  simp only [laws_heldByteS.f]
  simpa using h

theorem impl_PackBits_l0 (bits : List Bool) (hl : bits.length ≤ 140737488351232) (d : Nat) : ∀ i : Nat, i ≤ bits.length → bits.length - i = d →
    Ev (fun k => impl_PackBits.l0 k (packTo bits ((bits.length + 7) / 8) i) bits (bits.length : Int) (i : Int)) (packed bits) := by
  induction d with
  | zero =>
    intro i hi hd
    obtain rfl : i = bits.length := by omega
    refine evUp ?_
    have h1 : ¬ ((bits.length : Nat) : Int) < (bits.length : Int) := by omega
    simp only [impl_PackBits.l0, h1, if_false]
    exact Ev.now _
  | succ d ih =>
    intro i hi hd
    have hlt : i < bits.length := by omega
    refine evUp ?_
    have h1 : (i : Int) < (bits.length : Int) := by omega
    have h2 : 0 ≤ (i : Int) := by omega
    have e1 : wrap64 (Int.tdiv (i : Int) 8) = ((i / 8 : Nat) : Int) := by rw [tdiv_pos h2, w64 (by omega) (by omega)]; omega
    have e2 : Int.tmod (i : Int) 8 = ((i % 8 : Nat) : Int) := by rw [tmod_pos h2]; omega
    have h3 : 0 ≤ ((i / 8 : Nat) : Int) := by omega
    have h4 : ((i / 8 : Nat) : Int) < ((packTo bits ((bits.length + 7) / 8) i).length : Int) := by rw [packTo_length]; omega
    have h5 : 0 ≤ ((i % 8 : Nat) : Int) := by omega
    have e3 : wrap64 ((i : Int) + 1) = ((i + 1 : Nat) : Int) := by rw [w64 (by omega) (by omega)]; omega
    have hg : bits.getD i false = bits[i] := by rw [List.getD_eq_getElem?_getD, List.getElem?_eq_getElem hlt]; rfl
    have hn := ih (i + 1) (by omega) (by omega)
    simp only [impl_PackBits.l0, h1, h2, if_true, rdOf_get hlt, e1, e2, h3, h4, h5, e3, Int.toNat_natCast]
    simp only [packTo, hg] at hn
    by_cases hc : bits[i] = true
    · simp only [hc, if_true] at hn ⊢
      exact hn
    · simp only [hc, if_false] at hn ⊢
      exact hn

theorem impl_PackBits_ev (bits : List Bool) (hl : bits.length ≤ 140737488351232) : Ev (fun k => impl_PackBits.f k bits) (packed bits) := by
  have h := impl_PackBits_l0 bits hl bits.length 0 (by omega) (by omega)
  have e1 : wrap64 (Int.tdiv (wrap64 ((bits.length : Int) + 7)) 8) = (((bits.length + 7) / 8 : Nat) : Int) := by
    rw [w64 (x := (bits.length : Int) + 7) (by omega) (by omega), tdiv_pos (by omega), w64 (by omega) (by omega)]; omega
  have h1 : 0 ≤ (((bits.length + 7) / 8 : Nat) : Int) := by omega
  have h2 : (bits.length + 7) / 8 ≤ 281474976710656 := by omega
  simp only [impl_PackBits.f, e1, h1, if_true, Int.toNat_natCast, h2]
  exact h

theorem u64_small {m : Nat} (h : m < 8) : IntKind.u64.wrap (m : Int) = (m : Int) := by
  simp [IntKind.wrap, IntKind.bits, IntKind.signed]
  omega

theorem spec_PackBits_l0 (bits : List Bool) (hl : bits.length ≤ 140737488351232) (d : Nat) : ∀ i : Nat, i ≤ bits.length → bits.length - i = d →
    Ev (fun k => spec_PackBits.l0 k bits (packTo bits ((bits.length + 7) / 8) i) (i : Int)) (packed bits) := by
  induction d with
  | zero =>
    intro i hi hd
    obtain rfl : i = bits.length := by omega
    refine evUp ?_
    have h1 : ¬ ((bits.length : Nat) : Int) < (bits.length : Int) := by omega
    simp only [spec_PackBits.l0, h1, if_false]
    exact Ev.now _
  | succ d ih =>
    intro i hi hd
    have hlt : i < bits.length := by omega
    refine evUp ?_
    have h1 : (i : Int) < (bits.length : Int) := by omega
    have h2 : 0 ≤ (i : Int) := by omega
    have e1 : wrap64 (Int.tdiv (i : Int) 8) = ((i / 8 : Nat) : Int) := by rw [tdiv_pos h2, w64 (by omega) (by omega)]; omega
    have e2 : IntKind.u64.wrap (Int.tmod (i : Int) 8) = ((i % 8 : Nat) : Int) := by
      rw [tmod_pos h2, show (i : Int) % 8 = ((i % 8 : Nat) : Int) from by omega, u64_small (by omega)]
    have h3 : 0 ≤ ((i / 8 : Nat) : Int) := by omega
    have h4 : ((i / 8 : Nat) : Int) < ((packTo bits ((bits.length + 7) / 8) i).length : Int) := by rw [packTo_length]; omega
    have h5 : 0 ≤ ((i % 8 : Nat) : Int) := by omega
    have e3 : wrap64 ((i : Int) + 1) = ((i + 1 : Nat) : Int) := by rw [w64 (by omega) (by omega)]; omega
    have hg : bits.getD i false = bits[i] := by rw [List.getD_eq_getElem?_getD, List.getElem?_eq_getElem hlt]; rfl
    have hn := ih (i + 1) (by omega) (by omega)
    simp only [spec_PackBits.l0, h1, h2, if_true, rdOf_get hlt, e1, e2, h3, h4, h5, e3, Int.toNat_natCast]
    simp only [packTo, hg] at hn
    by_cases hc : bits[i] = true
    · simp only [hc, if_true] at hn ⊢
      exact hn
    · simp only [hc, if_false] at hn ⊢
      exact hn

theorem spec_PackBits_ev (bits : List Bool) (hl : bits.length ≤ 140737488351232) : Ev (fun k => spec_PackBits.f k bits) (packed bits) := by
  have h := spec_PackBits_l0 bits hl bits.length 0 (by omega) (by omega)
  have e1 : wrap64 (Int.tdiv (wrap64 ((bits.length : Int) + 7)) 8) = (((bits.length + 7) / 8 : Nat) : Int) := by
    rw [w64 (x := (bits.length : Int) + 7) (by omega) (by omega), tdiv_pos (by omega), w64 (by omega) (by omega)]; omega
  have h1 : 0 ≤ (((bits.length + 7) / 8 : Nat) : Int) := by omega
  have h2 : (bits.length + 7) / 8 ≤ 281474976710656 := by omega
  simp only [spec_PackBits.f, e1, h1, if_true, Int.toNat_natCast, h2]
  exact h

theorem encW_nil : encW [] = [] := rfl
theorem encW_cons (x : Int) (l : List Int) : encW (x :: l) = x / 256 % 256 :: x % 256 :: encW l := rfl
theorem encW_append (l m : List Int) : encW (l ++ m) = encW l ++ encW m := List.flatMap_append
/-- A coil as a word. -/
def coilW (b : Bool) : Int := if b = true then 65280 else 0
theorem spec_PutWord_eq (l : List Int) (a : Int) (h : l.length ≤ 70368744177664) : spec_PutWord.f l a = some (l ++ encW [a]) := by
  have h1 : ([] : List Int).length + l.length < 140737488355328 := by rw [List.length_nil]; omega
  have h2 : l.length + ([(a % 65536 / 256) % 256, a % 65536 % 256] : List Int).length < 140737488355328 := by
    rw [List.length_cons, List.length_cons, List.length_nil]; omega
  have e1 : a % 65536 / 256 % 256 = a / 256 % 256 := by omega
  have e2 : a % 65536 % 256 = a % 256 := by omega
  rw [e1, e2] at h2
  simp only [spec_PutWord.f, and_65535, Option.bind_some, if_pos h1, List.nil_append, if_pos h2, e1, e2, encW_cons, encW_nil]
theorem spec_l3PutWords_l0 (l w : List Int) (hs : l.length + 2 * w.length ≤ 35184372088832) (d : Nat) : ∀ i : Nat, i ≤ w.length → w.length - i = d →
    Ev (fun k => spec_l3PutWords.l0 k (accW l w i) w (i : Int)) (l ++ encW w) := by
  induction d with
  | zero =>
    intro i hi hd
    obtain rfl : i = w.length := by omega
    refine evUp ?_
    have h1 : ¬ ((w.length : Nat) : Int) < (w.length : Int) := by omega
    have e : accW l w w.length = l ++ encW w := by unfold accW; rw [List.take_length]
    simp only [spec_l3PutWords.l0, h1, if_false, e]
    exact Ev.now _
  | succ d ih =>
    intro i hi hd
    have hlt : i < w.length := by omega
    refine evUp ?_
    have h1 : (i : Int) < (w.length : Int) := by omega
    have h2 : 0 ≤ (i : Int) := by omega
    have hl := accW_length (l0 := l) (l1 := w) (i := i) (by omega)
    have e : accW l w i ++ encW [rd w (i : Int)] = accW l w (i + 1) := by rw [accW_succ hlt]; rfl
    simp only [spec_l3PutWords.l0, h1, h2, if_true, spec_PutWord_eq (accW l w i) (rd w (i : Int)) (by omega), Option.bind_some, e]
    rw [w64 (x := (i : Int) + 1) (by omega) (by omega)]
    exact ih (i + 1) (by omega) (by omega)
theorem spec_l3PutWords_ev (l w : List Int) (hs : l.length + 2 * w.length ≤ 35184372088832) : Ev (fun k => spec_l3PutWords.f k l w) (l ++ encW w) := by
  have h := spec_l3PutWords_l0 l w hs w.length 0 (by omega) (by omega)
  have e : accW l w 0 = l := by unfold accW encW; simp
  rw [e] at h
  exact h
theorem lt_lim {a b : Nat} (h0 : a ≤ 100) (h1 : b ≤ 1048576) : a + 2 * b < 35184372088832 := by omega
theorem impl_putWords_eq (l0 l1 : List Int) (h : l1.length ≠ 0) (h0 : l0.length ≤ 100) (h1 : l1.length ≤ 1048576) : impl_putWords.f l0 l1 = some (l0 ++ encW l1) := by
  unfold impl_putWords.f
  rw [if_neg h, if_pos (lt_lim h0 h1)]
theorem few1 (x : Int) : ([x] : List Int).length ≠ 0 ∧ ([x] : List Int).length ≤ 100 := ⟨by simp, by simp⟩
theorem few2 (x y : Int) : ([x, y] : List Int).length ≠ 0 ∧ ([x, y] : List Int).length ≤ 100 := ⟨by simp, by simp⟩
theorem few4 (x y z u : Int) : ([x, y, z, u] : List Int).length ≠ 0 ∧ ([x, y, z, u] : List Int).length ≤ 100 := ⟨by simp, by simp⟩
theorem few_le {n : Nat} (h : n ≤ 100) : n ≤ 1048576 := by omega
theorem impl_putCounted_eq (l0 l1 : List Int) (h0 : l0.length ≤ 100) (h1 : l1.length ≤ 8388608) : impl_putCounted.f l0 l1 = some (l0 ++ ((l1.length : Int) % 256 :: l1)) := by
  unfold impl_putCounted.f
  rw [if_pos (by omega)]
theorem spec_l3Coil_eq (l : List Int) (b : Bool) (h : l.length ≤ 70368744177664) : spec_l3Coil.f l b = some (l ++ encW [coilW b]) := by
  have h2 : ∀ x y : Int, l.length + ([x, y] : List Int).length < 140737488355328 := fun x y => by rw [List.length_cons, List.length_cons, List.length_nil]; omega
  cases b
  · simp only [spec_l3Coil.f, Bool.false_eq_true, if_false, Option.bind_some, if_pos (h2 _ _)]; rfl
  · simp only [spec_l3Coil.f, if_true, Option.bind_some, if_pos (h2 _ _)]; rfl
theorem impl_bitWord_eq (b : Bool) : impl_bitWord.f b = some (coilW b) := by cases b <;> rfl
theorem evFin {x y : List Int} (h : x = y) : Ev (fun _ : Nat => some x) y := h ▸ Ev.now _
theorem evEq {g : Nat → Option (List Int)} {r : List Int} (h : ∀ k, g (k + 1) = some r) : Ev g r := evUp (by rw [show (fun k => g (k + 1)) = fun _ => some r from funext h]; exact Ev.now r)
section
variable (a : Int) (w : List Int)
theorem put_two (k x y : Int) : impl_putWords.f [k % 256] [x, y] = some ([k % 256] ++ encW [x, y]) := impl_putWords_eq _ _ (few2 _ _).1 (few1 _).2 (few_le (few2 _ _).2)
theorem put_one (k a : Int) : impl_putWords.f [k % 256] [a] = some ([k % 256] ++ encW [a]) := impl_putWords_eq _ _ (few1 _).1 (few1 _).2 (few_le (few1 _).2)
theorem put_four (k x y z u : Int) : impl_putWords.f [k % 256] [x, y, z, u] = some ([k % 256] ++ encW [x, y, z, u]) := impl_putWords_eq _ _ (few4 _ _ _ _).1 (few1 _).2 (few_le (few4 _ _ _ _).2)
theorem put_more (k : Int) (h0 : w.length ≠ 0) (hw : w.length ≤ 1048576) : impl_putWords.f ([k % 256] ++ encW [a]) w = some ([k % 256] ++ encW [a] ++ encW w) := impl_putWords_eq _ _ h0 (by simp [encW_length]) hw
theorem put_words (h0 : w.length ≠ 0) (hw : w.length ≤ 1048576) : impl_putWords.f [] w = some (encW w) := impl_putWords_eq _ _ h0 (by simp) hw
theorem put_cnt (X l : List Int) (hX : X.length ≤ 100) (hl : l.length ≤ 8388608) : impl_putCounted.f X l = some (X ++ ((l.length : Int) % 256 :: l)) := impl_putCounted_eq _ _ hX hl
end

/-- What is known of a right answer of no fault. -/
theorem respB_more {k a n : Int} {w : List Int} {t : List Bool} (h : respB k 0 a n w t = true) :
    ((k = 1 ∨ k = 2) → w.length = 0 ∧ 1 ≤ t.length ∧ t.length ≤ 2000) ∧ ((k = 3 ∨ k = 4 ∨ k = 23) → 1 ≤ w.length ∧ w.length ≤ 125 ∧ t.length = 0) ∧
    (k = 5 → w.length = 0 ∧ t.length = 1) ∧ (k = 6 → w.length = 1 ∧ t.length = 0) ∧ (k = 22 → w.length = 2 ∧ t.length = 0) := by
  unfold respB at h
  rw [Bool.and_eq_true, Bool.and_eq_true, Bool.and_eq_true, Bool.and_eq_true, decide_eq_true_iff, decide_eq_true_iff] at h
  obtain ⟨hk, hf, _, ha, h2⟩ := h
  generalize w.length = W at h2 ⊢
  generalize t.length = T at h2 ⊢
  rcases kind_cases hk with rfl | rfl | rfl | rfl | rfl | rfl | rfl | rfl | rfl | rfl <;> simp at h2 ⊢ <;> omega
def respBody (k a n : Int) (w : List Int) (t : List Bool) : List Int :=
  if k = 1 ∨ k = 2 then ((packed t).length : Int) % 256 :: packed t
  else if k = 3 ∨ k = 4 ∨ k = 23 then (2 * (w.length : Int)) % 256 :: encW w
  else if k = 5 then encW [a, coilW (rdOf false t 0)] else if k = 6 ∨ k = 22 then encW [a] ++ encW w
  else encW [a, n]
def putRespOf (k f a n : Int) (w : List Int) (t : List Bool) : List Int := if respB k f a n w t = true then (if f = 0 then k % 256 :: respBody k a n w t else [(k + 128) % 256, f % 256]) else []
theorem putRespOf_length (k f a n : Int) (w : List Int) (t : List Bool) (hw : w.length ≤ 1048576) (ht : t.length ≤ 1048576) : (putRespOf k f a n w t).length ≤ 10000000 := by
  have hp := packed_length t
  unfold putRespOf respBody
  repeat' split
  all_goals simp only [List.length_cons, List.length_append, List.length_nil, encW_length, hp]; omega
theorem spec_PutResp_ev (k f a n : Int) (w : List Int) (t : List Bool) (hw : w.length ≤ 1048576) (ht : t.length ≤ 1048576) : Ev (fun r => spec_PutResp.f r k f a n w t) (putRespOf k f a n w t) := by
  have hp := packed_length t
  simp only [spec_PutResp.f, putRespOf]
  refine evBind (spec_RespOk_ev k f a n w t hw) ?_
  by_cases hr : respB k f a n w t = true
  · obtain ⟨hk, hf0, _, _, _, _⟩ := respB_facts hr
    simp only [hr, if_true]
    by_cases hf : f = 0
    · subst hf
      obtain ⟨f12, f34, f5, f6, f22⟩ := respB_more hr
      have n0 : ¬ (0 : Int) > 0 := by omega
      simp only [n0, if_false, if_true, Option.bind_some]
      have hl1 : ([k % 256] : List Int).length = 1 := rfl
      generalize hX : ([k % 256] : List Int) = X at hl1
      have pw : ∀ b : Int, spec_PutWord.f X b = some (X ++ encW [b]) := fun b => spec_PutWord_eq _ _ (by omega)
      have g0 : X.length < 140737488355328 := by omega
      have g1 : ∀ y : Int, (X ++ [y]).length + (packed t).length < 140737488355328 := fun y => by simp; omega
      rcases kind_cases hk with rfl | rfl | rfl | rfl | rfl | rfl | rfl | rfl | rfl | rfl
      all_goals simp only [Int.reduceEq, if_false, if_true, false_or, or_false, respBody]
      · refine evUp ?_
        simp only [spec_PutResp.j0, Int.reduceBEq, if_true]
        refine evBind (spec_PackBits_ev t (by omega)) ?_
        simp only [if_pos g0, Option.bind_some, if_pos (g1 _)]
        exact evFin (by rw [← hX]; simp)
      · refine evUp ?_
        simp only [spec_PutResp.j0, Int.reduceBEq, if_true]
        refine evBind (spec_PackBits_ev t (by omega)) ?_
        simp only [if_pos g0, Option.bind_some, if_pos (g1 _)]
        exact evFin (by rw [← hX]; simp)
      · have hwl := f34 (by omega)
        have e2 : wrap64 (2 * (w.length : Int)) = 2 * (w.length : Int) := w64 (by omega) (by omega)
        refine evUp ?_
        simp only [spec_PutResp.j0, Int.reduceBEq, Bool.false_eq_true, Int.reduceEq, if_false, if_true]
        refine evUp ?_
        simp only [spec_PutResp.j1, if_true, if_pos g0, e2]
        refine evBind (spec_l3PutWords_ev (X ++ [2 * (w.length : Int) % 256]) w (by simp; omega)) ?_
        exact evFin (by rw [← hX]; simp)
      · have hwl := f34 (by omega)
        have e2 : wrap64 (2 * (w.length : Int)) = 2 * (w.length : Int) := w64 (by omega) (by omega)
        refine evUp ?_
        simp only [spec_PutResp.j0, Int.reduceBEq, Bool.false_eq_true, Int.reduceEq, if_false, if_true]
        refine evUp ?_
        simp only [spec_PutResp.j1, if_true, if_pos g0, e2]
        refine evBind (spec_l3PutWords_ev (X ++ [2 * (w.length : Int) % 256]) w (by simp; omega)) ?_
        exact evFin (by rw [← hX]; simp)
      · have c : (0 : Int) < (t.length : Int) := by have := (f5 rfl).2; omega
        refine evUp ?_
        simp only [spec_PutResp.j0, Int.reduceBEq, Bool.false_eq_true, Int.reduceEq, if_false]
        refine evUp ?_
        simp only [spec_PutResp.j1, Bool.false_eq_true, if_false, if_true, pw, Option.bind_some, c, spec_l3Coil_eq (X ++ encW [a]) _ (by simp [encW_length]; omega)]
        exact evFin (by rw [← hX]; simp [encW])
      · refine evUp ?_
        simp only [spec_PutResp.j0, Int.reduceBEq, Bool.false_eq_true, Int.reduceEq, if_false]
        refine evUp ?_
        simp only [spec_PutResp.j1, Int.reduceBEq, Bool.false_eq_true, Int.reduceEq, if_false, if_true]
        refine evUp ?_
        simp only [spec_PutResp.j2, if_true, pw, Option.bind_some]
        refine evBind (spec_l3PutWords_ev (X ++ encW [a]) w (by simp [encW_length]; omega)) ?_
        exact evFin (by rw [← hX]; simp [encW])
      · refine evUp ?_
        simp only [spec_PutResp.j0, Int.reduceBEq, Bool.false_eq_true, Int.reduceEq, if_false]
        refine evUp ?_
        simp only [spec_PutResp.j1, Int.reduceBEq, Bool.false_eq_true, Int.reduceEq, if_false]
        refine evUp ?_
        simp only [spec_PutResp.j2, Bool.false_eq_true, if_false, pw, Option.bind_some, spec_PutWord_eq (X ++ encW [a]) n (by simp [encW_length]; omega)]
        exact evFin (by rw [← hX]; simp [encW])
      · refine evUp ?_
        simp only [spec_PutResp.j0, Int.reduceBEq, Bool.false_eq_true, Int.reduceEq, if_false]
        refine evUp ?_
        simp only [spec_PutResp.j1, Int.reduceBEq, Bool.false_eq_true, Int.reduceEq, if_false]
        refine evUp ?_
        simp only [spec_PutResp.j2, Bool.false_eq_true, if_false, pw, Option.bind_some, spec_PutWord_eq (X ++ encW [a]) n (by simp [encW_length]; omega)]
        exact evFin (by rw [← hX]; simp [encW])
      · refine evUp ?_
        simp only [spec_PutResp.j0, Int.reduceBEq, Bool.false_eq_true, Int.reduceEq, if_false]
        refine evUp ?_
        simp only [spec_PutResp.j1, Int.reduceBEq, Bool.false_eq_true, Int.reduceEq, if_false]
        refine evUp ?_
        simp only [spec_PutResp.j2, if_true, pw, Option.bind_some]
        refine evBind (spec_l3PutWords_ev (X ++ encW [a]) w (by simp [encW_length]; omega)) ?_
        exact evFin (by rw [← hX]; simp [encW])
      · have hwl := f34 (by omega)
        have e2 : wrap64 (2 * (w.length : Int)) = 2 * (w.length : Int) := w64 (by omega) (by omega)
        refine evUp ?_
        simp only [spec_PutResp.j0, Int.reduceBEq, Bool.false_eq_true, Int.reduceEq, if_false]
        refine evUp ?_
        simp only [spec_PutResp.j1, if_true, if_pos g0, e2]
        refine evBind (spec_l3PutWords_ev (X ++ [2 * (w.length : Int) % 256]) w (by simp; omega)) ?_
        exact evFin (by rw [← hX]; simp)
    · have hp1 : f > 0 := by omega
      have e1 : wrap64 (k + 128) = k + 128 := by
        rcases kind_cases hk with rfl | rfl | rfl | rfl | rfl | rfl | rfl | rfl | rfl | rfl <;> exact w64 (by decide) (by decide)
      simp only [hp1, if_true, hf, if_false, e1]; exact Ev.now _
  · simp only [hr, if_false]; exact Ev.now _
section
variable (a n : Int) (w : List Int) (t : List Bool)
theorem resp_1 (k : Int) (r : Nat) : impl_PutResp.j0 (r + 1) [k % 256] k true k 0 a n w t = (impl_PackBits.f r t).bind fun p => (impl_putCounted.f [k % 256] p).bind fun q => some q := by
  rw [impl_PutResp.j0, if_pos rfl]
theorem resp_words (k x : Int) (h0 : w.length ≠ 0) (hw : w.length ≤ 1048576) (r : Nat) : impl_PutResp.j1 (r + 1) [k % 256] x true k 0 a n w t = some ([k % 256] ++ (((encW w).length : Int) % 256 :: encW w)) := by
  rw [impl_PutResp.j1, if_pos rfl, put_words w h0 hw, Option.bind_some, put_cnt _ _ (few1 _).2 (by rw [encW_length]; omega)]; rfl
theorem resp_coil (c : (0 : Int) < (t.length : Int)) (r : Nat) : impl_PutResp.j1 (r + 1) [5 % 256] 5 false 5 0 a n w t = some ([5 % 256] ++ encW [a, coilW (rdOf false t 0)]) := by
  rw [impl_PutResp.j1, if_neg (by decide), if_pos rfl, if_pos c, impl_bitWord_eq, Option.bind_some, put_two]; rfl
theorem resp_two (k : Int) (r : Nat) : impl_PutResp.j2 (r + 1) [k % 256] true k 0 a n w t = some ([k % 256] ++ encW [a, n]) := by
  rw [impl_PutResp.j2, if_pos rfl, put_two]; rfl
theorem resp_more (k : Int) (h0 : w.length ≠ 0) (hw : w.length ≤ 1048576) (r : Nat) : impl_PutResp.j2 (r + 1) [k % 256] false k 0 a n w t = some ([k % 256] ++ encW [a] ++ encW w) := by
  rw [impl_PutResp.j2, if_neg (by decide), put_one, Option.bind_some, put_more a w k h0 hw]; rfl
theorem resp_j0_3 (k : Int) (h : k = 3) (r : Nat) : impl_PutResp.j0 (r + 1) [k % 256] k false k 0 a n w t = impl_PutResp.j1 r [k % 256] k (k == 3) k 0 a n w t := by
  rw [impl_PutResp.j0, if_neg (by decide), if_pos h]
theorem resp_j0_4 (k : Int) (h : k = 4) (r : Nat) : impl_PutResp.j0 (r + 1) [k % 256] k false k 0 a n w t = impl_PutResp.j1 r [k % 256] k (k == 4) k 0 a n w t := by
  rw [impl_PutResp.j0, if_neg (by decide), if_neg (by omega), if_pos h]
theorem resp_j0_n (k : Int) (h : k ≠ 3 ∧ k ≠ 4) (r : Nat) : impl_PutResp.j0 (r + 1) [k % 256] k false k 0 a n w t = impl_PutResp.j1 r [k % 256] k (k == 23) k 0 a n w t := by
  rw [impl_PutResp.j0, if_neg (by decide), if_neg h.1, if_neg h.2]
theorem resp_j1_15 (k : Int) (h : k = 15) (r : Nat) : impl_PutResp.j1 (r + 1) [k % 256] k false k 0 a n w t = impl_PutResp.j2 r [k % 256] (k == 15) k 0 a n w t := by
  rw [impl_PutResp.j1, if_neg (by decide), if_neg (by omega), if_pos h]
theorem resp_j1_n (k : Int) (h : k ≠ 5 ∧ k ≠ 15) (r : Nat) : impl_PutResp.j1 (r + 1) [k % 256] k false k 0 a n w t = impl_PutResp.j2 r [k % 256] (k == 16) k 0 a n w t := by
  rw [impl_PutResp.j1, if_neg (by decide), if_neg h.1, if_neg h.2]
end
theorem evTo {α : Type} {g h : Nat → Option α} {r : α} (e : ∀ k, g (k + 1) = h k) (hh : Ev h r) : Ev g r := evUp (by rw [show (fun k => g (k + 1)) = h from funext e]; exact hh)
theorem evR {g : Nat → Option (List Int)} {x y : List Int} (h : ∀ k, g (k + 1) = some x) (e : x = y) : Ev g y := e ▸ evEq h
theorem impl_PutResp_ev (k f a n : Int) (w : List Int) (t : List Bool) (hw : w.length ≤ 1048576) (ht : t.length ≤ 1048576) : Ev (fun r => impl_PutResp.f r k f a n w t) (putRespOf k f a n w t) := by
  have hp := packed_length t
  simp only [impl_PutResp.f, putRespOf]
  refine evBind (impl_RespOk_ev k f a n w t) ?_
  by_cases hr : respB k f a n w t = true
  · obtain ⟨hk, hf0, _, _, _, _⟩ := respB_facts hr
    simp only [hr, if_true]
    by_cases hf : f = 0
    · subst hf
      obtain ⟨f12, f34, f5, f6, f22⟩ := respB_more hr
      simp only [if_true, Option.bind_some]
      have el : (((encW w).length : Nat) : Int) = 2 * (w.length : Int) := by rw [encW_length]; omega
      have first : ∀ k : Int, Ev (fun r => impl_PutResp.j0 r [k % 256] k true k 0 a n w t) (k % 256 :: (((packed t).length : Int) % 256 :: packed t)) := fun k => by
        refine evTo (resp_1 a n w t k) ?_
        refine evBind (impl_PackBits_ev t (by omega)) ?_
        rw [put_cnt _ _ (few1 _).2 (by omega)]
        exact Ev.now _
      rcases kind_cases hk with rfl | rfl | rfl | rfl | rfl | rfl | rfl | rfl | rfl | rfl
      all_goals simp only [Int.reduceEq, if_false, if_true, false_or, or_false, respBody]
      · exact first 1
      · exact first 2
      · exact evTo (resp_j0_3 a n w t 3 rfl) (evR (resp_words a n w t 3 3 (by have := f34 (by omega); omega) hw) (by rw [el]; rfl))
      · exact evTo (resp_j0_4 a n w t 4 rfl) (evR (resp_words a n w t 4 4 (by have := f34 (by omega); omega) hw) (by rw [el]; rfl))
      · exact evTo (resp_j0_n a n w t 5 (by decide)) (evR (resp_coil a n w t (by have := (f5 rfl).2; omega)) rfl)
      · exact evTo (resp_j0_n a n w t 6 (by decide)) (evTo (resp_j1_n a n w t 6 (by decide)) (evR (resp_more a n w t 6 (by have := f6 rfl; omega) hw) (by rw [List.append_assoc]; rfl)))
      · exact evTo (resp_j0_n a n w t 15 (by decide)) (evTo (resp_j1_15 a n w t 15 rfl) (evR (resp_two a n w t 15) rfl))
      · exact evTo (resp_j0_n a n w t 16 (by decide)) (evTo (resp_j1_n a n w t 16 (by decide)) (evR (resp_two a n w t 16) rfl))
      · exact evTo (resp_j0_n a n w t 22 (by decide)) (evTo (resp_j1_n a n w t 22 (by decide)) (evR (resp_more a n w t 22 (by have := f22 rfl; omega) hw) (by rw [List.append_assoc]; rfl)))
      · exact evTo (resp_j0_n a n w t 23 (by decide)) (evR (resp_words a n w t 23 23 (by have := f34 (by omega); omega) hw) (by rw [el]; rfl))
    · have e1 : Go.bits .or .u8 (k % 256) 128 = (k + 128) % 256 := by
        rcases kind_cases hk with rfl | rfl | rfl | rfl | rfl | rfl | rfl | rfl | rfl | rfl <;> decide
      simp only [hf, if_false, e1]; exact Ev.now _
  · simp only [hr, if_false]; exact Ev.now _

theorem FnExactPutResp : laws_FnExactPutResp.Pure := by
  intro a b c d w t _ _ _ _ h1 _ h2
  refine Ev.rounds (g := fun k => laws_FnExactPutResp.f k a b c d w t) ?_
  obtain ⟨v, e, h⟩ := szResp_some a b c d w t 1048576 h1 h2 (by omega) (by omega)
  by_cases c1 : v < 0
  · simp only [laws_FnExactPutResp.f, e, Option.bind_some, c1, if_true]; exact Ev.now _
  · have hl := (h c1).2
    have htr := toResp_ev a b c d w t hl.1 hl.2
    have hs := spec_PutResp_ev a b c d w t hl.1 hl.2
    have hi := impl_PutResp_ev a b c d w t hl.1 hl.2
    have hlen := putRespOf_length a b c d w t hl.1 hl.2
    generalize putRespOf a b c d w t = R at hs hi hlen
    have q := eqByteS_refl R (by omega)
    have hq := eqResp_refl a b c d w t hl.1 hl.2
    have m1 := markResp_ev a b c d w t 1 (by omega) (by omega) hl.1 hl.2
    have m2 := markByteS_ev R 1 (by omega) (by omega) (by omega)
    have m3 := heldByteS_ev R.length 1 (by omega) (by omega) (by omega)
    have n1 : ¬ (1 + (w.length : Int) + (t.length : Int) < 0) := by omega
    have n2 : ¬ (1 + (R.length : Int) < 0) := by omega
    have j : Ev (fun k => laws_FnExactPutResp.j0 k R R false a b c d w t) true := by
      refine evUp ?_
      simp only [laws_FnExactPutResp.j0, Bool.false_eq_true, if_false]
      refine evBind m2 ?_
      refine evBind m3 ?_
      simp only [n2, if_false, if_true]
      refine evBind htr ?_
      refine evBind hi ?_
      refine evBind q ?_
      simp only [if_true]
      refine evBind m3 ?_
      simp only [n2, if_false, if_true]
      exact Ev.now _
    simp only [laws_FnExactPutResp.f, e, Option.bind_some, c1, if_false]
    refine evBind htr ?_
    refine evBind hs ?_
    refine evBind htr ?_
    refine evBind hi ?_
    refine evBind q ?_
    simp only [if_true]
    refine evBind htr ?_
    refine evBind hq ?_
    simp only [if_true]
    refine evBind m1 ?_
    simp only [n1, if_false]
    refine evBind q ?_
    rw [Bool.not_true]
    exact j

end Go.Proofs.Ytfiplepbmennbaa.Pure
