/- The law on PutReq is true at every question. No condition. -/
import Derived.Test.YteoghpcgompajaaSFnExactPutReq
import Derived.Test.YteoghpcgompajaaC
namespace Go.Proofs.Yteoghpcgompajaa.Pure
open Go.Proofs.Yteoghpcgompajaa.G Go Go.RowKit Go.Proofs.Yteoghpcgompajaa.PFnExactPutReq Go.Proofs.YteoghpcgompajaaW.PrintWords Go.Proofs.YteoghpcgompajaaW.PrintLast Go.Proofs.Yteoghpcgompajaa.PlainC
set_option linter.unusedVariables false
set_option linter.unusedSimpArgs false

theorem szIntS_some (l : List Int) (m : Int) (hl : l.length ≤ maxLen) (h0 : 0 ≤ m) (h1 : m ≤ 1048576) : ∃ v, laws_szIntS.f l m = some v ∧ (¬ v < 0 → v = m - l.length ∧ l.length ≤ 1048576) := by
  unfold maxLen at hl
  have e : wrap64 (m - (l.length : Int)) = m - (l.length : Int) := w64 (by omega) (by omega)
  by_cases h : m - (l.length : Int) < 0
  · exact ⟨-1, by simp only [laws_szIntS.f, e, h, if_true], fun hn => absurd (by decide) hn⟩
  · exact ⟨_, by simp only [laws_szIntS.f, e, h, if_false], fun _ => ⟨rfl, by omega⟩⟩

theorem szBoolS_some (l : List Bool) (m : Int) (hl : l.length ≤ maxLen) (h0 : 0 ≤ m) (h1 : m ≤ 1048576) : ∃ v, laws_szBoolS.f l m = some v ∧ (¬ v < 0 → v = m - l.length ∧ l.length ≤ 1048576) := by
  unfold maxLen at hl
  have e : wrap64 (m - (l.length : Int)) = m - (l.length : Int) := w64 (by omega) (by omega)
  by_cases h : m - (l.length : Int) < 0
  · exact ⟨-1, by simp only [laws_szBoolS.f, e, h, if_true], fun hn => absurd (by decide) hn⟩
  · exact ⟨_, by simp only [laws_szBoolS.f, e, h, if_false], fun _ => ⟨rfl, by omega⟩⟩

theorem toIntS_l0 (l : List Int) (hl : l.length ≤ 35184372088832) (d : Nat) : ∀ i : Nat, i ≤ l.length → l.length - i = d →
    Ev (fun k => laws_toIntS.l0 k l (l.take i ++ List.replicate (l.length - i) 0) (i : Int)) l := by
  induction d with
  | zero =>
    intro i hi hd
    obtain rfl : i = l.length := by omega
    refine evUp ?_
    have h1 : ¬ ((l.length : Nat) : Int) < (l.length : Int) := by omega
    simp only [laws_toIntS.l0, h1, if_false]
    rw [List.take_length, Nat.sub_self, List.replicate_zero, List.append_nil]
    exact Ev.now _
  | succ d ih =>
    intro i hi hd
    have hlt : i < l.length := by omega
    refine evUp ?_
    have h1 : (i : Int) < (l.length : Int) := by omega
    have h2 : 0 ≤ (i : Int) := by omega
    have h3 : (i : Int) < ((l.take i ++ List.replicate (l.length - i) (0 : Int)).length : Int) := by
      rw [List.length_append, List.length_take, List.length_replicate]; omega
    simp only [laws_toIntS.l0, h1, h2, h3, if_true]
    rw [rd_get hlt, Int.toNat_natCast, set_copy (0 : Int) l i hlt, w64 (by omega) (by omega)]
    exact ih (i + 1) (by omega) (by omega)

theorem toIntS_ev (l : List Int) (hl : l.length ≤ 35184372088832) : Ev (fun k => laws_toIntS.f k l) l := by
  have h := toIntS_l0 l hl l.length 0 (by omega) (by omega)
  have h1 : 0 ≤ (l.length : Int) := by omega
  have h2 : ((l.length : Int)).toNat ≤ 35184372088832 := by omega
  simp only [laws_toIntS.f, h1, h2, if_true]
  rw [Int.toNat_natCast]
  simpa using h

theorem toBoolS_l0 (l : List Bool) (hl : l.length ≤ 140737488351232) (d : Nat) : ∀ i : Nat, i ≤ l.length → l.length - i = d →
    Ev (fun k => laws_toBoolS.l0 k l (l.take i ++ List.replicate (l.length - i) false) (i : Int)) l := by
  induction d with
  | zero =>
    intro i hi hd
    obtain rfl : i = l.length := by omega
    refine evUp ?_
    have h1 : ¬ ((l.length : Nat) : Int) < (l.length : Int) := by omega
    simp only [laws_toBoolS.l0, h1, if_false]
    rw [List.take_length, Nat.sub_self, List.replicate_zero, List.append_nil]
    exact Ev.now _
  | succ d ih =>
    intro i hi hd
    have hlt : i < l.length := by omega
    refine evUp ?_
    have h1 : (i : Int) < (l.length : Int) := by omega
    have h2 : 0 ≤ (i : Int) := by omega
    have h3 : (i : Int) < ((l.take i ++ List.replicate (l.length - i) false).length : Int) := by
      rw [List.length_append, List.length_take, List.length_replicate]; omega
    simp only [laws_toBoolS.l0, h1, h2, h3, if_true]
    rw [rdOf_get hlt, Int.toNat_natCast, set_copy false l i hlt, w64 (by omega) (by omega)]
    exact ih (i + 1) (by omega) (by omega)

theorem toBoolS_ev (l : List Bool) (hl : l.length ≤ 140737488351232) : Ev (fun k => laws_toBoolS.f k l) l := by
  have h := toBoolS_l0 l hl l.length 0 (by omega) (by omega)
  have h1 : 0 ≤ (l.length : Int) := by omega
  have h2 : ((l.length : Int)).toNat ≤ 281474976710656 := by omega
  simp only [laws_toBoolS.f, h1, h2, if_true]
  rw [Int.toNat_natCast]
  simpa using h

theorem eqIntS_l0 (a b : List Int) (hl : a.length ≤ 140737488351232) (he : a.length = b.length) (d : Nat) : ∀ i : Nat, i ≤ a.length → a.length - i = d →
    Ev (fun k => laws_eqIntS.l0 k a b (i : Int)) (decide (a.drop i = b.drop i)) := by
  induction d with
  | zero =>
    intro i hi hd
    obtain rfl : i = a.length := by omega
    refine evUp ?_
    have h1 : ¬ ((a.length : Nat) : Int) < (a.length : Int) := by omega
    simp only [laws_eqIntS.l0, h1, if_false]
    have e : decide (a.drop a.length = b.drop a.length) = true := by
      rw [List.drop_length, he, List.drop_length]; rfl
    rw [e]
    exact Ev.now _
  | succ d ih =>
    intro i hi hd
    have ha : i < a.length := by omega
    have hb : i < b.length := by omega
    refine evUp ?_
    have h1 : (i : Int) < (a.length : Int) := by omega
    have h2 : 0 ≤ (i : Int) := by omega
    have h3 : (i : Int) < (b.length : Int) := by omega
    simp only [laws_eqIntS.l0, h1, h2, h3, if_true]
    rw [rd_get ha, rd_get hb, w64 (by omega) (by omega)]
    by_cases e : a[i] = b[i]
    · simp only [e, if_true]
      have e2 : decide (a.drop i = b.drop i) = decide (a.drop (i + 1) = b.drop (i + 1)) := by
        rw [decide_eq_decide, drop_eq_iff ha hb]; simp [e]
      rw [e2]
      exact ih (i + 1) (by omega) (by omega)
    · simp only [e, if_false]
      have e2 : decide (a.drop i = b.drop i) = false := by
        rw [decide_eq_false_iff_not, drop_eq_iff ha hb]; simp [e]
      rw [e2]
      exact Ev.now _

theorem eqIntS_ev (a b : List Int) (hl : a.length ≤ 140737488351232) : Ev (fun k => laws_eqIntS.f k a b) (decide (a = b)) := by
  by_cases he : a.length = b.length
  · have h := eqIntS_l0 a b hl he a.length 0 (by omega) (by omega)
    have h1 : (a.length : Int) = (b.length : Int) := by omega
    simp only [laws_eqIntS.f, h1, if_true]
    exact h
  · have h1 : ¬ (a.length : Int) = (b.length : Int) := by omega
    have e : decide (a = b) = false := by
      rw [decide_eq_false_iff_not]; intro h; exact he (by rw [h])
    simp only [laws_eqIntS.f, h1, if_false]
    rw [e]
    exact Ev.now _

theorem eqIntS_refl (a : List Int) (hl : a.length ≤ 140737488351232) : Ev (fun k => laws_eqIntS.f k a a) true := by
  have h := eqIntS_ev a a hl
  rwa [decide_eq_true rfl] at h

theorem eqBoolS_l0 (a b : List Bool) (hl : a.length ≤ 140737488355328) (he : a.length = b.length) (d : Nat) : ∀ i : Nat, i ≤ a.length → a.length - i = d →
    Ev (fun k => laws_eqBoolS.l0 k a b (i : Int)) (decide (a.drop i = b.drop i)) := by
  induction d with
  | zero =>
    intro i hi hd
    obtain rfl : i = a.length := by omega
    refine evUp ?_
    have h1 : ¬ ((a.length : Nat) : Int) < (a.length : Int) := by omega
    simp only [laws_eqBoolS.l0, h1, if_false]
    have e : decide (a.drop a.length = b.drop a.length) = true := by
      rw [List.drop_length, he, List.drop_length]; rfl
    rw [e]
    exact Ev.now _
  | succ d ih =>
    intro i hi hd
    have ha : i < a.length := by omega
    have hb : i < b.length := by omega
    refine evUp ?_
    have h1 : (i : Int) < (a.length : Int) := by omega
    have h2 : 0 ≤ (i : Int) := by omega
    have h3 : (i : Int) < (b.length : Int) := by omega
    simp only [laws_eqBoolS.l0, h1, h2, h3, if_true]
    rw [rdOf_get ha, rdOf_get hb, w64 (by omega) (by omega)]
    by_cases e : a[i] = b[i]
    · simp only [e, bne_self_eq_false, Bool.false_eq_true, if_false]
      have e2 : decide (a.drop i = b.drop i) = decide (a.drop (i + 1) = b.drop (i + 1)) := by
        rw [decide_eq_decide, drop_eq_iff ha hb]; simp [e]
      rw [e2]
      exact ih (i + 1) (by omega) (by omega)
    · have e3 : (a[i] != b[i]) = true := by simpa using e
      simp only [e3, if_true]
      have e2 : decide (a.drop i = b.drop i) = false := by
        rw [decide_eq_false_iff_not, drop_eq_iff ha hb]; simp [e]
      rw [e2]
      exact Ev.now _

theorem eqBoolS_ev (a b : List Bool) (hl : a.length ≤ 140737488355328) : Ev (fun k => laws_eqBoolS.f k a b) (decide (a = b)) := by
  by_cases he : a.length = b.length
  · have h := eqBoolS_l0 a b hl he a.length 0 (by omega) (by omega)
    have h1 : (a.length : Int) = (b.length : Int) := by omega
    simp only [laws_eqBoolS.f, h1, if_true]
    exact h
  · have h1 : ¬ (a.length : Int) = (b.length : Int) := by omega
    have e : decide (a = b) = false := by
      rw [decide_eq_false_iff_not]; intro h; exact he (by rw [h])
    simp only [laws_eqBoolS.f, h1, if_false]
    rw [e]
    exact Ev.now _

theorem eqBoolS_refl (a : List Bool) (hl : a.length ≤ 140737488355328) : Ev (fun k => laws_eqBoolS.f k a a) true := by
  have h := eqBoolS_ev a a hl
  rwa [decide_eq_true rfl] at h

theorem szReq_some (a b c : Int) (w : List Int) (t : List Bool) (d m : Int) (hw : w.length ≤ maxLen) (ht : t.length ≤ maxLen) (h0 : 0 ≤ m) (h1 : m ≤ 1048576) : ∃ v, laws_szReq.f a b c w t d m = some v ∧ (¬ v < 0 → v = m - w.length - t.length ∧ w.length ≤ 1048576 ∧ t.length ≤ 1048576) := by
  obtain ⟨v, e, h⟩ := szIntS_some w m hw h0 h1
  by_cases c1 : v < 0
  · exact ⟨-1, by simp only [laws_szReq.f, e, Option.bind_some, c1, if_true], fun hn => absurd (by decide) hn⟩
  · have h2 := h c1
    obtain ⟨u, e2, h3⟩ := szBoolS_some t v ht (by omega) (by omega)
    by_cases c2 : u < 0
    · exact ⟨-1, by simp only [laws_szReq.f, e, e2, Option.bind_some, c1, c2, if_true, if_false], fun hn => absurd (by decide) hn⟩
    · have h4 := h3 c2
      exact ⟨u, by simp only [laws_szReq.f, e, e2, Option.bind_some, c1, c2, if_false], fun _ => ⟨by omega, by omega, by omega⟩⟩
theorem toReq_ev (a b c : Int) (w : List Int) (t : List Bool) (d : Int) (hw : w.length ≤ 1048576) (ht : t.length ≤ 1048576) : Ev (fun k => laws_toReq.f k a b c w t d) (a, b, c, w, t, d) := by
  simp only [laws_toReq.f]
  exact evBind (toIntS_ev w (by omega)) (evBind (toBoolS_ev t (by omega)) (Ev.now _))
theorem eqReq_refl (a b c : Int) (w : List Int) (t : List Bool) (d : Int) (hw : w.length ≤ 1048576) (ht : t.length ≤ 1048576) : Ev (fun k => laws_eqReq.f k a b c w t d a b c w t d) true := by
  simp only [laws_eqReq.f, if_true]
  refine evBind (eqIntS_refl w (by omega)) ?_
  simp only [if_true]
  refine evBind (eqBoolS_refl t (by omega)) ?_
  simp only [if_true]
  exact Ev.now _

theorem l3Words_l0 (l : List Int) (hl : l.length ≤ 1048576) (d : Nat) : ∀ i : Nat, i ≤ l.length → l.length - i = d →
    Ev (fun k => spec_l3Words.l0 k l (i : Int)) ((l.drop i).all wordB) := by
  induction d with
  | zero =>
    intro i hi hd
    obtain rfl : i = l.length := by omega
    refine evUp ?_
    have h1 : ¬ ((l.length : Nat) : Int) < (l.length : Int) := by omega
    simp only [spec_l3Words.l0, h1, if_false]
    rw [List.drop_length]
    exact Ev.now _
  | succ d ih =>
    intro i hi hd
    have hlt : i < l.length := by omega
    refine evUp ?_
    have h1 : (i : Int) < (l.length : Int) := by omega
    have h2 : 0 ≤ (i : Int) := by omega
    have hi2 : spec_l1In.f l[i] 0 65535 = some (wordB l[i]) := by
      unfold wordB
      by_cases g : l[i] ≥ 0
      · have g2 : 0 ≤ l[i] := g
        simp only [spec_l1In.f, g, g2, if_true, decide_true, Bool.true_and]
      · have g2 : ¬ 0 ≤ l[i] := g
        simp only [spec_l1In.f, g, g2, if_false, decide_false, Bool.false_and]
    have e : (l.drop i).all wordB = (wordB l[i] && (l.drop (i + 1)).all wordB) := by
      rw [List.drop_eq_getElem_cons hlt, List.all_cons]
    simp only [spec_l3Words.l0, h1, h2, if_true, rd_get hlt, hi2, Option.bind_some, e]
    rw [w64 (x := (i : Int) + 1) (by omega) (by omega)]
    by_cases hw : wordB l[i] = true
    · simp only [hw, if_true, Bool.true_and]
      exact ih (i + 1) (by omega) (by omega)
    · have hw2 : wordB l[i] = false := by simpa using hw
      simp only [hw2, Bool.false_eq_true, if_false, Bool.false_and]
      exact Ev.now _
theorem l3Words_ev (l : List Int) (hl : l.length ≤ 1048576) : Ev (fun k => spec_l3Words.f k l) (l.all wordB) := by
  have h := l3Words_l0 l hl l.length 0 (by omega) (by omega)
  rw [List.drop_zero] at h
  exact h

theorem impl_in_eq (a b c : Int) : impl_in.f a b c = some (decide (b ≤ a ∧ a ≤ c)) := by
  by_cases h0 : a ≥ b
  · have h1 : b ≤ a := h0
    simp only [impl_in.f, h0, h1, if_true, true_and]
  · have h1 : ¬ b ≤ a := h0
    simp only [impl_in.f, h0, h1, if_false, false_and, decide_false]
theorem spec_in_eq (a b c : Int) : spec_l1In.f a b c = some (decide (b ≤ a ∧ a ≤ c)) := by
  by_cases h0 : a ≥ b
  · have h1 : b ≤ a := h0
    simp only [spec_l1In.f, h0, h1, if_true, true_and]
  · have h1 : ¬ b ≤ a := h0
    simp only [spec_l1In.f, h0, h1, if_false, false_and, decide_false]

theorem iteS (b c : Bool) : (if b = true then some c else some false) = some (b && c) := by cases b <;> rfl
theorem iteT (b c : Bool) : (if b = true then some true else some c) = some (b || c) := by cases b <;> rfl

/-- Is a question right? -/
def reqB (k a n : Int) (w : List Int) (t : List Bool) (e : Int) : Bool :=
  (w.all wordB && wordB a) &&
  (if k = 1 ∨ k = 2 then decide ((1 ≤ n ∧ n ≤ 2000) ∧ w.length = 0 ∧ t.length = 0 ∧ e = 0 ∧ a + n ≤ 65536)
  else if k = 3 ∨ k = 4 then decide ((1 ≤ n ∧ n ≤ 125) ∧ w.length = 0 ∧ t.length = 0 ∧ e = 0 ∧ a + n ≤ 65536)
  else if k = 5 then decide (n = 0 ∧ w.length = 0 ∧ t.length = 1 ∧ e = 0)
  else if k = 6 then decide (n = 0 ∧ w.length = 1 ∧ t.length = 0 ∧ e = 0)
  else if k = 15 then decide (n = 0 ∧ w.length = 0 ∧ (1 ≤ t.length ∧ t.length ≤ 1968) ∧ e = 0 ∧ a + t.length ≤ 65536)
  else if k = 16 then decide (n = 0 ∧ (1 ≤ w.length ∧ w.length ≤ 123) ∧ t.length = 0 ∧ e = 0 ∧ a + w.length ≤ 65536)
  else if k = 22 then decide (n = 0 ∧ w.length = 2 ∧ t.length = 0 ∧ e = 0)
  else if k = 23 then decide ((1 ≤ n ∧ n ≤ 125) ∧ (1 ≤ w.length ∧ w.length ≤ 121) ∧ t.length = 0 ∧ (0 ≤ e ∧ e ≤ 65535) ∧ a + n ≤ 65536 ∧ e + w.length ≤ 65536)
  else false)

def kindB (k : Int) : Bool := decide (1 ≤ k ∧ k ≤ 6) || (k == 15 || (k == 16 || (k == 22 || k == 23)))
theorem wordB_eq (n : Int) : wordB n = decide (0 ≤ n ∧ n ≤ 65535) := by unfold wordB; rw [Bool.decide_and]
theorem impl_isKind_eq (k : Int) : impl_isKind.f k = some (kindB k) := by
  simp only [impl_isKind.f, impl_in_eq, Option.bind_some, kindB]
  by_cases h : decide (1 ≤ k ∧ k ≤ 6) = true
  · rw [if_pos h, h]; rfl
  · have h2 : decide (1 ≤ k ∧ k ≤ 6) = false := by simpa using h
    rw [if_neg h, h2, Bool.false_or]
    by_cases h15 : k = 15
    · subst h15; rfl
    by_cases h16 : k = 16
    · subst h16; rfl
    by_cases h22 : k = 22
    · subst h22; rfl
    have g15 : (k == 15) = false := beq_eq_false_iff_ne.2 h15
    have g16 : (k == 16) = false := beq_eq_false_iff_ne.2 h16
    have g22 : (k == 22) = false := beq_eq_false_iff_ne.2 h22
    simp only [h15, h16, h22, if_false, g15, g16, g22, Bool.false_or]
theorem impl_isWord_eq (n : Int) : impl_isWord.f n = some (wordB n) := by
  simp only [impl_isWord.f, impl_in_eq, Option.bind_some, wordB_eq]
/-- How many of each a kind may have. -/
def countsOf (k : Int) : Int × Int × Int × Int × Int × Int :=
  if k = 1 ∨ k = 2 then (1, 2000, 0, 0, 0, 0) else if k = 3 ∨ k = 4 then (1, 125, 0, 0, 0, 0) else if k = 5 then (0, 0, 0, 0, 1, 1)
  else if k = 6 then (0, 0, 1, 1, 0, 0) else if k = 15 then (0, 0, 0, 0, 1, 1968) else if k = 16 then (0, 0, 1, 123, 0, 0) else if k = 22 then (0, 0, 2, 2, 0, 0) else (1, 125, 1, 121, 0, 0)

theorem counts_j1 (k : Int) (h1 : ¬ (k = 1 ∨ k = 2)) (b : Bool) (hb : b = decide (k = 3 ∨ k = 4)) : Ev (fun r => impl_counts.j1 r k b 0 0 1 1) (countsOf k) := by
  refine evUp ?_
  by_cases h34 : k = 3 ∨ k = 4
  · have hb2 : b = true := by rw [hb]; exact decide_eq_true h34
    have e : countsOf k = (1, 125, 0, 0, 0, 0) := by unfold countsOf; rw [if_neg h1, if_pos h34]
    simp only [impl_counts.j1, hb2, if_true, e]
    exact Ev.now _
  · have hb2 : b = false := by rw [hb]; exact decide_eq_false h34
    have e : countsOf k = if k = 5 then (0, 0, 0, 0, 1, 1) else if k = 6 then (0, 0, 1, 1, 0, 0) else if k = 15 then (0, 0, 0, 0, 1, 1968) else if k = 16 then (0, 0, 1, 123, 0, 0) else if k = 22 then (0, 0, 2, 2, 0, 0) else (1, 125, 1, 121, 0, 0) := by
      unfold countsOf; rw [if_neg h1, if_neg h34]
    simp only [impl_counts.j1, hb2, Bool.false_eq_true, if_false, e]
    by_cases h5 : k = 5
    · simp only [h5, if_true]; exact Ev.now _
    by_cases h6 : k = 6
    · simp only [h6, Int.reduceEq, if_true, if_false]; exact Ev.now _
    by_cases h15 : k = 15
    · simp only [h15, Int.reduceEq, if_true, if_false]; exact Ev.now _
    by_cases h16 : k = 16
    · simp only [h16, Int.reduceEq, if_true, if_false]; exact Ev.now _
    by_cases h22 : k = 22
    · simp only [h22, Int.reduceEq, if_true, if_false]; exact Ev.now _
    simp only [h5, h6, h15, h16, h22, if_false]; exact Ev.now _
theorem counts_j0 (k : Int) (b : Bool) (hb : b = decide (k = 1 ∨ k = 2)) : Ev (fun r => impl_counts.j0 r k b 0 0 1 1) (countsOf k) := by
  refine evUp ?_
  by_cases h12 : k = 1 ∨ k = 2
  · have hb2 : b = true := by rw [hb]; exact decide_eq_true h12
    have e : countsOf k = (1, 2000, 0, 0, 0, 0) := by unfold countsOf; rw [if_pos h12]
    simp only [impl_counts.j0, hb2, if_true, e]
    exact Ev.now _
  · have hb2 : b = false := by rw [hb]; exact decide_eq_false h12
    simp only [impl_counts.j0, hb2, Bool.false_eq_true, if_false]
    by_cases h3 : k = 3
    · simp only [h3, if_true]
      exact counts_j1 3 (by omega) _ (by decide)
    · simp only [h3, if_false]
      exact counts_j1 k h12 _ (by simp [h3, BEq.beq])
theorem impl_counts_ev (k : Int) : Ev (fun r => impl_counts.f r k) (countsOf k) := by
  by_cases h1 : k = 1
  · simp only [impl_counts.f, h1, if_true]
    exact counts_j0 1 _ (by decide)
  · simp only [impl_counts.f, h1, if_false]
    exact counts_j0 k _ (by simp [h1, BEq.beq])

def writtenOf (k : Int) (w : List Int) (t : List Bool) : Int := if k = 22 then 1 else (w.length : Int) + (t.length : Int)
theorem impl_written_eq (k a n : Int) (w : List Int) (t : List Bool) (e : Int) (hw : w.length ≤ 1048576) (ht : t.length ≤ 1048576) : impl_written.f k a n w t e = some (writtenOf k w t) := by
  have e1 : wrap64 ((w.length : Int) + (t.length : Int)) = (w.length : Int) + (t.length : Int) := w64 (by omega) (by omega)
  unfold writtenOf
  by_cases h : k = 22
  · simp only [impl_written.f, h, if_true]
  · simp only [impl_written.f, h, if_false, e1]

def endB (k a : Int) (w : List Int) (t : List Bool) (e : Int) : Bool := if k = 23 then decide (e + writtenOf k w t ≤ 65536) else decide (e = 0 ∧ a + writtenOf k w t ≤ 65536)
theorem reqOk_j1 (b : Bool) (k a n : Int) (w : List Int) (t : List Bool) (e : Int) (hw : w.length ≤ 1048576) (ht : t.length ≤ 1048576) (hb : b = false → wordB a = true ∧ wordB e = true) :
    Ev (fun r => impl_ReqOk.j1 r b k a n w t e) (!b && endB k a w t e) := by
  refine evUp ?_
  cases b with
  | true => simp only [impl_ReqOk.j1, if_true, Bool.not_true, Bool.false_and]; exact Ev.now _
  | false =>
    obtain ⟨ha, he⟩ := hb rfl
    rw [wordB_eq, decide_eq_true_iff] at ha he
    have hwr : 0 ≤ writtenOf k w t ∧ writtenOf k w t ≤ 2097152 := by unfold writtenOf; split <;> omega
    have e1 : wrap64 (e + writtenOf k w t) = e + writtenOf k w t := w64 (by omega) (by omega)
    have e2 : wrap64 (a + writtenOf k w t) = a + writtenOf k w t := w64 (by omega) (by omega)
    simp only [impl_ReqOk.j1, Bool.false_eq_true, if_false, impl_written_eq k a n w t e hw ht, Option.bind_some, e1, e2, Bool.not_false, Bool.true_and, endB]
    by_cases h23 : k = 23
    · simp only [h23, if_true]; exact Ev.now _
    · simp only [h23, if_false]
      by_cases h0 : e = 0
      · simp only [h0, if_true, true_and]; exact Ev.now _
      · simp only [h0, if_false, false_and, decide_false]; exact Ev.now _
theorem reqOk_j0 (b : Bool) (k a n : Int) (w : List Int) (t : List Bool) (e : Int) (hw : w.length ≤ 1048576) (ht : t.length ≤ 1048576) (hb : b = false → 0 ≤ n ∧ n ≤ 2000) :
    Ev (fun r => impl_ReqOk.j0 r b k a n w t e) (!b && (wordB a && (wordB e && (w.all wordB && (decide (a + n ≤ 65536) && endB k a w t e))))) := by
  refine evUp ?_
  cases b with
  | true => simp only [impl_ReqOk.j0, if_true, Bool.not_true, Bool.false_and]; exact Ev.now _
  | false =>
    have hn := hb rfl
    have no : Ev (fun r => impl_ReqOk.j1 r true k a n w t e) false := by
      have h := reqOk_j1 true k a n w t e hw ht (fun h => by cases h)
      simpa using h
    simp only [impl_ReqOk.j0, Bool.false_eq_true, if_false, impl_isWord_eq, impl_allWords.f, Option.bind_some, Bool.not_false, Bool.true_and]
    by_cases h1 : wordB a = true
    · simp only [h1, if_true, Bool.true_and]
      by_cases h2 : wordB e = true
      · simp only [h2, if_true, Bool.true_and]
        by_cases h3 : w.all wordB = true
        · simp only [h3, if_true, Bool.true_and]
          have ha := h1
          rw [wordB_eq, decide_eq_true_iff] at ha
          have e1 : wrap64 (a + n) = a + n := w64 (by omega) (by omega)
          have e2 : decide (a + n ≤ 65536) = !decide (a + n > 65536) := by
            rw [Bool.eq_iff_iff]; simp
          rw [e1, e2]
          exact reqOk_j1 _ k a n w t e hw ht (fun _ => ⟨h1, h2⟩)
        · have h3' : w.all wordB = false := by simpa using h3
          simp only [h3', Bool.false_eq_true, if_false, Bool.false_and]; exact no
      · have h2' : wordB e = false := by simpa using h2
        simp only [h2', Bool.false_eq_true, if_false, Bool.false_and]; exact no
    · have h1' : wordB a = false := by simpa using h1
      simp only [h1', Bool.false_eq_true, if_false, Bool.false_and]; exact no

theorem countsOf_n (k : Int) : 0 ≤ (countsOf k).1 ∧ (countsOf k).2.1 ≤ 2000 := by
  unfold countsOf
  repeat' split
  all_goals simp

theorem impl_ReqOk_raw (k a n : Int) (w : List Int) (t : List Bool) (e : Int) (hw : w.length ≤ 1048576) (ht : t.length ≤ 1048576) :
    Ev (fun r => impl_ReqOk.f r k a n w t e) (kindB k && (decide ((countsOf k).1 ≤ n ∧ n ≤ (countsOf k).2.1) && (decide ((countsOf k).2.2.1 ≤ (w.length : Int) ∧ (w.length : Int) ≤ (countsOf k).2.2.2.1) && (decide ((countsOf k).2.2.2.2.1 ≤ (t.length : Int) ∧ (t.length : Int) ≤ (countsOf k).2.2.2.2.2) && (wordB a && (wordB e && (w.all wordB && (decide (a + n ≤ 65536) && endB k a w t e)))))))) := by
  have hc := impl_counts_ev k
  have hn := countsOf_n k
  generalize countsOf k = T at hc hn
  have no : Ev (fun r => impl_ReqOk.j0 r true k a n w t e) false := by
    have h := reqOk_j0 true k a n w t e hw ht (fun h => by cases h)
    simpa using h
  simp only [impl_ReqOk.f, impl_isKind_eq, impl_in_eq]
  refine evBind hc ?_
  simp only [Option.bind_some]
  by_cases h1 : kindB k = true
  · simp only [h1, if_true, Bool.true_and]
    by_cases h2 : decide (T.1 ≤ n ∧ n ≤ T.2.1) = true
    · simp only [h2, if_true, Bool.true_and]
      rw [decide_eq_true_iff] at h2
      by_cases h3 : decide (T.2.2.1 ≤ (w.length : Int) ∧ (w.length : Int) ≤ T.2.2.2.1) = true
      · simp only [h3, if_true, Bool.true_and]
        have h := reqOk_j0 (!decide (T.2.2.2.2.1 ≤ (t.length : Int) ∧ (t.length : Int) ≤ T.2.2.2.2.2)) k a n w t e hw ht (fun _ => by omega)
        rw [Bool.not_not] at h
        exact h
      · have h3' : decide (T.2.2.1 ≤ (w.length : Int) ∧ (w.length : Int) ≤ T.2.2.2.1) = false := by simpa using h3
        simp only [h3', Bool.false_eq_true, if_false, Bool.false_and]; exact no
    · have h2' : decide (T.1 ≤ n ∧ n ≤ T.2.1) = false := by simpa using h2
      simp only [h2', Bool.false_eq_true, if_false, Bool.false_and]; exact no
  · have h1' : kindB k = false := by simpa using h1
    simp only [h1', Bool.false_eq_true, if_false, Bool.false_and]; exact no

theorem kind_cases {k : Int} (h : kindB k = true) : k = 1 ∨ k = 2 ∨ k = 3 ∨ k = 4 ∨ k = 5 ∨ k = 6 ∨ k = 15 ∨ k = 16 ∨ k = 22 ∨ k = 23 := by
  simp [kindB] at h
  omega
theorem reqB_kind {k a n : Int} {w : List Int} {t : List Bool} {e : Int} (h : kindB k = false) : reqB k a n w t e = false := by
  have hk : ¬ (k = 1 ∨ k = 2) ∧ ¬ (k = 3 ∨ k = 4) ∧ k ≠ 5 ∧ k ≠ 6 ∧ k ≠ 15 ∧ k ≠ 16 ∧ k ≠ 22 ∧ k ≠ 23 := by
    simp [kindB] at h
    omega
  obtain ⟨h1, h2, h3, h4, h5, h6, h7, h8⟩ := hk
  unfold reqB
  rw [if_neg h1, if_neg h2, if_neg h3, if_neg h4, if_neg h5, if_neg h6, if_neg h7, if_neg h8, Bool.and_false]

theorem impl_ReqOk_ev (k a n : Int) (w : List Int) (t : List Bool) (e : Int) (hw : w.length ≤ 1048576) (ht : t.length ≤ 1048576) : Ev (fun r => impl_ReqOk.f r k a n w t e) (reqB k a n w t e) := by
  have h := impl_ReqOk_raw k a n w t e hw ht
  by_cases hk : kindB k = true
  · have e2 : reqB k a n w t e = (kindB k && (decide ((countsOf k).1 ≤ n ∧ n ≤ (countsOf k).2.1) && (decide ((countsOf k).2.2.1 ≤ (w.length : Int) ∧ (w.length : Int) ≤ (countsOf k).2.2.2.1) && (decide ((countsOf k).2.2.2.2.1 ≤ (t.length : Int) ∧ (t.length : Int) ≤ (countsOf k).2.2.2.2.2) && (wordB a && (wordB e && (w.all wordB && (decide (a + n ≤ 65536) && endB k a w t e)))))))) := by
      simp only [reqB, endB, writtenOf, wordB_eq]
      generalize w.all wordB = W
      rw [Bool.eq_iff_iff]
      rcases kind_cases hk with rfl | rfl | rfl | rfl | rfl | rfl | rfl | rfl | rfl | rfl <;> cases W <;> simp [kindB, countsOf, -List.length_eq_zero_iff] <;> omega
    rw [e2]; exact h
  · have hk2 : kindB k = false := by simpa using hk
    rw [reqB_kind hk2]
    rw [hk2] at h
    simpa using h

theorem spec_l3Zero_eq (k a n : Int) (w : List Int) (t : List Bool) (e : Int) (b1 b2 b3 b4 : Bool) : spec_l3Zero.f k a n w t e b1 b2 b3 b4 = some ((b1 || decide (n = 0)) && ((b2 || decide (w.length = 0)) && ((b3 || decide (t.length = 0)) && (b4 || decide (e = 0))))) := by
  have q : ∀ m : Nat, ((m : Int) = 0) = (m = 0) := fun m => propext ⟨fun h => by omega, fun h => by omega⟩
  simp only [spec_l3Zero.f, q]
  by_cases h1 : n = 0 <;> by_cases h2 : w.length = 0 <;> by_cases h3 : t.length = 0 <;> by_cases h4 : e = 0 <;> cases b1 <;> cases b2 <;> cases b3 <;> cases b4 <;> simp [h1, h2, h3, h4]
theorem spec_l3Fits_eq (a n : Int) (hn : 0 ≤ n) (hn2 : n ≤ 1048576) : spec_l3Fits.f a n = some (decide (0 ≤ a ∧ a ≤ 65535) && decide (a + n ≤ 65536)) := by
  simp only [spec_l3Fits.f, spec_in_eq, Option.bind_some]
  by_cases h : 0 ≤ a ∧ a ≤ 65535
  · have e : wrap64 (a + n) = a + n := w64 (by omega) (by omega)
    simp [h, e]
  · simp [h]
/-- What is asked where a number is known to lie between bounds. -/
theorem fits_in (a n m : Int) (hm : m ≤ 1048576) : ((some (decide (1 ≤ n ∧ n ≤ m))).bind fun b => if b = true then (spec_l3Fits.f a n).bind fun c => some c else some false) = some (decide (1 ≤ n ∧ n ≤ m) && (decide (0 ≤ a ∧ a ≤ 65535) && decide (a + n ≤ 65536))) := by
  simp only [Option.bind_some]
  by_cases h : 1 ≤ n ∧ n ≤ m
  · rw [spec_l3Fits_eq a n (by omega) (by omega)]
    simp [h]
  · simp [h]
theorem reqOkS_j0_no (k a n : Int) (w : List Int) (t : List Bool) (e : Int) : Ev (fun r => spec_ReqOk.j0 r true k a n w t e) false := by
  refine evUp ?_
  simp only [spec_ReqOk.j0, if_true]
  exact Ev.now _
theorem reqOkS_j2 (k a n : Int) (w : List Int) (t : List Bool) (e : Int) (hw : w.length ≤ 1048576) (ht : t.length ≤ 1048576) (h12 : ¬ (k = 1 ∨ k = 2)) (ha : wordB a = true) (hW : w.all wordB = true) (b : Bool) (hb : b = decide (k = 3 ∨ k = 4)) :
    Ev (fun r => spec_ReqOk.j2 r k b k a n w t e) (reqB k a n w t e) := by
  have ha2 := ha
  rw [wordB_eq, decide_eq_true_iff] at ha2
  have q1 : ∀ m : Nat, (((m : Nat) : Int) == 1) = decide (m = 1) := fun m => by rw [Bool.eq_iff_iff]; simp; omega
  have q2 : ∀ m : Nat, (((m : Nat) : Int) == 2) = decide (m = 2) := fun m => by rw [Bool.eq_iff_iff]; simp; omega
  refine evUp ?_
  by_cases h34 : k = 3 ∨ k = 4
  · have hb2 : b = true := by rw [hb]; exact decide_eq_true h34
    have er : reqB k a n w t e = decide ((1 ≤ n ∧ n ≤ 125) ∧ w.length = 0 ∧ t.length = 0 ∧ e = 0 ∧ a + n ≤ 65536) := by
      unfold reqB; rw [hW, ha, if_neg h12, if_pos h34]; rfl
    simp only [spec_ReqOk.j2, hb2, if_true, spec_l3Zero_eq, spec_in_eq, Option.bind_some, er]
    by_cases h : 1 ≤ n ∧ n ≤ 125
    · rw [spec_l3Fits_eq a n (by omega) (by omega)]
      simp only [h, and_self, decide_true, if_true, Option.bind_some, ha2, Bool.true_and, iteS, true_and]
      refine Ev.congr (fun _ => ?_) (Ev.now _)
      congr 1
      rw [Bool.eq_iff_iff]; simp [-List.length_eq_zero_iff]; omega
    · have hf : decide (1 ≤ n ∧ n ≤ 125) = false := decide_eq_false h
      simp only [hf, Bool.false_eq_true, if_false, ite_self]
      refine Ev.congr (fun _ => ?_) (Ev.now _)
      congr 1
      rw [Bool.eq_iff_iff]; simp [-List.length_eq_zero_iff]; omega
  · have hb2 : b = false := by rw [hb]; exact decide_eq_false h34
    have er : reqB k a n w t e = if k = 5 then decide (n = 0 ∧ w.length = 0 ∧ t.length = 1 ∧ e = 0)
      else if k = 6 then decide (n = 0 ∧ w.length = 1 ∧ t.length = 0 ∧ e = 0)
      else if k = 15 then decide (n = 0 ∧ w.length = 0 ∧ (1 ≤ t.length ∧ t.length ≤ 1968) ∧ e = 0 ∧ a + t.length ≤ 65536)
      else if k = 16 then decide (n = 0 ∧ (1 ≤ w.length ∧ w.length ≤ 123) ∧ t.length = 0 ∧ e = 0 ∧ a + w.length ≤ 65536)
      else if k = 22 then decide (n = 0 ∧ w.length = 2 ∧ t.length = 0 ∧ e = 0)
      else if k = 23 then decide ((1 ≤ n ∧ n ≤ 125) ∧ (1 ≤ w.length ∧ w.length ≤ 121) ∧ t.length = 0 ∧ (0 ≤ e ∧ e ≤ 65535) ∧ a + n ≤ 65536 ∧ e + w.length ≤ 65536)
      else false := by
      unfold reqB; rw [hW, ha, if_neg h12, if_neg h34]; rfl
    have hwl : 0 ≤ (w.length : Int) := by omega
    have htl : 0 ≤ (t.length : Int) := by omega
    simp only [spec_ReqOk.j2, hb2, Bool.false_eq_true, if_false, spec_l3Zero_eq, spec_in_eq, Option.bind_some, er, spec_l3Fits_eq a (w.length : Int) hwl (by omega), spec_l3Fits_eq a (t.length : Int) htl (by omega), spec_l3Fits_eq e (w.length : Int) hwl (by omega), q1, q2, iteS]
    by_cases h5 : k = 5
    · simp only [h5, if_true]
      refine Ev.congr (fun _ => ?_) (Ev.now _)
      congr 1
      rw [Bool.eq_iff_iff]; simp [-List.length_eq_zero_iff]; omega
    by_cases h6 : k = 6
    · simp only [h6, Int.reduceEq, if_true, if_false]
      refine Ev.congr (fun _ => ?_) (Ev.now _)
      congr 1
      rw [Bool.eq_iff_iff]; simp [-List.length_eq_zero_iff]; omega
    by_cases h15 : k = 15
    · simp only [h15, Int.reduceEq, if_true, if_false]
      refine Ev.congr (fun _ => ?_) (Ev.now _)
      congr 1
      rw [Bool.eq_iff_iff]; simp [ha2, -List.length_eq_zero_iff]; omega
    by_cases h16 : k = 16
    · simp only [h16, Int.reduceEq, if_true, if_false]
      refine Ev.congr (fun _ => ?_) (Ev.now _)
      congr 1
      rw [Bool.eq_iff_iff]; simp [ha2, -List.length_eq_zero_iff]; omega
    by_cases h22 : k = 22
    · simp only [h22, Int.reduceEq, if_true, if_false]
      refine Ev.congr (fun _ => ?_) (Ev.now _)
      congr 1
      rw [Bool.eq_iff_iff]; simp [-List.length_eq_zero_iff]; omega
    by_cases h23 : k = 23
    · simp only [h23, Int.reduceEq, if_true, if_false]
      by_cases h : 1 ≤ n ∧ n ≤ 125
      · rw [spec_l3Fits_eq a n (by omega) (by omega)]
        simp only [Option.bind_some, iteS]
        refine Ev.congr (fun _ => ?_) (Ev.now _)
        congr 1
        rw [Bool.eq_iff_iff]; simp [ha2, h, -List.length_eq_zero_iff]; omega
      · have hf : decide (1 ≤ n ∧ n ≤ 125) = false := decide_eq_false h
        simp only [hf, Bool.false_eq_true, if_false, ite_self]
        refine Ev.congr (fun _ => ?_) (Ev.now _)
        congr 1
        rw [Bool.eq_iff_iff]; simp [-List.length_eq_zero_iff]; omega
    · simp only [h5, h6, h15, h16, h22, h23, if_false]; exact Ev.now _
theorem reqOkS_j1 (k a n : Int) (w : List Int) (t : List Bool) (e : Int) (hw : w.length ≤ 1048576) (ht : t.length ≤ 1048576) (ha : wordB a = true) (hW : w.all wordB = true) (b : Bool) (hb : b = decide (k = 1 ∨ k = 2)) :
    Ev (fun r => spec_ReqOk.j1 r k b k a n w t e) (reqB k a n w t e) := by
  have ha2 := ha
  rw [wordB_eq, decide_eq_true_iff] at ha2
  refine evUp ?_
  by_cases h12 : k = 1 ∨ k = 2
  · have hb2 : b = true := by rw [hb]; exact decide_eq_true h12
    have er : reqB k a n w t e = decide ((1 ≤ n ∧ n ≤ 2000) ∧ w.length = 0 ∧ t.length = 0 ∧ e = 0 ∧ a + n ≤ 65536) := by
      unfold reqB; rw [hW, ha, if_pos h12]; rfl
    simp only [spec_ReqOk.j1, hb2, if_true, spec_l3Zero_eq, spec_in_eq, Option.bind_some, er]
    by_cases h : 1 ≤ n ∧ n ≤ 2000
    · rw [spec_l3Fits_eq a n (by omega) (by omega)]
      simp only [h, and_self, decide_true, if_true, Option.bind_some, ha2, Bool.true_and, iteS, true_and]
      refine Ev.congr (fun _ => ?_) (Ev.now _)
      congr 1
      rw [Bool.eq_iff_iff]; simp [-List.length_eq_zero_iff]; omega
    · have hf : decide (1 ≤ n ∧ n ≤ 2000) = false := decide_eq_false h
      simp only [hf, Bool.false_eq_true, if_false, ite_self]
      refine Ev.congr (fun _ => ?_) (Ev.now _)
      congr 1
      rw [Bool.eq_iff_iff]; simp [-List.length_eq_zero_iff]; omega
  · have hb2 : b = false := by rw [hb]; exact decide_eq_false h12
    simp only [spec_ReqOk.j1, hb2, Bool.false_eq_true, if_false]
    by_cases h3 : k = 3
    · subst h3
      simp only [if_true]
      exact reqOkS_j2 3 a n w t e hw ht h12 ha hW _ (by decide)
    · simp only [h3, if_false]
      exact reqOkS_j2 k a n w t e hw ht h12 ha hW _ (by simp [h3, BEq.beq])
theorem spec_ReqOk_ev (k a n : Int) (w : List Int) (t : List Bool) (e : Int) (hw : w.length ≤ 1048576) (ht : t.length ≤ 1048576) : Ev (fun r => spec_ReqOk.f r k a n w t e) (reqB k a n w t e) := by
  simp only [spec_ReqOk.f]
  refine evBind (l3Words_ev w hw) ?_
  by_cases hW : w.all wordB = true
  · simp only [hW, if_true, spec_in_eq, Option.bind_some]
    by_cases ha : wordB a = true
    · have ha2 := ha
      rw [wordB_eq] at ha2
      rw [ha2, Bool.not_true]
      refine evUp ?_
      simp only [spec_ReqOk.j0, Bool.false_eq_true, if_false]
      by_cases h1 : k = 1
      · subst h1
        simp only [if_true]
        exact reqOkS_j1 1 a n w t e hw ht ha hW _ (by decide)
      · simp only [h1, if_false]
        exact reqOkS_j1 k a n w t e hw ht ha hW _ (by simp [h1, BEq.beq])
    · have ha1 : wordB a = false := by simpa using ha
      have er : reqB k a n w t e = false := by unfold reqB; rw [ha1, Bool.and_false, Bool.false_and]
      rw [wordB_eq] at ha1
      rw [er, ha1, Bool.not_false]
      exact reqOkS_j0_no k a n w t e
  · have hW2 : w.all wordB = false := by simpa using hW
    have er : reqB k a n w t e = false := by unfold reqB; rw [hW2, Bool.false_and, Bool.false_and]
    simp only [hW2, Bool.false_eq_true, if_false, er]
    exact reqOkS_j0_no k a n w t e

/-- What is known of a right question's numbers. -/
theorem reqB_facts {k a n : Int} {w : List Int} {t : List Bool} {e : Int} (h : reqB k a n w t e = true) : kindB k = true ∧ 0 ≤ a ∧ a ≤ 65535 ∧
    ((k = 1 ∨ k = 2) → 1 ≤ n ∧ n ≤ 2000 ∧ w.length = 0 ∧ t.length = 0 ∧ e = 0 ∧ a + n ≤ 65536) ∧ ((k = 3 ∨ k = 4) → 1 ≤ n ∧ n ≤ 125 ∧ w.length = 0 ∧ t.length = 0 ∧ e = 0 ∧ a + n ≤ 65536) ∧
    (k = 5 → n = 0 ∧ w.length = 0 ∧ t.length = 1 ∧ e = 0) ∧ (k = 6 → n = 0 ∧ w.length = 1 ∧ t.length = 0 ∧ e = 0) ∧
    (k = 15 → n = 0 ∧ w.length = 0 ∧ 1 ≤ t.length ∧ t.length ≤ 1968 ∧ e = 0 ∧ a + t.length ≤ 65536) ∧ (k = 16 → n = 0 ∧ 1 ≤ w.length ∧ w.length ≤ 123 ∧ t.length = 0 ∧ e = 0 ∧ a + w.length ≤ 65536) ∧
    (k = 22 → n = 0 ∧ w.length = 2 ∧ t.length = 0 ∧ e = 0) ∧
    (k = 23 → 1 ≤ n ∧ n ≤ 125 ∧ 1 ≤ w.length ∧ w.length ≤ 121 ∧ t.length = 0 ∧ 0 ≤ e ∧ e ≤ 65535 ∧ a + n ≤ 65536 ∧ e + w.length ≤ 65536) := by
  have hk : kindB k = true := by
    cases hk : kindB k with
    | true => rfl
    | false => rw [reqB_kind hk] at h; cases h
  refine ⟨hk, ?_⟩
  unfold reqB at h
  rw [wordB_eq, Bool.and_eq_true, Bool.and_eq_true] at h
  obtain ⟨⟨_, ha⟩, h2⟩ := h
  rw [decide_eq_true_iff] at ha
  refine ⟨ha.1, ha.2, ?_⟩
  generalize w.length = W at h2 ⊢
  generalize t.length = T at h2 ⊢
  rcases kind_cases hk with rfl | rfl | rfl | rfl | rfl | rfl | rfl | rfl | rfl | rfl <;> simp at h2 ⊢ <;> omega

theorem eqByteS_l0 (a b : List Int) (hl : a.length ≤ 140737488351232) (he : a.length = b.length) (d : Nat) : ∀ i : Nat, i ≤ a.length → a.length - i = d →
    Ev (fun k => laws_eqByteS.l0 k a b (i : Int)) (decide (a.drop i = b.drop i)) := by
  induction d with
  | zero =>
    intro i hi hd
    obtain rfl : i = a.length := by omega
    refine evUp ?_
    have h1 : ¬ ((a.length : Nat) : Int) < (a.length : Int) := by omega
    simp only [laws_eqByteS.l0, h1, if_false]
    have e : decide (a.drop a.length = b.drop a.length) = true := by
      rw [List.drop_length, he, List.drop_length]; rfl
    rw [e]
    exact Ev.now _
  | succ d ih =>
    intro i hi hd
    have ha : i < a.length := by omega
    have hb : i < b.length := by omega
    refine evUp ?_
    have h1 : (i : Int) < (a.length : Int) := by omega
    have h2 : 0 ≤ (i : Int) := by omega
    have h3 : (i : Int) < (b.length : Int) := by omega
    simp only [laws_eqByteS.l0, h1, h2, h3, if_true]
    rw [rd_get ha, rd_get hb, w64 (by omega) (by omega)]
    by_cases e : a[i] = b[i]
    · simp only [e, if_true]
      have e2 : decide (a.drop i = b.drop i) = decide (a.drop (i + 1) = b.drop (i + 1)) := by
        rw [decide_eq_decide, drop_eq_iff ha hb]; simp [e]
      rw [e2]
      exact ih (i + 1) (by omega) (by omega)
    · simp only [e, if_false]
      have e2 : decide (a.drop i = b.drop i) = false := by
        rw [decide_eq_false_iff_not, drop_eq_iff ha hb]; simp [e]
      rw [e2]
      exact Ev.now _

theorem eqByteS_ev (a b : List Int) (hl : a.length ≤ 140737488351232) : Ev (fun k => laws_eqByteS.f k a b) (decide (a = b)) := by
  by_cases he : a.length = b.length
  · have h := eqByteS_l0 a b hl he a.length 0 (by omega) (by omega)
    have h1 : (a.length : Int) = (b.length : Int) := by omega
    simp only [laws_eqByteS.f, h1, if_true]
    exact h
  · have h1 : ¬ (a.length : Int) = (b.length : Int) := by omega
    have e : decide (a = b) = false := by
      rw [decide_eq_false_iff_not]; intro h; exact he (by rw [h])
    simp only [laws_eqByteS.f, h1, if_false]
    rw [e]
    exact Ev.now _

theorem eqByteS_refl (a : List Int) (hl : a.length ≤ 140737488351232) : Ev (fun k => laws_eqByteS.f k a a) true := by
  have h := eqByteS_ev a a hl
  rwa [decide_eq_true rfl] at h

theorem markIntS_l0 (l : List Int) (k0 : Int) (hk0 : 0 ≤ k0) (hk : k0 + l.length ≤ 4611686018427387904) (hl : l.length ≤ 140737488355328) (d : Nat) : ∀ i : Nat, i ≤ l.length → l.length - i = d →
    Ev (fun k => laws_markIntS.l0 k (marks id k0 i ++ l.drop i) (k0 + i) (i : Int)) (k0 + l.length, marks id k0 l.length) := by
  induction d with
  | zero =>
    intro i hi hd
    obtain rfl : i = l.length := by omega
    refine evUp ?_
    have h1 : ¬ ((l.length : Nat) : Int) < (((marks id k0 l.length ++ l.drop l.length).length : Nat) : Int) := by
      rw [List.length_append, marks_length, List.drop_length, List.length_nil]; omega
    simp only [laws_markIntS.l0, h1, if_false]
    rw [List.drop_length, List.append_nil]
    exact Ev.now _
  | succ d ih =>
    intro i hi hd
    have hlt : i < l.length := by omega
    refine evUp ?_
    have h1 : (i : Int) < (((marks id k0 i ++ l.drop i).length : Nat) : Int) := by
      rw [List.length_append, marks_length, List.length_drop]; omega
    have h2 : 0 ≤ (i : Int) := by omega
    simp only [laws_markIntS.l0, h1, h2, if_true]
    rw [Int.toNat_natCast, set_next _ l _ i (marks_length _ _ _) hlt, w64 (x := k0 + i + 1) (by omega) (by omega), w64 (x := (i : Int) + 1) (by omega) (by omega)]
    have h := ih (i + 1) (by omega) (by omega)
    rw [marks_succ] at h
    rw [show k0 + (i : Int) + 1 = k0 + ((i + 1 : Nat) : Int) from by omega]
    exact h

theorem markIntS_ev (l : List Int) (k0 : Int) (hk0 : 0 ≤ k0) (hk : k0 + l.length ≤ 4611686018427387904) (hl : l.length ≤ 140737488355328) :
    Ev (fun k => laws_markIntS.f k l k0) (k0 + l.length, marks id k0 l.length) := by
  have h := markIntS_l0 l k0 hk0 hk hl l.length 0 (by omega) (by omega)
  simp only [laws_markIntS.f]
  simpa [marks] using h

theorem markBoolS_l0 (l : List Bool) (k0 : Int) (hk0 : 0 ≤ k0) (hk : k0 + l.length ≤ 4611686018427387904) (hl : l.length ≤ 140737488355328) (d : Nat) : ∀ i : Nat, i ≤ l.length → l.length - i = d →
    Ev (fun k => laws_markBoolS.l0 k (marks markB k0 i ++ l.drop i) (k0 + i) (i : Int)) (k0 + l.length, marks markB k0 l.length) := by
  induction d with
  | zero =>
    intro i hi hd
    obtain rfl : i = l.length := by omega
    refine evUp ?_
    have h1 : ¬ ((l.length : Nat) : Int) < (((marks markB k0 l.length ++ l.drop l.length).length : Nat) : Int) := by
      rw [List.length_append, marks_length, List.drop_length, List.length_nil]; omega
    simp only [laws_markBoolS.l0, h1, if_false]
    rw [List.drop_length, List.append_nil]
    exact Ev.now _
  | succ d ih =>
    intro i hi hd
    have hlt : i < l.length := by omega
    refine evUp ?_
    have h1 : (i : Int) < (((marks markB k0 i ++ l.drop i).length : Nat) : Int) := by
      rw [List.length_append, marks_length, List.length_drop]; omega
    have h2 : 0 ≤ (i : Int) := by omega
    have h3 : (Int.tmod (k0 + i) 3 == 0) = markB (k0 + (i : Int)) := by unfold markB; rw [tmod_pos (by omega)]
    simp only [laws_markBoolS.l0, h1, h2, if_true, h3]
    rw [Int.toNat_natCast, set_next _ l _ i (marks_length _ _ _) hlt, w64 (x := k0 + i + 1) (by omega) (by omega), w64 (x := (i : Int) + 1) (by omega) (by omega)]
    have h := ih (i + 1) (by omega) (by omega)
    rw [marks_succ] at h
    rw [show k0 + (i : Int) + 1 = k0 + ((i + 1 : Nat) : Int) from by omega]
    exact h

theorem markBoolS_ev (l : List Bool) (k0 : Int) (hk0 : 0 ≤ k0) (hk : k0 + l.length ≤ 4611686018427387904) (hl : l.length ≤ 140737488355328) :
    Ev (fun k => laws_markBoolS.f k l k0) (k0 + l.length, marks markB k0 l.length) := by
  have h := markBoolS_l0 l k0 hk0 hk hl l.length 0 (by omega) (by omega)
  simp only [laws_markBoolS.f]
  simpa [marks] using h

theorem markReq_ev (a b c : Int) (w : List Int) (t : List Bool) (d k0 : Int) (hk0 : 0 ≤ k0) (hk : k0 ≤ 1048577) (hw : w.length ≤ 1048576) (ht : t.length ≤ 1048576) :
    Ev (fun k => laws_markReq.f k a b c w t d k0) (k0 + w.length + t.length, marks id k0 w.length, marks markB (k0 + w.length) t.length) := by
  simp only [laws_markReq.f]
  refine evBind (markIntS_ev w k0 hk0 (by omega) (by omega)) ?_
  refine evBind (markBoolS_ev t (k0 + w.length) (by omega) (by omega) (by omega)) ?_
  exact Ev.now _
theorem markByteS_l0 (l : List Int) (k0 : Int) (hk0 : 0 ≤ k0) (hk : k0 + l.length ≤ 4611686018427387904) (hl : l.length ≤ 140737488355328) (d : Nat) : ∀ i : Nat, i ≤ l.length → l.length - i = d →
    Ev (fun k => laws_markByteS.l0 k (marks (· % 256) k0 i ++ l.drop i) (k0 + i) (i : Int)) (k0 + l.length, marks (· % 256) k0 l.length) := by
  induction d with
  | zero =>
    intro i hi hd
    obtain rfl : i = l.length := by omega
    refine evUp ?_
    have h1 : ¬ ((l.length : Nat) : Int) < (((marks (· % 256) k0 l.length ++ l.drop l.length).length : Nat) : Int) := by
      rw [List.length_append, marks_length, List.drop_length, List.length_nil]; omega
    simp only [laws_markByteS.l0, h1, if_false]
    rw [List.drop_length, List.append_nil]
    exact Ev.now _
  | succ d ih =>
    intro i hi hd
    have hlt : i < l.length := by omega
    refine evUp ?_
    have h1 : (i : Int) < (((marks (· % 256) k0 i ++ l.drop i).length : Nat) : Int) := by
      rw [List.length_append, marks_length, List.length_drop]; omega
    have h2 : 0 ≤ (i : Int) := by omega
    simp only [laws_markByteS.l0, h1, h2, if_true]
    rw [Int.toNat_natCast, set_next _ l _ i (marks_length _ _ _) hlt, w64 (x := k0 + i + 1) (by omega) (by omega), w64 (x := (i : Int) + 1) (by omega) (by omega)]
    have h := ih (i + 1) (by omega) (by omega)
    rw [marks_succ] at h
    rw [show k0 + (i : Int) + 1 = k0 + ((i + 1 : Nat) : Int) from by omega]
    exact h

theorem markByteS_ev (l : List Int) (k0 : Int) (hk0 : 0 ≤ k0) (hk : k0 + l.length ≤ 4611686018427387904) (hl : l.length ≤ 140737488355328) :
    Ev (fun k => laws_markByteS.f k l k0) (k0 + l.length, marks (· % 256) k0 l.length) := by
  have h := markByteS_l0 l k0 hk0 hk hl l.length 0 (by omega) (by omega)
  simp only [laws_markByteS.f]
  simpa [marks] using h

theorem heldByteS_l0 (n : Nat) (k0 : Int) (hk0 : 0 ≤ k0) (hk : k0 + n ≤ 4611686018427387904) (hl : n ≤ 140737488355328) (d : Nat) : ∀ i : Nat, i ≤ n → n - i = d →
    Ev (fun k => laws_heldByteS.l0 k (marks (· % 256) k0 n) (k0 + i) (i : Int)) (k0 + n) := by
  induction d with
  | zero =>
    intro i hi hd
    obtain rfl : i = n := by omega
    refine evUp ?_
    have h1 : ¬ ((i : Nat) : Int) < (((marks (· % 256) k0 i).length : Nat) : Int) := by rw [marks_length]; omega
    simp only [laws_heldByteS.l0, h1, if_false]
    exact Ev.now _
  | succ d ih =>
    intro i hi hd
    have hlt : i < n := by omega
    refine evUp ?_
    have h1 : (i : Int) < (((marks (· % 256) k0 n).length : Nat) : Int) := by rw [marks_length]; omega
    have h2 : 0 ≤ (i : Int) := by omega
    have h3 : rd (marks (· % 256) k0 n) (i : Int) = (k0 + i) % 256 := by
      rw [rd_get (by rw [marks_length]; exact hlt), marks_get _ _ _ _ hlt]
    simp only [laws_heldByteS.l0, h1, h2, h3, if_true]
    rw [w64 (x := k0 + i + 1) (by omega) (by omega), w64 (x := (i : Int) + 1) (by omega) (by omega)]
    rw [show k0 + (i : Int) + 1 = k0 + ((i + 1 : Nat) : Int) from by omega]
    exact ih (i + 1) (by omega) (by omega)

theorem heldByteS_ev (n : Nat) (k0 : Int) (hk0 : 0 ≤ k0) (hk : k0 + n ≤ 4611686018427387904) (hl : n ≤ 140737488355328) :
    Ev (fun k => laws_heldByteS.f k (marks (· % 256) k0 n) k0) (k0 + n) := by
  have h := heldByteS_l0 n k0 hk0 hk hl n 0 (by omega) (by omega)
  simp only [laws_heldByteS.f]
  simpa using h

theorem impl_PackBits_l0 (bits : List Bool) (hl : bits.length ≤ 140737488351232) (d : Nat) : ∀ i : Nat, i ≤ bits.length → bits.length - i = d →
    Ev (fun k => impl_PackBits.l0 k (packTo bits ((bits.length + 7) / 8) i) bits (bits.length : Int) (i : Int)) (packed bits) := by
  induction d with
  | zero =>
    intro i hi hd
    obtain rfl : i = bits.length := by omega
    refine evUp ?_
    have h1 : ¬ ((bits.length : Nat) : Int) < (bits.length : Int) := by omega
    simp only [impl_PackBits.l0, h1, if_false]
    exact Ev.now _
  | succ d ih =>
    intro i hi hd
    have hlt : i < bits.length := by omega
    refine evUp ?_
    have h1 : (i : Int) < (bits.length : Int) := by omega
    have h2 : 0 ≤ (i : Int) := by omega
    have e1 : wrap64 (Int.tdiv (i : Int) 8) = ((i / 8 : Nat) : Int) := by rw [tdiv_pos h2, w64 (by omega) (by omega)]; omega
    have e2 : Int.tmod (i : Int) 8 = ((i % 8 : Nat) : Int) := by rw [tmod_pos h2]; omega
    have h3 : 0 ≤ ((i / 8 : Nat) : Int) := by omega
    have h4 : ((i / 8 : Nat) : Int) < ((packTo bits ((bits.length + 7) / 8) i).length : Int) := by rw [packTo_length]; omega
    have h5 : 0 ≤ ((i % 8 : Nat) : Int) := by omega
    have e3 : wrap64 ((i : Int) + 1) = ((i + 1 : Nat) : Int) := by rw [w64 (by omega) (by omega)]; omega
    have hg : bits.getD i false = bits[i] := by rw [List.getD_eq_getElem?_getD, List.getElem?_eq_getElem hlt]; rfl
    have hn := ih (i + 1) (by omega) (by omega)
    simp only [impl_PackBits.l0, h1, h2, if_true, rdOf_get hlt, e1, e2, h3, h4, h5, e3, Int.toNat_natCast]
    simp only [packTo, hg] at hn
    by_cases hc : bits[i] = true
    · simp only [hc, if_true] at hn ⊢
      exact hn
    · simp only [hc, if_false] at hn ⊢
      exact hn

theorem impl_PackBits_ev (bits : List Bool) (hl : bits.length ≤ 140737488351232) : Ev (fun k => impl_PackBits.f k bits) (packed bits) := by
  have h := impl_PackBits_l0 bits hl bits.length 0 (by omega) (by omega)
  have e1 : wrap64 (Int.tdiv (wrap64 ((bits.length : Int) + 7)) 8) = (((bits.length + 7) / 8 : Nat) : Int) := by
    rw [w64 (x := (bits.length : Int) + 7) (by omega) (by omega), tdiv_pos (by omega), w64 (by omega) (by omega)]; omega
  have h1 : 0 ≤ (((bits.length + 7) / 8 : Nat) : Int) := by omega
  have h2 : (bits.length + 7) / 8 ≤ 281474976710656 := by omega
  simp only [impl_PackBits.f, e1, h1, if_true, Int.toNat_natCast, h2]
  exact h

theorem u64_small {m : Nat} (h : m < 8) : IntKind.u64.wrap (m : Int) = (m : Int) := by
  simp [IntKind.wrap, IntKind.bits, IntKind.signed]
  omega

theorem spec_PackBits_l0 (bits : List Bool) (hl : bits.length ≤ 140737488351232) (d : Nat) : ∀ i : Nat, i ≤ bits.length → bits.length - i = d →
    Ev (fun k => spec_PackBits.l0 k bits (packTo bits ((bits.length + 7) / 8) i) (i : Int)) (packed bits) := by
  induction d with
  | zero =>
    intro i hi hd
    obtain rfl : i = bits.length := by omega
    refine evUp ?_
    have h1 : ¬ ((bits.length : Nat) : Int) < (bits.length : Int) := by omega
    simp only [spec_PackBits.l0, h1, if_false]
    exact Ev.now _
  | succ d ih =>
    intro i hi hd
    have hlt : i < bits.length := by omega
    refine evUp ?_
    have h1 : (i : Int) < (bits.length : Int) := by omega
    have h2 : 0 ≤ (i : Int) := by omega
    have e1 : wrap64 (Int.tdiv (i : Int) 8) = ((i / 8 : Nat) : Int) := by rw [tdiv_pos h2, w64 (by omega) (by omega)]; omega
    have e2 : IntKind.u64.wrap (Int.tmod (i : Int) 8) = ((i % 8 : Nat) : Int) := by
      rw [tmod_pos h2, show (i : Int) % 8 = ((i % 8 : Nat) : Int) from by omega, u64_small (by omega)]
    have h3 : 0 ≤ ((i / 8 : Nat) : Int) := by omega
    have h4 : ((i / 8 : Nat) : Int) < ((packTo bits ((bits.length + 7) / 8) i).length : Int) := by rw [packTo_length]; omega
    have h5 : 0 ≤ ((i % 8 : Nat) : Int) := by omega
    have e3 : wrap64 ((i : Int) + 1) = ((i + 1 : Nat) : Int) := by rw [w64 (by omega) (by omega)]; omega
    have hg : bits.getD i false = bits[i] := by rw [List.getD_eq_getElem?_getD, List.getElem?_eq_getElem hlt]; rfl
    have hn := ih (i + 1) (by omega) (by omega)
    simp only [spec_PackBits.l0, h1, h2, if_true, rdOf_get hlt, e1, e2, h3, h4, h5, e3, Int.toNat_natCast]
    simp only [packTo, hg] at hn
    by_cases hc : bits[i] = true
    · simp only [hc, if_true] at hn ⊢
      exact hn
    · simp only [hc, if_false] at hn ⊢
      exact hn

theorem spec_PackBits_ev (bits : List Bool) (hl : bits.length ≤ 140737488351232) : Ev (fun k => spec_PackBits.f k bits) (packed bits) := by
  have h := spec_PackBits_l0 bits hl bits.length 0 (by omega) (by omega)
  have e1 : wrap64 (Int.tdiv (wrap64 ((bits.length : Int) + 7)) 8) = (((bits.length + 7) / 8 : Nat) : Int) := by
    rw [w64 (x := (bits.length : Int) + 7) (by omega) (by omega), tdiv_pos (by omega), w64 (by omega) (by omega)]; omega
  have h1 : 0 ≤ (((bits.length + 7) / 8 : Nat) : Int) := by omega
  have h2 : (bits.length + 7) / 8 ≤ 281474976710656 := by omega
  simp only [spec_PackBits.f, e1, h1, if_true, Int.toNat_natCast, h2]
  exact h

theorem encW_nil : encW [] = [] := rfl
theorem encW_cons (x : Int) (l : List Int) : encW (x :: l) = x / 256 % 256 :: x % 256 :: encW l := rfl
theorem encW_append (l m : List Int) : encW (l ++ m) = encW l ++ encW m := List.flatMap_append
/-- A coil as a word. -/
def coilW (b : Bool) : Int := if b = true then 65280 else 0
theorem spec_PutWord_eq (l : List Int) (a : Int) (h : l.length ≤ 70368744177664) : spec_PutWord.f l a = some (l ++ encW [a]) := by
  have h1 : ([] : List Int).length + l.length < 140737488355328 := by rw [List.length_nil]; omega
  have h2 : l.length + ([(a % 65536 / 256) % 256, a % 65536 % 256] : List Int).length < 140737488355328 := by
    rw [List.length_cons, List.length_cons, List.length_nil]; omega
  have e1 : a % 65536 / 256 % 256 = a / 256 % 256 := by omega
  have e2 : a % 65536 % 256 = a % 256 := by omega
  rw [e1, e2] at h2
  simp only [spec_PutWord.f, and_65535, Option.bind_some, if_pos h1, List.nil_append, if_pos h2, e1, e2, encW_cons, encW_nil]
theorem spec_l3PutWords_l0 (l w : List Int) (hs : l.length + 2 * w.length ≤ 35184372088832) (d : Nat) : ∀ i : Nat, i ≤ w.length → w.length - i = d →
    Ev (fun k => spec_l3PutWords.l0 k (accW l w i) w (i : Int)) (l ++ encW w) := by
  induction d with
  | zero =>
    intro i hi hd
    obtain rfl : i = w.length := by omega
    refine evUp ?_
    have h1 : ¬ ((w.length : Nat) : Int) < (w.length : Int) := by omega
    have e : accW l w w.length = l ++ encW w := by unfold accW; rw [List.take_length]
    simp only [spec_l3PutWords.l0, h1, if_false, e]
    exact Ev.now _
  | succ d ih =>
    intro i hi hd
    have hlt : i < w.length := by omega
    refine evUp ?_
    have h1 : (i : Int) < (w.length : Int) := by omega
    have h2 : 0 ≤ (i : Int) := by omega
    have hl := accW_length (l0 := l) (l1 := w) (i := i) (by omega)
    have e : accW l w i ++ encW [rd w (i : Int)] = accW l w (i + 1) := by rw [accW_succ hlt]; rfl
    simp only [spec_l3PutWords.l0, h1, h2, if_true, spec_PutWord_eq (accW l w i) (rd w (i : Int)) (by omega), Option.bind_some, e]
    rw [w64 (x := (i : Int) + 1) (by omega) (by omega)]
    exact ih (i + 1) (by omega) (by omega)
theorem spec_l3PutWords_ev (l w : List Int) (hs : l.length + 2 * w.length ≤ 35184372088832) : Ev (fun k => spec_l3PutWords.f k l w) (l ++ encW w) := by
  have h := spec_l3PutWords_l0 l w hs w.length 0 (by omega) (by omega)
  have e : accW l w 0 = l := by unfold accW encW; simp
  rw [e] at h
  exact h
theorem lt_lim {a b : Nat} (h0 : a ≤ 100) (h1 : b ≤ 1048576) : a + 2 * b < 35184372088832 := by omega
theorem impl_putWords_eq (l0 l1 : List Int) (h : l1.length ≠ 0) (h0 : l0.length ≤ 100) (h1 : l1.length ≤ 1048576) : impl_putWords.f l0 l1 = some (l0 ++ encW l1) := by
  unfold impl_putWords.f
  rw [if_neg h, if_pos (lt_lim h0 h1)]
theorem few1 (x : Int) : ([x] : List Int).length ≠ 0 ∧ ([x] : List Int).length ≤ 100 := ⟨by simp, by simp⟩
theorem few2 (x y : Int) : ([x, y] : List Int).length ≠ 0 ∧ ([x, y] : List Int).length ≤ 100 := ⟨by simp, by simp⟩
theorem few4 (x y z u : Int) : ([x, y, z, u] : List Int).length ≠ 0 ∧ ([x, y, z, u] : List Int).length ≤ 100 := ⟨by simp, by simp⟩
theorem few_le {n : Nat} (h : n ≤ 100) : n ≤ 1048576 := by omega
theorem impl_putCounted_eq (l0 l1 : List Int) (h0 : l0.length ≤ 100) (h1 : l1.length ≤ 8388608) : impl_putCounted.f l0 l1 = some (l0 ++ ((l1.length : Int) % 256 :: l1)) := by
  unfold impl_putCounted.f
  rw [if_pos (by omega)]
theorem spec_l3Coil_eq (l : List Int) (b : Bool) (h : l.length ≤ 70368744177664) : spec_l3Coil.f l b = some (l ++ encW [coilW b]) := by
  have h2 : ∀ x y : Int, l.length + ([x, y] : List Int).length < 140737488355328 := fun x y => by rw [List.length_cons, List.length_cons, List.length_nil]; omega
  cases b
  · simp only [spec_l3Coil.f, Bool.false_eq_true, if_false, Option.bind_some, if_pos (h2 _ _)]; rfl
  · simp only [spec_l3Coil.f, if_true, Option.bind_some, if_pos (h2 _ _)]; rfl
theorem impl_bitWord_eq (b : Bool) : impl_bitWord.f b = some (coilW b) := by cases b <;> rfl
theorem evFin {x y : List Int} (h : x = y) : Ev (fun _ : Nat => some x) y := h ▸ Ev.now _
theorem evEq {g : Nat → Option (List Int)} {r : List Int} (h : ∀ k, g (k + 1) = some r) : Ev g r := evUp (by rw [show (fun k => g (k + 1)) = fun _ => some r from funext h]; exact Ev.now r)

/-- What stands behind the kind in a question's bytes. -/
def putBody (k a n : Int) (w : List Int) (t : List Bool) (e : Int) : List Int :=
  if k = 5 then encW [a, coilW (rdOf false t 0)] else if k = 6 ∨ k = 22 then encW [a] ++ encW w
  else if k = 15 then encW [a, (t.length : Int)] ++ (((packed t).length : Int) % 256 :: packed t)
  else if k = 16 then encW [a, (w.length : Int)] ++ ((2 * (w.length : Int)) % 256 :: encW w)
  else if k = 23 then encW [a, n, e, (w.length : Int)] ++ ((2 * (w.length : Int)) % 256 :: encW w)
  else encW [a, n]
def putReqOf (k a n : Int) (w : List Int) (t : List Bool) (e : Int) : List Int := if reqB k a n w t e = true then k % 256 :: putBody k a n w t e else []
theorem putReqOf_length (k a n : Int) (w : List Int) (t : List Bool) (e : Int) (hw : w.length ≤ 1048576) (ht : t.length ≤ 1048576) : (putReqOf k a n w t e).length ≤ 10000000 := by
  have hp := packed_length t
  unfold putReqOf putBody
  repeat' split
  all_goals simp only [List.length_cons, List.length_append, List.length_nil, encW_length, hp]; omega
theorem spec_PutReq_ev (k a n : Int) (w : List Int) (t : List Bool) (e : Int) (hw : w.length ≤ 1048576) (ht : t.length ≤ 1048576) : Ev (fun r => spec_PutReq.f r k a n w t e) (putReqOf k a n w t e) := by
  have hp := packed_length t
  have hpw : ∀ (x : Int) (l : List Int), spec_PutWord.f (x :: l) = fun b => spec_PutWord.f (x :: l) b := fun _ _ => rfl
  simp only [spec_PutReq.f, putReqOf]
  refine evBind (spec_ReqOk_ev k a n w t e hw ht) ?_
  by_cases hr : reqB k a n w t e = true
  · obtain ⟨hk, _, _, f12, f34, f5, f6, f15, f16, f22, f23⟩ := reqB_facts hr
    simp only [hr, if_true]
    have e1 : spec_PutWord.f [k % 256] a = some ([k % 256] ++ encW [a]) := spec_PutWord_eq _ _ (by simp)
    simp only [e1, Option.bind_some]
    have hl1 : ([k % 256] ++ encW [a]).length = 3 := by simp [encW_length]
    generalize hX : [k % 256] ++ encW [a] = X at hl1
    have pw : ∀ b : Int, spec_PutWord.f X b = some (X ++ encW [b]) := fun b => spec_PutWord_eq _ _ (by omega)
    rcases kind_cases hk with rfl | rfl | rfl | rfl | rfl | rfl | rfl | rfl | rfl | rfl
    all_goals simp only [Int.reduceEq, if_false, if_true, false_or, or_false, putBody]
    · refine evUp ?_
      simp only [spec_PutReq.j0, Int.reduceBEq, Bool.false_eq_true, Int.reduceEq, if_false, pw, Option.bind_some]
      exact evFin (by rw [← hX]; simp [encW])
    · refine evUp ?_
      simp only [spec_PutReq.j0, Int.reduceBEq, Bool.false_eq_true, Int.reduceEq, if_false, pw, Option.bind_some]
      exact evFin (by rw [← hX]; simp [encW])
    · refine evUp ?_
      simp only [spec_PutReq.j0, Int.reduceBEq, Bool.false_eq_true, Int.reduceEq, if_false, pw, Option.bind_some]
      exact evFin (by rw [← hX]; simp [encW])
    · refine evUp ?_
      simp only [spec_PutReq.j0, Int.reduceBEq, Bool.false_eq_true, Int.reduceEq, if_false, pw, Option.bind_some]
      exact evFin (by rw [← hX]; simp [encW])
    · have c : (0 : Int) < (t.length : Int) := by have := (f5 rfl).2.2.1; omega
      simp only [c, if_true, spec_l3Coil_eq X _ (by omega), Option.bind_some]
      exact evFin (by rw [← hX]; simp [encW])
    · refine evUp ?_
      simp only [spec_PutReq.j0, Int.reduceBEq, if_true]
      refine evBind (spec_l3PutWords_ev X w (by omega)) ?_
      exact evFin (by rw [← hX]; simp [encW])
    · refine evUp ?_
      simp only [spec_PutReq.j0, Int.reduceBEq, Bool.false_eq_true, Int.reduceEq, if_false, if_true]
      refine evBind (spec_PackBits_ev t (by omega)) ?_
      simp only [pw, Option.bind_some]
      have g1 : (X ++ encW [(t.length : Int)]).length + ([((packed t).length : Int) % 256] : List Int).length < 140737488355328 := by simp [encW_length]; omega
      have g2 : (X ++ encW [(t.length : Int)] ++ [((packed t).length : Int) % 256]).length + (packed t).length < 140737488355328 := by simp [encW_length]; omega
      simp only [if_pos g1, if_pos g2]
      exact evFin (by rw [← hX]; simp [encW])
    · have hwl := f16 rfl
      have e2 : wrap64 (2 * (w.length : Int)) = 2 * (w.length : Int) := w64 (by omega) (by omega)
      refine evUp ?_
      simp only [spec_PutReq.j0, Int.reduceBEq, Bool.false_eq_true, Int.reduceEq, if_false, if_true, pw, Option.bind_some, e2]
      have g1 : (X ++ encW [(w.length : Int)]).length + ([(2 * (w.length : Int)) % 256] : List Int).length < 140737488355328 := by simp [encW_length]; omega
      simp only [if_pos g1]
      refine evBind (spec_l3PutWords_ev (X ++ encW [(w.length : Int)] ++ [(2 * (w.length : Int)) % 256]) w (by simp [encW_length]; omega)) ?_
      exact evFin (by rw [← hX]; simp [encW])
    · refine evUp ?_
      simp only [spec_PutReq.j0, Int.reduceBEq, if_true]
      refine evBind (spec_l3PutWords_ev X w (by omega)) ?_
      exact evFin (by rw [← hX]; simp [encW])
    · have hwl := f23 rfl
      have e2 : wrap64 (2 * (w.length : Int)) = 2 * (w.length : Int) := w64 (by omega) (by omega)
      have p2 : spec_PutWord.f (X ++ encW [n]) e = some (X ++ encW [n] ++ encW [e]) := spec_PutWord_eq _ _ (by simp [encW_length]; omega)
      have p3 : spec_PutWord.f (X ++ encW [n] ++ encW [e]) (w.length : Int) = some (X ++ encW [n] ++ encW [e] ++ encW [(w.length : Int)]) := spec_PutWord_eq _ _ (by simp [encW_length]; omega)
      refine evUp ?_
      simp only [spec_PutReq.j0, Int.reduceBEq, Bool.false_eq_true, Int.reduceEq, if_false, if_true, pw, p2, p3, Option.bind_some, e2]
      have g1 : (X ++ encW [n] ++ encW [e] ++ encW [(w.length : Int)]).length + ([(2 * (w.length : Int)) % 256] : List Int).length < 140737488355328 := by simp [encW_length]; omega
      simp only [if_pos g1]
      refine evBind (spec_l3PutWords_ev (X ++ encW [n] ++ encW [e] ++ encW [(w.length : Int)] ++ [(2 * (w.length : Int)) % 256]) w (by simp [encW_length]; omega)) ?_
      exact evFin (by rw [← hX]; simp [encW])
  · simp only [hr, if_false]; exact Ev.now _
section
variable (a n e : Int) (w : List Int) (t : List Bool)
theorem put_two (k x y : Int) : impl_putWords.f [k % 256] [x, y] = some ([k % 256] ++ encW [x, y]) := impl_putWords_eq _ _ (few2 _ _).1 (few1 _).2 (few_le (few2 _ _).2)
theorem put_one (k a : Int) : impl_putWords.f [k % 256] [a] = some ([k % 256] ++ encW [a]) := impl_putWords_eq _ _ (few1 _).1 (few1 _).2 (few_le (few1 _).2)
theorem put_four (k x y z u : Int) : impl_putWords.f [k % 256] [x, y, z, u] = some ([k % 256] ++ encW [x, y, z, u]) := impl_putWords_eq _ _ (few4 _ _ _ _).1 (few1 _).2 (few_le (few4 _ _ _ _).2)
theorem put_more (k : Int) (h0 : w.length ≠ 0) (hw : w.length ≤ 1048576) : impl_putWords.f ([k % 256] ++ encW [a]) w = some ([k % 256] ++ encW [a] ++ encW w) := impl_putWords_eq _ _ h0 (by simp [encW_length]) hw
theorem put_words (h0 : w.length ≠ 0) (hw : w.length ≤ 1048576) : impl_putWords.f [] w = some (encW w) := impl_putWords_eq _ _ h0 (by simp) hw
theorem put_cnt (X l : List Int) (hX : X.length ≤ 100) (hl : l.length ≤ 8388608) : impl_putCounted.f X l = some (X ++ ((l.length : Int) % 256 :: l)) := impl_putCounted_eq _ _ hX hl
theorem impl_put_1 (k : Int) (r : Nat) : impl_PutReq.j0 (r + 1) [k % 256] k true k a n w t e = some ([k % 256] ++ encW [a, n]) := by
  rw [impl_PutReq.j0, if_pos rfl, put_two]; rfl
theorem impl_put_5 (c : (0 : Int) < (t.length : Int)) (r : Nat) : impl_PutReq.j0 (r + 1) [5 % 256] 5 false 5 a n w t e = some ([5 % 256] ++ encW [a, coilW (rdOf false t 0)]) := by
  rw [impl_PutReq.j0, if_neg (by decide), if_pos rfl, if_pos c, impl_bitWord_eq, Option.bind_some, put_two]; rfl
theorem impl_put_6 (k : Int) (h : k = 6 ∨ k = 22) (h0 : w.length ≠ 0) (hw : w.length ≤ 1048576) (r : Nat) : impl_PutReq.j0 (r + 1) [k % 256] k false k a n w t e = some ([k % 256] ++ encW [a] ++ encW w) := by
  rw [impl_PutReq.j0, if_neg (by decide), if_neg (by omega), if_neg (by omega), if_neg (by omega), if_neg (by omega), put_one, Option.bind_some, put_more a w k h0 hw]; rfl
theorem impl_put_15 (r : Nat) : impl_PutReq.j0 (r + 1) [15 % 256] 15 false 15 a n w t e = (impl_PackBits.f r t).bind fun p => (impl_putCounted.f ([15 % 256] ++ encW [a, (t.length : Int)]) p).bind fun q => some q := by
  rw [impl_PutReq.j0, if_neg (by decide), if_neg (by decide), if_pos rfl, put_two, Option.bind_some]
theorem impl_put_16 (h0 : w.length ≠ 0) (hw : w.length ≤ 1048576) (r : Nat) : impl_PutReq.j0 (r + 1) [16 % 256] 16 false 16 a n w t e = some (([16 % 256] ++ encW [a, (w.length : Int)]) ++ (((encW w).length : Int) % 256 :: encW w)) := by
  rw [impl_PutReq.j0, if_neg (by decide), if_neg (by decide), if_neg (by decide), if_pos rfl, put_two, Option.bind_some, put_words w h0 hw, Option.bind_some, put_cnt _ _ (by simp [encW_length]) (by rw [encW_length]; omega)]; rfl
theorem impl_put_23 (h0 : w.length ≠ 0) (hw : w.length ≤ 1048576) (r : Nat) : impl_PutReq.j0 (r + 1) [23 % 256] 23 false 23 a n w t e = some (([23 % 256] ++ encW [a, n, e, (w.length : Int)]) ++ (((encW w).length : Int) % 256 :: encW w)) := by
  rw [impl_PutReq.j0, if_neg (by decide), if_neg (by decide), if_neg (by decide), if_neg (by decide), if_pos rfl, put_four, Option.bind_some, put_words w h0 hw, Option.bind_some, put_cnt _ _ (by simp [encW_length]) (by rw [encW_length]; omega)]; rfl
end
theorem b14 : ((5 : Int) == 4) = false ∧ ((6 : Int) == 4) = false ∧ ((15 : Int) == 4) = false ∧ ((16 : Int) == 4) = false ∧ ((22 : Int) == 4) = false ∧ ((23 : Int) == 4) = false := by decide
theorem impl_PutReq_ev (k a n : Int) (w : List Int) (t : List Bool) (e : Int) (hw : w.length ≤ 1048576) (ht : t.length ≤ 1048576) : Ev (fun r => impl_PutReq.f r k a n w t e) (putReqOf k a n w t e) := by
  have hp := packed_length t
  simp only [impl_PutReq.f, putReqOf]
  refine evBind (impl_ReqOk_ev k a n w t e hw ht) ?_
  by_cases hr : reqB k a n w t e = true
  · obtain ⟨hk, _, _, f12, f34, f5, f6, f15, f16, f22, f23⟩ := reqB_facts hr
    simp only [hr, if_true, Option.bind_some]
    obtain ⟨g5, g6, g15, g16, g22, g23⟩ := b14
    rcases kind_cases hk with rfl | rfl | rfl | rfl | rfl | rfl | rfl | rfl | rfl | rfl
    all_goals simp only [Int.reduceEq, if_false, if_true, false_or, or_false, putBody]
    · exact evEq fun k => impl_put_1 a n e w t 1 k
    · exact evEq fun k => impl_put_1 a n e w t 2 k
    · exact evEq fun k => impl_put_1 a n e w t 3 k
    · exact evEq fun k => impl_put_1 a n e w t 4 k
    · rw [g5]; exact evEq fun k => impl_put_5 a n e w t (by have := (f5 rfl).2.2.1; omega) k
    · rw [g6]; exact evEq fun k => (impl_put_6 a n e w t 6 (.inl rfl) (by have := (f6 rfl).2.1; omega) hw k).trans (by rw [List.append_assoc]; rfl)
    · rw [g15]
      refine evUp ?_
      simp only [impl_put_15]
      refine evBind (impl_PackBits_ev t (by omega)) ?_
      rw [put_cnt _ _ (by simp [encW_length]) (by omega)]
      simp only [Option.bind_some]
      exact evFin (by simp)
    · rw [g16]; exact evEq fun k => (impl_put_16 a n e w t (by have := (f16 rfl).2.1; omega) hw k).trans (by rw [encW_length, Int.natCast_mul]; rfl)
    · rw [g22]; exact evEq fun k => (impl_put_6 a n e w t 22 (.inr rfl) (by have := (f22 rfl).2.1; omega) hw k).trans (by rw [List.append_assoc]; rfl)
    · rw [g23]; exact evEq fun k => (impl_put_23 a n e w t (by have := (f23 rfl).2.2.1; omega) hw k).trans (by rw [encW_length, Int.natCast_mul]; rfl)
  · simp only [hr, if_false]; exact Ev.now _

theorem FnExactPutReq : laws_FnExactPutReq.Pure := by
  intro a b c w t d _ _ _ h1 _ h2 _
  refine Ev.rounds (g := fun k => laws_FnExactPutReq.f k a b c w t d) ?_
  obtain ⟨v, e, h⟩ := szReq_some a b c w t d 1048576 h1 h2 (by omega) (by omega)
  by_cases c1 : v < 0
  · simp only [laws_FnExactPutReq.f, e, Option.bind_some, c1, if_true]; exact Ev.now _
  · have hl := (h c1).2
    have htr := toReq_ev a b c w t d hl.1 hl.2
    have hs := spec_PutReq_ev a b c w t d hl.1 hl.2
    have hi := impl_PutReq_ev a b c w t d hl.1 hl.2
    have hlen := putReqOf_length a b c w t d hl.1 hl.2
    generalize putReqOf a b c w t d = R at hs hi hlen
    have q := eqByteS_refl R (by omega)
    have hq := eqReq_refl a b c w t d hl.1 hl.2
    have m1 := markReq_ev a b c w t d 1 (by omega) (by omega) hl.1 hl.2
    have m2 := markByteS_ev R 1 (by omega) (by omega) (by omega)
    have m3 := heldByteS_ev R.length 1 (by omega) (by omega) (by omega)
    have n1 : ¬ (1 + (w.length : Int) + (t.length : Int) < 0) := by omega
    have n2 : ¬ (1 + (R.length : Int) < 0) := by omega
    have j : Ev (fun k => laws_FnExactPutReq.j0 k R R false a b c w t d) true := by
      refine evUp ?_
      simp only [laws_FnExactPutReq.j0, Bool.false_eq_true, if_false]
      refine evBind m2 ?_
      refine evBind m3 ?_
      simp only [n2, if_false, if_true]
      refine evBind htr ?_
      refine evBind hi ?_
      refine evBind q ?_
      simp only [if_true]
      refine evBind m3 ?_
      simp only [n2, if_false, if_true]
      exact Ev.now _
    simp only [laws_FnExactPutReq.f, e, Option.bind_some, c1, if_false]
    refine evBind htr ?_
    refine evBind hs ?_
    refine evBind htr ?_
    refine evBind hi ?_
    refine evBind q ?_
    simp only [if_true]
    refine evBind htr ?_
    refine evBind hq ?_
    simp only [if_true]
    refine evBind m1 ?_
    simp only [n1, if_false]
    refine evBind q ?_
    rw [Bool.not_true]
    exact j

end Go.Proofs.Yteoghpcgompajaa.Pure
