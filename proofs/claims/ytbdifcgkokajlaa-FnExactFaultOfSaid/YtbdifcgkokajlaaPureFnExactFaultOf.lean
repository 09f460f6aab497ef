/- The law on FaultOf is true at every question and fault. No condition. -/
import Derived.Test.YtbdifcgkokajlaaSFnExactFaultOf
import Derived.Test.YtbdifcgkokajlaaC
namespace Go.Proofs.Ytbdifcgkokajlaa.Pure
open Go.Proofs.Ytbdifcgkokajlaa.G Go Go.RowKit Go.Proofs.Ytbdifcgkokajlaa.PFnExactFaultOf Go.Proofs.YtbdifcgkokajlaaW.PrintWords Go.Proofs.YtbdifcgkokajlaaW.PrintLast Go.Proofs.Ytbdifcgkokajlaa.PlainC
set_option linter.unusedVariables false
set_option linter.unusedSimpArgs false

theorem szIntS_some (l : List Int) (m : Int) (hl : l.length ≤ maxLen) (h0 : 0 ≤ m) (h1 : m ≤ 1048576) : ∃ v, laws_szIntS.f l m = some v ∧ (¬ v < 0 → v = m - l.length ∧ l.length ≤ 1048576) := by
  unfold maxLen at hl
  have e : wrap64 (m - (l.length : Int)) = m - (l.length : Int) := w64 (by omega) (by omega)
  by_cases h : m - (l.length : Int) < 0
  · exact ⟨-1, by simp only [laws_szIntS.f, e, h, if_true], fun hn => absurd (by decide) hn⟩
  · exact ⟨_, by simp only [laws_szIntS.f, e, h, if_false], fun _ => ⟨rfl, by omega⟩⟩

theorem szBoolS_some (l : List Bool) (m : Int) (hl : l.length ≤ maxLen) (h0 : 0 ≤ m) (h1 : m ≤ 1048576) : ∃ v, laws_szBoolS.f l m = some v ∧ (¬ v < 0 → v = m - l.length ∧ l.length ≤ 1048576) := by
  unfold maxLen at hl
  have e : wrap64 (m - (l.length : Int)) = m - (l.length : Int) := w64 (by omega) (by omega)
  by_cases h : m - (l.length : Int) < 0
  · exact ⟨-1, by simp only [laws_szBoolS.f, e, h, if_true], fun hn => absurd (by decide) hn⟩
  · exact ⟨_, by simp only [laws_szBoolS.f, e, h, if_false], fun _ => ⟨rfl, by omega⟩⟩

theorem toIntS_l0 (l : List Int) (hl : l.length ≤ 35184372088832) (d : Nat) : ∀ i : Nat, i ≤ l.length → l.length - i = d →
    Ev (fun k => laws_toIntS.l0 k l (l.take i ++ List.replicate (l.length - i) 0) (i : Int)) l := by
  induction d with
  | zero =>
    intro i hi hd
    obtain rfl : i = l.length := by omega
    refine evUp ?_
    have h1 : ¬ ((l.length : Nat) : Int) < (l.length : Int) := by omega
    simp only [laws_toIntS.l0, h1, if_false]
    rw [List.take_length, Nat.sub_self, List.replicate_zero, List.append_nil]
    exact Ev.now _
  | succ d ih =>
    intro i hi hd
    have hlt : i < l.length := by omega
    refine evUp ?_
    have h1 : (i : Int) < (l.length : Int) := by omega
    have h2 : 0 ≤ (i : Int) := by omega
    have h3 : (i : Int) < ((l.take i ++ List.replicate (l.length - i) (0 : Int)).length : Int) := by
      rw [List.length_append, List.length_take, List.length_replicate]; omega
    simp only [laws_toIntS.l0, h1, h2, h3, if_true]
    rw [rd_get hlt, Int.toNat_natCast, set_copy (0 : Int) l i hlt, w64 (by omega) (by omega)]
    exact ih (i + 1) (by omega) (by omega)

theorem toIntS_ev (l : List Int) (hl : l.length ≤ 35184372088832) : Ev (fun k => laws_toIntS.f k l) l := by
  have h := toIntS_l0 l hl l.length 0 (by omega) (by omega)
  have h1 : 0 ≤ (l.length : Int) := by omega
  have h2 : ((l.length : Int)).toNat ≤ 35184372088832 := by omega
  simp only [laws_toIntS.f, h1, h2, if_true]
  rw [Int.toNat_natCast]
  simpa using h

theorem toBoolS_l0 (l : List Bool) (hl : l.length ≤ 140737488351232) (d : Nat) : ∀ i : Nat, i ≤ l.length → l.length - i = d →
    Ev (fun k => laws_toBoolS.l0 k l (l.take i ++ List.replicate (l.length - i) false) (i : Int)) l := by
  induction d with
  | zero =>
    intro i hi hd
    obtain rfl : i = l.length := by omega
    refine evUp ?_
    have h1 : ¬ ((l.length : Nat) : Int) < (l.length : Int) := by omega
    simp only [laws_toBoolS.l0, h1, if_false]
    rw [List.take_length, Nat.sub_self, List.replicate_zero, List.append_nil]
    exact Ev.now _
  | succ d ih =>
    intro i hi hd
    have hlt : i < l.length := by omega
    refine evUp ?_
    have h1 : (i : Int) < (l.length : Int) := by omega
    have h2 : 0 ≤ (i : Int) := by omega
    have h3 : (i : Int) < ((l.take i ++ List.replicate (l.length - i) false).length : Int) := by
      rw [List.length_append, List.length_take, List.length_replicate]; omega
    simp only [laws_toBoolS.l0, h1, h2, h3, if_true]
    rw [rdOf_get hlt, Int.toNat_natCast, set_copy false l i hlt, w64 (by omega) (by omega)]
    exact ih (i + 1) (by omega) (by omega)

theorem toBoolS_ev (l : List Bool) (hl : l.length ≤ 140737488351232) : Ev (fun k => laws_toBoolS.f k l) l := by
  have h := toBoolS_l0 l hl l.length 0 (by omega) (by omega)
  have h1 : 0 ≤ (l.length : Int) := by omega
  have h2 : ((l.length : Int)).toNat ≤ 281474976710656 := by omega
  simp only [laws_toBoolS.f, h1, h2, if_true]
  rw [Int.toNat_natCast]
  simpa using h

theorem eqIntS_l0 (a b : List Int) (hl : a.length ≤ 140737488351232) (he : a.length = b.length) (d : Nat) : ∀ i : Nat, i ≤ a.length → a.length - i = d →
    Ev (fun k => laws_eqIntS.l0 k a b (i : Int)) (decide (a.drop i = b.drop i)) := by
  induction d with
  | zero =>
    intro i hi hd
    obtain rfl : i = a.length := by omega
    refine evUp ?_
    have h1 : ¬ ((a.length : Nat) : Int) < (a.length : Int) := by omega
    simp only [laws_eqIntS.l0, h1, if_false]
    have e : decide (a.drop a.length = b.drop a.length) = true := by
      rw [List.drop_length, he, List.drop_length]; rfl
    rw [e]
    exact Ev.now _
  | succ d ih =>
    intro i hi hd
    have ha : i < a.length := by omega
    have hb : i < b.length := by omega
    refine evUp ?_
    have h1 : (i : Int) < (a.length : Int) := by omega
    have h2 : 0 ≤ (i : Int) := by omega
    have h3 : (i : Int) < (b.length : Int) := by omega
    simp only [laws_eqIntS.l0, h1, h2, h3, if_true]
    rw [rd_get ha, rd_get hb, w64 (by omega) (by omega)]
    by_cases e : a[i] = b[i]
    · simp only [e, if_true]
      have e2 : decide (a.drop i = b.drop i) = decide (a.drop (i + 1) = b.drop (i + 1)) := by
        rw [decide_eq_decide, drop_eq_iff ha hb]; simp [e]
      rw [e2]
      exact ih (i + 1) (by omega) (by omega)
    · simp only [e, if_false]
      have e2 : decide (a.drop i = b.drop i) = false := by
        rw [decide_eq_false_iff_not, drop_eq_iff ha hb]; simp [e]
      rw [e2]
      exact Ev.now _

theorem eqIntS_ev (a b : List Int) (hl : a.length ≤ 140737488351232) : Ev (fun k => laws_eqIntS.f k a b) (decide (a = b)) := by
  by_cases he : a.length = b.length
  · have h := eqIntS_l0 a b hl he a.length 0 (by omega) (by omega)
    have h1 : (a.length : Int) = (b.length : Int) := by omega
    simp only [laws_eqIntS.f, h1, if_true]
    exact h
  · have h1 : ¬ (a.length : Int) = (b.length : Int) := by omega
    have e : decide (a = b) = false := by
      rw [decide_eq_false_iff_not]; intro h; exact he (by rw [h])
    simp only [laws_eqIntS.f, h1, if_false]
    rw [e]
    exact Ev.now _

theorem eqIntS_refl (a : List Int) (hl : a.length ≤ 140737488351232) : Ev (fun k => laws_eqIntS.f k a a) true := by
  have h := eqIntS_ev a a hl
  rwa [decide_eq_true rfl] at h

theorem eqBoolS_l0 (a b : List Bool) (hl : a.length ≤ 140737488355328) (he : a.length = b.length) (d : Nat) : ∀ i : Nat, i ≤ a.length → a.length - i = d →
    Ev (fun k => laws_eqBoolS.l0 k a b (i : Int)) (decide (a.drop i = b.drop i)) := by
  induction d with
  | zero =>
    intro i hi hd
    obtain rfl : i = a.length := by omega
    refine evUp ?_
    have h1 : ¬ ((a.length : Nat) : Int) < (a.length : Int) := by omega
    simp only [laws_eqBoolS.l0, h1, if_false]
    have e : decide (a.drop a.length = b.drop a.length) = true := by
      rw [List.drop_length, he, List.drop_length]; rfl
    rw [e]
    exact Ev.now _
  | succ d ih =>
    intro i hi hd
    have ha : i < a.length := by omega
    have hb : i < b.length := by omega
    refine evUp ?_
    have h1 : (i : Int) < (a.length : Int) := by omega
    have h2 : 0 ≤ (i : Int) := by omega
    have h3 : (i : Int) < (b.length : Int) := by omega
    simp only [laws_eqBoolS.l0, h1, h2, h3, if_true]
    rw [rdOf_get ha, rdOf_get hb, w64 (by omega) (by omega)]
    by_cases e : a[i] = b[i]
    · simp only [e, bne_self_eq_false, Bool.false_eq_true, if_false]
      have e2 : decide (a.drop i = b.drop i) = decide (a.drop (i + 1) = b.drop (i + 1)) := by
        rw [decide_eq_decide, drop_eq_iff ha hb]; simp [e]
      rw [e2]
      exact ih (i + 1) (by omega) (by omega)
    · have e3 : (a[i] != b[i]) = true := by simpa using e
      simp only [e3, if_true]
      have e2 : decide (a.drop i = b.drop i) = false := by
        rw [decide_eq_false_iff_not, drop_eq_iff ha hb]; simp [e]
      rw [e2]
      exact Ev.now _

theorem eqBoolS_ev (a b : List Bool) (hl : a.length ≤ 140737488355328) : Ev (fun k => laws_eqBoolS.f k a b) (decide (a = b)) := by
  by_cases he : a.length = b.length
  · have h := eqBoolS_l0 a b hl he a.length 0 (by omega) (by omega)
    have h1 : (a.length : Int) = (b.length : Int) := by omega
    simp only [laws_eqBoolS.f, h1, if_true]
    exact h
  · have h1 : ¬ (a.length : Int) = (b.length : Int) := by omega
    have e : decide (a = b) = false := by
      rw [decide_eq_false_iff_not]; intro h; exact he (by rw [h])
    simp only [laws_eqBoolS.f, h1, if_false]
    rw [e]
    exact Ev.now _

theorem eqBoolS_refl (a : List Bool) (hl : a.length ≤ 140737488355328) : Ev (fun k => laws_eqBoolS.f k a a) true := by
  have h := eqBoolS_ev a a hl
  rwa [decide_eq_true rfl] at h

theorem szReq_some (a b c : Int) (w : List Int) (t : List Bool) (d m : Int) (hw : w.length ≤ maxLen) (ht : t.length ≤ maxLen) (h0 : 0 ≤ m) (h1 : m ≤ 1048576) : ∃ v, laws_szReq.f a b c w t d m = some v ∧ (¬ v < 0 → v = m - w.length - t.length ∧ w.length ≤ 1048576 ∧ t.length ≤ 1048576) := by
  obtain ⟨v, e, h⟩ := szIntS_some w m hw h0 h1
  by_cases c1 : v < 0
  · exact ⟨-1, by simp only [laws_szReq.f, e, Option.bind_some, c1, if_true], fun hn => absurd (by decide) hn⟩
  · have h2 := h c1
    obtain ⟨u, e2, h3⟩ := szBoolS_some t v ht (by omega) (by omega)
    by_cases c2 : u < 0
    · exact ⟨-1, by simp only [laws_szReq.f, e, e2, Option.bind_some, c1, c2, if_true, if_false], fun hn => absurd (by decide) hn⟩
    · have h4 := h3 c2
      exact ⟨u, by simp only [laws_szReq.f, e, e2, Option.bind_some, c1, c2, if_false], fun _ => ⟨by omega, by omega, by omega⟩⟩
theorem toReq_ev (a b c : Int) (w : List Int) (t : List Bool) (d : Int) (hw : w.length ≤ 1048576) (ht : t.length ≤ 1048576) : Ev (fun k => laws_toReq.f k a b c w t d) (a, b, c, w, t, d) := by
  simp only [laws_toReq.f]
  exact evBind (toIntS_ev w (by omega)) (evBind (toBoolS_ev t (by omega)) (Ev.now _))
theorem eqReq_refl (a b c : Int) (w : List Int) (t : List Bool) (d : Int) (hw : w.length ≤ 1048576) (ht : t.length ≤ 1048576) : Ev (fun k => laws_eqReq.f k a b c w t d a b c w t d) true := by
  simp only [laws_eqReq.f, if_true]
  refine evBind (eqIntS_refl w (by omega)) ?_
  simp only [if_true]
  refine evBind (eqBoolS_refl t (by omega)) ?_
  simp only [if_true]
  exact Ev.now _

theorem eqResp_refl (a b c d : Int) (w : List Int) (t : List Bool) (hw : w.length ≤ 1048576) (ht : t.length ≤ 1048576) : Ev (fun k => laws_eqResp.f k a b c d w t a b c d w t) true := by
  simp only [laws_eqResp.f, if_true]
  refine evBind (eqIntS_refl w (by omega)) ?_
  simp only [if_true]
  refine evBind (eqBoolS_refl t (by omega)) ?_
  simp only [if_true]
  exact Ev.now _

theorem l3Words_l0 (l : List Int) (hl : l.length ≤ 1048576) (d : Nat) : ∀ i : Nat, i ≤ l.length → l.length - i = d →
    Ev (fun k => spec_l3Words.l0 k l (i : Int)) ((l.drop i).all wordB) := by
  induction d with
  | zero =>
    intro i hi hd
    obtain rfl : i = l.length := by omega
    refine evUp ?_
    have h1 : ¬ ((l.length : Nat) : Int) < (l.length : Int) := by omega
    simp only [spec_l3Words.l0, h1, if_false]
    rw [List.drop_length]
    exact Ev.now _
  | succ d ih =>
    intro i hi hd
    have hlt : i < l.length := by omega
    refine evUp ?_
    have h1 : (i : Int) < (l.length : Int) := by omega
    have h2 : 0 ≤ (i : Int) := by omega
    have hi2 : spec_l1In.f l[i] 0 65535 = some (wordB l[i]) := by
      unfold wordB
      by_cases g : l[i] ≥ 0
      · have g2 : 0 ≤ l[i] := g
        simp only [spec_l1In.f, g, g2, if_true, decide_true, Bool.true_and]
      · have g2 : ¬ 0 ≤ l[i] := g
        simp only [spec_l1In.f, g, g2, if_false, decide_false, Bool.false_and]
    have e : (l.drop i).all wordB = (wordB l[i] && (l.drop (i + 1)).all wordB) := by
      rw [List.drop_eq_getElem_cons hlt, List.all_cons]
    simp only [spec_l3Words.l0, h1, h2, if_true, rd_get hlt, hi2, Option.bind_some, e]
    rw [w64 (x := (i : Int) + 1) (by omega) (by omega)]
    by_cases hw : wordB l[i] = true
    · simp only [hw, if_true, Bool.true_and]
      exact ih (i + 1) (by omega) (by omega)
    · have hw2 : wordB l[i] = false := by simpa using hw
      simp only [hw2, Bool.false_eq_true, if_false, Bool.false_and]
      exact Ev.now _
theorem l3Words_ev (l : List Int) (hl : l.length ≤ 1048576) : Ev (fun k => spec_l3Words.f k l) (l.all wordB) := by
  have h := l3Words_l0 l hl l.length 0 (by omega) (by omega)
  rw [List.drop_zero] at h
  exact h

theorem impl_in_eq (a b c : Int) : impl_in.f a b c = some (decide (b ≤ a ∧ a ≤ c)) := by
  by_cases h0 : a ≥ b
  · have h1 : b ≤ a := h0
    simp only [impl_in.f, h0, h1, if_true, true_and]
  · have h1 : ¬ b ≤ a := h0
    simp only [impl_in.f, h0, h1, if_false, false_and, decide_false]
theorem spec_in_eq (a b c : Int) : spec_l1In.f a b c = some (decide (b ≤ a ∧ a ≤ c)) := by
  by_cases h0 : a ≥ b
  · have h1 : b ≤ a := h0
    simp only [spec_l1In.f, h0, h1, if_true, true_and]
  · have h1 : ¬ b ≤ a := h0
    simp only [spec_l1In.f, h0, h1, if_false, false_and, decide_false]

theorem iteS (b c : Bool) : (if b = true then some c else some false) = some (b && c) := by cases b <;> rfl
theorem iteT (b c : Bool) : (if b = true then some true else some c) = some (b || c) := by cases b <;> rfl

/-- Is a question right? -/
def reqB (k a n : Int) (w : List Int) (t : List Bool) (e : Int) : Bool :=
  (w.all wordB && wordB a) &&
  (if k = 1 ∨ k = 2 then decide ((1 ≤ n ∧ n ≤ 2000) ∧ w.length = 0 ∧ t.length = 0 ∧ e = 0 ∧ a + n ≤ 65536)
  else if k = 3 ∨ k = 4 then decide ((1 ≤ n ∧ n ≤ 125) ∧ w.length = 0 ∧ t.length = 0 ∧ e = 0 ∧ a + n ≤ 65536)
  else if k = 5 then decide (n = 0 ∧ w.length = 0 ∧ t.length = 1 ∧ e = 0)
  else if k = 6 then decide (n = 0 ∧ w.length = 1 ∧ t.length = 0 ∧ e = 0)
  else if k = 15 then decide (n = 0 ∧ w.length = 0 ∧ (1 ≤ t.length ∧ t.length ≤ 1968) ∧ e = 0 ∧ a + t.length ≤ 65536)
  else if k = 16 then decide (n = 0 ∧ (1 ≤ w.length ∧ w.length ≤ 123) ∧ t.length = 0 ∧ e = 0 ∧ a + w.length ≤ 65536)
  else if k = 22 then decide (n = 0 ∧ w.length = 2 ∧ t.length = 0 ∧ e = 0)
  else if k = 23 then decide ((1 ≤ n ∧ n ≤ 125) ∧ (1 ≤ w.length ∧ w.length ≤ 121) ∧ t.length = 0 ∧ (0 ≤ e ∧ e ≤ 65535) ∧ a + n ≤ 65536 ∧ e + w.length ≤ 65536)
  else false)

def kindB (k : Int) : Bool := decide (1 ≤ k ∧ k ≤ 6) || (k == 15 || (k == 16 || (k == 22 || k == 23)))
theorem wordB_eq (n : Int) : wordB n = decide (0 ≤ n ∧ n ≤ 65535) := by unfold wordB; rw [Bool.decide_and]
theorem impl_isKind_eq (k : Int) : impl_isKind.f k = some (kindB k) := by
  simp only [impl_isKind.f, impl_in_eq, Option.bind_some, kindB]
  by_cases h : decide (1 ≤ k ∧ k ≤ 6) = true
  · rw [if_pos h, h]; rfl
  · have h2 : decide (1 ≤ k ∧ k ≤ 6) = false := by simpa using h
    rw [if_neg h, h2, Bool.false_or]
    by_cases h15 : k = 15
    · subst h15; rfl
    by_cases h16 : k = 16
    · subst h16; rfl
    by_cases h22 : k = 22
    · subst h22; rfl
    have g15 : (k == 15) = false := beq_eq_false_iff_ne.2 h15
    have g16 : (k == 16) = false := beq_eq_false_iff_ne.2 h16
    have g22 : (k == 22) = false := beq_eq_false_iff_ne.2 h22
    simp only [h15, h16, h22, if_false, g15, g16, g22, Bool.false_or]
theorem impl_isWord_eq (n : Int) : impl_isWord.f n = some (wordB n) := by
  simp only [impl_isWord.f, impl_in_eq, Option.bind_some, wordB_eq]
/-- How many of each a kind may have. -/
def countsOf (k : Int) : Int × Int × Int × Int × Int × Int :=
  if k = 1 ∨ k = 2 then (1, 2000, 0, 0, 0, 0) else if k = 3 ∨ k = 4 then (1, 125, 0, 0, 0, 0) else if k = 5 then (0, 0, 0, 0, 1, 1)
  else if k = 6 then (0, 0, 1, 1, 0, 0) else if k = 15 then (0, 0, 0, 0, 1, 1968) else if k = 16 then (0, 0, 1, 123, 0, 0) else if k = 22 then (0, 0, 2, 2, 0, 0) else (1, 125, 1, 121, 0, 0)

theorem counts_j1 (k : Int) (h1 : ¬ (k = 1 ∨ k = 2)) (b : Bool) (hb : b = decide (k = 3 ∨ k = 4)) : Ev (fun r => impl_counts.j1 r k b 0 0 1 1) (countsOf k) := by
  refine evUp ?_
  by_cases h34 : k = 3 ∨ k = 4
  · have hb2 : b = true := by rw [hb]; exact decide_eq_true h34
    have e : countsOf k = (1, 125, 0, 0, 0, 0) := by unfold countsOf; rw [if_neg h1, if_pos h34]
    simp only [impl_counts.j1, hb2, if_true, e]
    exact Ev.now _
  · have hb2 : b = false := by rw [hb]; exact decide_eq_false h34
    have e : countsOf k = if k = 5 then (0, 0, 0, 0, 1, 1) else if k = 6 then (0, 0, 1, 1, 0, 0) else if k = 15 then (0, 0, 0, 0, 1, 1968) else if k = 16 then (0, 0, 1, 123, 0, 0) else if k = 22 then (0, 0, 2, 2, 0, 0) else (1, 125, 1, 121, 0, 0) := by
      unfold countsOf; rw [if_neg h1, if_neg h34]
    simp only [impl_counts.j1, hb2, Bool.false_eq_true, if_false, e]
    by_cases h5 : k = 5
    · simp only [h5, if_true]; exact Ev.now _
    by_cases h6 : k = 6
    · simp only [h6, Int.reduceEq, if_true, if_false]; exact Ev.now _
    by_cases h15 : k = 15
    · simp only [h15, Int.reduceEq, if_true, if_false]; exact Ev.now _
    by_cases h16 : k = 16
    · simp only [h16, Int.reduceEq, if_true, if_false]; exact Ev.now _
    by_cases h22 : k = 22
    · simp only [h22, Int.reduceEq, if_true, if_false]; exact Ev.now _
    simp only [h5, h6, h15, h16, h22, if_false]; exact Ev.now _
theorem counts_j0 (k : Int) (b : Bool) (hb : b = decide (k = 1 ∨ k = 2)) : Ev (fun r => impl_counts.j0 r k b 0 0 1 1) (countsOf k) := by
  refine evUp ?_
  by_cases h12 : k = 1 ∨ k = 2
  · have hb2 : b = true := by rw [hb]; exact decide_eq_true h12
    have e : countsOf k = (1, 2000, 0, 0, 0, 0) := by unfold countsOf; rw [if_pos h12]
    simp only [impl_counts.j0, hb2, if_true, e]
    exact Ev.now _
  · have hb2 : b = false := by rw [hb]; exact decide_eq_false h12
    simp only [impl_counts.j0, hb2, Bool.false_eq_true, if_false]
    by_cases h3 : k = 3
    · simp only [h3, if_true]
      exact counts_j1 3 (by omega) _ (by decide)
    · simp only [h3, if_false]
      exact counts_j1 k h12 _ (by simp [h3, BEq.beq])
theorem impl_counts_ev (k : Int) : Ev (fun r => impl_counts.f r k) (countsOf k) := by
  by_cases h1 : k = 1
  · simp only [impl_counts.f, h1, if_true]
    exact counts_j0 1 _ (by decide)
  · simp only [impl_counts.f, h1, if_false]
    exact counts_j0 k _ (by simp [h1, BEq.beq])

def writtenOf (k : Int) (w : List Int) (t : List Bool) : Int := if k = 22 then 1 else (w.length : Int) + (t.length : Int)
theorem impl_written_eq (k a n : Int) (w : List Int) (t : List Bool) (e : Int) (hw : w.length ≤ 1048576) (ht : t.length ≤ 1048576) : impl_written.f k a n w t e = some (writtenOf k w t) := by
  have e1 : wrap64 ((w.length : Int) + (t.length : Int)) = (w.length : Int) + (t.length : Int) := w64 (by omega) (by omega)
  unfold writtenOf
  by_cases h : k = 22
  · simp only [impl_written.f, h, if_true]
  · simp only [impl_written.f, h, if_false, e1]

def endB (k a : Int) (w : List Int) (t : List Bool) (e : Int) : Bool := if k = 23 then decide (e + writtenOf k w t ≤ 65536) else decide (e = 0 ∧ a + writtenOf k w t ≤ 65536)
theorem reqOk_j1 (b : Bool) (k a n : Int) (w : List Int) (t : List Bool) (e : Int) (hw : w.length ≤ 1048576) (ht : t.length ≤ 1048576) (hb : b = false → wordB a = true ∧ wordB e = true) :
    Ev (fun r => impl_ReqOk.j1 r b k a n w t e) (!b && endB k a w t e) := by
  refine evUp ?_
  cases b with
  | true => simp only [impl_ReqOk.j1, if_true, Bool.not_true, Bool.false_and]; exact Ev.now _
  | false =>
    obtain ⟨ha, he⟩ := hb rfl
    rw [wordB_eq, decide_eq_true_iff] at ha he
    have hwr : 0 ≤ writtenOf k w t ∧ writtenOf k w t ≤ 2097152 := by unfold writtenOf; split <;> omega
    have e1 : wrap64 (e + writtenOf k w t) = e + writtenOf k w t := w64 (by omega) (by omega)
    have e2 : wrap64 (a + writtenOf k w t) = a + writtenOf k w t := w64 (by omega) (by omega)
    simp only [impl_ReqOk.j1, Bool.false_eq_true, if_false, impl_written_eq k a n w t e hw ht, Option.bind_some, e1, e2, Bool.not_false, Bool.true_and, endB]
    by_cases h23 : k = 23
    · simp only [h23, if_true]; exact Ev.now _
    · simp only [h23, if_false]
      by_cases h0 : e = 0
      · simp only [h0, if_true, true_and]; exact Ev.now _
      · simp only [h0, if_false, false_and, decide_false]; exact Ev.now _
theorem reqOk_j0 (b : Bool) (k a n : Int) (w : List Int) (t : List Bool) (e : Int) (hw : w.length ≤ 1048576) (ht : t.length ≤ 1048576) (hb : b = false → 0 ≤ n ∧ n ≤ 2000) :
    Ev (fun r => impl_ReqOk.j0 r b k a n w t e) (!b && (wordB a && (wordB e && (w.all wordB && (decide (a + n ≤ 65536) && endB k a w t e))))) := by
  refine evUp ?_
  cases b with
  | true => simp only [impl_ReqOk.j0, if_true, Bool.not_true, Bool.false_and]; exact Ev.now _
  | false =>
    have hn := hb rfl
    have no : Ev (fun r => impl_ReqOk.j1 r true k a n w t e) false := by
      have h := reqOk_j1 true k a n w t e hw ht (fun h => by cases h)
      simpa using h
    simp only [impl_ReqOk.j0, Bool.false_eq_true, if_false, impl_isWord_eq, impl_allWords.f, Option.bind_some, Bool.not_false, Bool.true_and]
    by_cases h1 : wordB a = true
    · simp only [h1, if_true, Bool.true_and]
      by_cases h2 : wordB e = true
      · simp only [h2, if_true, Bool.true_and]
        by_cases h3 : w.all wordB = true
        · simp only [h3, if_true, Bool.true_and]
          have ha := h1
          rw [wordB_eq, decide_eq_true_iff] at ha
          have e1 : wrap64 (a + n) = a + n := w64 (by omega) (by omega)
          have e2 : decide (a + n ≤ 65536) = !decide (a + n > 65536) := by
            rw [Bool.eq_iff_iff]; simp
          rw [e1, e2]
          exact reqOk_j1 _ k a n w t e hw ht (fun _ => ⟨h1, h2⟩)
        · have h3' : w.all wordB = false := by simpa using h3
          simp only [h3', Bool.false_eq_true, if_false, Bool.false_and]; exact no
      · have h2' : wordB e = false := by simpa using h2
        simp only [h2', Bool.false_eq_true, if_false, Bool.false_and]; exact no
    · have h1' : wordB a = false := by simpa using h1
      simp only [h1', Bool.false_eq_true, if_false, Bool.false_and]; exact no

theorem countsOf_n (k : Int) : 0 ≤ (countsOf k).1 ∧ (countsOf k).2.1 ≤ 2000 := by
  unfold countsOf
  repeat' split
  all_goals simp

theorem impl_ReqOk_raw (k a n : Int) (w : List Int) (t : List Bool) (e : Int) (hw : w.length ≤ 1048576) (ht : t.length ≤ 1048576) :
    Ev (fun r => impl_ReqOk.f r k a n w t e) (kindB k && (decide ((countsOf k).1 ≤ n ∧ n ≤ (countsOf k).2.1) && (decide ((countsOf k).2.2.1 ≤ (w.length : Int) ∧ (w.length : Int) ≤ (countsOf k).2.2.2.1) && (decide ((countsOf k).2.2.2.2.1 ≤ (t.length : Int) ∧ (t.length : Int) ≤ (countsOf k).2.2.2.2.2) && (wordB a && (wordB e && (w.all wordB && (decide (a + n ≤ 65536) && endB k a w t e)))))))) := by
  have hc := impl_counts_ev k
  have hn := countsOf_n k
  generalize countsOf k = T at hc hn
  have no : Ev (fun r => impl_ReqOk.j0 r true k a n w t e) false := by
    have h := reqOk_j0 true k a n w t e hw ht (fun h => by cases h)
    simpa using h
  simp only [impl_ReqOk.f, impl_isKind_eq, impl_in_eq]
  refine evBind hc ?_
  simp only [Option.bind_some]
  by_cases h1 : kindB k = true
  · simp only [h1, if_true, Bool.true_and]
    by_cases h2 : decide (T.1 ≤ n ∧ n ≤ T.2.1) = true
    · simp only [h2, if_true, Bool.true_and]
      rw [decide_eq_true_iff] at h2
      by_cases h3 : decide (T.2.2.1 ≤ (w.length : Int) ∧ (w.length : Int) ≤ T.2.2.2.1) = true
      · simp only [h3, if_true, Bool.true_and]
        have h := reqOk_j0 (!decide (T.2.2.2.2.1 ≤ (t.length : Int) ∧ (t.length : Int) ≤ T.2.2.2.2.2)) k a n w t e hw ht (fun _ => by omega)
        rw [Bool.not_not] at h
        exact h
      · have h3' : decide (T.2.2.1 ≤ (w.length : Int) ∧ (w.length : Int) ≤ T.2.2.2.1) = false := by simpa using h3
        simp only [h3', Bool.false_eq_true, if_false, Bool.false_and]; exact no
    · have h2' : decide (T.1 ≤ n ∧ n ≤ T.2.1) = false := by simpa using h2
      simp only [h2', Bool.false_eq_true, if_false, Bool.false_and]; exact no
  · have h1' : kindB k = false := by simpa using h1
    simp only [h1', Bool.false_eq_true, if_false, Bool.false_and]; exact no

theorem kind_cases {k : Int} (h : kindB k = true) : k = 1 ∨ k = 2 ∨ k = 3 ∨ k = 4 ∨ k = 5 ∨ k = 6 ∨ k = 15 ∨ k = 16 ∨ k = 22 ∨ k = 23 := by
  simp [kindB] at h
  omega
theorem reqB_kind {k a n : Int} {w : List Int} {t : List Bool} {e : Int} (h : kindB k = false) : reqB k a n w t e = false := by
  have hk : ¬ (k = 1 ∨ k = 2) ∧ ¬ (k = 3 ∨ k = 4) ∧ k ≠ 5 ∧ k ≠ 6 ∧ k ≠ 15 ∧ k ≠ 16 ∧ k ≠ 22 ∧ k ≠ 23 := by
    simp [kindB] at h
    omega
  obtain ⟨h1, h2, h3, h4, h5, h6, h7, h8⟩ := hk
  unfold reqB
  rw [if_neg h1, if_neg h2, if_neg h3, if_neg h4, if_neg h5, if_neg h6, if_neg h7, if_neg h8, Bool.and_false]

theorem impl_ReqOk_ev (k a n : Int) (w : List Int) (t : List Bool) (e : Int) (hw : w.length ≤ 1048576) (ht : t.length ≤ 1048576) : Ev (fun r => impl_ReqOk.f r k a n w t e) (reqB k a n w t e) := by
  have h := impl_ReqOk_raw k a n w t e hw ht
  by_cases hk : kindB k = true
  · have e2 : reqB k a n w t e = (kindB k && (decide ((countsOf k).1 ≤ n ∧ n ≤ (countsOf k).2.1) && (decide ((countsOf k).2.2.1 ≤ (w.length : Int) ∧ (w.length : Int) ≤ (countsOf k).2.2.2.1) && (decide ((countsOf k).2.2.2.2.1 ≤ (t.length : Int) ∧ (t.length : Int) ≤ (countsOf k).2.2.2.2.2) && (wordB a && (wordB e && (w.all wordB && (decide (a + n ≤ 65536) && endB k a w t e)))))))) := by
      simp only [reqB, endB, writtenOf, wordB_eq]
      generalize w.all wordB = W
      rw [Bool.eq_iff_iff]
      rcases kind_cases hk with rfl | rfl | rfl | rfl | rfl | rfl | rfl | rfl | rfl | rfl <;> cases W <;> simp [kindB, countsOf, -List.length_eq_zero_iff] <;> omega
    rw [e2]; exact h
  · have hk2 : kindB k = false := by simpa using hk
    rw [reqB_kind hk2]
    rw [hk2] at h
    simpa using h

theorem spec_l3Zero_eq (k a n : Int) (w : List Int) (t : List Bool) (e : Int) (b1 b2 b3 b4 : Bool) : spec_l3Zero.f k a n w t e b1 b2 b3 b4 = some ((b1 || decide (n = 0)) && ((b2 || decide (w.length = 0)) && ((b3 || decide (t.length = 0)) && (b4 || decide (e = 0))))) := by
  have q : ∀ m : Nat, ((m : Int) = 0) = (m = 0) := fun m => propext ⟨fun h => by omega, fun h => by omega⟩
  simp only [spec_l3Zero.f, q]
  by_cases h1 : n = 0 <;> by_cases h2 : w.length = 0 <;> by_cases h3 : t.length = 0 <;> by_cases h4 : e = 0 <;> cases b1 <;> cases b2 <;> cases b3 <;> cases b4 <;> simp [h1, h2, h3, h4]
theorem spec_l3Fits_eq (a n : Int) (hn : 0 ≤ n) (hn2 : n ≤ 1048576) : spec_l3Fits.f a n = some (decide (0 ≤ a ∧ a ≤ 65535) && decide (a + n ≤ 65536)) := by
  simp only [spec_l3Fits.f, spec_in_eq, Option.bind_some]
  by_cases h : 0 ≤ a ∧ a ≤ 65535
  · have e : wrap64 (a + n) = a + n := w64 (by omega) (by omega)
    simp [h, e]
  · simp [h]
/-- What is asked where a number is known to lie between bounds. -/
theorem fits_in (a n m : Int) (hm : m ≤ 1048576) : ((some (decide (1 ≤ n ∧ n ≤ m))).bind fun b => if b = true then (spec_l3Fits.f a n).bind fun c => some c else some false) = some (decide (1 ≤ n ∧ n ≤ m) && (decide (0 ≤ a ∧ a ≤ 65535) && decide (a + n ≤ 65536))) := by
  simp only [Option.bind_some]
  by_cases h : 1 ≤ n ∧ n ≤ m
  · rw [spec_l3Fits_eq a n (by omega) (by omega)]
    simp [h]
  · simp [h]
theorem reqOkS_j0_no (k a n : Int) (w : List Int) (t : List Bool) (e : Int) : Ev (fun r => spec_ReqOk.j0 r true k a n w t e) false := by
  refine evUp ?_
  simp only [spec_ReqOk.j0, if_true]
  exact Ev.now _
theorem reqOkS_j2 (k a n : Int) (w : List Int) (t : List Bool) (e : Int) (hw : w.length ≤ 1048576) (ht : t.length ≤ 1048576) (h12 : ¬ (k = 1 ∨ k = 2)) (ha : wordB a = true) (hW : w.all wordB = true) (b : Bool) (hb : b = decide (k = 3 ∨ k = 4)) :
    Ev (fun r => spec_ReqOk.j2 r k b k a n w t e) (reqB k a n w t e) := by
  have ha2 := ha
  rw [wordB_eq, decide_eq_true_iff] at ha2
  have q1 : ∀ m : Nat, (((m : Nat) : Int) == 1) = decide (m = 1) := fun m => by rw [Bool.eq_iff_iff]; simp; omega
  have q2 : ∀ m : Nat, (((m : Nat) : Int) == 2) = decide (m = 2) := fun m => by rw [Bool.eq_iff_iff]; simp; omega
  refine evUp ?_
  by_cases h34 : k = 3 ∨ k = 4
  · have hb2 : b = true := by rw [hb]; exact decide_eq_true h34
    have er : reqB k a n w t e = decide ((1 ≤ n ∧ n ≤ 125) ∧ w.length = 0 ∧ t.length = 0 ∧ e = 0 ∧ a + n ≤ 65536) := by
      unfold reqB; rw [hW, ha, if_neg h12, if_pos h34]; rfl
    simp only [spec_ReqOk.j2, hb2, if_true, spec_l3Zero_eq, spec_in_eq, Option.bind_some, er]
    by_cases h : 1 ≤ n ∧ n ≤ 125
    · rw [spec_l3Fits_eq a n (by omega) (by omega)]
      simp only [h, and_self, decide_true, if_true, Option.bind_some, ha2, Bool.true_and, iteS, true_and]
      refine Ev.congr (fun _ => ?_) (Ev.now _)
      congr 1
      rw [Bool.eq_iff_iff]; simp [-List.length_eq_zero_iff]; omega
    · have hf : decide (1 ≤ n ∧ n ≤ 125) = false := decide_eq_false h
      simp only [hf, Bool.false_eq_true, if_false, ite_self]
      refine Ev.congr (fun _ => ?_) (Ev.now _)
      congr 1
      rw [Bool.eq_iff_iff]; simp [-List.length_eq_zero_iff]; omega
  · have hb2 : b = false := by rw [hb]; exact decide_eq_false h34
    have er : reqB k a n w t e = if k = 5 then decide (n = 0 ∧ w.length = 0 ∧ t.length = 1 ∧ e = 0)
      else if k = 6 then decide (n = 0 ∧ w.length = 1 ∧ t.length = 0 ∧ e = 0)
      else if k = 15 then decide (n = 0 ∧ w.length = 0 ∧ (1 ≤ t.length ∧ t.length ≤ 1968) ∧ e = 0 ∧ a + t.length ≤ 65536)
      else if k = 16 then decide (n = 0 ∧ (1 ≤ w.length ∧ w.length ≤ 123) ∧ t.length = 0 ∧ e = 0 ∧ a + w.length ≤ 65536)
      else if k = 22 then decide (n = 0 ∧ w.length = 2 ∧ t.length = 0 ∧ e = 0)
      else if k = 23 then decide ((1 ≤ n ∧ n ≤ 125) ∧ (1 ≤ w.length ∧ w.length ≤ 121) ∧ t.length = 0 ∧ (0 ≤ e ∧ e ≤ 65535) ∧ a + n ≤ 65536 ∧ e + w.length ≤ 65536)
      else false := by
      unfold reqB; rw [hW, ha, if_neg h12, if_neg h34]; rfl
    have hwl : 0 ≤ (w.length : Int) := by omega
    have htl : 0 ≤ (t.length : Int) := by omega
    simp only [spec_ReqOk.j2, hb2, Bool.false_eq_true, if_false, spec_l3Zero_eq, spec_in_eq, Option.bind_some, er, spec_l3Fits_eq a (w.length : Int) hwl (by omega), spec_l3Fits_eq a (t.length : Int) htl (by omega), spec_l3Fits_eq e (w.length : Int) hwl (by omega), q1, q2, iteS]
    by_cases h5 : k = 5
    · simp only [h5, if_true]
      refine Ev.congr (fun _ => ?_) (Ev.now _)
      congr 1
      rw [Bool.eq_iff_iff]; simp [-List.length_eq_zero_iff]; omega
    by_cases h6 : k = 6
    · simp only [h6, Int.reduceEq, if_true, if_false]
      refine Ev.congr (fun _ => ?_) (Ev.now _)
      congr 1
      rw [Bool.eq_iff_iff]; simp [-List.length_eq_zero_iff]; omega
    by_cases h15 : k = 15
    · simp only [h15, Int.reduceEq, if_true, if_false]
      refine Ev.congr (fun _ => ?_) (Ev.now _)
      congr 1
      rw [Bool.eq_iff_iff]; simp [ha2, -List.length_eq_zero_iff]; omega
    by_cases h16 : k = 16
    · simp only [h16, Int.reduceEq, if_true, if_false]
      refine Ev.congr (fun _ => ?_) (Ev.now _)
      congr 1
      rw [Bool.eq_iff_iff]; simp [ha2, -List.length_eq_zero_iff]; omega
    by_cases h22 : k = 22
    · simp only [h22, Int.reduceEq, if_true, if_false]
      refine Ev.congr (fun _ => ?_) (Ev.now _)
      congr 1
      rw [Bool.eq_iff_iff]; simp [-List.length_eq_zero_iff]; omega
    by_cases h23 : k = 23
    · simp only [h23, Int.reduceEq, if_true, if_false]
      by_cases h : 1 ≤ n ∧ n ≤ 125
      · rw [spec_l3Fits_eq a n (by omega) (by omega)]
        simp only [Option.bind_some, iteS]
        refine Ev.congr (fun _ => ?_) (Ev.now _)
        congr 1
        rw [Bool.eq_iff_iff]; simp [ha2, h, -List.length_eq_zero_iff]; omega
      · have hf : decide (1 ≤ n ∧ n ≤ 125) = false := decide_eq_false h
        simp only [hf, Bool.false_eq_true, if_false, ite_self]
        refine Ev.congr (fun _ => ?_) (Ev.now _)
        congr 1
        rw [Bool.eq_iff_iff]; simp [-List.length_eq_zero_iff]; omega
    · simp only [h5, h6, h15, h16, h22, h23, if_false]; exact Ev.now _
theorem reqOkS_j1 (k a n : Int) (w : List Int) (t : List Bool) (e : Int) (hw : w.length ≤ 1048576) (ht : t.length ≤ 1048576) (ha : wordB a = true) (hW : w.all wordB = true) (b : Bool) (hb : b = decide (k = 1 ∨ k = 2)) :
    Ev (fun r => spec_ReqOk.j1 r k b k a n w t e) (reqB k a n w t e) := by
  have ha2 := ha
  rw [wordB_eq, decide_eq_true_iff] at ha2
  refine evUp ?_
  by_cases h12 : k = 1 ∨ k = 2
  · have hb2 : b = true := by rw [hb]; exact decide_eq_true h12
    have er : reqB k a n w t e = decide ((1 ≤ n ∧ n ≤ 2000) ∧ w.length = 0 ∧ t.length = 0 ∧ e = 0 ∧ a + n ≤ 65536) := by
      unfold reqB; rw [hW, ha, if_pos h12]; rfl
    simp only [spec_ReqOk.j1, hb2, if_true, spec_l3Zero_eq, spec_in_eq, Option.bind_some, er]
    by_cases h : 1 ≤ n ∧ n ≤ 2000
    · rw [spec_l3Fits_eq a n (by omega) (by omega)]
      simp only [h, and_self, decide_true, if_true, Option.bind_some, ha2, Bool.true_and, iteS, true_and]
      refine Ev.congr (fun _ => ?_) (Ev.now _)
      congr 1
      rw [Bool.eq_iff_iff]; simp [-List.length_eq_zero_iff]; omega
    · have hf : decide (1 ≤ n ∧ n ≤ 2000) = false := decide_eq_false h
      simp only [hf, Bool.false_eq_true, if_false, ite_self]
      refine Ev.congr (fun _ => ?_) (Ev.now _)
      congr 1
      rw [Bool.eq_iff_iff]; simp [-List.length_eq_zero_iff]; omega
  · have hb2 : b = false := by rw [hb]; exact decide_eq_false h12
    simp only [spec_ReqOk.j1, hb2, Bool.false_eq_true, if_false]
    by_cases h3 : k = 3
    · subst h3
      simp only [if_true]
      exact reqOkS_j2 3 a n w t e hw ht h12 ha hW _ (by decide)
    · simp only [h3, if_false]
      exact reqOkS_j2 k a n w t e hw ht h12 ha hW _ (by simp [h3, BEq.beq])
theorem spec_ReqOk_ev (k a n : Int) (w : List Int) (t : List Bool) (e : Int) (hw : w.length ≤ 1048576) (ht : t.length ≤ 1048576) : Ev (fun r => spec_ReqOk.f r k a n w t e) (reqB k a n w t e) := by
  simp only [spec_ReqOk.f]
  refine evBind (l3Words_ev w hw) ?_
  by_cases hW : w.all wordB = true
  · simp only [hW, if_true, spec_in_eq, Option.bind_some]
    by_cases ha : wordB a = true
    · have ha2 := ha
      rw [wordB_eq] at ha2
      rw [ha2, Bool.not_true]
      refine evUp ?_
      simp only [spec_ReqOk.j0, Bool.false_eq_true, if_false]
      by_cases h1 : k = 1
      · subst h1
        simp only [if_true]
        exact reqOkS_j1 1 a n w t e hw ht ha hW _ (by decide)
      · simp only [h1, if_false]
        exact reqOkS_j1 k a n w t e hw ht ha hW _ (by simp [h1, BEq.beq])
    · have ha1 : wordB a = false := by simpa using ha
      have er : reqB k a n w t e = false := by unfold reqB; rw [ha1, Bool.and_false, Bool.false_and]
      rw [wordB_eq] at ha1
      rw [er, ha1, Bool.not_false]
      exact reqOkS_j0_no k a n w t e
  · have hW2 : w.all wordB = false := by simpa using hW
    have er : reqB k a n w t e = false := by unfold reqB; rw [hW2, Bool.false_and, Bool.false_and]
    simp only [hW2, Bool.false_eq_true, if_false, er]
    exact reqOkS_j0_no k a n w t e

theorem markIntS_l0 (l : List Int) (k0 : Int) (hk0 : 0 ≤ k0) (hk : k0 + l.length ≤ 4611686018427387904) (hl : l.length ≤ 140737488355328) (d : Nat) : ∀ i : Nat, i ≤ l.length → l.length - i = d →
    Ev (fun k => laws_markIntS.l0 k (marks id k0 i ++ l.drop i) (k0 + i) (i : Int)) (k0 + l.length, marks id k0 l.length) := by
  induction d with
  | zero =>
    intro i hi hd
    obtain rfl : i = l.length := by omega
    refine evUp ?_
    have h1 : ¬ ((l.length : Nat) : Int) < (((marks id k0 l.length ++ l.drop l.length).length : Nat) : Int) := by
      rw [List.length_append, marks_length, List.drop_length, List.length_nil]; omega
    simp only [laws_markIntS.l0, h1, if_false]
    rw [List.drop_length, List.append_nil]
    exact Ev.now _
  | succ d ih =>
    intro i hi hd
    have hlt : i < l.length := by omega
    refine evUp ?_
    have h1 : (i : Int) < (((marks id k0 i ++ l.drop i).length : Nat) : Int) := by
      rw [List.length_append, marks_length, List.length_drop]; omega
    have h2 : 0 ≤ (i : Int) := by omega
    simp only [laws_markIntS.l0, h1, h2, if_true]
    rw [Int.toNat_natCast, set_next _ l _ i (marks_length _ _ _) hlt, w64 (x := k0 + i + 1) (by omega) (by omega), w64 (x := (i : Int) + 1) (by omega) (by omega)]
    have h := ih (i + 1) (by omega) (by omega)
    rw [marks_succ] at h
    rw [show k0 + (i : Int) + 1 = k0 + ((i + 1 : Nat) : Int) from by omega]
    exact h

theorem markIntS_ev (l : List Int) (k0 : Int) (hk0 : 0 ≤ k0) (hk : k0 + l.length ≤ 4611686018427387904) (hl : l.length ≤ 140737488355328) :
    Ev (fun k => laws_markIntS.f k l k0) (k0 + l.length, marks id k0 l.length) := by
  have h := markIntS_l0 l k0 hk0 hk hl l.length 0 (by omega) (by omega)
  simp only [laws_markIntS.f]
  simpa [marks] using h

theorem markBoolS_l0 (l : List Bool) (k0 : Int) (hk0 : 0 ≤ k0) (hk : k0 + l.length ≤ 4611686018427387904) (hl : l.length ≤ 140737488355328) (d : Nat) : ∀ i : Nat, i ≤ l.length → l.length - i = d →
    Ev (fun k => laws_markBoolS.l0 k (marks markB k0 i ++ l.drop i) (k0 + i) (i : Int)) (k0 + l.length, marks markB k0 l.length) := by
  induction d with
  | zero =>
    intro i hi hd
    obtain rfl : i = l.length := by omega
    refine evUp ?_
    have h1 : ¬ ((l.length : Nat) : Int) < (((marks markB k0 l.length ++ l.drop l.length).length : Nat) : Int) := by
      rw [List.length_append, marks_length, List.drop_length, List.length_nil]; omega
    simp only [laws_markBoolS.l0, h1, if_false]
    rw [List.drop_length, List.append_nil]
    exact Ev.now _
  | succ d ih =>
    intro i hi hd
    have hlt : i < l.length := by omega
    refine evUp ?_
    have h1 : (i : Int) < (((marks markB k0 i ++ l.drop i).length : Nat) : Int) := by
      rw [List.length_append, marks_length, List.length_drop]; omega
    have h2 : 0 ≤ (i : Int) := by omega
    have h3 : (Int.tmod (k0 + i) 3 == 0) = markB (k0 + (i : Int)) := by unfold markB; rw [tmod_pos (by omega)]
    simp only [laws_markBoolS.l0, h1, h2, if_true, h3]
    rw [Int.toNat_natCast, set_next _ l _ i (marks_length _ _ _) hlt, w64 (x := k0 + i + 1) (by omega) (by omega), w64 (x := (i : Int) + 1) (by omega) (by omega)]
    have h := ih (i + 1) (by omega) (by omega)
    rw [marks_succ] at h
    rw [show k0 + (i : Int) + 1 = k0 + ((i + 1 : Nat) : Int) from by omega]
    exact h

theorem markBoolS_ev (l : List Bool) (k0 : Int) (hk0 : 0 ≤ k0) (hk : k0 + l.length ≤ 4611686018427387904) (hl : l.length ≤ 140737488355328) :
    Ev (fun k => laws_markBoolS.f k l k0) (k0 + l.length, marks markB k0 l.length) := by
  have h := markBoolS_l0 l k0 hk0 hk hl l.length 0 (by omega) (by omega)
  simp only [laws_markBoolS.f]
  simpa [marks] using h

theorem heldIntS_l0 (n : Nat) (k0 : Int) (hk0 : 0 ≤ k0) (hk : k0 + n ≤ 4611686018427387904) (hl : n ≤ 140737488355328) (d : Nat) : ∀ i : Nat, i ≤ n → n - i = d →
    Ev (fun k => laws_heldIntS.l0 k (marks id k0 n) (k0 + i) (i : Int)) (k0 + n) := by
  induction d with
  | zero =>
    intro i hi hd
    obtain rfl : i = n := by omega
    refine evUp ?_
    have h1 : ¬ ((i : Nat) : Int) < (((marks id k0 i).length : Nat) : Int) := by rw [marks_length]; omega
    simp only [laws_heldIntS.l0, h1, if_false]
    exact Ev.now _
  | succ d ih =>
    intro i hi hd
    have hlt : i < n := by omega
    refine evUp ?_
    have h1 : (i : Int) < (((marks id k0 n).length : Nat) : Int) := by rw [marks_length]; omega
    have h2 : 0 ≤ (i : Int) := by omega
    have h3 : rd (marks id k0 n) (i : Int) = k0 + i := by
      rw [rd_get (by rw [marks_length]; exact hlt), marks_get _ _ _ _ hlt]; rfl
    simp only [laws_heldIntS.l0, h1, h2, h3, if_true]
    rw [w64 (x := k0 + i + 1) (by omega) (by omega), w64 (x := (i : Int) + 1) (by omega) (by omega)]
    rw [show k0 + (i : Int) + 1 = k0 + ((i + 1 : Nat) : Int) from by omega]
    exact ih (i + 1) (by omega) (by omega)

theorem heldIntS_ev (n : Nat) (k0 : Int) (hk0 : 0 ≤ k0) (hk : k0 + n ≤ 4611686018427387904) (hl : n ≤ 140737488355328) :
    Ev (fun k => laws_heldIntS.f k (marks id k0 n) k0) (k0 + n) := by
  have h := heldIntS_l0 n k0 hk0 hk hl n 0 (by omega) (by omega)
  simp only [laws_heldIntS.f]
  simpa using h

theorem heldBoolS_l0 (n : Nat) (k0 : Int) (hk0 : 0 ≤ k0) (hk : k0 + n ≤ 4611686018427387904) (hl : n ≤ 140737488355328) (d : Nat) : ∀ i : Nat, i ≤ n → n - i = d →
    Ev (fun k => laws_heldBoolS.l0 k (marks markB k0 n) (k0 + i) (i : Int)) (k0 + n) := by
  induction d with
  | zero =>
    intro i hi hd
    obtain rfl : i = n := by omega
    refine evUp ?_
    have h1 : ¬ ((i : Nat) : Int) < (((marks markB k0 i).length : Nat) : Int) := by rw [marks_length]; omega
    simp only [laws_heldBoolS.l0, h1, if_false]
    exact Ev.now _
  | succ d ih =>
    intro i hi hd
    have hlt : i < n := by omega
    refine evUp ?_
    have h1 : (i : Int) < (((marks markB k0 n).length : Nat) : Int) := by rw [marks_length]; omega
    have h2 : 0 ≤ (i : Int) := by omega
    have h3 : (rdOf false (marks markB k0 n) (i : Int) != (Int.tmod (k0 + i) 3 == 0)) = false := by
      rw [rdOf_get (by rw [marks_length]; exact hlt), marks_get _ _ _ _ hlt, tmod_pos (by omega)]
      unfold markB
      exact bne_self_eq_false _
    simp only [laws_heldBoolS.l0, h1, h2, h3, if_true, Bool.false_eq_true, if_false]
    rw [w64 (x := k0 + i + 1) (by omega) (by omega), w64 (x := (i : Int) + 1) (by omega) (by omega)]
    rw [show k0 + (i : Int) + 1 = k0 + ((i + 1 : Nat) : Int) from by omega]
    exact ih (i + 1) (by omega) (by omega)

theorem heldBoolS_ev (n : Nat) (k0 : Int) (hk0 : 0 ≤ k0) (hk : k0 + n ≤ 4611686018427387904) (hl : n ≤ 140737488355328) :
    Ev (fun k => laws_heldBoolS.f k (marks markB k0 n) k0) (k0 + n) := by
  have h := heldBoolS_l0 n k0 hk0 hk hl n 0 (by omega) (by omega)
  simp only [laws_heldBoolS.f]
  simpa using h

theorem markReq_ev (a b c : Int) (w : List Int) (t : List Bool) (d k0 : Int) (hk0 : 0 ≤ k0) (hk : k0 ≤ 1048577) (hw : w.length ≤ 1048576) (ht : t.length ≤ 1048576) :
    Ev (fun k => laws_markReq.f k a b c w t d k0) (k0 + w.length + t.length, marks id k0 w.length, marks markB (k0 + w.length) t.length) := by
  simp only [laws_markReq.f]
  refine evBind (markIntS_ev w k0 hk0 (by omega) (by omega)) ?_
  refine evBind (markBoolS_ev t (k0 + w.length) (by omega) (by omega) (by omega)) ?_
  exact Ev.now _
theorem markResp_ev (a b c d : Int) (w : List Int) (t : List Bool) (k0 : Int) (hk0 : 0 ≤ k0) (hk : k0 ≤ 1048577) (hw : w.length ≤ 1048576) (ht : t.length ≤ 1048576) :
    Ev (fun k => laws_markResp.f k a b c d w t k0) (k0 + w.length + t.length, marks id k0 w.length, marks markB (k0 + w.length) t.length) := by
  simp only [laws_markResp.f]
  refine evBind (markIntS_ev w k0 hk0 (by omega) (by omega)) ?_
  refine evBind (markBoolS_ev t (k0 + w.length) (by omega) (by omega) (by omega)) ?_
  exact Ev.now _
theorem heldResp_ev (a b c d : Int) (n m : Nat) (k0 : Int) (hk0 : 0 ≤ k0) (hk : k0 ≤ 1048577) (hw : n ≤ 1048576) (ht : m ≤ 1048576) :
    Ev (fun k => laws_heldResp.f k a b c d (marks id k0 n) (marks markB (k0 + n) m) k0) (k0 + n + m) := by
  have n1 : ¬ (k0 + (n : Int) < 0) := by omega
  have n2 : ¬ (k0 + (n : Int) + (m : Int) < 0) := by omega
  simp only [laws_heldResp.f]
  refine evBind (heldIntS_ev n k0 hk0 (by omega) (by omega)) ?_
  simp only [n1, if_false]
  refine evBind (heldBoolS_ev m (k0 + n) (by omega) (by omega) (by omega)) ?_
  simp only [n2, if_false]
  exact Ev.now _

/-- The answer that tells a fault. -/
def faultOf (k a n : Int) (w : List Int) (t : List Bool) (e s : Int) : Int × Int × Int × Int × List Int × List Bool :=
  if reqB k a n w t e = true then (if decide (1 ≤ s ∧ s ≤ 255) = true then (k, s, 0, 0, [], []) else (0, 0, 0, 0, [], [])) else (0, 0, 0, 0, [], [])
theorem faultOf_empty (k a n : Int) (w : List Int) (t : List Bool) (e s : Int) : (faultOf k a n w t e s).2.2.2.2.1 = [] ∧ (faultOf k a n w t e s).2.2.2.2.2 = [] := by
  unfold faultOf
  repeat' split
  all_goals exact ⟨rfl, rfl⟩
theorem spec_FaultOf_ev (k a n : Int) (w : List Int) (t : List Bool) (e s : Int) (hw : w.length ≤ 1048576) (ht : t.length ≤ 1048576) : Ev (fun r => spec_FaultOf.f r k a n w t e s) (faultOf k a n w t e s) := by
  simp only [spec_FaultOf.f, faultOf, spec_in_eq]
  refine evBind (spec_ReqOk_ev k a n w t e hw ht) ?_
  simp only [Option.bind_some]
  split
  · split <;> exact Ev.now _
  · exact Ev.now _
theorem impl_FaultOf_ev (k a n : Int) (w : List Int) (t : List Bool) (e s : Int) (hw : w.length ≤ 1048576) (ht : t.length ≤ 1048576) : Ev (fun r => impl_FaultOf.f r k a n w t e s) (faultOf k a n w t e s) := by
  simp only [impl_FaultOf.f, faultOf, impl_in_eq]
  refine evBind (impl_ReqOk_ev k a n w t e hw ht) ?_
  simp only [Option.bind_some]
  split
  · split <;> exact Ev.now _
  · exact Ev.now _

theorem FnExactFaultOf : laws_FnExactFaultOf.Pure := by
  intro a b c w t d s _ _ _ h1 _ h2 _ _
  refine Ev.rounds (g := fun k => laws_FnExactFaultOf.f k a b c w t d s) ?_
  obtain ⟨v, e, h⟩ := szReq_some a b c w t d 1048576 h1 h2 (by omega) (by omega)
  by_cases c1 : v < 0
  · simp only [laws_FnExactFaultOf.f, e, Option.bind_some, c1, if_true]; exact Ev.now _
  · have hl := (h c1).2
    have htr := toReq_ev a b c w t d hl.1 hl.2
    have hs := spec_FaultOf_ev a b c w t d s hl.1 hl.2
    have hi := impl_FaultOf_ev a b c w t d s hl.1 hl.2
    obtain ⟨z1, z2⟩ := faultOf_empty a b c w t d s
    generalize faultOf a b c w t d s = R at hs hi z1 z2
    obtain ⟨r0, r1, r2, r3, r4, r5⟩ := R
    obtain rfl : r4 = [] := z1
    obtain rfl : r5 = [] := z2
    have q := eqResp_refl r0 r1 r2 r3 [] [] (by decide) (by decide)
    have hq := eqReq_refl a b c w t d hl.1 hl.2
    have m1 := markReq_ev a b c w t d 1 (by omega) (by omega) hl.1 hl.2
    have m2 := markResp_ev r0 r1 r2 r3 [] [] 1 (by omega) (by omega) (by decide) (by decide)
    have m3 := heldResp_ev r0 r1 r2 r3 0 0 1 (by omega) (by omega) (by decide) (by decide)
    have n1 : ¬ (1 + (w.length : Int) + (t.length : Int) < 0) := by omega
    have j : Ev (fun k => laws_FnExactFaultOf.j0 k s false a b c w t d r0 r1 r2 r3 [] [] r0 r1 r2 r3 [] []) true := by
      refine evUp ?_
      simp only [laws_FnExactFaultOf.j0, Bool.false_eq_true, if_false]
      refine evBind m2 ?_
      refine evBind m3 ?_
      simp only [List.length_nil, Int.natCast_zero, Int.add_zero, Int.reduceLT, if_false, if_true]
      refine evBind htr ?_
      refine evBind hi ?_
      refine evBind q ?_
      simp only [if_true]
      refine evBind m3 ?_
      simp only [Int.natCast_zero, Int.add_zero, Int.reduceLT, if_false, if_true]
      exact Ev.now _
    simp only [laws_FnExactFaultOf.f, e, Option.bind_some, c1, if_false]
    refine evBind htr ?_
    refine evBind hs ?_
    refine evBind htr ?_
    refine evBind hi ?_
    refine evBind q ?_
    simp only [if_true]
    refine evBind htr ?_
    refine evBind hq ?_
    simp only [if_true]
    refine evBind m1 ?_
    simp only [n1, if_false]
    refine evBind q ?_
    rw [Bool.not_true]
    exact j

end Go.Proofs.Ytbdifcgkokajlaa.Pure
