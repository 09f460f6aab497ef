/- The law on Writes is true at every question. No condition. -/
import Derived.Test.YtnikdfcdddlfbaaSFnExactWrites
import Derived.Test.YtnikdfcdddlfbaaC
namespace Go.Proofs.Ytnikdfcdddlfbaa.Pure
open Go Go.RowKit Go.Proofs.Ytnikdfcdddlfbaa.PFnExactWrites Go.Proofs.YtnikdfcdddlfbaaW.PrintWords Go.Proofs.YtnikdfcdddlfbaaW.PrintLast Go.Proofs.Ytnikdfcdddlfbaa.PlainC
set_option linter.unusedVariables false
set_option linter.unusedSimpArgs false

theorem szIntS_some (l : List Int) (m : Int) (hl : l.length ≤ maxLen) (h0 : 0 ≤ m) (h1 : m ≤ 1048576) : ∃ v, laws_szIntS.f l m = some v ∧ (¬ v < 0 → v = m - l.length ∧ l.length ≤ 1048576) := by
  unfold maxLen at hl
  have e : wrap64 (m - (l.length : Int)) = m - (l.length : Int) := w64 (by omega) (by omega)
  by_cases h : m - (l.length : Int) < 0
  · exact ⟨-1, by simp only [laws_szIntS.f, e, h, if_true], fun hn => absurd (by decide) hn⟩
  · exact ⟨_, by simp only [laws_szIntS.f, e, h, if_false], fun _ => ⟨rfl, by omega⟩⟩

theorem szBoolS_some (l : List Bool) (m : Int) (hl : l.length ≤ maxLen) (h0 : 0 ≤ m) (h1 : m ≤ 1048576) : ∃ v, laws_szBoolS.f l m = some v ∧ (¬ v < 0 → v = m - l.length ∧ l.length ≤ 1048576) := by
  unfold maxLen at hl
  have e : wrap64 (m - (l.length : Int)) = m - (l.length : Int) := w64 (by omega) (by omega)
  by_cases h : m - (l.length : Int) < 0
  · exact ⟨-1, by simp only [laws_szBoolS.f, e, h, if_true], fun hn => absurd (by decide) hn⟩
  · exact ⟨_, by simp only [laws_szBoolS.f, e, h, if_false], fun _ => ⟨rfl, by omega⟩⟩

theorem toIntS_l0 (l : List Int) (hl : l.length ≤ 35184372088832) (d : Nat) : ∀ i : Nat, i ≤ l.length → l.length - i = d →
    Ev (fun k => laws_toIntS.l0 k l (l.take i ++ List.replicate (l.length - i) 0) (i : Int)) l := by
  induction d with
  | zero =>
    intro i hi hd
    obtain rfl : i = l.length := by omega
    refine evUp ?_
    have h1 : ¬ ((l.length : Nat) : Int) < (l.length : Int) := by omega
    simp only [laws_toIntS.l0, h1, if_false]
    rw [List.take_length, Nat.sub_self, List.replicate_zero, List.append_nil]
    exact Ev.now _
  | succ d ih =>
    intro i hi hd
    have hlt : i < l.length := by omega
    refine evUp ?_
    have h1 : (i : Int) < (l.length : Int) := by omega
    have h2 : 0 ≤ (i : Int) := by omega
    have h3 : (i : Int) < ((l.take i ++ List.replicate (l.length - i) (0 : Int)).length : Int) := by
      rw [List.length_append, List.length_take, List.length_replicate]; omega
    simp only [laws_toIntS.l0, h1, h2, h3, if_true]
    rw [rd_get hlt, Int.toNat_natCast, set_copy (0 : Int) l i hlt, w64 (by omega) (by omega)]
    exact ih (i + 1) (by omega) (by omega)

theorem toIntS_ev (l : List Int) (hl : l.length ≤ 35184372088832) : Ev (fun k => laws_toIntS.f k l) l := by
  have h := toIntS_l0 l hl l.length 0 (by omega) (by omega)
  have h1 : 0 ≤ (l.length : Int) := by omega
  have h2 : ((l.length : Int)).toNat ≤ 35184372088832 := by omega
  simp only [laws_toIntS.f, h1, h2, if_true]
  rw [Int.toNat_natCast]
  simpa using h

theorem toBoolS_l0 (l : List Bool) (hl : l.length ≤ 140737488351232) (d : Nat) : ∀ i : Nat, i ≤ l.length → l.length - i = d →
    Ev (fun k => laws_toBoolS.l0 k l (l.take i ++ List.replicate (l.length - i) false) (i : Int)) l := by
  induction d with
  | zero =>
    intro i hi hd
    obtain rfl : i = l.length := by omega
    refine evUp ?_
    have h1 : ¬ ((l.length : Nat) : Int) < (l.length : Int) := by omega
    simp only [laws_toBoolS.l0, h1, if_false]
    rw [List.take_length, Nat.sub_self, List.replicate_zero, List.append_nil]
    exact Ev.now _
  | succ d ih =>
    intro i hi hd
    have hlt : i < l.length := by omega
    refine evUp ?_
    have h1 : (i : Int) < (l.length : Int) := by omega
    have h2 : 0 ≤ (i : Int) := by omega
    have h3 : (i : Int) < ((l.take i ++ List.replicate (l.length - i) false).length : Int) := by
      rw [List.length_append, List.length_take, List.length_replicate]; omega
    simp only [laws_toBoolS.l0, h1, h2, h3, if_true]
    rw [rdOf_get hlt, Int.toNat_natCast, set_copy false l i hlt, w64 (by omega) (by omega)]
    exact ih (i + 1) (by omega) (by omega)

theorem toBoolS_ev (l : List Bool) (hl : l.length ≤ 140737488351232) : Ev (fun k => laws_toBoolS.f k l) l := by
  have h := toBoolS_l0 l hl l.length 0 (by omega) (by omega)
  have h1 : 0 ≤ (l.length : Int) := by omega
  have h2 : ((l.length : Int)).toNat ≤ 281474976710656 := by omega
  simp only [laws_toBoolS.f, h1, h2, if_true]
  rw [Int.toNat_natCast]
  simpa using h

theorem eqIntS_l0 (a b : List Int) (hl : a.length ≤ 140737488351232) (he : a.length = b.length) (d : Nat) : ∀ i : Nat, i ≤ a.length → a.length - i = d →
    Ev (fun k => laws_eqIntS.l0 k a b (i : Int)) (decide (a.drop i = b.drop i)) := by
  induction d with
  | zero =>
    intro i hi hd
    obtain rfl : i = a.length := by omega
    refine evUp ?_
    have h1 : ¬ ((a.length : Nat) : Int) < (a.length : Int) := by omega
    simp only [laws_eqIntS.l0, h1, if_false]
    have e : decide (a.drop a.length = b.drop a.length) = true := by
      rw [List.drop_length, he, List.drop_length]; rfl
    rw [e]
    exact Ev.now _
  | succ d ih =>
    intro i hi hd
    have ha : i < a.length := by omega
    have hb : i < b.length := by omega
    refine evUp ?_
    have h1 : (i : Int) < (a.length : Int) := by omega
    have h2 : 0 ≤ (i : Int) := by omega
    have h3 : (i : Int) < (b.length : Int) := by omega
    simp only [laws_eqIntS.l0, h1, h2, h3, if_true]
    rw [rd_get ha, rd_get hb, w64 (by omega) (by omega)]
    by_cases e : a[i] = b[i]
    · simp only [e, if_true]
      have e2 : decide (a.drop i = b.drop i) = decide (a.drop (i + 1) = b.drop (i + 1)) := by
        rw [decide_eq_decide, drop_eq_iff ha hb]; simp [e]
      rw [e2]
      exact ih (i + 1) (by omega) (by omega)
    · simp only [e, if_false]
      have e2 : decide (a.drop i = b.drop i) = false := by
        rw [decide_eq_false_iff_not, drop_eq_iff ha hb]; simp [e]
      rw [e2]
      exact Ev.now _

theorem eqIntS_ev (a b : List Int) (hl : a.length ≤ 140737488351232) : Ev (fun k => laws_eqIntS.f k a b) (decide (a = b)) := by
  by_cases he : a.length = b.length
  · have h := eqIntS_l0 a b hl he a.length 0 (by omega) (by omega)
    have h1 : (a.length : Int) = (b.length : Int) := by omega
    simp only [laws_eqIntS.f, h1, if_true]
    exact h
  · have h1 : ¬ (a.length : Int) = (b.length : Int) := by omega
    have e : decide (a = b) = false := by
      rw [decide_eq_false_iff_not]; intro h; exact he (by rw [h])
    simp only [laws_eqIntS.f, h1, if_false]
    rw [e]
    exact Ev.now _

theorem eqIntS_refl (a : List Int) (hl : a.length ≤ 140737488351232) : Ev (fun k => laws_eqIntS.f k a a) true := by
  have h := eqIntS_ev a a hl
  rwa [decide_eq_true rfl] at h

theorem eqBoolS_l0 (a b : List Bool) (hl : a.length ≤ 140737488355328) (he : a.length = b.length) (d : Nat) : ∀ i : Nat, i ≤ a.length → a.length - i = d →
    Ev (fun k => laws_eqBoolS.l0 k a b (i : Int)) (decide (a.drop i = b.drop i)) := by
  induction d with
  | zero =>
    intro i hi hd
    obtain rfl : i = a.length := by omega
    refine evUp ?_
    have h1 : ¬ ((a.length : Nat) : Int) < (a.length : Int) := by omega
    simp only [laws_eqBoolS.l0, h1, if_false]
    have e : decide (a.drop a.length = b.drop a.length) = true := by
      rw [List.drop_length, he, List.drop_length]; rfl
    rw [e]
    exact Ev.now _
  | succ d ih =>
    intro i hi hd
    have ha : i < a.length := by omega
    have hb : i < b.length := by omega
    refine evUp ?_
    have h1 : (i : Int) < (a.length : Int) := by omega
    have h2 : 0 ≤ (i : Int) := by omega
    have h3 : (i : Int) < (b.length : Int) := by omega
    simp only [laws_eqBoolS.l0, h1, h2, h3, if_true]
    rw [rdOf_get ha, rdOf_get hb, w64 (by omega) (by omega)]
    by_cases e : a[i] = b[i]
    · simp only [e, bne_self_eq_false, Bool.false_eq_true, if_false]
      have e2 : decide (a.drop i = b.drop i) = decide (a.drop (i + 1) = b.drop (i + 1)) := by
        rw [decide_eq_decide, drop_eq_iff ha hb]; simp [e]
      rw [e2]
      exact ih (i + 1) (by omega) (by omega)
    · have e3 : (a[i] != b[i]) = true := by simpa using e
      simp only [e3, if_true]
      have e2 : decide (a.drop i = b.drop i) = false := by
        rw [decide_eq_false_iff_not, drop_eq_iff ha hb]; simp [e]
      rw [e2]
      exact Ev.now _

theorem eqBoolS_ev (a b : List Bool) (hl : a.length ≤ 140737488355328) : Ev (fun k => laws_eqBoolS.f k a b) (decide (a = b)) := by
  by_cases he : a.length = b.length
  · have h := eqBoolS_l0 a b hl he a.length 0 (by omega) (by omega)
    have h1 : (a.length : Int) = (b.length : Int) := by omega
    simp only [laws_eqBoolS.f, h1, if_true]
    exact h
  · have h1 : ¬ (a.length : Int) = (b.length : Int) := by omega
    have e : decide (a = b) = false := by
      rw [decide_eq_false_iff_not]; intro h; exact he (by rw [h])
    simp only [laws_eqBoolS.f, h1, if_false]
    rw [e]
    exact Ev.now _

theorem eqBoolS_refl (a : List Bool) (hl : a.length ≤ 140737488355328) : Ev (fun k => laws_eqBoolS.f k a a) true := by
  have h := eqBoolS_ev a a hl
  rwa [decide_eq_true rfl] at h

theorem szReq_some (a b c : Int) (w : List Int) (t : List Bool) (d m : Int) (hw : w.length ≤ maxLen) (ht : t.length ≤ maxLen) (h0 : 0 ≤ m) (h1 : m ≤ 1048576) : ∃ v, laws_szReq.f a b c w t d m = some v ∧ (¬ v < 0 → v = m - w.length - t.length ∧ w.length ≤ 1048576 ∧ t.length ≤ 1048576) := by
  obtain ⟨v, e, h⟩ := szIntS_some w m hw h0 h1
  by_cases c1 : v < 0
  · exact ⟨-1, by simp only [laws_szReq.f, e, Option.bind_some, c1, if_true], fun hn => absurd (by decide) hn⟩
  · have h2 := h c1
    obtain ⟨u, e2, h3⟩ := szBoolS_some t v ht (by omega) (by omega)
    by_cases c2 : u < 0
    · exact ⟨-1, by simp only [laws_szReq.f, e, e2, Option.bind_some, c1, c2, if_true, if_false], fun hn => absurd (by decide) hn⟩
    · have h4 := h3 c2
      exact ⟨u, by simp only [laws_szReq.f, e, e2, Option.bind_some, c1, c2, if_false], fun _ => ⟨by omega, by omega, by omega⟩⟩
theorem toReq_ev (a b c : Int) (w : List Int) (t : List Bool) (d : Int) (hw : w.length ≤ 1048576) (ht : t.length ≤ 1048576) : Ev (fun k => laws_toReq.f k a b c w t d) (a, b, c, w, t, d) := by
  simp only [laws_toReq.f]
  exact evBind (toIntS_ev w (by omega)) (evBind (toBoolS_ev t (by omega)) (Ev.now _))
theorem eqReq_refl (a b c : Int) (w : List Int) (t : List Bool) (d : Int) (hw : w.length ≤ 1048576) (ht : t.length ≤ 1048576) : Ev (fun k => laws_eqReq.f k a b c w t d a b c w t d) true := by
  simp only [laws_eqReq.f, if_true]
  refine evBind (eqIntS_refl w (by omega)) ?_
  simp only [if_true]
  refine evBind (eqBoolS_refl t (by omega)) ?_
  simp only [if_true]
  exact Ev.now _

theorem impl_in_eq (a b c : Int) : impl_in.f a b c = some (decide (b ≤ a ∧ a ≤ c)) := by
  by_cases h0 : a ≥ b
  · have h1 : b ≤ a := h0
    simp only [impl_in.f, h0, h1, if_true, true_and]
  · have h1 : ¬ b ≤ a := h0
    simp only [impl_in.f, h0, h1, if_false, false_and, decide_false]
theorem spec_in_eq (a b c : Int) : spec_l1In.f a b c = some (decide (b ≤ a ∧ a ≤ c)) := by
  by_cases h0 : a ≥ b
  · have h1 : b ≤ a := h0
    simp only [spec_l1In.f, h0, h1, if_true, true_and]
  · have h1 : ¬ b ≤ a := h0
    simp only [spec_l1In.f, h0, h1, if_false, false_and, decide_false]

theorem writes_same (a b c : Int) (w : List Int) (t : List Bool) (d : Int) : ∃ r, spec_Writes.f a b c w t d = some r ∧ impl_Writes.f a b c w t d = some r := by
  simp only [spec_Writes.f, spec_l3Kind.f, impl_Writes.f, impl_in_eq, spec_in_eq, Option.bind_some]
  by_cases h5 : a = 5
  · subst h5; simp
  by_cases h6 : a = 6
  · subst h6; simp
  by_cases h15 : a = 15
  · subst h15; simp
  by_cases h16 : a = 16
  · subst h16; simp
  by_cases h22 : a = 22
  · subst h22; simp
  by_cases h23 : a = 23
  · subst h23; simp
  by_cases h1 : 1 ≤ a ∧ a ≤ 6
  · have h2 : ¬ (15 ≤ a ∧ a ≤ 16) := by omega
    have h3 : ¬ 4 < a := by omega
    simp [h1, h2, h3, h5, h6, h22, h23]
  · have h2 : ¬ (15 ≤ a ∧ a ≤ 16) := by omega
    simp [h1, h2, h5, h6, h15, h16, h22, h23]

theorem FnExactWrites : laws_FnExactWrites.Pure := by
  intro a b c w t d _ _ _ h1 _ h2 _
  refine Ev.rounds (g := fun k => laws_FnExactWrites.f k a b c w t d) ?_
  obtain ⟨v, e, h⟩ := szReq_some a b c w t d 1048576 h1 h2 (by omega) (by omega)
  by_cases c1 : v < 0
  · simp only [laws_FnExactWrites.f, e, Option.bind_some, c1, if_true]; exact Ev.now _
  · have hl := (h c1).2
    have ht := toReq_ev a b c w t d hl.1 hl.2
    obtain ⟨r, s1, s2⟩ := writes_same a b c w t d
    simp only [laws_FnExactWrites.f, e, Option.bind_some, c1, if_false]
    refine evBind ht ?_
    simp only [s1, Option.bind_some]
    refine evBind ht ?_
    simp only [s2, Option.bind_some, bne_self_eq_false, Bool.false_eq_true, if_false]
    refine evBind ht ?_
    refine evBind (eqReq_refl a b c w t d hl.1 hl.2) ?_
    simp only [if_true]
    exact Ev.now _

end Go.Proofs.Ytnikdfcdddlfbaa.Pure
