/- The law on RtuOk is true at every listener. No condition. -/
import Derived.Test.YtnikdfcdddlfbaaSFnExactRtuOk
import Derived.Test.YtnikdfcdddlfbaaC
namespace Go.Proofs.Ytnikdfcdddlfbaa.Pure
open Go Go.RowKit Go.Proofs.Ytnikdfcdddlfbaa.PFnExactRtuOk Go.Proofs.YtnikdfcdddlfbaaW.PrintWords Go.Proofs.YtnikdfcdddlfbaaW.PrintLast Go.Proofs.Ytnikdfcdddlfbaa.PlainC
set_option linter.unusedVariables false
set_option linter.unusedSimpArgs false

theorem szByteS_some (l : List Int) (m : Int) (hl : l.length ≤ maxLen) (h0 : 0 ≤ m) (h1 : m ≤ 1048576) : ∃ v, laws_szByteS.f l m = some v ∧ (¬ v < 0 → v = m - l.length ∧ l.length ≤ 1048576) := by
  unfold maxLen at hl
  have e : wrap64 (m - (l.length : Int)) = m - (l.length : Int) := w64 (by omega) (by omega)
  by_cases h : m - (l.length : Int) < 0
  · exact ⟨-1, by simp only [laws_szByteS.f, e, h, if_true], fun hn => absurd (by decide) hn⟩
  · exact ⟨_, by simp only [laws_szByteS.f, e, h, if_false], fun _ => ⟨rfl, by omega⟩⟩

theorem toByteS_l0 (l : List Int) (hl : l.length ≤ 140737488351232) (d : Nat) : ∀ i : Nat, i ≤ l.length → l.length - i = d →
    Ev (fun k => laws_toByteS.l0 k l (l.take i ++ List.replicate (l.length - i) 0) (i : Int)) l := by
  induction d with
  | zero =>
    intro i hi hd
    obtain rfl : i = l.length := by omega
    refine evUp ?_
    have h1 : ¬ ((l.length : Nat) : Int) < (l.length : Int) := by omega
    simp only [laws_toByteS.l0, h1, if_false]
    rw [List.take_length, Nat.sub_self, List.replicate_zero, List.append_nil]
    exact Ev.now _
  | succ d ih =>
    intro i hi hd
    have hlt : i < l.length := by omega
    refine evUp ?_
    have h1 : (i : Int) < (l.length : Int) := by omega
    have h2 : 0 ≤ (i : Int) := by omega
    have h3 : (i : Int) < ((l.take i ++ List.replicate (l.length - i) (0 : Int)).length : Int) := by
      rw [List.length_append, List.length_take, List.length_replicate]; omega
    simp only [laws_toByteS.l0, h1, h2, h3, if_true]
    rw [rd_get hlt, Int.toNat_natCast, set_copy (0 : Int) l i hlt, w64 (by omega) (by omega)]
    exact ih (i + 1) (by omega) (by omega)

theorem toByteS_ev (l : List Int) (hl : l.length ≤ 140737488351232) : Ev (fun k => laws_toByteS.f k l) l := by
  have h := toByteS_l0 l hl l.length 0 (by omega) (by omega)
  have h1 : 0 ≤ (l.length : Int) := by omega
  have h2 : ((l.length : Int)).toNat ≤ 281474976710656 := by omega
  simp only [laws_toByteS.f, h1, h2, if_true]
  rw [Int.toNat_natCast]
  simpa using h

theorem eqByteS_l0 (a b : List Int) (hl : a.length ≤ 140737488351232) (he : a.length = b.length) (d : Nat) : ∀ i : Nat, i ≤ a.length → a.length - i = d →
    Ev (fun k => laws_eqByteS.l0 k a b (i : Int)) (decide (a.drop i = b.drop i)) := by
  induction d with
  | zero =>
    intro i hi hd
    obtain rfl : i = a.length := by omega
    refine evUp ?_
    have h1 : ¬ ((a.length : Nat) : Int) < (a.length : Int) := by omega
    simp only [laws_eqByteS.l0, h1, if_false]
    have e : decide (a.drop a.length = b.drop a.length) = true := by
      rw [List.drop_length, he, List.drop_length]; rfl
    rw [e]
    exact Ev.now _
  | succ d ih =>
    intro i hi hd
    have ha : i < a.length := by omega
    have hb : i < b.length := by omega
    refine evUp ?_
    have h1 : (i : Int) < (a.length : Int) := by omega
    have h2 : 0 ≤ (i : Int) := by omega
    have h3 : (i : Int) < (b.length : Int) := by omega
    simp only [laws_eqByteS.l0, h1, h2, h3, if_true]
    rw [rd_get ha, rd_get hb, w64 (by omega) (by omega)]
    by_cases e : a[i] = b[i]
    · simp only [e, if_true]
      have e2 : decide (a.drop i = b.drop i) = decide (a.drop (i + 1) = b.drop (i + 1)) := by
        rw [decide_eq_decide, drop_eq_iff ha hb]; simp [e]
      rw [e2]
      exact ih (i + 1) (by omega) (by omega)
    · simp only [e, if_false]
      have e2 : decide (a.drop i = b.drop i) = false := by
        rw [decide_eq_false_iff_not, drop_eq_iff ha hb]; simp [e]
      rw [e2]
      exact Ev.now _

theorem eqByteS_ev (a b : List Int) (hl : a.length ≤ 140737488351232) : Ev (fun k => laws_eqByteS.f k a b) (decide (a = b)) := by
  by_cases he : a.length = b.length
  · have h := eqByteS_l0 a b hl he a.length 0 (by omega) (by omega)
    have h1 : (a.length : Int) = (b.length : Int) := by omega
    simp only [laws_eqByteS.f, h1, if_true]
    exact h
  · have h1 : ¬ (a.length : Int) = (b.length : Int) := by omega
    have e : decide (a = b) = false := by
      rw [decide_eq_false_iff_not]; intro h; exact he (by rw [h])
    simp only [laws_eqByteS.f, h1, if_false]
    rw [e]
    exact Ev.now _

theorem eqByteS_refl (a : List Int) (hl : a.length ≤ 140737488351232) : Ev (fun k => laws_eqByteS.f k a a) true := by
  have h := eqByteS_ev a a hl
  rwa [decide_eq_true rfl] at h

theorem szRtu_some (l : List Int) (a : Int) (b : Bool) (c d : Int) (m : Int) (hl : l.length ≤ maxLen) (h0 : 0 ≤ m) (h1 : m ≤ 1048576) : ∃ v, laws_szRtu.f l a b c d m = some v ∧ (¬ v < 0 → v = m - l.length ∧ l.length ≤ 1048576) := by
  obtain ⟨v, e, h⟩ := szByteS_some l m hl h0 h1
  by_cases c1 : v < 0
  · exact ⟨-1, by simp only [laws_szRtu.f, e, Option.bind_some, c1, if_true], fun hn => absurd (by decide) hn⟩
  · exact ⟨v, by simp only [laws_szRtu.f, e, Option.bind_some, c1, if_false], fun _ => h c1⟩
theorem toRtu_ev (l : List Int) (a : Int) (b : Bool) (c d : Int) (hl : l.length ≤ 1048576) : Ev (fun k => laws_toRtu.f k l a b c d) (l, a, b, c, d) := by
  simp only [laws_toRtu.f]
  exact evBind (toByteS_ev l (by omega)) (Ev.now _)
theorem eqRtu_refl (l : List Int) (a : Int) (b : Bool) (c d : Int) (hl : l.length ≤ 1048576) : Ev (fun k => laws_eqRtu.f k l a b c d l a b c d) true := by
  simp only [laws_eqRtu.f]
  refine evBind (eqByteS_refl l (by omega)) ?_
  simp only [if_true, bne_self_eq_false, Bool.false_eq_true, if_false]
  exact Ev.now _

theorem impl_isTick_eq (t : Int) : impl_isTick.f t = some (decide (0 ≤ t ∧ t ≤ 4294967295)) := by
  by_cases h0 : t ≥ 0
  · have h1 : 0 ≤ t := h0
    simp only [impl_isTick.f, impl_in.f, h0, h1, if_true, Option.bind_some, true_and]
  · have h1 : ¬ 0 ≤ t := h0
    simp only [impl_isTick.f, impl_in.f, h0, h1, if_false, Option.bind_some, false_and, decide_false]

theorem spec_l1Tick_eq (t : Int) : spec_l1Tick.f t = some (decide (0 ≤ t ∧ t ≤ 4294967295)) := by
  by_cases h0 : t ≥ 0
  · have h1 : 0 ≤ t := h0
    simp only [spec_l1Tick.f, spec_l1In.f, h0, h1, if_true, Option.bind_some, true_and]
  · have h1 : ¬ 0 ≤ t := h0
    simp only [spec_l1Tick.f, spec_l1In.f, h0, h1, if_false, Option.bind_some, false_and, decide_false]

theorem impl_in_eq (a b c : Int) : impl_in.f a b c = some (decide (b ≤ a ∧ a ≤ c)) := by
  by_cases h0 : a ≥ b
  · have h1 : b ≤ a := h0
    simp only [impl_in.f, h0, h1, if_true, true_and]
  · have h1 : ¬ b ≤ a := h0
    simp only [impl_in.f, h0, h1, if_false, false_and, decide_false]
theorem spec_in_eq (a b c : Int) : spec_l1In.f a b c = some (decide (b ≤ a ∧ a ≤ c)) := by
  by_cases h0 : a ≥ b
  · have h1 : b ≤ a := h0
    simp only [spec_l1In.f, h0, h1, if_true, true_and]
  · have h1 : ¬ b ≤ a := h0
    simp only [spec_l1In.f, h0, h1, if_false, false_and, decide_false]

theorem rtuOk_same (l : List Int) (a : Int) (b : Bool) (c d : Int) : ∃ r, spec_RtuOk.f l a b c d = some r ∧ impl_RtuOk.f l a b c d = some r := by
  simp only [spec_RtuOk.f, impl_RtuOk.f, impl_isTick_eq, spec_l1Tick_eq, impl_in_eq, spec_in_eq, Option.bind_some]
  have hc : (if 0 < l.length then some true else some false) = some (decide (0 < l.length)) := by split <;> simp [*]
  by_cases h1 : (l.length : Int) ≤ 257 <;> by_cases h2 : (l.length : Int) > 0 <;> by_cases h3 : (1 ≤ c ∧ c ≤ 1000) <;> by_cases h4 : (c ≤ d ∧ d ≤ 1000) <;> by_cases h5 : (0 ≤ a ∧ a ≤ 4294967295) <;> cases b <;> simp [h1, h2, h3, h4, h5, hc]

theorem FnExactRtuOk : laws_FnExactRtuOk.Pure := by
  intro l a b c d h1 h2 h3 h4 h5
  refine Ev.rounds (g := fun k => laws_FnExactRtuOk.f k l a b c d) ?_
  obtain ⟨v, e, h⟩ := szRtu_some l a b c d 1048576 h1 (by omega) (by omega)
  by_cases c1 : v < 0
  · simp only [laws_FnExactRtuOk.f, e, Option.bind_some, c1, if_true]; exact Ev.now _
  · have hl := (h c1).2
    have ht := toRtu_ev l a b c d hl
    obtain ⟨r, s1, s2⟩ := rtuOk_same l a b c d
    simp only [laws_FnExactRtuOk.f, e, Option.bind_some, c1, if_false]
    refine evBind ht ?_
    simp only [s1, Option.bind_some]
    refine evBind ht ?_
    simp only [s2, Option.bind_some, bne_self_eq_false, Bool.false_eq_true, if_false]
    refine evBind ht ?_
    refine evBind (eqRtu_refl l a b c d hl) ?_
    simp only [if_true]
    exact Ev.now _

end Go.Proofs.Ytnikdfcdddlfbaa.Pure
