/- The law on SameDevice is true at every two devices. No condition. -/
import Derived.Test.YtnikdfcdddlfbaaSFnExactSameDevice
import Derived.Test.YtnikdfcdddlfbaaC
namespace Go.Proofs.Ytnikdfcdddlfbaa.Pure
open Go Go.RowKit Go.Proofs.Ytnikdfcdddlfbaa.PFnExactSameDevice Go.Proofs.YtnikdfcdddlfbaaW.PrintWords Go.Proofs.YtnikdfcdddlfbaaW.PrintLast Go.Proofs.Ytnikdfcdddlfbaa.PlainC
set_option linter.unusedVariables false
set_option linter.unusedSimpArgs false

theorem szIntS_some (l : List Int) (m : Int) (hl : l.length ≤ maxLen) (h0 : 0 ≤ m) (h1 : m ≤ 1048576) : ∃ v, laws_szIntS.f l m = some v ∧ (¬ v < 0 → v = m - l.length ∧ l.length ≤ 1048576) := by
  unfold maxLen at hl
  have e : wrap64 (m - (l.length : Int)) = m - (l.length : Int) := w64 (by omega) (by omega)
  by_cases h : m - (l.length : Int) < 0
  · exact ⟨-1, by simp only [laws_szIntS.f, e, h, if_true], fun hn => absurd (by decide) hn⟩
  · exact ⟨_, by simp only [laws_szIntS.f, e, h, if_false], fun _ => ⟨rfl, by omega⟩⟩

theorem szBoolS_some (l : List Bool) (m : Int) (hl : l.length ≤ maxLen) (h0 : 0 ≤ m) (h1 : m ≤ 1048576) : ∃ v, laws_szBoolS.f l m = some v ∧ (¬ v < 0 → v = m - l.length ∧ l.length ≤ 1048576) := by
  unfold maxLen at hl
  have e : wrap64 (m - (l.length : Int)) = m - (l.length : Int) := w64 (by omega) (by omega)
  by_cases h : m - (l.length : Int) < 0
  · exact ⟨-1, by simp only [laws_szBoolS.f, e, h, if_true], fun hn => absurd (by decide) hn⟩
  · exact ⟨_, by simp only [laws_szBoolS.f, e, h, if_false], fun _ => ⟨rfl, by omega⟩⟩

theorem toIntS_l0 (l : List Int) (hl : l.length ≤ 35184372088832) (d : Nat) : ∀ i : Nat, i ≤ l.length → l.length - i = d →
    Ev (fun k => laws_toIntS.l0 k l (l.take i ++ List.replicate (l.length - i) 0) (i : Int)) l := by
  induction d with
  | zero =>
    intro i hi hd
    obtain rfl : i = l.length := by omega
    refine evUp ?_
    have h1 : ¬ ((l.length : Nat) : Int) < (l.length : Int) := by omega
    simp only [laws_toIntS.l0, h1, if_false]
    rw [List.take_length, Nat.sub_self, List.replicate_zero, List.append_nil]
    exact Ev.now _
  | succ d ih =>
    intro i hi hd
    have hlt : i < l.length := by omega
    refine evUp ?_
    have h1 : (i : Int) < (l.length : Int) := by omega
    have h2 : 0 ≤ (i : Int) := by omega
    have h3 : (i : Int) < ((l.take i ++ List.replicate (l.length - i) (0 : Int)).length : Int) := by
      rw [List.length_append, List.length_take, List.length_replicate]; omega
    simp only [laws_toIntS.l0, h1, h2, h3, if_true]
    rw [rd_get hlt, Int.toNat_natCast, set_copy (0 : Int) l i hlt, w64 (by omega) (by omega)]
    exact ih (i + 1) (by omega) (by omega)

theorem toIntS_ev (l : List Int) (hl : l.length ≤ 35184372088832) : Ev (fun k => laws_toIntS.f k l) l := by
  have h := toIntS_l0 l hl l.length 0 (by omega) (by omega)
  have h1 : 0 ≤ (l.length : Int) := by omega
  have h2 : ((l.length : Int)).toNat ≤ 35184372088832 := by omega
  simp only [laws_toIntS.f, h1, h2, if_true]
  rw [Int.toNat_natCast]
  simpa using h

theorem toBoolS_l0 (l : List Bool) (hl : l.length ≤ 140737488351232) (d : Nat) : ∀ i : Nat, i ≤ l.length → l.length - i = d →
    Ev (fun k => laws_toBoolS.l0 k l (l.take i ++ List.replicate (l.length - i) false) (i : Int)) l := by
  induction d with
  | zero =>
    intro i hi hd
    obtain rfl : i = l.length := by omega
    refine evUp ?_
    have h1 : ¬ ((l.length : Nat) : Int) < (l.length : Int) := by omega
    simp only [laws_toBoolS.l0, h1, if_false]
    rw [List.take_length, Nat.sub_self, List.replicate_zero, List.append_nil]
    exact Ev.now _
  | succ d ih =>
    intro i hi hd
    have hlt : i < l.length := by omega
    refine evUp ?_
    have h1 : (i : Int) < (l.length : Int) := by omega
    have h2 : 0 ≤ (i : Int) := by omega
    have h3 : (i : Int) < ((l.take i ++ List.replicate (l.length - i) false).length : Int) := by
      rw [List.length_append, List.length_take, List.length_replicate]; omega
    simp only [laws_toBoolS.l0, h1, h2, h3, if_true]
    rw [rdOf_get hlt, Int.toNat_natCast, set_copy false l i hlt, w64 (by omega) (by omega)]
    exact ih (i + 1) (by omega) (by omega)

theorem toBoolS_ev (l : List Bool) (hl : l.length ≤ 140737488351232) : Ev (fun k => laws_toBoolS.f k l) l := by
  have h := toBoolS_l0 l hl l.length 0 (by omega) (by omega)
  have h1 : 0 ≤ (l.length : Int) := by omega
  have h2 : ((l.length : Int)).toNat ≤ 281474976710656 := by omega
  simp only [laws_toBoolS.f, h1, h2, if_true]
  rw [Int.toNat_natCast]
  simpa using h

theorem eqIntS_l0 (a b : List Int) (hl : a.length ≤ 140737488351232) (he : a.length = b.length) (d : Nat) : ∀ i : Nat, i ≤ a.length → a.length - i = d →
    Ev (fun k => laws_eqIntS.l0 k a b (i : Int)) (decide (a.drop i = b.drop i)) := by
  induction d with
  | zero =>
    intro i hi hd
    obtain rfl : i = a.length := by omega
    refine evUp ?_
    have h1 : ¬ ((a.length : Nat) : Int) < (a.length : Int) := by omega
    simp only [laws_eqIntS.l0, h1, if_false]
    have e : decide (a.drop a.length = b.drop a.length) = true := by
      rw [List.drop_length, he, List.drop_length]; rfl
    rw [e]
    exact Ev.now _
  | succ d ih =>
    intro i hi hd
    have ha : i < a.length := by omega
    have hb : i < b.length := by omega
    refine evUp ?_
    have h1 : (i : Int) < (a.length : Int) := by omega
    have h2 : 0 ≤ (i : Int) := by omega
    have h3 : (i : Int) < (b.length : Int) := by omega
    simp only [laws_eqIntS.l0, h1, h2, h3, if_true]
    rw [rd_get ha, rd_get hb, w64 (by omega) (by omega)]
    by_cases e : a[i] = b[i]
    · simp only [e, if_true]
      have e2 : decide (a.drop i = b.drop i) = decide (a.drop (i + 1) = b.drop (i + 1)) := by
        rw [decide_eq_decide, drop_eq_iff ha hb]; simp [e]
      rw [e2]
      exact ih (i + 1) (by omega) (by omega)
    · simp only [e, if_false]
      have e2 : decide (a.drop i = b.drop i) = false := by
        rw [decide_eq_false_iff_not, drop_eq_iff ha hb]; simp [e]
      rw [e2]
      exact Ev.now _

theorem eqIntS_ev (a b : List Int) (hl : a.length ≤ 140737488351232) : Ev (fun k => laws_eqIntS.f k a b) (decide (a = b)) := by
  by_cases he : a.length = b.length
  · have h := eqIntS_l0 a b hl he a.length 0 (by omega) (by omega)
    have h1 : (a.length : Int) = (b.length : Int) := by omega
    simp only [laws_eqIntS.f, h1, if_true]
    exact h
  · have h1 : ¬ (a.length : Int) = (b.length : Int) := by omega
    have e : decide (a = b) = false := by
      rw [decide_eq_false_iff_not]; intro h; exact he (by rw [h])
    simp only [laws_eqIntS.f, h1, if_false]
    rw [e]
    exact Ev.now _

theorem eqIntS_refl (a : List Int) (hl : a.length ≤ 140737488351232) : Ev (fun k => laws_eqIntS.f k a a) true := by
  have h := eqIntS_ev a a hl
  rwa [decide_eq_true rfl] at h

theorem eqBoolS_l0 (a b : List Bool) (hl : a.length ≤ 140737488355328) (he : a.length = b.length) (d : Nat) : ∀ i : Nat, i ≤ a.length → a.length - i = d →
    Ev (fun k => laws_eqBoolS.l0 k a b (i : Int)) (decide (a.drop i = b.drop i)) := by
  induction d with
  | zero =>
    intro i hi hd
    obtain rfl : i = a.length := by omega
    refine evUp ?_
    have h1 : ¬ ((a.length : Nat) : Int) < (a.length : Int) := by omega
    simp only [laws_eqBoolS.l0, h1, if_false]
    have e : decide (a.drop a.length = b.drop a.length) = true := by
      rw [List.drop_length, he, List.drop_length]; rfl
    rw [e]
    exact Ev.now _
  | succ d ih =>
    intro i hi hd
    have ha : i < a.length := by omega
    have hb : i < b.length := by omega
    refine evUp ?_
    have h1 : (i : Int) < (a.length : Int) := by omega
    have h2 : 0 ≤ (i : Int) := by omega
    have h3 : (i : Int) < (b.length : Int) := by omega
    simp only [laws_eqBoolS.l0, h1, h2, h3, if_true]
    rw [rdOf_get ha, rdOf_get hb, w64 (by omega) (by omega)]
    by_cases e : a[i] = b[i]
    · simp only [e, bne_self_eq_false, Bool.false_eq_true, if_false]
      have e2 : decide (a.drop i = b.drop i) = decide (a.drop (i + 1) = b.drop (i + 1)) := by
        rw [decide_eq_decide, drop_eq_iff ha hb]; simp [e]
      rw [e2]
      exact ih (i + 1) (by omega) (by omega)
    · have e3 : (a[i] != b[i]) = true := by simpa using e
      simp only [e3, if_true]
      have e2 : decide (a.drop i = b.drop i) = false := by
        rw [decide_eq_false_iff_not, drop_eq_iff ha hb]; simp [e]
      rw [e2]
      exact Ev.now _

theorem eqBoolS_ev (a b : List Bool) (hl : a.length ≤ 140737488355328) : Ev (fun k => laws_eqBoolS.f k a b) (decide (a = b)) := by
  by_cases he : a.length = b.length
  · have h := eqBoolS_l0 a b hl he a.length 0 (by omega) (by omega)
    have h1 : (a.length : Int) = (b.length : Int) := by omega
    simp only [laws_eqBoolS.f, h1, if_true]
    exact h
  · have h1 : ¬ (a.length : Int) = (b.length : Int) := by omega
    have e : decide (a = b) = false := by
      rw [decide_eq_false_iff_not]; intro h; exact he (by rw [h])
    simp only [laws_eqBoolS.f, h1, if_false]
    rw [e]
    exact Ev.now _

theorem eqBoolS_refl (a : List Bool) (hl : a.length ≤ 140737488355328) : Ev (fun k => laws_eqBoolS.f k a a) true := by
  have h := eqBoolS_ev a a hl
  rwa [decide_eq_true rfl] at h

theorem szDevice_some (a b : List Bool) (c d : List Int) (m : Int) (ha : a.length ≤ maxLen) (hb : b.length ≤ maxLen) (hc : c.length ≤ maxLen) (hd : d.length ≤ maxLen) (h0 : 0 ≤ m) (h1 : m ≤ 1048576) :
    ∃ v, laws_szDevice.f a b c d m = some v ∧ (¬ v < 0 → v = m - a.length - b.length - c.length - d.length ∧ a.length ≤ 1048576 ∧ b.length ≤ 1048576 ∧ c.length ≤ 1048576 ∧ d.length ≤ 1048576) := by
  obtain ⟨v1, e1, g1⟩ := szBoolS_some a m ha h0 h1
  by_cases c1 : v1 < 0
  · exact ⟨-1, by simp only [laws_szDevice.f, e1, Option.bind_some, c1, if_true], fun hn => absurd (by decide) hn⟩
  have p1 := g1 c1
  obtain ⟨v2, e2, g2⟩ := szBoolS_some b v1 hb (by omega) (by omega)
  by_cases c2 : v2 < 0
  · exact ⟨-1, by simp only [laws_szDevice.f, e1, e2, Option.bind_some, c1, c2, if_true, if_false], fun hn => absurd (by decide) hn⟩
  have p2 := g2 c2
  obtain ⟨v3, e3, g3⟩ := szIntS_some c v2 hc (by omega) (by omega)
  by_cases c3 : v3 < 0
  · exact ⟨-1, by simp only [laws_szDevice.f, e1, e2, e3, Option.bind_some, c1, c2, c3, if_true, if_false], fun hn => absurd (by decide) hn⟩
  have p3 := g3 c3
  obtain ⟨v4, e4, g4⟩ := szIntS_some d v3 hd (by omega) (by omega)
  by_cases c4 : v4 < 0
  · exact ⟨-1, by simp only [laws_szDevice.f, e1, e2, e3, e4, Option.bind_some, c1, c2, c3, c4, if_true, if_false], fun hn => absurd (by decide) hn⟩
  have p4 := g4 c4
  exact ⟨v4, by simp only [laws_szDevice.f, e1, e2, e3, e4, Option.bind_some, c1, c2, c3, c4, if_false], fun _ => ⟨by omega, by omega, by omega, by omega, by omega⟩⟩
theorem toDevice_ev (a b : List Bool) (c d : List Int) (ha : a.length ≤ 1048576) (hb : b.length ≤ 1048576) (hc : c.length ≤ 1048576) (hd : d.length ≤ 1048576) : Ev (fun k => laws_toDevice.f k a b c d) (a, b, c, d) := by
  simp only [laws_toDevice.f]
  exact evBind (toBoolS_ev a (by omega)) (evBind (toBoolS_ev b (by omega)) (evBind (toIntS_ev c (by omega)) (evBind (toIntS_ev d (by omega)) (Ev.now _))))
theorem eqDevice_refl (a b : List Bool) (c d : List Int) (ha : a.length ≤ 1048576) (hb : b.length ≤ 1048576) (hc : c.length ≤ 1048576) (hd : d.length ≤ 1048576) : Ev (fun k => laws_eqDevice.f k a b c d a b c d) true := by
  simp only [laws_eqDevice.f]
  refine evBind (eqBoolS_refl a (by omega)) ?_
  simp only [if_true]
  refine evBind (eqBoolS_refl b (by omega)) ?_
  simp only [if_true]
  refine evBind (eqIntS_refl c (by omega)) ?_
  simp only [if_true]
  refine evBind (eqIntS_refl d (by omega)) ?_
  simp only [if_true]
  exact Ev.now _

theorem l5SameBits_l0 (a b : List Bool) (hl : a.length ≤ 140737488355328) (he : a.length = b.length) (d : Nat) : ∀ i : Nat, i ≤ a.length → a.length - i = d →
    Ev (fun k => spec_l5SameBits.l0 k a b (i : Int)) (decide (a.drop i = b.drop i)) := by
  induction d with
  | zero =>
    intro i hi hd
    obtain rfl : i = a.length := by omega
    refine evUp ?_
    have h1 : ¬ ((a.length : Nat) : Int) < (a.length : Int) := by omega
    simp only [spec_l5SameBits.l0, h1, if_false]
    have e : decide (a.drop a.length = b.drop a.length) = true := by
      rw [List.drop_length, he, List.drop_length]; rfl
    rw [e]
    exact Ev.now _
  | succ d ih =>
    intro i hi hd
    have ha : i < a.length := by omega
    have hb : i < b.length := by omega
    refine evUp ?_
    have h1 : (i : Int) < (a.length : Int) := by omega
    have h2 : 0 ≤ (i : Int) := by omega
    have h3 : (i : Int) < (b.length : Int) := by omega
    simp only [spec_l5SameBits.l0, h1, h2, h3, if_true]
    rw [rdOf_get ha, rdOf_get hb, w64 (by omega) (by omega)]
    by_cases e : a[i] = b[i]
    · simp only [e, bne_self_eq_false, Bool.false_eq_true, if_false]
      have e2 : decide (a.drop i = b.drop i) = decide (a.drop (i + 1) = b.drop (i + 1)) := by
        rw [decide_eq_decide, drop_eq_iff ha hb]; simp [e]
      rw [e2]
      exact ih (i + 1) (by omega) (by omega)
    · have e3 : (a[i] != b[i]) = true := by simpa using e
      simp only [e3, if_true]
      have e2 : decide (a.drop i = b.drop i) = false := by
        rw [decide_eq_false_iff_not, drop_eq_iff ha hb]; simp [e]
      rw [e2]
      exact Ev.now _

theorem l5SameBits_ev (a b : List Bool) (hl : a.length ≤ 140737488355328) : Ev (fun k => spec_l5SameBits.f k a b) (decide (a = b)) := by
  by_cases he : a.length = b.length
  · have h := l5SameBits_l0 a b hl he a.length 0 (by omega) (by omega)
    have h1 : (a.length : Int) = (b.length : Int) := by omega
    simp only [spec_l5SameBits.f, h1, if_true]
    exact h
  · have h1 : ¬ (a.length : Int) = (b.length : Int) := by omega
    have e : decide (a = b) = false := by
      rw [decide_eq_false_iff_not]; intro h; exact he (by rw [h])
    simp only [spec_l5SameBits.f, h1, if_false]
    rw [e]
    exact Ev.now _

theorem l5SameBits_refl (a : List Bool) (hl : a.length ≤ 140737488355328) : Ev (fun k => spec_l5SameBits.f k a a) true := by
  have h := l5SameBits_ev a a hl
  rwa [decide_eq_true rfl] at h

theorem l4SameWords_l0 (a b : List Int) (hl : a.length ≤ 140737488351232) (he : a.length = b.length) (d : Nat) : ∀ i : Nat, i ≤ a.length → a.length - i = d →
    Ev (fun k => spec_l4SameWords.l0 k a b (i : Int)) (decide (a.drop i = b.drop i)) := by
  induction d with
  | zero =>
    intro i hi hd
    obtain rfl : i = a.length := by omega
    refine evUp ?_
    have h1 : ¬ ((a.length : Nat) : Int) < (a.length : Int) := by omega
    simp only [spec_l4SameWords.l0, h1, if_false]
    have e : decide (a.drop a.length = b.drop a.length) = true := by
      rw [List.drop_length, he, List.drop_length]; rfl
    rw [e]
    exact Ev.now _
  | succ d ih =>
    intro i hi hd
    have ha : i < a.length := by omega
    have hb : i < b.length := by omega
    refine evUp ?_
    have h1 : (i : Int) < (a.length : Int) := by omega
    have h2 : 0 ≤ (i : Int) := by omega
    have h3 : (i : Int) < (b.length : Int) := by omega
    simp only [spec_l4SameWords.l0, h1, h2, h3, if_true]
    rw [rd_get ha, rd_get hb, w64 (by omega) (by omega)]
    by_cases e : a[i] = b[i]
    · simp only [e, if_true]
      have e2 : decide (a.drop i = b.drop i) = decide (a.drop (i + 1) = b.drop (i + 1)) := by
        rw [decide_eq_decide, drop_eq_iff ha hb]; simp [e]
      rw [e2]
      exact ih (i + 1) (by omega) (by omega)
    · simp only [e, if_false]
      have e2 : decide (a.drop i = b.drop i) = false := by
        rw [decide_eq_false_iff_not, drop_eq_iff ha hb]; simp [e]
      rw [e2]
      exact Ev.now _

theorem l4SameWords_ev (a b : List Int) (hl : a.length ≤ 140737488351232) : Ev (fun k => spec_l4SameWords.f k a b) (decide (a = b)) := by
  by_cases he : a.length = b.length
  · have h := l4SameWords_l0 a b hl he a.length 0 (by omega) (by omega)
    have h1 : (a.length : Int) = (b.length : Int) := by omega
    simp only [spec_l4SameWords.f, h1, if_true]
    exact h
  · have h1 : ¬ (a.length : Int) = (b.length : Int) := by omega
    have e : decide (a = b) = false := by
      rw [decide_eq_false_iff_not]; intro h; exact he (by rw [h])
    simp only [spec_l4SameWords.f, h1, if_false]
    rw [e]
    exact Ev.now _

theorem l4SameWords_refl (a : List Int) (hl : a.length ≤ 140737488351232) : Ev (fun k => spec_l4SameWords.f k a a) true := by
  have h := l4SameWords_ev a a hl
  rwa [decide_eq_true rfl] at h

theorem equalB_l0 (a b : List Bool) (hl : a.length ≤ 140737488355328) (he : a.length = b.length) (d : Nat) : ∀ i : Nat, i ≤ a.length → a.length - i = d →
    Ev (fun k => slices_Equal_bool_bool.l0 k a b (a.length : Int) (i : Int)) (decide (a.drop i = b.drop i)) := by
  induction d with
  | zero =>
    intro i hi hd
    obtain rfl : i = a.length := by omega
    refine evUp ?_
    have h1 : ¬ ((a.length : Nat) : Int) < (a.length : Int) := by omega
    simp only [slices_Equal_bool_bool.l0, h1, if_false]
    have e : decide (a.drop a.length = b.drop a.length) = true := by
      rw [List.drop_length, he, List.drop_length]; rfl
    rw [e]
    exact Ev.now _
  | succ d ih =>
    intro i hi hd
    have ha : i < a.length := by omega
    have hb : i < b.length := by omega
    refine evUp ?_
    have h1 : (i : Int) < (a.length : Int) := by omega
    have h2 : 0 ≤ (i : Int) := by omega
    have h3 : (i : Int) < (b.length : Int) := by omega
    simp only [slices_Equal_bool_bool.l0, h1, h2, h3, if_true]
    rw [rdOf_get ha, rdOf_get hb, w64 (by omega) (by omega)]
    by_cases e : a[i] = b[i]
    · simp only [e, bne_self_eq_false, Bool.false_eq_true, if_false]
      have e2 : decide (a.drop i = b.drop i) = decide (a.drop (i + 1) = b.drop (i + 1)) := by
        rw [decide_eq_decide, drop_eq_iff ha hb]; simp [e]
      rw [e2]
      exact ih (i + 1) (by omega) (by omega)
    · have e3 : (a[i] != b[i]) = true := by simpa using e
      simp only [e3, if_true]
      have e2 : decide (a.drop i = b.drop i) = false := by
        rw [decide_eq_false_iff_not, drop_eq_iff ha hb]; simp [e]
      rw [e2]
      exact Ev.now _

theorem equalB_ev (a b : List Bool) (hl : a.length ≤ 140737488355328) : Ev (fun k => slices_Equal_bool_bool.f k a b) (decide (a = b)) := by
  by_cases he : a.length = b.length
  · have h := equalB_l0 a b hl he a.length 0 (by omega) (by omega)
    have h1 : (a.length : Int) = (b.length : Int) := by omega
    simp only [slices_Equal_bool_bool.f, if_pos h1]
    exact h
  · have h1 : ¬ (a.length : Int) = (b.length : Int) := by omega
    have e : decide (a = b) = false := by
      rw [decide_eq_false_iff_not]; intro h; exact he (by rw [h])
    simp only [slices_Equal_bool_bool.f, h1, if_false]
    rw [e]
    exact Ev.now _

theorem equalB_refl (a : List Bool) (hl : a.length ≤ 140737488355328) : Ev (fun k => slices_Equal_bool_bool.f k a a) true := by
  have h := equalB_ev a a hl
  rwa [decide_eq_true rfl] at h

theorem equalI_l0 (a b : List Int) (hl : a.length ≤ 140737488351232) (he : a.length = b.length) (d : Nat) : ∀ i : Nat, i ≤ a.length → a.length - i = d →
    Ev (fun k => slices_Equal_int_int.l0 k a b (a.length : Int) (i : Int)) (decide (a.drop i = b.drop i)) := by
  induction d with
  | zero =>
    intro i hi hd
    obtain rfl : i = a.length := by omega
    refine evUp ?_
    have h1 : ¬ ((a.length : Nat) : Int) < (a.length : Int) := by omega
    simp only [slices_Equal_int_int.l0, h1, if_false]
    have e : decide (a.drop a.length = b.drop a.length) = true := by
      rw [List.drop_length, he, List.drop_length]; rfl
    rw [e]
    exact Ev.now _
  | succ d ih =>
    intro i hi hd
    have ha : i < a.length := by omega
    have hb : i < b.length := by omega
    refine evUp ?_
    have h1 : (i : Int) < (a.length : Int) := by omega
    have h2 : 0 ≤ (i : Int) := by omega
    have h3 : (i : Int) < (b.length : Int) := by omega
    simp only [slices_Equal_int_int.l0, h1, h2, h3, if_true]
    rw [rd_get ha, rd_get hb, w64 (by omega) (by omega)]
    by_cases e : a[i] = b[i]
    · simp only [e, if_true]
      have e2 : decide (a.drop i = b.drop i) = decide (a.drop (i + 1) = b.drop (i + 1)) := by
        rw [decide_eq_decide, drop_eq_iff ha hb]; simp [e]
      rw [e2]
      exact ih (i + 1) (by omega) (by omega)
    · simp only [e, if_false]
      have e2 : decide (a.drop i = b.drop i) = false := by
        rw [decide_eq_false_iff_not, drop_eq_iff ha hb]; simp [e]
      rw [e2]
      exact Ev.now _

theorem equalI_ev (a b : List Int) (hl : a.length ≤ 140737488351232) : Ev (fun k => slices_Equal_int_int.f k a b) (decide (a = b)) := by
  by_cases he : a.length = b.length
  · have h := equalI_l0 a b hl he a.length 0 (by omega) (by omega)
    have h1 : (a.length : Int) = (b.length : Int) := by omega
    simp only [slices_Equal_int_int.f, if_pos h1]
    exact h
  · have h1 : ¬ (a.length : Int) = (b.length : Int) := by omega
    have e : decide (a = b) = false := by
      rw [decide_eq_false_iff_not]; intro h; exact he (by rw [h])
    simp only [slices_Equal_int_int.f, h1, if_false]
    rw [e]
    exact Ev.now _

theorem equalI_refl (a : List Int) (hl : a.length ≤ 140737488351232) : Ev (fun k => slices_Equal_int_int.f k a a) true := by
  have h := equalI_ev a a hl
  rwa [decide_eq_true rfl] at h

theorem iteS (b c : Bool) : (if b = true then some c else some false) = some (b && c) := by cases b <;> rfl
/-- Are two devices alike? -/
def sameB (a b : List Bool) (c d : List Int) (a1 b1 : List Bool) (c1 d1 : List Int) : Bool := if decide (a = a1) = true then (if decide (b = b1) = true then (if decide (c = c1) = true then decide (d = d1) else false) else false) else false
theorem spec_SameDevice_ev (a b : List Bool) (c d : List Int) (a1 b1 : List Bool) (c1 d1 : List Int) (h1 : a.length ≤ 1048576) (h2 : b.length ≤ 1048576) (h3 : c.length ≤ 1048576) (h4 : d.length ≤ 1048576) :
    Ev (fun k => spec_SameDevice.f k a b c d a1 b1 c1 d1) (sameB a b c d a1 b1 c1 d1) := by
  simp only [spec_SameDevice.f, sameB]
  refine evBind (l5SameBits_ev a a1 (by omega)) ?_
  split
  · refine evBind (l5SameBits_ev b b1 (by omega)) ?_
    split
    · refine evBind (l4SameWords_ev c c1 (by omega)) ?_
      split
      · refine evBind (l4SameWords_ev d d1 (by omega)) ?_
        exact Ev.now _
      · exact Ev.now _
    · exact Ev.now _
  · exact Ev.now _
theorem impl_SameDevice_ev (a b : List Bool) (c d : List Int) (a1 b1 : List Bool) (c1 d1 : List Int) (h1 : a.length ≤ 1048576) (h2 : b.length ≤ 1048576) (h3 : c.length ≤ 1048576) (h4 : d.length ≤ 1048576) :
    Ev (fun k => impl_SameDevice.f k a b c d a1 b1 c1 d1) (sameB a b c d a1 b1 c1 d1) := by
  simp only [impl_SameDevice.f, sameB]
  refine evBind (equalB_ev a a1 (by omega)) ?_
  split
  · refine evBind (equalB_ev b b1 (by omega)) ?_
    split
    · refine evBind (equalI_ev c c1 (by omega)) ?_
      split
      · refine evBind (equalI_ev d d1 (by omega)) ?_
        exact Ev.now _
      · exact Ev.now _
    · exact Ev.now _
  · exact Ev.now _

theorem FnExactSameDevice : laws_FnExactSameDevice.Pure := by
  intro a b c d a1 b1 c1 d1 g1 g2 g3 _ g4 _ g5 g6 g7 _ g8 _
  refine Ev.rounds (g := fun k => laws_FnExactSameDevice.f k a b c d a1 b1 c1 d1) ?_
  obtain ⟨v, e, h⟩ := szDevice_some a b c d 1048576 g1 g2 g3 g4 (by omega) (by omega)
  by_cases q1 : v < 0
  · simp only [laws_FnExactSameDevice.f, e, Option.bind_some, q1, if_true]; exact Ev.now _
  · have hl := h q1
    obtain ⟨v2, e2, h2⟩ := szDevice_some a1 b1 c1 d1 v g5 g6 g7 g8 (by omega) (by omega)
    by_cases q2 : v2 < 0
    · simp only [laws_FnExactSameDevice.f, e, e2, Option.bind_some, q1, q2, if_true, if_false]; exact Ev.now _
    · have hl2 := h2 q2
      have t1 := toDevice_ev a b c d (by omega) (by omega) (by omega) (by omega)
      have t2 := toDevice_ev a1 b1 c1 d1 (by omega) (by omega) (by omega) (by omega)
      have s1 := spec_SameDevice_ev a b c d a1 b1 c1 d1 (by omega) (by omega) (by omega) (by omega)
      have s2 := impl_SameDevice_ev a b c d a1 b1 c1 d1 (by omega) (by omega) (by omega) (by omega)
      simp only [laws_FnExactSameDevice.f, e, e2, Option.bind_some, q1, q2, if_false]
      refine evBind t1 ?_
      refine evBind t2 ?_
      refine evBind s1 ?_
      refine evBind t1 ?_
      refine evBind t2 ?_
      refine evBind s2 ?_
      simp only [bne_self_eq_false, Bool.false_eq_true, if_false]
      refine evBind t1 ?_
      refine evBind (eqDevice_refl a b c d (by omega) (by omega) (by omega) (by omega)) ?_
      simp only [if_true]
      refine evBind t2 ?_
      refine evBind (eqDevice_refl a1 b1 c1 d1 (by omega) (by omega) (by omega) (by omega)) ?_
      simp only [if_true]
      exact Ev.now _

end Go.Proofs.Ytnikdfcdddlfbaa.Pure
