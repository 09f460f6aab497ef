/- The law on RtuNew is true at every two numbers. No condition. -/
import Derived.Test.YtnikdfcdddlfbaaPFnExactRtuNewx2
import Derived.Test.YtnikdfcdddlfbaaC
namespace Go.Proofs.Ytnikdfcdddlfbaa.Pure
open Go Go.RowKit Go.Proofs.Ytnikdfcdddlfbaa.PFnExactRtuNew Go.Proofs.YtnikdfcdddlfbaaW.PrintWords Go.Proofs.YtnikdfcdddlfbaaW.PrintLast Go.Proofs.Ytnikdfcdddlfbaa.PlainC
set_option linter.unusedVariables false
set_option linter.unusedSimpArgs false

theorem eqByteS_l0 (a b : List Int) (hl : a.length ≤ 140737488351232) (he : a.length = b.length) (d : Nat) : ∀ i : Nat, i ≤ a.length → a.length - i = d →
    Ev (fun k => laws_eqByteS.l0 k a b (i : Int)) (decide (a.drop i = b.drop i)) := by
  induction d with
  | zero =>
    intro i hi hd
    obtain rfl : i = a.length := by omega
    refine evUp ?_
    have h1 : ¬ ((a.length : Nat) : Int) < (a.length : Int) := by omega
    simp only [laws_eqByteS.l0, h1, if_false]
    have e : decide (a.drop a.length = b.drop a.length) = true := by
      rw [List.drop_length, he, List.drop_length]; rfl
    rw [e]
    exact Ev.now _
  | succ d ih =>
    intro i hi hd
    have ha : i < a.length := by omega
    have hb : i < b.length := by omega
    refine evUp ?_
    have h1 : (i : Int) < (a.length : Int) := by omega
    have h2 : 0 ≤ (i : Int) := by omega
    have h3 : (i : Int) < (b.length : Int) := by omega
    simp only [laws_eqByteS.l0, h1, h2, h3, if_true]
    rw [rd_get ha, rd_get hb, w64 (by omega) (by omega)]
    by_cases e : a[i] = b[i]
    · simp only [e, if_true]
      have e2 : decide (a.drop i = b.drop i) = decide (a.drop (i + 1) = b.drop (i + 1)) := by
        rw [decide_eq_decide, drop_eq_iff ha hb]; simp [e]
      rw [e2]
      exact ih (i + 1) (by omega) (by omega)
    · simp only [e, if_false]
      have e2 : decide (a.drop i = b.drop i) = false := by
        rw [decide_eq_false_iff_not, drop_eq_iff ha hb]; simp [e]
      rw [e2]
      exact Ev.now _

theorem eqByteS_ev (a b : List Int) (hl : a.length ≤ 140737488351232) : Ev (fun k => laws_eqByteS.f k a b) (decide (a = b)) := by
  by_cases he : a.length = b.length
  · have h := eqByteS_l0 a b hl he a.length 0 (by omega) (by omega)
    have h1 : (a.length : Int) = (b.length : Int) := by omega
    simp only [laws_eqByteS.f, h1, if_true]
    exact h
  · have h1 : ¬ (a.length : Int) = (b.length : Int) := by omega
    have e : decide (a = b) = false := by
      rw [decide_eq_false_iff_not]; intro h; exact he (by rw [h])
    simp only [laws_eqByteS.f, h1, if_false]
    rw [e]
    exact Ev.now _

theorem eqByteS_refl (a : List Int) (hl : a.length ≤ 140737488351232) : Ev (fun k => laws_eqByteS.f k a a) true := by
  have h := eqByteS_ev a a hl
  rwa [decide_eq_true rfl] at h

theorem markByteS_l0 (l : List Int) (k0 : Int) (hk0 : 0 ≤ k0) (hk : k0 + l.length ≤ 4611686018427387904) (hl : l.length ≤ 140737488355328) (d : Nat) : ∀ i : Nat, i ≤ l.length → l.length - i = d →
    Ev (fun k => laws_markByteS.l0 k (marks (· % 256) k0 i ++ l.drop i) (k0 + i) (i : Int)) (k0 + l.length, marks (· % 256) k0 l.length) := by
  induction d with
  | zero =>
    intro i hi hd
    obtain rfl : i = l.length := by omega
    refine evUp ?_
    have h1 : ¬ ((l.length : Nat) : Int) < (((marks (· % 256) k0 l.length ++ l.drop l.length).length : Nat) : Int) := by
      rw [List.length_append, marks_length, List.drop_length, List.length_nil]; omega
    simp only [laws_markByteS.l0, h1, if_false]
    rw [List.drop_length, List.append_nil]
    exact Ev.now _
  | succ d ih =>
    intro i hi hd
    have hlt : i < l.length := by omega
    refine evUp ?_
    have h1 : (i : Int) < (((marks (· % 256) k0 i ++ l.drop i).length : Nat) : Int) := by
      rw [List.length_append, marks_length, List.length_drop]; omega
    have h2 : 0 ≤ (i : Int) := by omega
    simp only [laws_markByteS.l0, h1, h2, if_true]
    rw [Int.toNat_natCast, set_next _ l _ i (marks_length _ _ _) hlt, w64 (x := k0 + i + 1) (by omega) (by omega), w64 (x := (i : Int) + 1) (by omega) (by omega)]
    have h := ih (i + 1) (by omega) (by omega)
    rw [marks_succ] at h
    rw [show k0 + (i : Int) + 1 = k0 + ((i + 1 : Nat) : Int) from by omega]
    exact h

theorem markByteS_ev (l : List Int) (k0 : Int) (hk0 : 0 ≤ k0) (hk : k0 + l.length ≤ 4611686018427387904) (hl : l.length ≤ 140737488355328) :
    Ev (fun k => laws_markByteS.f k l k0) (k0 + l.length, marks (· % 256) k0 l.length) := by
  have h := markByteS_l0 l k0 hk0 hk hl l.length 0 (by omega) (by omega)
  simp only [laws_markByteS.f]
  simpa [marks] using h

theorem heldByteS_l0 (n : Nat) (k0 : Int) (hk0 : 0 ≤ k0) (hk : k0 + n ≤ 4611686018427387904) (hl : n ≤ 140737488355328) (d : Nat) : ∀ i : Nat, i ≤ n → n - i = d →
    Ev (fun k => laws_heldByteS.l0 k (marks (· % 256) k0 n) (k0 + i) (i : Int)) (k0 + n) := by
  induction d with
  | zero =>
    intro i hi hd
    obtain rfl : i = n := by omega
    refine evUp ?_
    have h1 : ¬ ((i : Nat) : Int) < (((marks (· % 256) k0 i).length : Nat) : Int) := by rw [marks_length]; omega
    simp only [laws_heldByteS.l0, h1, if_false]
    exact Ev.now _
  | succ d ih =>
    intro i hi hd
    have hlt : i < n := by omega
    refine evUp ?_
    have h1 : (i : Int) < (((marks (· % 256) k0 n).length : Nat) : Int) := by rw [marks_length]; omega
    have h2 : 0 ≤ (i : Int) := by omega
    have h3 : rd (marks (· % 256) k0 n) (i : Int) = (k0 + i) % 256 := by
      rw [rd_get (by rw [marks_length]; exact hlt), marks_get _ _ _ _ hlt]
    simp only [laws_heldByteS.l0, h1, h2, h3, if_true]
    rw [w64 (x := k0 + i + 1) (by omega) (by omega), w64 (x := (i : Int) + 1) (by omega) (by omega)]
    rw [show k0 + (i : Int) + 1 = k0 + ((i + 1 : Nat) : Int) from by omega]
    exact ih (i + 1) (by omega) (by omega)

theorem heldByteS_ev (n : Nat) (k0 : Int) (hk0 : 0 ≤ k0) (hk : k0 + n ≤ 4611686018427387904) (hl : n ≤ 140737488355328) :
    Ev (fun k => laws_heldByteS.f k (marks (· % 256) k0 n) k0) (k0 + n) := by
  have h := heldByteS_l0 n k0 hk0 hk hl n 0 (by omega) (by omega)
  simp only [laws_heldByteS.f]
  simpa using h

theorem impl_isTick_eq (t : Int) : impl_isTick.f t = some (decide (0 ≤ t ∧ t ≤ 4294967295)) := by
  by_cases h0 : t ≥ 0
  · have h1 : 0 ≤ t := h0
    simp only [impl_isTick.f, impl_in.f, h0, h1, if_true, Option.bind_some, true_and]
  · have h1 : ¬ 0 ≤ t := h0
    simp only [impl_isTick.f, impl_in.f, h0, h1, if_false, Option.bind_some, false_and, decide_false]

def newOf (a b : Int) : List Int × Int × Bool × Int × Int := if (1 ≤ a ∧ a ≤ 1000) ∧ a ≤ b ∧ b ≤ 1000 then ([], 0, false, a, b) else ([], 0, false, 0, 0)

theorem spec_RtuNew_eq (a b : Int) : spec_RtuNew.f a b = some (newOf a b) := by
  by_cases h1 : a ≥ 1
  · by_cases h2 : a ≤ 1000
    · by_cases h3 : b ≥ a
      · by_cases h4 : b ≤ 1000
        · have e : newOf a b = ([], 0, false, a, b) := by unfold newOf; rw [if_pos (by omega)]
          simp only [spec_RtuNew.f, spec_l1In.f, h1, h2, h3, h4, if_true, decide_true, Option.bind_some, e]
        · have e : newOf a b = ([], 0, false, 0, 0) := by unfold newOf; rw [if_neg (by omega)]
          simp only [spec_RtuNew.f, spec_l1In.f, h1, h2, h3, h4, if_true, decide_true, decide_false, Bool.false_eq_true, if_false, Option.bind_some, e]
      · have e : newOf a b = ([], 0, false, 0, 0) := by unfold newOf; rw [if_neg (by omega)]
        simp only [spec_RtuNew.f, spec_l1In.f, h1, h2, h3, if_true, decide_true, Bool.false_eq_true, if_false, Option.bind_some, e]
    · have e : newOf a b = ([], 0, false, 0, 0) := by unfold newOf; rw [if_neg (by omega)]
      simp only [spec_RtuNew.f, spec_l1In.f, h1, h2, if_true, decide_false, Bool.false_eq_true, if_false, Option.bind_some, e]
  · have e : newOf a b = ([], 0, false, 0, 0) := by unfold newOf; rw [if_neg (by omega)]
    simp only [spec_RtuNew.f, spec_l1In.f, h1, Bool.false_eq_true, if_false, Option.bind_some, e]

theorem impl_RtuNew_eq (a b : Int) : impl_RtuNew.f a b = some (newOf a b) := by
  have g1 : (([] : List Int).length : Int) ≤ 257 := by simp
  have g2 : ¬ (([] : List Int).length : Int) > 0 := by simp
  have g3 : decide ((0 : Int) ≤ 0 ∧ (0 : Int) ≤ 4294967295) = true := by decide
  by_cases h1 : a ≥ 1
  · by_cases h2 : a ≤ 1000
    · by_cases h3 : b ≥ a
      · by_cases h4 : b ≤ 1000
        · have e : newOf a b = ([], 0, false, a, b) := by unfold newOf; rw [if_pos (by omega)]
          simp only [impl_RtuNew.f, impl_RtuOk.f, impl_isTick_eq, impl_in.f, g1, g2, g3, h1, h2, h3, h4, Bool.false_eq_true, if_false, if_true, decide_true, Option.bind_some, e]
        · have e : newOf a b = ([], 0, false, 0, 0) := by unfold newOf; rw [if_neg (by omega)]
          simp only [impl_RtuNew.f, impl_RtuOk.f, impl_isTick_eq, impl_in.f, g1, g2, g3, h1, h2, h3, h4, if_true, decide_true, decide_false, Bool.false_eq_true, if_false, Option.bind_some, e]
      · have e : newOf a b = ([], 0, false, 0, 0) := by unfold newOf; rw [if_neg (by omega)]
        simp only [impl_RtuNew.f, impl_RtuOk.f, impl_isTick_eq, impl_in.f, g1, g2, g3, h1, h2, h3, if_true, decide_true, Bool.false_eq_true, if_false, Option.bind_some, e]
    · have e : newOf a b = ([], 0, false, 0, 0) := by unfold newOf; rw [if_neg (by omega)]
      simp only [impl_RtuNew.f, impl_RtuOk.f, impl_isTick_eq, impl_in.f, g1, g2, g3, h1, h2, if_true, decide_false, Bool.false_eq_true, if_false, Option.bind_some, e]
  · have e : newOf a b = ([], 0, false, 0, 0) := by unfold newOf; rw [if_neg (by omega)]
    simp only [impl_RtuNew.f, impl_RtuOk.f, impl_isTick_eq, impl_in.f, g1, g2, g3, h1, if_true, Bool.false_eq_true, if_false, Option.bind_some, e]

theorem eqRtu_refl (l : List Int) (a : Int) (b : Bool) (c d : Int) (hl : l.length ≤ 1000) : Ev (fun k => laws_eqRtu.f k l a b c d l a b c d) true := by
  simp only [laws_eqRtu.f]
  refine evBind (eqByteS_refl l (by omega)) ?_
  simp only [if_true, bne_self_eq_false, Bool.false_eq_true, if_false]
  exact Ev.now _
theorem markRtu_ev (l : List Int) (a : Int) (b : Bool) (c d : Int) (hl : l.length ≤ 1000) : Ev (fun k => laws_markRtu.f k l a b c d 1) (1 + l.length, marks (· % 256) 1 l.length) := by
  simp only [laws_markRtu.f]
  refine evBind (markByteS_ev l 1 (by omega) (by omega) (by omega)) ?_
  exact Ev.now _
theorem heldRtu_ev (n : Nat) (a : Int) (b : Bool) (c d : Int) (hl : n ≤ 1000) : Ev (fun k => laws_heldRtu.f k (marks (· % 256) 1 n) a b c d 1) (1 + n) := by
  simp only [laws_heldRtu.f]
  refine evBind (heldByteS_ev n 1 (by omega) (by omega) (by omega)) ?_
  have n1 : ¬ (1 + (n : Int) < 0) := by omega
  simp only [n1, if_false]
  exact Ev.now _

theorem FnExactRtuNew : laws_FnExactRtuNew.Pure := by
  intro a b _ _
  refine Ev.rounds (g := fun k => laws_FnExactRtuNew.f k a b) ?_
  have hlen : (newOf a b).1.length ≤ 1000 := by unfold newOf; split <;> simp
  simp only [laws_FnExactRtuNew.f, spec_RtuNew_eq, impl_RtuNew_eq, Option.bind_some]
  generalize newOf a b = R at hlen
  have n2 : ¬ (1 + (R.1.length : Int) < 0) := by omega
  refine evBind (eqRtu_refl R.1 _ _ _ _ hlen) ?_
  simp only [if_true]
  refine evBind (markRtu_ev R.1 _ _ _ _ hlen) ?_
  refine evBind (heldRtu_ev R.1.length _ _ _ _ hlen) ?_
  simp only [n2, if_false, if_true]
  refine evBind (eqRtu_refl R.1 _ _ _ _ hlen) ?_
  simp only [if_true]
  refine evBind (heldRtu_ev R.1.length _ _ _ _ hlen) ?_
  simp only [n2, if_false, if_true]
  exact Ev.now _

end Go.Proofs.Ytnikdfcdddlfbaa.Pure
