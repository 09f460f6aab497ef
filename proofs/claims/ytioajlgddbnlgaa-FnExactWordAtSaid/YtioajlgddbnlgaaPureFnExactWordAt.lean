/- The law on WordAt is true at every slice and place. No condition. -/
import Derived.Test.YtioajlgddbnlgaaPFnExactWordAtx1
import Derived.Test.YtioajlgddbnlgaaC
namespace Go.Proofs.Ytioajlgddbnlgaa.Pure
open Go Go.RowKit Go.Proofs.Ytioajlgddbnlgaa.PFnExactWordAt Go.Proofs.YtioajlgddbnlgaaW.PrintWords Go.Proofs.YtioajlgddbnlgaaW.PrintLast Go.Proofs.Ytioajlgddbnlgaa.PlainC
set_option linter.unusedVariables false
set_option linter.unusedSimpArgs false

theorem toByteS_l0 (l : List Int) (hl : l.length ≤ 140737488351232) (d : Nat) : ∀ i : Nat, i ≤ l.length → l.length - i = d →
    Ev (fun k => laws_toByteS.l0 k l (l.take i ++ List.replicate (l.length - i) 0) (i : Int)) l := by
  induction d with
  | zero =>
    intro i hi hd
    obtain rfl : i = l.length := by omega
    refine evUp ?_
    have h1 : ¬ ((l.length : Nat) : Int) < (l.length : Int) := by omega
    simp only [laws_toByteS.l0, h1, if_false]
    rw [List.take_length, Nat.sub_self, List.replicate_zero, List.append_nil]
    exact Ev.now _
  | succ d ih =>
    intro i hi hd
    have hlt : i < l.length := by omega
    refine evUp ?_
    have h1 : (i : Int) < (l.length : Int) := by omega
    have h2 : 0 ≤ (i : Int) := by omega
    have h3 : (i : Int) < ((l.take i ++ List.replicate (l.length - i) (0 : Int)).length : Int) := by
      rw [List.length_append, List.length_take, List.length_replicate]; omega
    simp only [laws_toByteS.l0, h1, h2, h3, if_true]
    rw [rd_get hlt, Int.toNat_natCast, set_copy (0 : Int) l i hlt, w64 (by omega) (by omega)]
    exact ih (i + 1) (by omega) (by omega)

theorem toByteS_ev (l : List Int) (hl : l.length ≤ 140737488351232) : Ev (fun k => laws_toByteS.f k l) l := by
  have h := toByteS_l0 l hl l.length 0 (by omega) (by omega)
  have h1 : 0 ≤ (l.length : Int) := by omega
  have h2 : ((l.length : Int)).toNat ≤ 281474976710656 := by omega
  simp only [laws_toByteS.f, h1, h2, if_true]
  rw [Int.toNat_natCast]
  simpa using h

theorem eqByteS_l0 (a b : List Int) (hl : a.length ≤ 140737488351232) (he : a.length = b.length) (d : Nat) : ∀ i : Nat, i ≤ a.length → a.length - i = d →
    Ev (fun k => laws_eqByteS.l0 k a b (i : Int)) (decide (a.drop i = b.drop i)) := by
  induction d with
  | zero =>
    intro i hi hd
    obtain rfl : i = a.length := by omega
    refine evUp ?_
    have h1 : ¬ ((a.length : Nat) : Int) < (a.length : Int) := by omega
    simp only [laws_eqByteS.l0, h1, if_false]
    have e : decide (a.drop a.length = b.drop a.length) = true := by
      rw [List.drop_length, he, List.drop_length]; rfl
    rw [e]
    exact Ev.now _
  | succ d ih =>
    intro i hi hd
    have ha : i < a.length := by omega
    have hb : i < b.length := by omega
    refine evUp ?_
    have h1 : (i : Int) < (a.length : Int) := by omega
    have h2 : 0 ≤ (i : Int) := by omega
    have h3 : (i : Int) < (b.length : Int) := by omega
    simp only [laws_eqByteS.l0, h1, h2, h3, if_true]
    rw [rd_get ha, rd_get hb, w64 (by omega) (by omega)]
    by_cases e : a[i] = b[i]
    · simp only [e, if_true]
      have e2 : decide (a.drop i = b.drop i) = decide (a.drop (i + 1) = b.drop (i + 1)) := by
        rw [decide_eq_decide, drop_eq_iff ha hb]; simp [e]
      rw [e2]
      exact ih (i + 1) (by omega) (by omega)
    · simp only [e, if_false]
      have e2 : decide (a.drop i = b.drop i) = false := by
        rw [decide_eq_false_iff_not, drop_eq_iff ha hb]; simp [e]
      rw [e2]
      exact Ev.now _

theorem eqByteS_ev (a b : List Int) (hl : a.length ≤ 140737488351232) : Ev (fun k => laws_eqByteS.f k a b) (decide (a = b)) := by
  by_cases he : a.length = b.length
  · have h := eqByteS_l0 a b hl he a.length 0 (by omega) (by omega)
    have h1 : (a.length : Int) = (b.length : Int) := by omega
    simp only [laws_eqByteS.f, h1, if_true]
    exact h
  · have h1 : ¬ (a.length : Int) = (b.length : Int) := by omega
    have e : decide (a = b) = false := by
      rw [decide_eq_false_iff_not]; intro h; exact he (by rw [h])
    simp only [laws_eqByteS.f, h1, if_false]
    rw [e]
    exact Ev.now _

theorem eqByteS_refl (a : List Int) (hl : a.length ≤ 140737488351232) : Ev (fun k => laws_eqByteS.f k a a) true := by
  have h := eqByteS_ev a a hl
  rwa [decide_eq_true rfl] at h

/-- The word that lies at a place, where it lies there whole. -/
def wordOf (l : List Int) (a : Int) : Int × Bool := if 0 ≤ a ∧ a + 2 ≤ (l.length : Int) then (rd l a * 256 + rd l (a + 1), true) else (0, false)

theorem impl_WordAt_eq (l : List Int) (a : Int) (hl : l.length ≤ 140737488355328) (hb : B8 l) : impl_WordAt.f l a = some (wordOf l a) := by
  have e0 : wrap64 ((l.length : Int) - 2) = (l.length : Int) - 2 := w64 (by omega) (by omega)
  by_cases h0 : a ≥ 0
  · by_cases h1 : a ≤ (l.length : Int) - 2
    · have h2 : a < (l.length : Int) := by omega
      have e1 : wrap64 (a + 1) = a + 1 := w64 (by omega) (by omega)
      have h3 : 0 ≤ a + 1 := by omega
      have h4 : a + 1 < (l.length : Int) := by omega
      have h5 : 0 ≤ a := h0
      have r1 := hb.rd (i := a) h5 h2
      have r2 := hb.rd (i := a + 1) h3 h4
      have hw : wordOf l a = (rd l a * 256 + rd l (a + 1), true) := by unfold wordOf; rw [if_pos ⟨h5, by omega⟩]
      simp only [impl_WordAt.f, impl_in.f, e0, h0, h1, if_true, decide_true, Option.bind_some, h5, h2, e1, h3, h4, hw]
      rw [w64 (x := rd l a) (by omega) (by omega), w64 (x := rd l (a + 1)) (by omega) (by omega), w64 (x := rd l a * 256) (by omega) (by omega), or_byte r1.1 r1.2 r2.1 r2.2]
    · have hw : wordOf l a = (0, false) := by unfold wordOf; rw [if_neg (by omega)]
      simp only [impl_WordAt.f, impl_in.f, e0, h0, h1, if_true, decide_false, Bool.false_eq_true, if_false, Option.bind_some, hw]
  · have hw : wordOf l a = (0, false) := by unfold wordOf; rw [if_neg (by omega)]
    simp only [impl_WordAt.f, impl_in.f, e0, h0, Bool.false_eq_true, if_false, Option.bind_some, hw]


theorem spec_WordAt_eq (l : List Int) (a : Int) (hl : l.length ≤ 140737488355328) (hb : B8 l) : spec_WordAt.f l a = some (wordOf l a) := by
  have e0 : wrap64 ((l.length : Int) - 2) = (l.length : Int) - 2 := w64 (by omega) (by omega)
  by_cases h0 : a ≥ 0
  · by_cases h1 : a ≤ (l.length : Int) - 2
    · have h2 : a < (l.length : Int) := by omega
      have e1 : wrap64 (a + 1) = a + 1 := w64 (by omega) (by omega)
      have h3 : 0 ≤ a + 1 := by omega
      have h4 : a + 1 < (l.length : Int) := by omega
      have h5 : 0 ≤ a := h0
      have r1 := hb.rd (i := a) h5 h2
      have r2 := hb.rd (i := a + 1) h3 h4
      have hw : wordOf l a = (rd l a * 256 + rd l (a + 1), true) := by unfold wordOf; rw [if_pos ⟨h5, by omega⟩]
      simp only [spec_WordAt.f, spec_l1In.f, e0, h0, h1, if_true, decide_true, Option.bind_some, h5, h2, e1, h3, h4, hw]
      rw [w64 (x := rd l a) (by omega) (by omega), w64 (x := rd l (a + 1)) (by omega) (by omega), w64 (x := rd l a * 256) (by omega) (by omega), or_byte r1.1 r1.2 r2.1 r2.2]
    · have hw : wordOf l a = (0, false) := by unfold wordOf; rw [if_neg (by omega)]
      simp only [spec_WordAt.f, spec_l1In.f, e0, h0, h1, if_true, decide_false, Bool.false_eq_true, if_false, Option.bind_some, hw]
  · have hw : wordOf l a = (0, false) := by unfold wordOf; rw [if_neg (by omega)]
    simp only [spec_WordAt.f, spec_l1In.f, e0, h0, Bool.false_eq_true, if_false, Option.bind_some, hw]

theorem FnExactWordAt : laws_FnExactWordAt.Pure := by
  intro l a h1 h2 h3 h4
  refine Ev.rounds (g := fun k => laws_FnExactWordAt.f k l a) ?_
  by_cases hb : (l.length : Int) > 1048576
  · simp only [laws_FnExactWordAt.f, hb, if_true]; exact Ev.now _
  · simp only [laws_FnExactWordAt.f, hb, if_false]
    have ht := toByteS_ev l (by omega)
    refine evBind ht ?_
    simp only [spec_WordAt_eq l a (by omega) (B8.of h3), Option.bind_some]
    refine evBind ht ?_
    simp only [impl_WordAt_eq l a (by omega) (B8.of h3), Option.bind_some, if_true]
    refine evUp ?_
    simp only [laws_FnExactWordAt.j0, bne_self_eq_false, Bool.false_eq_true, if_false]
    refine evBind ht ?_
    refine evBind (eqByteS_refl l (by omega)) ?_
    simp only [if_true]
    exact Ev.now _

end Go.Proofs.Ytioajlgddbnlgaa.Pure
