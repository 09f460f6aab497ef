/- The law on PutWord is true at every slice and number: both answers are the slice and two bytes; neither shares memory. No condition. -/
import Derived.Test.YtioajlgddbnlgaaPFnExactPutWordx2
import Derived.Test.YtioajlgddbnlgaaC
namespace Go.Proofs.Ytioajlgddbnlgaa.Pure
open Go Go.RowKit Go.Proofs.Ytioajlgddbnlgaa.PFnExactPutWord Go.Proofs.YtioajlgddbnlgaaW.PrintWords Go.Proofs.YtioajlgddbnlgaaW.PrintLast Go.Proofs.Ytioajlgddbnlgaa.PlainC
set_option linter.unusedVariables false
set_option linter.unusedSimpArgs false

theorem toByteS_l0 (l : List Int) (hl : l.length ≤ 140737488351232) (d : Nat) : ∀ i : Nat, i ≤ l.length → l.length - i = d →
    Ev (fun k => laws_toByteS.l0 k l (l.take i ++ List.replicate (l.length - i) 0) (i : Int)) l := by
  induction d with
  | zero =>
    intro i hi hd
    obtain rfl : i = l.length := by omega
    refine evUp ?_
    have h1 : ¬ ((l.length : Nat) : Int) < (l.length : Int) := by omega
    simp only [laws_toByteS.l0, h1, if_false]
    rw [List.take_length, Nat.sub_self, List.replicate_zero, List.append_nil]
    exact Ev.now _
  | succ d ih =>
    intro i hi hd
    have hlt : i < l.length := by omega
    refine evUp ?_
    have h1 : (i : Int) < (l.length : Int) := by omega
    have h2 : 0 ≤ (i : Int) := by omega
    have h3 : (i : Int) < ((l.take i ++ List.replicate (l.length - i) (0 : Int)).length : Int) := by
      rw [List.length_append, List.length_take, List.length_replicate]; omega
    simp only [laws_toByteS.l0, h1, h2, h3, if_true]
    rw [rd_get hlt, Int.toNat_natCast, set_copy (0 : Int) l i hlt, w64 (by omega) (by omega)]
    exact ih (i + 1) (by omega) (by omega)

theorem toByteS_ev (l : List Int) (hl : l.length ≤ 140737488351232) : Ev (fun k => laws_toByteS.f k l) l := by
  have h := toByteS_l0 l hl l.length 0 (by omega) (by omega)
  have h1 : 0 ≤ (l.length : Int) := by omega
  have h2 : ((l.length : Int)).toNat ≤ 281474976710656 := by omega
  simp only [laws_toByteS.f, h1, h2, if_true]
  rw [Int.toNat_natCast]
  simpa using h

theorem eqByteS_l0 (a b : List Int) (hl : a.length ≤ 140737488351232) (he : a.length = b.length) (d : Nat) : ∀ i : Nat, i ≤ a.length → a.length - i = d →
    Ev (fun k => laws_eqByteS.l0 k a b (i : Int)) (decide (a.drop i = b.drop i)) := by
  induction d with
  | zero =>
    intro i hi hd
    obtain rfl : i = a.length := by omega
    refine evUp ?_
    have h1 : ¬ ((a.length : Nat) : Int) < (a.length : Int) := by omega
    simp only [laws_eqByteS.l0, h1, if_false]
    have e : decide (a.drop a.length = b.drop a.length) = true := by
      rw [List.drop_length, he, List.drop_length]; rfl
    rw [e]
    exact Ev.now _
  | succ d ih =>
    intro i hi hd
    have ha : i < a.length := by omega
    have hb : i < b.length := by omega
    refine evUp ?_
    have h1 : (i : Int) < (a.length : Int) := by omega
    have h2 : 0 ≤ (i : Int) := by omega
    have h3 : (i : Int) < (b.length : Int) := by omega
    simp only [laws_eqByteS.l0, h1, h2, h3, if_true]
    rw [rd_get ha, rd_get hb, w64 (by omega) (by omega)]
    by_cases e : a[i] = b[i]
    · simp only [e, if_true]
      have e2 : decide (a.drop i = b.drop i) = decide (a.drop (i + 1) = b.drop (i + 1)) := by
        rw [decide_eq_decide, drop_eq_iff ha hb]; simp [e]
      rw [e2]
      exact ih (i + 1) (by omega) (by omega)
    · simp only [e, if_false]
      have e2 : decide (a.drop i = b.drop i) = false := by
        rw [decide_eq_false_iff_not, drop_eq_iff ha hb]; simp [e]
      rw [e2]
      exact Ev.now _

theorem eqByteS_ev (a b : List Int) (hl : a.length ≤ 140737488351232) : Ev (fun k => laws_eqByteS.f k a b) (decide (a = b)) := by
  by_cases he : a.length = b.length
  · have h := eqByteS_l0 a b hl he a.length 0 (by omega) (by omega)
    have h1 : (a.length : Int) = (b.length : Int) := by omega
    simp only [laws_eqByteS.f, h1, if_true]
    exact h
  · have h1 : ¬ (a.length : Int) = (b.length : Int) := by omega
    have e : decide (a = b) = false := by
      rw [decide_eq_false_iff_not]; intro h; exact he (by rw [h])
    simp only [laws_eqByteS.f, h1, if_false]
    rw [e]
    exact Ev.now _

theorem eqByteS_refl (a : List Int) (hl : a.length ≤ 140737488351232) : Ev (fun k => laws_eqByteS.f k a a) true := by
  have h := eqByteS_ev a a hl
  rwa [decide_eq_true rfl] at h

theorem markByteS_l0 (l : List Int) (k0 : Int) (hk0 : 0 ≤ k0) (hk : k0 + l.length ≤ 4611686018427387904) (hl : l.length ≤ 140737488355328) (d : Nat) : ∀ i : Nat, i ≤ l.length → l.length - i = d →
    Ev (fun k => laws_markByteS.l0 k (marks (· % 256) k0 i ++ l.drop i) (k0 + i) (i : Int)) (k0 + l.length, marks (· % 256) k0 l.length) := by
  induction d with
  | zero =>
    intro i hi hd
    obtain rfl : i = l.length := by omega
    refine evUp ?_
    have h1 : ¬ ((l.length : Nat) : Int) < (((marks (· % 256) k0 l.length ++ l.drop l.length).length : Nat) : Int) := by
      rw [List.length_append, marks_length, List.drop_length, List.length_nil]; omega
    simp only [laws_markByteS.l0, h1, if_false]
    rw [List.drop_length, List.append_nil]
    exact Ev.now _
  | succ d ih =>
    intro i hi hd
    have hlt : i < l.length := by omega
    refine evUp ?_
    have h1 : (i : Int) < (((marks (· % 256) k0 i ++ l.drop i).length : Nat) : Int) := by
      rw [List.length_append, marks_length, List.length_drop]; omega
    have h2 : 0 ≤ (i : Int) := by omega
    simp only [laws_markByteS.l0, h1, h2, if_true]
    rw [Int.toNat_natCast, set_next _ l _ i (marks_length _ _ _) hlt, w64 (x := k0 + i + 1) (by omega) (by omega), w64 (x := (i : Int) + 1) (by omega) (by omega)]
    have h := ih (i + 1) (by omega) (by omega)
    rw [marks_succ] at h
    rw [show k0 + (i : Int) + 1 = k0 + ((i + 1 : Nat) : Int) from by omega]
    exact h

theorem markByteS_ev (l : List Int) (k0 : Int) (hk0 : 0 ≤ k0) (hk : k0 + l.length ≤ 4611686018427387904) (hl : l.length ≤ 140737488355328) :
    Ev (fun k => laws_markByteS.f k l k0) (k0 + l.length, marks (· % 256) k0 l.length) := by
  have h := markByteS_l0 l k0 hk0 hk hl l.length 0 (by omega) (by omega)
  simp only [laws_markByteS.f]
  simpa [marks] using h

theorem heldByteS_l0 (n : Nat) (k0 : Int) (hk0 : 0 ≤ k0) (hk : k0 + n ≤ 4611686018427387904) (hl : n ≤ 140737488355328) (d : Nat) : ∀ i : Nat, i ≤ n → n - i = d →
    Ev (fun k => laws_heldByteS.l0 k (marks (· % 256) k0 n) (k0 + i) (i : Int)) (k0 + n) := by
  induction d with
  | zero =>
    intro i hi hd
    obtain rfl : i = n := by omega
    refine evUp ?_
    have h1 : ¬ ((i : Nat) : Int) < (((marks (· % 256) k0 i).length : Nat) : Int) := by rw [marks_length]; omega
    simp only [laws_heldByteS.l0, h1, if_false]
    exact Ev.now _
  | succ d ih =>
    intro i hi hd
    have hlt : i < n := by omega
    refine evUp ?_
    have h1 : (i : Int) < (((marks (· % 256) k0 n).length : Nat) : Int) := by rw [marks_length]; omega
    have h2 : 0 ≤ (i : Int) := by omega
    have h3 : rd (marks (· % 256) k0 n) (i : Int) = (k0 + i) % 256 := by
      rw [rd_get (by rw [marks_length]; exact hlt), marks_get _ _ _ _ hlt]
    simp only [laws_heldByteS.l0, h1, h2, h3, if_true]
    rw [w64 (x := k0 + i + 1) (by omega) (by omega), w64 (x := (i : Int) + 1) (by omega) (by omega)]
    rw [show k0 + (i : Int) + 1 = k0 + ((i + 1 : Nat) : Int) from by omega]
    exact ih (i + 1) (by omega) (by omega)

theorem heldByteS_ev (n : Nat) (k0 : Int) (hk0 : 0 ≤ k0) (hk : k0 + n ≤ 4611686018427387904) (hl : n ≤ 140737488355328) :
    Ev (fun k => laws_heldByteS.f k (marks (· % 256) k0 n) k0) (k0 + n) := by
  have h := heldByteS_l0 n k0 hk0 hk hl n 0 (by omega) (by omega)
  simp only [laws_heldByteS.f]
  simpa using h

theorem impl_PutWord_eq (l : List Int) (a : Int) (h : l.length ≤ 140737488355000) : impl_PutWord.f l a = some (l ++ [(a / 256) % 256, a % 256]) := by
  have h1 : ([] : List Int).length + l.length < 140737488355328 := by rw [List.length_nil]; omega
  have h2 : l.length + ([(a / 256) % 256, a % 256] : List Int).length < 140737488355328 := by
    rw [List.length_cons, List.length_cons, List.length_nil]; omega
  simp only [impl_PutWord.f, Option.bind_some, h1, h2, if_true, List.nil_append]

theorem spec_PutWord_eq (l : List Int) (a : Int) (h : l.length ≤ 140737488355000) : spec_PutWord.f l a = some (l ++ [(a / 256) % 256, a % 256]) := by
  have h1 : ([] : List Int).length + l.length < 140737488355328 := by rw [List.length_nil]; omega
  have e1 : (a % 65536 / 256) % 256 = a / 256 % 256 := by omega
  have e2 : a % 65536 % 256 = a % 256 := by omega
  have h2 : l.length + ([(a / 256) % 256, a % 256] : List Int).length < 140737488355328 := by
    rw [List.length_cons, List.length_cons, List.length_nil]; omega
  simp only [spec_PutWord.f, Option.bind_some, and_65535, e1, e2, h1, h2, if_true, List.nil_append]

theorem FnExactPutWord : laws_FnExactPutWord.Pure := by
  intro l a h1 h2 h3 h4
  refine Ev.rounds (g := fun k => laws_FnExactPutWord.f k l a) ?_
  by_cases hb : (l.length : Int) > 1048576
  · simp only [laws_FnExactPutWord.f, hb, if_true]; exact Ev.now _
  · simp only [laws_FnExactPutWord.f, hb, if_false]
    have hl : l.length ≤ 1048576 := by omega
    have ht := toByteS_ev l (by omega)
    have hw : (l ++ [(a / 256) % 256, a % 256]).length = l.length + 2 := by rw [List.length_append]; rfl
    generalize hW : l ++ [(a / 256) % 256, a % 256] = W at hw
    refine evBind ht ?_
    simp only [spec_PutWord_eq l a (by omega), Option.bind_some, hW]
    refine evBind ht ?_
    simp only [impl_PutWord_eq l a (by omega), Option.bind_some, hW]
    refine evBind (eqByteS_refl W (by omega)) ?_
    simp only [if_true]
    refine evBind ht ?_
    refine evBind (eqByteS_refl l (by omega)) ?_
    simp only [if_true]
    refine evBind (markByteS_ev l 1 (by omega) (by omega) (by omega)) ?_
    have n1 : ¬ (1 + (l.length : Int) < 0) := by omega
    simp only [n1, if_false]
    refine evBind (eqByteS_refl W (by omega)) ?_
    refine evUp ?_
    simp only [laws_FnExactPutWord.j0, Bool.not_true, Bool.false_eq_true, if_false]
    refine evBind (markByteS_ev W 1 (by omega) (by omega) (by omega)) ?_
    refine evBind (heldByteS_ev W.length 1 (by omega) (by omega) (by omega)) ?_
    have n2 : ¬ (1 + (W.length : Int) < 0) := by omega
    simp only [n2, if_false, if_true]
    refine evBind ht ?_
    simp only [impl_PutWord_eq l a (by omega), Option.bind_some, hW]
    refine evBind (eqByteS_refl W (by omega)) ?_
    simp only [if_true]
    refine evBind (heldByteS_ev W.length 1 (by omega) (by omega) (by omega)) ?_
    simp only [n2, if_false, if_true]
    exact Ev.now _

end Go.Proofs.Ytioajlgddbnlgaa.Pure
