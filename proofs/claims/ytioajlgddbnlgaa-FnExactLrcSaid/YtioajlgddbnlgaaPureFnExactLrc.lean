/- The law on Lrc is true at every slice: both answers are the sum's complement modulo 256. No condition. -/
import Derived.Test.YtioajlgddbnlgaaPFnExactLrcx1
import Derived.Test.YtioajlgddbnlgaaC
namespace Go.Proofs.Ytioajlgddbnlgaa.Pure
open Go Go.RowKit Go.Proofs.Ytioajlgddbnlgaa.PFnExactLrc Go.Proofs.YtioajlgddbnlgaaW.PrintWords Go.Proofs.YtioajlgddbnlgaaW.PrintLast Go.Proofs.Ytioajlgddbnlgaa.PlainC
set_option linter.unusedVariables false
set_option linter.unusedSimpArgs false

theorem toByteS_l0 (l : List Int) (hl : l.length ≤ 140737488351232) (d : Nat) : ∀ i : Nat, i ≤ l.length → l.length - i = d →
    Ev (fun k => laws_toByteS.l0 k l (l.take i ++ List.replicate (l.length - i) 0) (i : Int)) l := by
  induction d with
  | zero =>
    intro i hi hd
    obtain rfl : i = l.length := by omega
    refine evUp ?_
    have h1 : ¬ ((l.length : Nat) : Int) < (l.length : Int) := by omega
    simp only [laws_toByteS.l0, h1, if_false]
    rw [List.take_length, Nat.sub_self, List.replicate_zero, List.append_nil]
    exact Ev.now _
  | succ d ih =>
    intro i hi hd
    have hlt : i < l.length := by omega
    refine evUp ?_
    have h1 : (i : Int) < (l.length : Int) := by omega
    have h2 : 0 ≤ (i : Int) := by omega
    have h3 : (i : Int) < ((l.take i ++ List.replicate (l.length - i) (0 : Int)).length : Int) := by
      rw [List.length_append, List.length_take, List.length_replicate]; omega
    simp only [laws_toByteS.l0, h1, h2, h3, if_true]
    rw [rd_get hlt, Int.toNat_natCast, set_copy (0 : Int) l i hlt, w64 (by omega) (by omega)]
    exact ih (i + 1) (by omega) (by omega)

theorem toByteS_ev (l : List Int) (hl : l.length ≤ 140737488351232) : Ev (fun k => laws_toByteS.f k l) l := by
  have h := toByteS_l0 l hl l.length 0 (by omega) (by omega)
  have h1 : 0 ≤ (l.length : Int) := by omega
  have h2 : ((l.length : Int)).toNat ≤ 281474976710656 := by omega
  simp only [laws_toByteS.f, h1, h2, if_true]
  rw [Int.toNat_natCast]
  simpa using h

theorem eqByteS_l0 (a b : List Int) (hl : a.length ≤ 140737488351232) (he : a.length = b.length) (d : Nat) : ∀ i : Nat, i ≤ a.length → a.length - i = d →
    Ev (fun k => laws_eqByteS.l0 k a b (i : Int)) (decide (a.drop i = b.drop i)) := by
  induction d with
  | zero =>
    intro i hi hd
    obtain rfl : i = a.length := by omega
    refine evUp ?_
    have h1 : ¬ ((a.length : Nat) : Int) < (a.length : Int) := by omega
    simp only [laws_eqByteS.l0, h1, if_false]
    have e : decide (a.drop a.length = b.drop a.length) = true := by
      rw [List.drop_length, he, List.drop_length]; rfl
    rw [e]
    exact Ev.now _
  | succ d ih =>
    intro i hi hd
    have ha : i < a.length := by omega
    have hb : i < b.length := by omega
    refine evUp ?_
    have h1 : (i : Int) < (a.length : Int) := by omega
    have h2 : 0 ≤ (i : Int) := by omega
    have h3 : (i : Int) < (b.length : Int) := by omega
    simp only [laws_eqByteS.l0, h1, h2, h3, if_true]
    rw [rd_get ha, rd_get hb, w64 (by omega) (by omega)]
    by_cases e : a[i] = b[i]
    · simp only [e, if_true]
      have e2 : decide (a.drop i = b.drop i) = decide (a.drop (i + 1) = b.drop (i + 1)) := by
        rw [decide_eq_decide, drop_eq_iff ha hb]; simp [e]
      rw [e2]
      exact ih (i + 1) (by omega) (by omega)
    · simp only [e, if_false]
      have e2 : decide (a.drop i = b.drop i) = false := by
        rw [decide_eq_false_iff_not, drop_eq_iff ha hb]; simp [e]
      rw [e2]
      exact Ev.now _

theorem eqByteS_ev (a b : List Int) (hl : a.length ≤ 140737488351232) : Ev (fun k => laws_eqByteS.f k a b) (decide (a = b)) := by
  by_cases he : a.length = b.length
  · have h := eqByteS_l0 a b hl he a.length 0 (by omega) (by omega)
    have h1 : (a.length : Int) = (b.length : Int) := by omega
    simp only [laws_eqByteS.f, h1, if_true]
    exact h
  · have h1 : ¬ (a.length : Int) = (b.length : Int) := by omega
    have e : decide (a = b) = false := by
      rw [decide_eq_false_iff_not]; intro h; exact he (by rw [h])
    simp only [laws_eqByteS.f, h1, if_false]
    rw [e]
    exact Ev.now _

theorem eqByteS_refl (a : List Int) (hl : a.length ≤ 140737488351232) : Ev (fun k => laws_eqByteS.f k a a) true := by
  have h := eqByteS_ev a a hl
  rwa [decide_eq_true rfl] at h

def lrcOf (s : Int) : Int := (256 - s % 256) % 256

theorem sum_le8 {l : List Int} (h : B8 l) : 0 ≤ l.sum ∧ l.sum ≤ 255 * l.length := by
  induction l with
  | nil => simp
  | cons x l ih =>
    have h1 := h x (List.mem_cons_self)
    have h2 := ih (fun y hy => h y (List.mem_cons_of_mem _ hy))
    rw [List.sum_cons, List.length_cons]
    omega

theorem drop_sum {l : List Int} {i : Nat} (h : i < l.length) : (l.drop i).sum = l[i] + (l.drop (i + 1)).sum := by
  rw [List.drop_eq_getElem_cons h, List.sum_cons]

theorem impl_Lrc_l0 (l : List Int) (hb : B8 l) (hl : l.length ≤ 140737488351232) (d : Nat) : ∀ (i : Nat) (s : Int), i ≤ l.length → l.length - i = d → 0 ≤ s → s ≤ 255 * i →
    Ev (fun k => impl_Lrc.l0 k s l (l.length : Int) (i : Int)) (lrcOf (s + (l.drop i).sum)) := by
  induction d with
  | zero =>
    intro i s hi hd h0 h1
    obtain rfl : i = l.length := by omega
    refine evUp ?_
    have h2 : ¬ ((l.length : Nat) : Int) < (l.length : Int) := by omega
    simp only [impl_Lrc.l0, h2, if_false]
    rw [List.drop_length, List.sum_nil, Int.add_zero, tmod_pos h0, w64 (by omega) (by omega), tmod_pos (by omega)]
    exact Ev.now _
  | succ d ih =>
    intro i s hi hd h0 h1
    have hlt : i < l.length := by omega
    refine evUp ?_
    have h2 : (i : Int) < (l.length : Int) := by omega
    have h3 : 0 ≤ (i : Int) := by omega
    have hx := hb _ (List.getElem_mem hlt)
    simp only [impl_Lrc.l0, h2, h3, if_true]
    rw [rd_get hlt, w64 (x := l[i]) (by omega) (by omega), w64 (x := s + l[i]) (by omega) (by omega), w64 (x := (i : Int) + 1) (by omega) (by omega), drop_sum hlt, ← Int.add_assoc]
    exact ih (i + 1) _ (by omega) (by omega) (by omega) (by omega)

theorem impl_Lrc_ev (l : List Int) (hb : B8 l) (hl : l.length ≤ 140737488351232) : Ev (fun k => impl_Lrc.f k l) (lrcOf l.sum) := by
  have h := impl_Lrc_l0 l hb hl l.length 0 0 (by omega) (by omega) (by omega) (by omega)
  rw [List.drop_zero, Int.zero_add] at h
  exact h

theorem spec_Lrc_l0 (l : List Int) (hb : B8 l) (hl : l.length ≤ 140737488351232) (d : Nat) : ∀ (i : Nat) (s : Int), i ≤ l.length → l.length - i = d → 0 ≤ s → s ≤ 255 →
    Ev (fun k => spec_Lrc.l0 k l s (i : Int)) (lrcOf (s + (l.drop i).sum)) := by
  induction d with
  | zero =>
    intro i s hi hd h0 h1
    obtain rfl : i = l.length := by omega
    refine evUp ?_
    have h2 : ¬ ((l.length : Nat) : Int) < (l.length : Int) := by omega
    simp only [spec_Lrc.l0, h2, if_false]
    rw [List.drop_length, List.sum_nil, Int.add_zero, w64 (by omega) (by omega), tmod_pos (by omega)]
    have e : lrcOf s = (256 - s) % 256 := by unfold lrcOf; rw [Int.emod_eq_of_lt h0 (by omega)]
    rw [e]
    exact Ev.now _
  | succ d ih =>
    intro i s hi hd h0 h1
    have hlt : i < l.length := by omega
    refine evUp ?_
    have h2 : (i : Int) < (l.length : Int) := by omega
    have h3 : 0 ≤ (i : Int) := by omega
    have hx := hb _ (List.getElem_mem hlt)
    simp only [spec_Lrc.l0, h2, h3, if_true]
    rw [rd_get hlt, w64 (x := l[i]) (by omega) (by omega), w64 (x := s + l[i]) (by omega) (by omega), w64 (x := (i : Int) + 1) (by omega) (by omega), tmod_pos (by omega)]
    have e : lrcOf (s + (l.drop i).sum) = lrcOf ((s + l[i]) % 256 + (l.drop (i + 1)).sum) := by
      rw [drop_sum hlt]; unfold lrcOf; omega
    rw [e]
    exact ih (i + 1) _ (by omega) (by omega) (by omega) (by omega)

theorem FnExactLrc : laws_FnExactLrc.Pure := by
  intro l h1 h2 h3
  refine Ev.rounds (g := fun k => laws_FnExactLrc.f k l) ?_
  by_cases hb : (l.length : Int) > 1048576
  · simp only [laws_FnExactLrc.f, hb, if_true]; exact Ev.now _
  · simp only [laws_FnExactLrc.f, hb, if_false]
    have ht := toByteS_ev l (by omega)
    have hs := spec_Lrc_l0 l (B8.of h3) (by omega) l.length 0 0 (by omega) (by omega) (by omega) (by omega)
    rw [List.drop_zero, Int.zero_add] at hs
    refine evBind ht ?_
    refine evBind (g := fun k => spec_Lrc.f k l) hs ?_
    refine evBind ht ?_
    refine evBind (impl_Lrc_ev l (B8.of h3) (by omega)) ?_
    simp only [if_true]
    refine evBind ht ?_
    refine evBind (eqByteS_refl l (by omega)) ?_
    simp only [if_true]
    exact Ev.now _

end Go.Proofs.Ytioajlgddbnlgaa.Pure
