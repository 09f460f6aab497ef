/- The law on UnpackBits is true at every slice and number. No condition. -/
import Derived.Test.YtnikdfcdddlfbaaPFnExactUnpackBitsx3
import Derived.Test.YtnikdfcdddlfbaaC
namespace Go.Proofs.Ytnikdfcdddlfbaa.Pure
open Go Go.RowKit Go.Proofs.Ytnikdfcdddlfbaa.PFnExactUnpackBits Go.Proofs.YtnikdfcdddlfbaaW.PrintWords Go.Proofs.YtnikdfcdddlfbaaW.PrintLast Go.Proofs.Ytnikdfcdddlfbaa.PlainC
set_option linter.unusedVariables false
set_option linter.unusedSimpArgs false

theorem toByteS_l0 (l : List Int) (hl : l.length ≤ 140737488351232) (d : Nat) : ∀ i : Nat, i ≤ l.length → l.length - i = d →
    Ev (fun k => laws_toByteS.l0 k l (l.take i ++ List.replicate (l.length - i) 0) (i : Int)) l := by
  induction d with
  | zero =>
    intro i hi hd
    obtain rfl : i = l.length := by omega
    refine evUp ?_
    have h1 : ¬ ((l.length : Nat) : Int) < (l.length : Int) := by omega
    simp only [laws_toByteS.l0, h1, if_false]
    rw [List.take_length, Nat.sub_self, List.replicate_zero, List.append_nil]
    exact Ev.now _
  | succ d ih =>
    intro i hi hd
    have hlt : i < l.length := by omega
    refine evUp ?_
    have h1 : (i : Int) < (l.length : Int) := by omega
    have h2 : 0 ≤ (i : Int) := by omega
    have h3 : (i : Int) < ((l.take i ++ List.replicate (l.length - i) (0 : Int)).length : Int) := by
      rw [List.length_append, List.length_take, List.length_replicate]; omega
    simp only [laws_toByteS.l0, h1, h2, h3, if_true]
    rw [rd_get hlt, Int.toNat_natCast, set_copy (0 : Int) l i hlt, w64 (by omega) (by omega)]
    exact ih (i + 1) (by omega) (by omega)

theorem toByteS_ev (l : List Int) (hl : l.length ≤ 140737488351232) : Ev (fun k => laws_toByteS.f k l) l := by
  have h := toByteS_l0 l hl l.length 0 (by omega) (by omega)
  have h1 : 0 ≤ (l.length : Int) := by omega
  have h2 : ((l.length : Int)).toNat ≤ 281474976710656 := by omega
  simp only [laws_toByteS.f, h1, h2, if_true]
  rw [Int.toNat_natCast]
  simpa using h

theorem eqByteS_l0 (a b : List Int) (hl : a.length ≤ 140737488351232) (he : a.length = b.length) (d : Nat) : ∀ i : Nat, i ≤ a.length → a.length - i = d →
    Ev (fun k => laws_eqByteS.l0 k a b (i : Int)) (decide (a.drop i = b.drop i)) := by
  induction d with
  | zero =>
    intro i hi hd
    obtain rfl : i = a.length := by omega
    refine evUp ?_
    have h1 : ¬ ((a.length : Nat) : Int) < (a.length : Int) := by omega
    simp only [laws_eqByteS.l0, h1, if_false]
    have e : decide (a.drop a.length = b.drop a.length) = true := by
      rw [List.drop_length, he, List.drop_length]; rfl
    rw [e]
    exact Ev.now _
  | succ d ih =>
    intro i hi hd
    have ha : i < a.length := by omega
    have hb : i < b.length := by omega
    refine evUp ?_
    have h1 : (i : Int) < (a.length : Int) := by omega
    have h2 : 0 ≤ (i : Int) := by omega
    have h3 : (i : Int) < (b.length : Int) := by omega
    simp only [laws_eqByteS.l0, h1, h2, h3, if_true]
    rw [rd_get ha, rd_get hb, w64 (by omega) (by omega)]
    by_cases e : a[i] = b[i]
    · simp only [e, if_true]
      have e2 : decide (a.drop i = b.drop i) = decide (a.drop (i + 1) = b.drop (i + 1)) := by
        rw [decide_eq_decide, drop_eq_iff ha hb]; simp [e]
      rw [e2]
      exact ih (i + 1) (by omega) (by omega)
    · simp only [e, if_false]
      have e2 : decide (a.drop i = b.drop i) = false := by
        rw [decide_eq_false_iff_not, drop_eq_iff ha hb]; simp [e]
      rw [e2]
      exact Ev.now _

theorem eqByteS_ev (a b : List Int) (hl : a.length ≤ 140737488351232) : Ev (fun k => laws_eqByteS.f k a b) (decide (a = b)) := by
  by_cases he : a.length = b.length
  · have h := eqByteS_l0 a b hl he a.length 0 (by omega) (by omega)
    have h1 : (a.length : Int) = (b.length : Int) := by omega
    simp only [laws_eqByteS.f, h1, if_true]
    exact h
  · have h1 : ¬ (a.length : Int) = (b.length : Int) := by omega
    have e : decide (a = b) = false := by
      rw [decide_eq_false_iff_not]; intro h; exact he (by rw [h])
    simp only [laws_eqByteS.f, h1, if_false]
    rw [e]
    exact Ev.now _

theorem eqByteS_refl (a : List Int) (hl : a.length ≤ 140737488351232) : Ev (fun k => laws_eqByteS.f k a a) true := by
  have h := eqByteS_ev a a hl
  rwa [decide_eq_true rfl] at h

theorem eqBoolS_l0 (a b : List Bool) (hl : a.length ≤ 140737488355328) (he : a.length = b.length) (d : Nat) : ∀ i : Nat, i ≤ a.length → a.length - i = d →
    Ev (fun k => laws_eqBoolS.l0 k a b (i : Int)) (decide (a.drop i = b.drop i)) := by
  induction d with
  | zero =>
    intro i hi hd
    obtain rfl : i = a.length := by omega
    refine evUp ?_
    have h1 : ¬ ((a.length : Nat) : Int) < (a.length : Int) := by omega
    simp only [laws_eqBoolS.l0, h1, if_false]
    have e : decide (a.drop a.length = b.drop a.length) = true := by
      rw [List.drop_length, he, List.drop_length]; rfl
    rw [e]
    exact Ev.now _
  | succ d ih =>
    intro i hi hd
    have ha : i < a.length := by omega
    have hb : i < b.length := by omega
    refine evUp ?_
    have h1 : (i : Int) < (a.length : Int) := by omega
    have h2 : 0 ≤ (i : Int) := by omega
    have h3 : (i : Int) < (b.length : Int) := by omega
    simp only [laws_eqBoolS.l0, h1, h2, h3, if_true]
    rw [rdOf_get ha, rdOf_get hb, w64 (by omega) (by omega)]
    by_cases e : a[i] = b[i]
    · simp only [e, bne_self_eq_false, Bool.false_eq_true, if_false]
      have e2 : decide (a.drop i = b.drop i) = decide (a.drop (i + 1) = b.drop (i + 1)) := by
        rw [decide_eq_decide, drop_eq_iff ha hb]; simp [e]
      rw [e2]
      exact ih (i + 1) (by omega) (by omega)
    · have e3 : (a[i] != b[i]) = true := by simpa using e
      simp only [e3, if_true]
      have e2 : decide (a.drop i = b.drop i) = false := by
        rw [decide_eq_false_iff_not, drop_eq_iff ha hb]; simp [e]
      rw [e2]
      exact Ev.now _

theorem eqBoolS_ev (a b : List Bool) (hl : a.length ≤ 140737488355328) : Ev (fun k => laws_eqBoolS.f k a b) (decide (a = b)) := by
  by_cases he : a.length = b.length
  · have h := eqBoolS_l0 a b hl he a.length 0 (by omega) (by omega)
    have h1 : (a.length : Int) = (b.length : Int) := by omega
    simp only [laws_eqBoolS.f, h1, if_true]
    exact h
  · have h1 : ¬ (a.length : Int) = (b.length : Int) := by omega
    have e : decide (a = b) = false := by
      rw [decide_eq_false_iff_not]; intro h; exact he (by rw [h])
    simp only [laws_eqBoolS.f, h1, if_false]
    rw [e]
    exact Ev.now _

theorem eqBoolS_refl (a : List Bool) (hl : a.length ≤ 140737488355328) : Ev (fun k => laws_eqBoolS.f k a a) true := by
  have h := eqBoolS_ev a a hl
  rwa [decide_eq_true rfl] at h

theorem markByteS_l0 (l : List Int) (k0 : Int) (hk0 : 0 ≤ k0) (hk : k0 + l.length ≤ 4611686018427387904) (hl : l.length ≤ 140737488355328) (d : Nat) : ∀ i : Nat, i ≤ l.length → l.length - i = d →
    Ev (fun k => laws_markByteS.l0 k (marks (· % 256) k0 i ++ l.drop i) (k0 + i) (i : Int)) (k0 + l.length, marks (· % 256) k0 l.length) := by
  induction d with
  | zero =>
    intro i hi hd
    obtain rfl : i = l.length := by omega
    refine evUp ?_
    have h1 : ¬ ((l.length : Nat) : Int) < (((marks (· % 256) k0 l.length ++ l.drop l.length).length : Nat) : Int) := by
      rw [List.length_append, marks_length, List.drop_length, List.length_nil]; omega
    simp only [laws_markByteS.l0, h1, if_false]
    rw [List.drop_length, List.append_nil]
    exact Ev.now _
  | succ d ih =>
    intro i hi hd
    have hlt : i < l.length := by omega
    refine evUp ?_
    have h1 : (i : Int) < (((marks (· % 256) k0 i ++ l.drop i).length : Nat) : Int) := by
      rw [List.length_append, marks_length, List.length_drop]; omega
    have h2 : 0 ≤ (i : Int) := by omega
    simp only [laws_markByteS.l0, h1, h2, if_true]
    rw [Int.toNat_natCast, set_next _ l _ i (marks_length _ _ _) hlt, w64 (x := k0 + i + 1) (by omega) (by omega), w64 (x := (i : Int) + 1) (by omega) (by omega)]
    have h := ih (i + 1) (by omega) (by omega)
    rw [marks_succ] at h
    rw [show k0 + (i : Int) + 1 = k0 + ((i + 1 : Nat) : Int) from by omega]
    exact h

theorem markByteS_ev (l : List Int) (k0 : Int) (hk0 : 0 ≤ k0) (hk : k0 + l.length ≤ 4611686018427387904) (hl : l.length ≤ 140737488355328) :
    Ev (fun k => laws_markByteS.f k l k0) (k0 + l.length, marks (· % 256) k0 l.length) := by
  have h := markByteS_l0 l k0 hk0 hk hl l.length 0 (by omega) (by omega)
  simp only [laws_markByteS.f]
  simpa [marks] using h

theorem markBoolS_l0 (l : List Bool) (k0 : Int) (hk0 : 0 ≤ k0) (hk : k0 + l.length ≤ 4611686018427387904) (hl : l.length ≤ 140737488355328) (d : Nat) : ∀ i : Nat, i ≤ l.length → l.length - i = d →
    Ev (fun k => laws_markBoolS.l0 k (marks markB k0 i ++ l.drop i) (k0 + i) (i : Int)) (k0 + l.length, marks markB k0 l.length) := by
  induction d with
  | zero =>
    intro i hi hd
    obtain rfl : i = l.length := by omega
    refine evUp ?_
    have h1 : ¬ ((l.length : Nat) : Int) < (((marks markB k0 l.length ++ l.drop l.length).length : Nat) : Int) := by
      rw [List.length_append, marks_length, List.drop_length, List.length_nil]; omega
    simp only [laws_markBoolS.l0, h1, if_false]
    rw [List.drop_length, List.append_nil]
    exact Ev.now _
  | succ d ih =>
    intro i hi hd
    have hlt : i < l.length := by omega
    refine evUp ?_
    have h1 : (i : Int) < (((marks markB k0 i ++ l.drop i).length : Nat) : Int) := by
      rw [List.length_append, marks_length, List.length_drop]; omega
    have h2 : 0 ≤ (i : Int) := by omega
    have h3 : (Int.tmod (k0 + i) 3 == 0) = markB (k0 + (i : Int)) := by unfold markB; rw [tmod_pos (by omega)]
    simp only [laws_markBoolS.l0, h1, h2, if_true, h3]
    rw [Int.toNat_natCast, set_next _ l _ i (marks_length _ _ _) hlt, w64 (x := k0 + i + 1) (by omega) (by omega), w64 (x := (i : Int) + 1) (by omega) (by omega)]
    have h := ih (i + 1) (by omega) (by omega)
    rw [marks_succ] at h
    rw [show k0 + (i : Int) + 1 = k0 + ((i + 1 : Nat) : Int) from by omega]
    exact h

theorem markBoolS_ev (l : List Bool) (k0 : Int) (hk0 : 0 ≤ k0) (hk : k0 + l.length ≤ 4611686018427387904) (hl : l.length ≤ 140737488355328) :
    Ev (fun k => laws_markBoolS.f k l k0) (k0 + l.length, marks markB k0 l.length) := by
  have h := markBoolS_l0 l k0 hk0 hk hl l.length 0 (by omega) (by omega)
  simp only [laws_markBoolS.f]
  simpa [marks] using h

theorem heldBoolS_l0 (n : Nat) (k0 : Int) (hk0 : 0 ≤ k0) (hk : k0 + n ≤ 4611686018427387904) (hl : n ≤ 140737488355328) (d : Nat) : ∀ i : Nat, i ≤ n → n - i = d →
    Ev (fun k => laws_heldBoolS.l0 k (marks markB k0 n) (k0 + i) (i : Int)) (k0 + n) := by
  induction d with
  | zero =>
    intro i hi hd
    obtain rfl : i = n := by omega
    refine evUp ?_
    have h1 : ¬ ((i : Nat) : Int) < (((marks markB k0 i).length : Nat) : Int) := by rw [marks_length]; omega
    simp only [laws_heldBoolS.l0, h1, if_false]
    exact Ev.now _
  | succ d ih =>
    intro i hi hd
    have hlt : i < n := by omega
    refine evUp ?_
    have h1 : (i : Int) < (((marks markB k0 n).length : Nat) : Int) := by rw [marks_length]; omega
    have h2 : 0 ≤ (i : Int) := by omega
    have h3 : (rdOf false (marks markB k0 n) (i : Int) != (Int.tmod (k0 + i) 3 == 0)) = false := by
      rw [rdOf_get (by rw [marks_length]; exact hlt), marks_get _ _ _ _ hlt, tmod_pos (by omega)]
      unfold markB
      exact bne_self_eq_false _
    simp only [laws_heldBoolS.l0, h1, h2, h3, if_true, Bool.false_eq_true, if_false]
    rw [w64 (x := k0 + i + 1) (by omega) (by omega), w64 (x := (i : Int) + 1) (by omega) (by omega)]
    rw [show k0 + (i : Int) + 1 = k0 + ((i + 1 : Nat) : Int) from by omega]
    exact ih (i + 1) (by omega) (by omega)

theorem heldBoolS_ev (n : Nat) (k0 : Int) (hk0 : 0 ≤ k0) (hk : k0 + n ≤ 4611686018427387904) (hl : n ≤ 140737488355328) :
    Ev (fun k => laws_heldBoolS.f k (marks markB k0 n) k0) (k0 + n) := by
  have h := heldBoolS_l0 n k0 hk0 hk hl n 0 (by omega) (by omega)
  simp only [laws_heldBoolS.f]
  simpa using h

theorem impl_UnpackBits_l0 (l : List Int) (hl : l.length ≤ 1048576) (hb : B8 l) (n : Nat) (hn : n ≤ 8 * l.length) (d : Nat) : ∀ i : Nat, i ≤ 8 * l.length → 8 * l.length - i = d →
    Ev (fun k => impl_UnpackBits.l0 k l (n : Int) (bitsOf l (min i n) ++ List.replicate (n - min i n) false) (((8 * l.length : Nat)) : Int) (i : Int)) (if noneSet l (max i n) (8 * l.length - max i n) = true then (bitsOf l n, true) else ([], false)) := by
  induction d with
  | zero =>
    intro i hi hd
    obtain rfl : i = 8 * l.length := by omega
    refine evUp ?_
    have h1 : ¬ ((8 * l.length : Nat) : Int) < ((8 * l.length : Nat) : Int) := by omega
    have e1 : min (8 * l.length) n = n := Nat.min_eq_right hn
    have e2 : max (8 * l.length) n = 8 * l.length := Nat.max_eq_left hn
    simp only [impl_UnpackBits.l0, h1, if_false, e1, e2, Nat.sub_self, List.replicate_zero, List.append_nil]
    exact Ev.now _
  | succ d ih =>
    intro i hi hd
    refine evUp ?_
    have h1 : (i : Int) < ((8 * l.length : Nat) : Int) := by omega
    have h2 : 0 ≤ (i : Int) := by omega
    have e1 : wrap64 (Int.tdiv (i : Int) 8) = ((i / 8 : Nat) : Int) := by rw [tdiv_pos h2, w64 (by omega) (by omega)]; omega
    have e2 : Int.tmod (i : Int) 8 = ((i % 8 : Nat) : Int) := by rw [tmod_pos h2]; omega
    have h3 : 0 ≤ ((i / 8 : Nat) : Int) := by omega
    have h4 : ((i / 8 : Nat) : Int) < (l.length : Int) := by omega
    have h5 : 0 ≤ ((i % 8 : Nat) : Int) := by omega
    have e3 : wrap64 ((i : Int) + 1) = ((i + 1 : Nat) : Int) := by rw [w64 (by omega) (by omega)]; omega
    have hr := bit_read hb (i := i) (by omega)
    have hnx := ih (i + 1) (by omega) (by omega)
    by_cases hc : i < n
    · have c1 : (i : Int) < (n : Int) := by omega
      have m1 : min i n = i := by omega
      have m2 : min (i + 1) n = i + 1 := by omega
      have m3 : max i n = n := by omega
      have m4 : max (i + 1) n = n := by omega
      have h6 : (i : Int) < ((bitsOf l i ++ List.replicate (n - i) false).length : Int) := by
        rw [List.length_append, bitsOf_length, List.length_replicate]; omega
      have e4 : (bitsOf l i ++ List.replicate (n - i) false).set i (bitOf l i) = bitsOf l (i + 1) ++ List.replicate (n - (i + 1)) false := by
        rw [show n - i = (n - (i + 1)) + 1 from by omega, List.replicate_succ, List.set_append_right _ _ (by rw [bitsOf_length]; omega), bitsOf_length, Nat.sub_self, List.set_cons_zero, bitsOf_succ, List.append_assoc]
        rfl
      rw [m2, m4] at hnx
      simp only [m1, m3, impl_UnpackBits.l0, h1, h2, if_true, e1, e2, h3, h4, h5, e3, Int.toNat_natCast, c1, h6, hr, e4]
      exact hnx
    · have c1 : ¬ (i : Int) < (n : Int) := by omega
      have m1 : min i n = n := by omega
      have m2 : min (i + 1) n = n := by omega
      have m3 : max i n = i := by omega
      have m4 : max (i + 1) n = i + 1 := by omega
      rw [m2, m4] at hnx
      have e5 : noneSet l i (8 * l.length - i) = (!bitOf l i && noneSet l (i + 1) (8 * l.length - (i + 1))) := by
        rw [show 8 * l.length - i = (8 * l.length - (i + 1)) + 1 from by omega, noneSet_succ]
      by_cases hs : bitOf l i = true
      · have hq : Go.bits .and .u8 (shr .u8 (rd l ((i / 8 : Nat) : Int)) ((i % 8 : Nat) : Int)) 1 = 1 := by rw [hs] at hr; simpa using hr
        simp only [m1, m3, impl_UnpackBits.l0, h1, if_true, e1, e2, h3, h4, h5, c1, if_false, hq, e5, hs, Bool.not_true, Bool.false_and, Bool.false_eq_true]
        exact Ev.now _
      · have hs2 : bitOf l i = false := by simpa using hs
        have hq : ¬ Go.bits .and .u8 (shr .u8 (rd l ((i / 8 : Nat) : Int)) ((i % 8 : Nat) : Int)) 1 = 1 := by rw [hs2] at hr; simpa using hr
        simp only [m1, m3, impl_UnpackBits.l0, h1, if_true, e1, e2, h3, h4, h5, e3, c1, if_false, hq, e5, hs2, Bool.not_false, Bool.true_and]
        exact hnx

theorem impl_UnpackBits_ev (l : List Int) (hl : l.length ≤ 1048576) (hb : B8 l) (n : Int) (hn : n ≤ 9223372036854775807) : Ev (fun k => impl_UnpackBits.f k l n) (unpackOf l n) := by
  have e1 : wrap64 (8 * (l.length : Int)) = ((8 * l.length : Nat) : Int) := by rw [w64 (by omega) (by omega)]; omega
  by_cases h1 : n < 0
  · have hu : unpackOf l n = ([], false) := by unfold unpackOf; rw [if_pos (by omega)]
    rw [hu]
    simp only [impl_UnpackBits.f, h1, if_true]
    refine evUp ?_
    simp only [impl_UnpackBits.j0, if_true]
    exact Ev.now _
  · by_cases h2 : n > ((8 * l.length : Nat) : Int)
    · have hu : unpackOf l n = ([], false) := by unfold unpackOf; rw [if_pos (by omega)]
      rw [hu]
      simp only [impl_UnpackBits.f, h1, if_false, e1, h2, if_true]
      refine evUp ?_
      simp only [impl_UnpackBits.j0, if_true]
      exact Ev.now _
    · obtain ⟨m, rfl⟩ := Int.eq_ofNat_of_zero_le (show 0 ≤ n by omega)
      have e2 : wrap64 (((8 * l.length : Nat) : Int) - (m : Int)) = ((8 * l.length : Nat) : Int) - (m : Int) := w64 (by omega) (by omega)
      by_cases h3 : ((8 * l.length : Nat) : Int) - (m : Int) > 7
      · have hu : unpackOf l (m : Int) = ([], false) := by unfold unpackOf; rw [if_pos (by omega)]
        rw [hu]
        simp only [impl_UnpackBits.f, h1, if_false, e1, h2, e2, h3, decide_true]
        refine evUp ?_
        simp only [impl_UnpackBits.j0, if_true]
        exact Ev.now _
      · have hu : unpackOf l (m : Int) = if noneSet l m (8 * l.length - m) = true then (bitsOf l m, true) else ([], false) := by
          unfold unpackOf; rw [if_neg (by omega), Int.toNat_natCast]
        rw [hu]
        have h4 : 0 ≤ (m : Int) := by omega
        have h5 : m ≤ 281474976710656 := by omega
        have h := impl_UnpackBits_l0 l hl hb m (by omega) (8 * l.length) 0 (by omega) (by omega)
        rw [show min 0 m = 0 from by omega, show max 0 m = m from by omega] at h
        simp only [impl_UnpackBits.f, h1, if_false, e1, h2, e2, h3, decide_false]
        refine evUp ?_
        simp only [impl_UnpackBits.j0, Bool.false_eq_true, if_false, h4, if_true, Int.toNat_natCast, h5, e1]
        exact h

theorem u64_small {m : Nat} (h : m < 8) : IntKind.u64.wrap (m : Int) = (m : Int) := by
  simp [IntKind.wrap, IntKind.bits, IntKind.signed]
  omega

theorem spec_UnpackBits_l0 (l : List Int) (hl : l.length ≤ 1048576) (hb : B8 l) (n : Nat) (hn : n ≤ 8 * l.length) (d : Nat) : ∀ i : Nat, i ≤ 8 * l.length → 8 * l.length - i = d →
    Ev (fun k => spec_UnpackBits.l0 k l (n : Int) (bitsOf l (min i n)) (i : Int)) (if noneSet l (max i n) (8 * l.length - max i n) = true then (bitsOf l n, true) else ([], false)) := by
  have e0 : wrap64 (8 * (l.length : Int)) = ((8 * l.length : Nat) : Int) := by rw [w64 (by omega) (by omega)]; omega
  induction d with
  | zero =>
    intro i hi hd
    obtain rfl : i = 8 * l.length := by omega
    refine evUp ?_
    have h1 : ¬ ((8 * l.length : Nat) : Int) < ((8 * l.length : Nat) : Int) := by omega
    have e1 : min (8 * l.length) n = n := Nat.min_eq_right hn
    have e2 : max (8 * l.length) n = 8 * l.length := Nat.max_eq_left hn
    have e3 : noneSet l (8 * l.length) 0 = true := rfl
    simp only [spec_UnpackBits.l0, e0, h1, if_false, e1, e2, Nat.sub_self, e3, if_true]
    exact Ev.now _
  | succ d ih =>
    intro i hi hd
    refine evUp ?_
    have h1 : (i : Int) < ((8 * l.length : Nat) : Int) := by omega
    have h2 : 0 ≤ (i : Int) := by omega
    have e1 : wrap64 (Int.tdiv (i : Int) 8) = ((i / 8 : Nat) : Int) := by rw [tdiv_pos h2, w64 (by omega) (by omega)]; omega
    have e2 : IntKind.u64.wrap (Int.tmod (i : Int) 8) = ((i % 8 : Nat) : Int) := by
      rw [tmod_pos h2, show (i : Int) % 8 = ((i % 8 : Nat) : Int) from by omega, u64_small (by omega)]
    have h3 : 0 ≤ ((i / 8 : Nat) : Int) := by omega
    have h4 : ((i / 8 : Nat) : Int) < (l.length : Int) := by omega
    have h5 : 0 ≤ ((i % 8 : Nat) : Int) := by omega
    have e3 : wrap64 ((i : Int) + 1) = ((i + 1 : Nat) : Int) := by rw [w64 (by omega) (by omega)]; omega
    have hr := bit_read hb (i := i) (by omega)
    have hnx := ih (i + 1) (by omega) (by omega)
    by_cases hc : i < n
    · have c1 : (i : Int) < (n : Int) := by omega
      have m1 : min i n = i := by omega
      have m2 : min (i + 1) n = i + 1 := by omega
      have m3 : max i n = n := by omega
      have m4 : max (i + 1) n = n := by omega
      have h6 : (bitsOf l i).length < 140737488355328 := by rw [bitsOf_length]; omega
      rw [m2, m4] at hnx
      simp only [m1, m3, spec_UnpackBits.l0, e0, h1, if_true, e1, e2, h3, h4, h5, e3, c1, h6, hr, ← bitsOf_succ]
      exact hnx
    · have c1 : ¬ (i : Int) < (n : Int) := by omega
      have m1 : min i n = n := by omega
      have m2 : min (i + 1) n = n := by omega
      have m3 : max i n = i := by omega
      have m4 : max (i + 1) n = i + 1 := by omega
      rw [m2, m4] at hnx
      have e5 : noneSet l i (8 * l.length - i) = (!bitOf l i && noneSet l (i + 1) (8 * l.length - (i + 1))) := by
        rw [show 8 * l.length - i = (8 * l.length - (i + 1)) + 1 from by omega, noneSet_succ]
      by_cases hs : bitOf l i = true
      · have hq : Go.bits .and .u8 (shr .u8 (rd l ((i / 8 : Nat) : Int)) ((i % 8 : Nat) : Int)) 1 = 1 := by rw [hs] at hr; simpa using hr
        simp only [m1, m3, spec_UnpackBits.l0, e0, h1, if_true, e1, e2, h3, h4, h5, c1, if_false, hq, e5, hs, Bool.not_true, Bool.false_and, Bool.false_eq_true]
        exact Ev.now _
      · have hs2 : bitOf l i = false := by simpa using hs
        have hq : ¬ Go.bits .and .u8 (shr .u8 (rd l ((i / 8 : Nat) : Int)) ((i % 8 : Nat) : Int)) 1 = 1 := by rw [hs2] at hr; simpa using hr
        simp only [m1, m3, spec_UnpackBits.l0, e0, h1, if_true, e1, e2, h3, h4, h5, e3, c1, if_false, hq, e5, hs2, Bool.not_false, Bool.true_and]
        exact hnx

theorem spec_no (l : List Int) (n : Int) (h : n < 0 ∨ n > 8 * (l.length : Int) ∨ n ≤ 8 * (l.length : Int) - 8) : Ev (fun k => spec_UnpackBits.j0 k l n [] true) ([], false) := by
  refine evUp ?_
  by_cases h0 : n = 0
  · have h1 : ((l.length : Int) == 0) = false := by rw [beq_eq_false_iff_ne]; omega
    simp only [spec_UnpackBits.j0, if_true, h0, h1]
    exact Ev.now _
  · simp only [spec_UnpackBits.j0, if_true, h0, if_false]
    exact Ev.now _

theorem spec_UnpackBits_ev (l : List Int) (hl : l.length ≤ 1048576) (hb : B8 l) (n : Int) (hn : n ≤ 9223372036854775807) : Ev (fun k => spec_UnpackBits.f k l n) (unpackOf l n) := by
  have e1 : wrap64 (8 * (l.length : Int)) = ((8 * l.length : Nat) : Int) := by rw [w64 (by omega) (by omega)]; omega
  have e2 : wrap64 (((8 * l.length : Nat) : Int) - 8) = ((8 * l.length : Nat) : Int) - 8 := w64 (by omega) (by omega)
  by_cases h1 : n < 0
  · have hu : unpackOf l n = ([], false) := by unfold unpackOf; rw [if_pos (by omega)]
    rw [hu]
    simp only [spec_UnpackBits.f, Option.bind_some, h1, if_true]
    exact spec_no l n (by omega)
  · by_cases h2 : n > ((8 * l.length : Nat) : Int)
    · have hu : unpackOf l n = ([], false) := by unfold unpackOf; rw [if_pos (by omega)]
      rw [hu]
      simp only [spec_UnpackBits.f, Option.bind_some, h1, if_false, e1, h2, if_true]
      exact spec_no l n (by omega)
    · obtain ⟨m, rfl⟩ := Int.eq_ofNat_of_zero_le (show 0 ≤ n by omega)
      by_cases h3 : (m : Int) ≤ ((8 * l.length : Nat) : Int) - 8
      · have hu : unpackOf l (m : Int) = ([], false) := by unfold unpackOf; rw [if_pos (by omega)]
        rw [hu]
        simp only [spec_UnpackBits.f, Option.bind_some, h1, if_false, e1, h2, e2, h3, decide_true]
        exact spec_no l (m : Int) (by omega)
      · have hu : unpackOf l (m : Int) = if noneSet l m (8 * l.length - m) = true then (bitsOf l m, true) else ([], false) := by
          unfold unpackOf; rw [if_neg (by omega), Int.toNat_natCast]
        rw [hu]
        have h := spec_UnpackBits_l0 l hl hb m (by omega) (8 * l.length) 0 (by omega) (by omega)
        rw [show min 0 m = 0 from by omega, show max 0 m = m from by omega] at h
        simp only [spec_UnpackBits.f, Option.bind_some, h1, if_false, e1, h2, e2, h3, decide_false]
        refine evUp ?_
        simp only [spec_UnpackBits.j0, Bool.false_eq_true, if_false]
        exact h

theorem unpack_length (l : List Int) (n : Int) (hl : l.length ≤ 1048576) : (unpackOf l n).1.length ≤ 8388608 := by
  unfold unpackOf
  split
  · simp
  · split
    · rw [bitsOf_length]; omega
    · simp

theorem FnExactUnpackBits : laws_FnExactUnpackBits.Pure := by
  intro l n h1 h2 h3 h4
  refine Ev.rounds (g := fun k => laws_FnExactUnpackBits.f k l n) ?_
  by_cases hb : (l.length : Int) > 1048576
  · simp only [laws_FnExactUnpackBits.f, hb, if_true]; exact Ev.now _
  · simp only [laws_FnExactUnpackBits.f, hb, if_false]
    have hl : l.length ≤ 1048576 := by omega
    have hn := (wf64.1 h4).2
    have ht := toByteS_ev l (by omega)
    have hs := spec_UnpackBits_ev l hl (B8.of h3) n hn
    have hi := impl_UnpackBits_ev l hl (B8.of h3) n hn
    have hlen := unpack_length l n hl
    generalize unpackOf l n = R at hs hi hlen
    have n2 : ¬ (1 + (R.1.length : Int) < 0) := by omega
    have n1 : ¬ (1 + (l.length : Int) < 0) := by omega
    refine evBind ht ?_
    refine evBind hs ?_
    refine evBind ht ?_
    refine evBind hi ?_
    refine evBind (eqBoolS_refl R.1 (by omega)) ?_
    simp only [if_true, bne_self_eq_false]
    refine evUp ?_
    simp only [laws_FnExactUnpackBits.j0, Bool.false_eq_true, if_false]
    refine evBind ht ?_
    refine evBind (eqByteS_refl l (by omega)) ?_
    simp only [if_true]
    refine evBind (markByteS_ev l 1 (by omega) (by omega) (by omega)) ?_
    simp only [n1, if_false]
    refine evBind (eqBoolS_refl R.1 (by omega)) ?_
    simp only [if_true, bne_self_eq_false]
    refine evUp ?_
    simp only [laws_FnExactUnpackBits.j1, Bool.false_eq_true, if_false]
    refine evBind (markBoolS_ev R.1 1 (by omega) (by omega) (by omega)) ?_
    refine evBind (heldBoolS_ev R.1.length 1 (by omega) (by omega) (by omega)) ?_
    simp only [n2, if_false, if_true]
    refine evBind ht ?_
    refine evBind hi ?_
    refine evBind (eqBoolS_refl R.1 (by omega)) ?_
    simp only [if_true, bne_self_eq_false]
    refine evUp ?_
    simp only [laws_FnExactUnpackBits.j2, Bool.false_eq_true, if_false]
    refine evBind (heldBoolS_ev R.1.length 1 (by omega) (by omega) (by omega)) ?_
    simp only [n2, if_false, if_true]
    exact Ev.now _

end Go.Proofs.Ytnikdfcdddlfbaa.Pure
