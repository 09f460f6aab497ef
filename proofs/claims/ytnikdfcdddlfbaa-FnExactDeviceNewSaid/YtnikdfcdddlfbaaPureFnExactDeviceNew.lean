/- The law on DeviceNew is true at every size. No condition. -/
import Derived.Test.YtnikdfcdddlfbaaSFnExactDeviceNew
import Derived.Test.YtnikdfcdddlfbaaC
namespace Go.Proofs.Ytnikdfcdddlfbaa.Pure
open Go.Proofs.Ytnikdfcdddlfbaa.G Go Go.RowKit Go.Proofs.Ytnikdfcdddlfbaa.PFnExactDeviceNew Go.Proofs.YtnikdfcdddlfbaaW.PrintWords Go.Proofs.YtnikdfcdddlfbaaW.PrintLast Go.Proofs.Ytnikdfcdddlfbaa.PlainC
set_option linter.unusedVariables false
set_option linter.unusedSimpArgs false

theorem eqIntS_l0 (a b : List Int) (hl : a.length ≤ 140737488351232) (he : a.length = b.length) (d : Nat) : ∀ i : Nat, i ≤ a.length → a.length - i = d →
    Ev (fun k => laws_eqIntS.l0 k a b (i : Int)) (decide (a.drop i = b.drop i)) := by
  induction d with
  | zero =>
    intro i hi hd
    obtain rfl : i = a.length := by omega
    refine evUp ?_
    have h1 : ¬ ((a.length : Nat) : Int) < (a.length : Int) := by omega
    simp only [laws_eqIntS.l0, h1, if_false]
    have e : decide (a.drop a.length = b.drop a.length) = true := by
      rw [List.drop_length, he, List.drop_length]; rfl
    rw [e]
    exact Ev.now _
  | succ d ih =>
    intro i hi hd
    have ha : i < a.length := by omega
    have hb : i < b.length := by omega
    refine evUp ?_
    have h1 : (i : Int) < (a.length : Int) := by omega
    have h2 : 0 ≤ (i : Int) := by omega
    have h3 : (i : Int) < (b.length : Int) := by omega
    simp only [laws_eqIntS.l0, h1, h2, h3, if_true]
    rw [rd_get ha, rd_get hb, w64 (by omega) (by omega)]
    by_cases e : a[i] = b[i]
    · simp only [e, if_true]
      have e2 : decide (a.drop i = b.drop i) = decide (a.drop (i + 1) = b.drop (i + 1)) := by
        rw [decide_eq_decide, drop_eq_iff ha hb]; simp [e]
      rw [e2]
      exact ih (i + 1) (by omega) (by omega)
    · simp only [e, if_false]
      have e2 : decide (a.drop i = b.drop i) = false := by
        rw [decide_eq_false_iff_not, drop_eq_iff ha hb]; simp [e]
      rw [e2]
      exact Ev.now _

theorem eqIntS_ev (a b : List Int) (hl : a.length ≤ 140737488351232) : Ev (fun k => laws_eqIntS.f k a b) (decide (a = b)) := by
  by_cases he : a.length = b.length
  · have h := eqIntS_l0 a b hl he a.length 0 (by omega) (by omega)
    have h1 : (a.length : Int) = (b.length : Int) := by omega
    simp only [laws_eqIntS.f, h1, if_true]
    exact h
  · have h1 : ¬ (a.length : Int) = (b.length : Int) := by omega
    have e : decide (a = b) = false := by
      rw [decide_eq_false_iff_not]; intro h; exact he (by rw [h])
    simp only [laws_eqIntS.f, h1, if_false]
    rw [e]
    exact Ev.now _

theorem eqIntS_refl (a : List Int) (hl : a.length ≤ 140737488351232) : Ev (fun k => laws_eqIntS.f k a a) true := by
  have h := eqIntS_ev a a hl
  rwa [decide_eq_true rfl] at h

theorem eqBoolS_l0 (a b : List Bool) (hl : a.length ≤ 140737488355328) (he : a.length = b.length) (d : Nat) : ∀ i : Nat, i ≤ a.length → a.length - i = d →
    Ev (fun k => laws_eqBoolS.l0 k a b (i : Int)) (decide (a.drop i = b.drop i)) := by
  induction d with
  | zero =>
    intro i hi hd
    obtain rfl : i = a.length := by omega
    refine evUp ?_
    have h1 : ¬ ((a.length : Nat) : Int) < (a.length : Int) := by omega
    simp only [laws_eqBoolS.l0, h1, if_false]
    have e : decide (a.drop a.length = b.drop a.length) = true := by
      rw [List.drop_length, he, List.drop_length]; rfl
    rw [e]
    exact Ev.now _
  | succ d ih =>
    intro i hi hd
    have ha : i < a.length := by omega
    have hb : i < b.length := by omega
    refine evUp ?_
    have h1 : (i : Int) < (a.length : Int) := by omega
    have h2 : 0 ≤ (i : Int) := by omega
    have h3 : (i : Int) < (b.length : Int) := by omega
    simp only [laws_eqBoolS.l0, h1, h2, h3, if_true]
    rw [rdOf_get ha, rdOf_get hb, w64 (by omega) (by omega)]
    by_cases e : a[i] = b[i]
    · simp only [e, bne_self_eq_false, Bool.false_eq_true, if_false]
      have e2 : decide (a.drop i = b.drop i) = decide (a.drop (i + 1) = b.drop (i + 1)) := by
        rw [decide_eq_decide, drop_eq_iff ha hb]; simp [e]
      rw [e2]
      exact ih (i + 1) (by omega) (by omega)
    · have e3 : (a[i] != b[i]) = true := by simpa using e
      simp only [e3, if_true]
      have e2 : decide (a.drop i = b.drop i) = false := by
        rw [decide_eq_false_iff_not, drop_eq_iff ha hb]; simp [e]
      rw [e2]
      exact Ev.now _

theorem eqBoolS_ev (a b : List Bool) (hl : a.length ≤ 140737488355328) : Ev (fun k => laws_eqBoolS.f k a b) (decide (a = b)) := by
  by_cases he : a.length = b.length
  · have h := eqBoolS_l0 a b hl he a.length 0 (by omega) (by omega)
    have h1 : (a.length : Int) = (b.length : Int) := by omega
    simp only [laws_eqBoolS.f, h1, if_true]
    exact h
  · have h1 : ¬ (a.length : Int) = (b.length : Int) := by omega
    have e : decide (a = b) = false := by
      rw [decide_eq_false_iff_not]; intro h; exact he (by rw [h])
    simp only [laws_eqBoolS.f, h1, if_false]
    rw [e]
    exact Ev.now _

theorem eqBoolS_refl (a : List Bool) (hl : a.length ≤ 140737488355328) : Ev (fun k => laws_eqBoolS.f k a a) true := by
  have h := eqBoolS_ev a a hl
  rwa [decide_eq_true rfl] at h

theorem eqDevice_refl (a b : List Bool) (c d : List Int) (ha : a.length ≤ 1048576) (hb : b.length ≤ 1048576) (hc : c.length ≤ 1048576) (hd : d.length ≤ 1048576) : Ev (fun k => laws_eqDevice.f k a b c d a b c d) true := by
  simp only [laws_eqDevice.f]
  refine evBind (eqBoolS_refl a (by omega)) ?_
  simp only [if_true]
  refine evBind (eqBoolS_refl b (by omega)) ?_
  simp only [if_true]
  refine evBind (eqIntS_refl c (by omega)) ?_
  simp only [if_true]
  refine evBind (eqIntS_refl d (by omega)) ?_
  simp only [if_true]
  exact Ev.now _

theorem markIntS_l0 (l : List Int) (k0 : Int) (hk0 : 0 ≤ k0) (hk : k0 + l.length ≤ 4611686018427387904) (hl : l.length ≤ 140737488355328) (d : Nat) : ∀ i : Nat, i ≤ l.length → l.length - i = d →
    Ev (fun k => laws_markIntS.l0 k (marks id k0 i ++ l.drop i) (k0 + i) (i : Int)) (k0 + l.length, marks id k0 l.length) := by
  induction d with
  | zero =>
    intro i hi hd
    obtain rfl : i = l.length := by omega
    refine evUp ?_
    have h1 : ¬ ((l.length : Nat) : Int) < (((marks id k0 l.length ++ l.drop l.length).length : Nat) : Int) := by
      rw [List.length_append, marks_length, List.drop_length, List.length_nil]; omega
    simp only [laws_markIntS.l0, h1, if_false]
    rw [List.drop_length, List.append_nil]
    exact Ev.now _
  | succ d ih =>
    intro i hi hd
    have hlt : i < l.length := by omega
    refine evUp ?_
    have h1 : (i : Int) < (((marks id k0 i ++ l.drop i).length : Nat) : Int) := by
      rw [List.length_append, marks_length, List.length_drop]; omega
    have h2 : 0 ≤ (i : Int) := by omega
    simp only [laws_markIntS.l0, h1, h2, if_true]
    rw [Int.toNat_natCast, set_next _ l _ i (marks_length _ _ _) hlt, w64 (x := k0 + i + 1) (by omega) (by omega), w64 (x := (i : Int) + 1) (by omega) (by omega)]
    have h := ih (i + 1) (by omega) (by omega)
    rw [marks_succ] at h
    rw [show k0 + (i : Int) + 1 = k0 + ((i + 1 : Nat) : Int) from by omega]
    exact h

theorem markIntS_ev (l : List Int) (k0 : Int) (hk0 : 0 ≤ k0) (hk : k0 + l.length ≤ 4611686018427387904) (hl : l.length ≤ 140737488355328) :
    Ev (fun k => laws_markIntS.f k l k0) (k0 + l.length, marks id k0 l.length) := by
  have h := markIntS_l0 l k0 hk0 hk hl l.length 0 (by omega) (by omega)
  simp only [laws_markIntS.f]
  simpa [marks] using h

theorem markBoolS_l0 (l : List Bool) (k0 : Int) (hk0 : 0 ≤ k0) (hk : k0 + l.length ≤ 4611686018427387904) (hl : l.length ≤ 140737488355328) (d : Nat) : ∀ i : Nat, i ≤ l.length → l.length - i = d →
    Ev (fun k => laws_markBoolS.l0 k (marks markB k0 i ++ l.drop i) (k0 + i) (i : Int)) (k0 + l.length, marks markB k0 l.length) := by
  induction d with
  | zero =>
    intro i hi hd
    obtain rfl : i = l.length := by omega
    refine evUp ?_
    have h1 : ¬ ((l.length : Nat) : Int) < (((marks markB k0 l.length ++ l.drop l.length).length : Nat) : Int) := by
      rw [List.length_append, marks_length, List.drop_length, List.length_nil]; omega
    simp only [laws_markBoolS.l0, h1, if_false]
    rw [List.drop_length, List.append_nil]
    exact Ev.now _
  | succ d ih =>
    intro i hi hd
    have hlt : i < l.length := by omega
    refine evUp ?_
    have h1 : (i : Int) < (((marks markB k0 i ++ l.drop i).length : Nat) : Int) := by
      rw [List.length_append, marks_length, List.length_drop]; omega
    have h2 : 0 ≤ (i : Int) := by omega
    have h3 : (Int.tmod (k0 + i) 3 == 0) = markB (k0 + (i : Int)) := by unfold markB; rw [tmod_pos (by omega)]
    simp only [laws_markBoolS.l0, h1, h2, if_true, h3]
    rw [Int.toNat_natCast, set_next _ l _ i (marks_length _ _ _) hlt, w64 (x := k0 + i + 1) (by omega) (by omega), w64 (x := (i : Int) + 1) (by omega) (by omega)]
    have h := ih (i + 1) (by omega) (by omega)
    rw [marks_succ] at h
    rw [show k0 + (i : Int) + 1 = k0 + ((i + 1 : Nat) : Int) from by omega]
    exact h

theorem markBoolS_ev (l : List Bool) (k0 : Int) (hk0 : 0 ≤ k0) (hk : k0 + l.length ≤ 4611686018427387904) (hl : l.length ≤ 140737488355328) :
    Ev (fun k => laws_markBoolS.f k l k0) (k0 + l.length, marks markB k0 l.length) := by
  have h := markBoolS_l0 l k0 hk0 hk hl l.length 0 (by omega) (by omega)
  simp only [laws_markBoolS.f]
  simpa [marks] using h

theorem heldIntS_l0 (n : Nat) (k0 : Int) (hk0 : 0 ≤ k0) (hk : k0 + n ≤ 4611686018427387904) (hl : n ≤ 140737488355328) (d : Nat) : ∀ i : Nat, i ≤ n → n - i = d →
    Ev (fun k => laws_heldIntS.l0 k (marks id k0 n) (k0 + i) (i : Int)) (k0 + n) := by
  induction d with
  | zero =>
    intro i hi hd
    obtain rfl : i = n := by omega
    refine evUp ?_
    have h1 : ¬ ((i : Nat) : Int) < (((marks id k0 i).length : Nat) : Int) := by rw [marks_length]; omega
    simp only [laws_heldIntS.l0, h1, if_false]
    exact Ev.now _
  | succ d ih =>
    intro i hi hd
    have hlt : i < n := by omega
    refine evUp ?_
    have h1 : (i : Int) < (((marks id k0 n).length : Nat) : Int) := by rw [marks_length]; omega
    have h2 : 0 ≤ (i : Int) := by omega
    have h3 : rd (marks id k0 n) (i : Int) = k0 + i := by
      rw [rd_get (by rw [marks_length]; exact hlt), marks_get _ _ _ _ hlt]; rfl
    simp only [laws_heldIntS.l0, h1, h2, h3, if_true]
    rw [w64 (x := k0 + i + 1) (by omega) (by omega), w64 (x := (i : Int) + 1) (by omega) (by omega)]
    rw [show k0 + (i : Int) + 1 = k0 + ((i + 1 : Nat) : Int) from by omega]
    exact ih (i + 1) (by omega) (by omega)

theorem heldIntS_ev (n : Nat) (k0 : Int) (hk0 : 0 ≤ k0) (hk : k0 + n ≤ 4611686018427387904) (hl : n ≤ 140737488355328) :
    Ev (fun k => laws_heldIntS.f k (marks id k0 n) k0) (k0 + n) := by
  have h := heldIntS_l0 n k0 hk0 hk hl n 0 (by omega) (by omega)
  simp only [laws_heldIntS.f]
  simpa using h

theorem heldBoolS_l0 (n : Nat) (k0 : Int) (hk0 : 0 ≤ k0) (hk : k0 + n ≤ 4611686018427387904) (hl : n ≤ 140737488355328) (d : Nat) : ∀ i : Nat, i ≤ n → n - i = d →
    Ev (fun k => laws_heldBoolS.l0 k (marks markB k0 n) (k0 + i) (i : Int)) (k0 + n) := by
  induction d with
  | zero =>
    intro i hi hd
    obtain rfl : i = n := by omega
    refine evUp ?_
    have h1 : ¬ ((i : Nat) : Int) < (((marks markB k0 i).length : Nat) : Int) := by rw [marks_length]; omega
    simp only [laws_heldBoolS.l0, h1, if_false]
    exact Ev.now _
  | succ d ih =>
    intro i hi hd
    have hlt : i < n := by omega
    refine evUp ?_
    have h1 : (i : Int) < (((marks markB k0 n).length : Nat) : Int) := by rw [marks_length]; omega
    have h2 : 0 ≤ (i : Int) := by omega
    have h3 : (rdOf false (marks markB k0 n) (i : Int) != (Int.tmod (k0 + i) 3 == 0)) = false := by
      rw [rdOf_get (by rw [marks_length]; exact hlt), marks_get _ _ _ _ hlt, tmod_pos (by omega)]
      unfold markB
      exact bne_self_eq_false _
    simp only [laws_heldBoolS.l0, h1, h2, h3, if_true, Bool.false_eq_true, if_false]
    rw [w64 (x := k0 + i + 1) (by omega) (by omega), w64 (x := (i : Int) + 1) (by omega) (by omega)]
    rw [show k0 + (i : Int) + 1 = k0 + ((i + 1 : Nat) : Int) from by omega]
    exact ih (i + 1) (by omega) (by omega)

theorem heldBoolS_ev (n : Nat) (k0 : Int) (hk0 : 0 ≤ k0) (hk : k0 + n ≤ 4611686018427387904) (hl : n ≤ 140737488355328) :
    Ev (fun k => laws_heldBoolS.f k (marks markB k0 n) k0) (k0 + n) := by
  have h := heldBoolS_l0 n k0 hk0 hk hl n 0 (by omega) (by omega)
  simp only [laws_heldBoolS.f]
  simpa using h

theorem markDevice_ev (a b : List Bool) (c d : List Int) (k0 : Int) (hk0 : 0 ≤ k0) (hk : k0 ≤ 4194305) (ha : a.length ≤ 1048576) (hb : b.length ≤ 1048576) (hc : c.length ≤ 1048576) (hd : d.length ≤ 1048576) :
    Ev (fun k => laws_markDevice.f k a b c d k0) (k0 + a.length + b.length + c.length + d.length, marks markB k0 a.length, marks markB (k0 + a.length) b.length, marks id (k0 + a.length + b.length) c.length, marks id (k0 + a.length + b.length + c.length) d.length) := by
  simp only [laws_markDevice.f]
  refine evBind (markBoolS_ev a k0 hk0 (by omega) (by omega)) ?_
  refine evBind (markBoolS_ev b (k0 + a.length) (by omega) (by omega) (by omega)) ?_
  refine evBind (markIntS_ev c (k0 + a.length + b.length) (by omega) (by omega) (by omega)) ?_
  refine evBind (markIntS_ev d (k0 + a.length + b.length + c.length) (by omega) (by omega) (by omega)) ?_
  exact Ev.now _
theorem heldDevice_ev (a b c d : Nat) (k0 : Int) (hk0 : 0 ≤ k0) (hk : k0 ≤ 4194305) (ha : a ≤ 1048576) (hb : b ≤ 1048576) (hc : c ≤ 1048576) (hd : d ≤ 1048576) :
    Ev (fun k => laws_heldDevice.f k (marks markB k0 a) (marks markB (k0 + a) b) (marks id (k0 + a + b) c) (marks id (k0 + a + b + c) d) k0) (k0 + a + b + c + d) := by
  have n1 : ¬ (k0 + (a : Int) < 0) := by omega
  have n2 : ¬ (k0 + (a : Int) + (b : Int) < 0) := by omega
  have n3 : ¬ (k0 + (a : Int) + (b : Int) + (c : Int) < 0) := by omega
  have n4 : ¬ (k0 + (a : Int) + (b : Int) + (c : Int) + (d : Int) < 0) := by omega
  simp only [laws_heldDevice.f]
  refine evBind (heldBoolS_ev a k0 hk0 (by omega) (by omega)) ?_
  simp only [n1, if_false]
  refine evBind (heldBoolS_ev b (k0 + a) (by omega) (by omega) (by omega)) ?_
  simp only [n2, if_false]
  refine evBind (heldIntS_ev c (k0 + a + b) (by omega) (by omega) (by omega)) ?_
  simp only [n3, if_false]
  refine evBind (heldIntS_ev d (k0 + a + b + c) (by omega) (by omega) (by omega)) ?_
  simp only [n4, if_false]
  exact Ev.now _
theorem impl_in_eq (a b c : Int) : impl_in.f a b c = some (decide (b ≤ a ∧ a ≤ c)) := by
  by_cases h0 : a ≥ b
  · have h1 : b ≤ a := h0
    simp only [impl_in.f, h0, h1, if_true, true_and]
  · have h1 : ¬ b ≤ a := h0
    simp only [impl_in.f, h0, h1, if_false, false_and, decide_false]
theorem spec_in_eq (a b c : Int) : spec_l1In.f a b c = some (decide (b ≤ a ∧ a ≤ c)) := by
  by_cases h0 : a ≥ b
  · have h1 : b ≤ a := h0
    simp only [spec_l1In.f, h0, h1, if_true, true_and]
  · have h1 : ¬ b ≤ a := h0
    simp only [spec_l1In.f, h0, h1, if_false, false_and, decide_false]
/-- How many of each a device of size n has. -/
def sizeOf (n : Int) : Nat := if 0 ≤ n ∧ n ≤ 64 then n.toNat else 0
theorem sizeOf_le (n : Int) : sizeOf n ≤ 64 := by unfold sizeOf; split <;> omega
def newDevice (n : Int) : List Bool × List Bool × List Int × List Int := (List.replicate (sizeOf n) false, List.replicate (sizeOf n) false, List.replicate (sizeOf n) 0, List.replicate (sizeOf n) 0)
theorem spec_DeviceNew_eq (n : Int) : spec_DeviceNew.f n = some (newDevice n) := by
  simp only [spec_DeviceNew.f, spec_in_eq, Option.bind_some, newDevice, sizeOf]
  by_cases h : 0 ≤ n ∧ n ≤ 64
  · have h2 : n.toNat ≤ 281474976710656 := by omega
    have h3 : n.toNat ≤ 35184372088832 := by omega
    simp only [decide_eq_true h, if_true, if_pos h, if_pos h.1, if_pos h2, if_pos h3]
  · have h2 : (0 : Nat) ≤ 281474976710656 := by omega
    have h3 : (0 : Nat) ≤ 35184372088832 := by omega
    simp only [decide_eq_false h, Bool.false_eq_true, if_false, if_neg h, if_pos h2, if_pos h3]
theorem impl_DeviceNew_eq (n : Int) : impl_DeviceNew.f n = some (newDevice n) := by
  simp only [impl_DeviceNew.f, impl_in_eq, Option.bind_some, newDevice, sizeOf]
  by_cases h : 0 ≤ n ∧ n ≤ 64
  · have h2 : n.toNat ≤ 281474976710656 := by omega
    have h3 : n.toNat ≤ 35184372088832 := by omega
    simp only [decide_eq_true h, if_true, if_pos h, if_pos h.1, if_pos h2, if_pos h3]
  · have h2 : (0 : Nat) ≤ 281474976710656 := by omega
    have h3 : (0 : Nat) ≤ 35184372088832 := by omega
    simp only [decide_eq_false h, Bool.false_eq_true, if_false, if_neg h, if_pos h2, if_pos h3]
theorem FnExactDeviceNew : laws_FnExactDeviceNew.Pure := by
  intro n _
  refine Ev.rounds (g := fun k => laws_FnExactDeviceNew.f k n) ?_
  have hs := sizeOf_le n
  simp only [laws_FnExactDeviceNew.f, spec_DeviceNew_eq, impl_DeviceNew_eq, Option.bind_some, newDevice]
  generalize sizeOf n = m at hs
  have l1 : (List.replicate m false).length = m := List.length_replicate
  have l2 : (List.replicate m (0 : Int)).length = m := List.length_replicate
  have q := eqDevice_refl (List.replicate m false) (List.replicate m false) (List.replicate m (0 : Int)) (List.replicate m (0 : Int)) (by omega) (by omega) (by omega) (by omega)
  have hm := markDevice_ev (List.replicate m false) (List.replicate m false) (List.replicate m (0 : Int)) (List.replicate m (0 : Int)) 1 (by omega) (by omega) (by omega) (by omega) (by omega) (by omega)
  have hh := heldDevice_ev m m m m 1 (by omega) (by omega) (by omega) (by omega) (by omega) (by omega)
  rw [l1, l2] at hm
  have n1 : ¬ (1 + (m : Int) + (m : Int) + (m : Int) + (m : Int) < 0) := by omega
  refine evBind q ?_
  simp only [if_true]
  refine evBind hm ?_
  refine evBind hh ?_
  simp only [n1, if_false, if_true]
  refine evBind q ?_
  simp only [if_true]
  refine evBind hh ?_
  simp only [n1, if_false, if_true]
  exact Ev.now _

end Go.Proofs.Ytnikdfcdddlfbaa.Pure
