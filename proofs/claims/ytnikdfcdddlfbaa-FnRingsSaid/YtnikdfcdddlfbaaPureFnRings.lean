/- The law on rings is true of all bytes: what is put into a drawn ring is taken in its order. No condition. -/
import Derived.Test.YtnikdfcdddlfbaaSFnRings
import Derived.Test.YtnikdfcdddlfbaaC
namespace Go.Proofs.Ytnikdfcdddlfbaa.Pure
open Go.Proofs.Ytnikdfcdddlfbaa.G Go Go.RowKit Go.Proofs.Ytnikdfcdddlfbaa.PFnRings Go.Proofs.YtnikdfcdddlfbaaW.PrintWords Go.Proofs.YtnikdfcdddlfbaaW.PrintLast Go.Proofs.Ytnikdfcdddlfbaa.PlainC
set_option linter.unusedVariables false
set_option linter.unusedSimpArgs false

theorem sameBytes_l0 (a b : List Int) (hl : a.length ≤ 140737488351232) (he : a.length = b.length) (d : Nat) : ∀ i : Nat, i ≤ a.length → a.length - i = d →
    Ev (fun k => laws_sameBytes.l0 k a b (i : Int)) (decide (a.drop i = b.drop i)) := by
  induction d with
  | zero =>
    intro i hi hd
    obtain rfl : i = a.length := by omega
    refine evUp ?_
    have h1 : ¬ ((a.length : Nat) : Int) < (a.length : Int) := by omega
    simp only [laws_sameBytes.l0, h1, if_false]
    have e : decide (a.drop a.length = b.drop a.length) = true := by
      rw [List.drop_length, he, List.drop_length]; rfl
    rw [e]
    exact Ev.now _
  | succ d ih =>
    intro i hi hd
    have ha : i < a.length := by omega
    have hb : i < b.length := by omega
    refine evUp ?_
    have h1 : (i : Int) < (a.length : Int) := by omega
    have h2 : 0 ≤ (i : Int) := by omega
    have h3 : (i : Int) < (b.length : Int) := by omega
    simp only [laws_sameBytes.l0, h1, h2, h3, if_true]
    rw [rd_get ha, rd_get hb, w64 (by omega) (by omega)]
    by_cases e : a[i] = b[i]
    · simp only [e, if_true]
      have e2 : decide (a.drop i = b.drop i) = decide (a.drop (i + 1) = b.drop (i + 1)) := by
        rw [decide_eq_decide, drop_eq_iff ha hb]; simp [e]
      rw [e2]
      exact ih (i + 1) (by omega) (by omega)
    · simp only [e, if_false]
      have e2 : decide (a.drop i = b.drop i) = false := by
        rw [decide_eq_false_iff_not, drop_eq_iff ha hb]; simp [e]
      rw [e2]
      exact Ev.now _

theorem sameBytes_ev (a b : List Int) (hl : a.length ≤ 140737488351232) : Ev (fun k => laws_sameBytes.f k a b) (decide (a = b)) := by
  by_cases he : a.length = b.length
  · have h := sameBytes_l0 a b hl he a.length 0 (by omega) (by omega)
    have h1 : (a.length : Int) = (b.length : Int) := by omega
    simp only [laws_sameBytes.f, h1, if_true]
    exact h
  · have h1 : ¬ (a.length : Int) = (b.length : Int) := by omega
    have e : decide (a = b) = false := by
      rw [decide_eq_false_iff_not]; intro h; exact he (by rw [h])
    simp only [laws_sameBytes.f, h1, if_false]
    rw [e]
    exact Ev.now _

theorem sameBytes_refl (a : List Int) (hl : a.length ≤ 140737488351232) : Ev (fun k => laws_sameBytes.f k a a) true := by
  have h := sameBytes_ev a a hl
  rwa [decide_eq_true rfl] at h

/-- What a ring is once bytes are put into it, and how many there was no room for. -/
def ringPutOf (l b : List Int) : List Int × Int := if l.length ≤ 300 then (l ++ b.take (min b.length (300 - l.length)), (b.length : Int) - ((min b.length (300 - l.length) : Nat) : Int)) else (l, (b.length : Int))
theorem clone_bytes (l : List Int) (h : l.length ≤ 70368744177664) : slices_Clone_byte_byte.f l = some l := by unfold slices_Clone_byte_byte.f; rw [if_pos (by omega)]
theorem concat_bytes (l b : List Int) (h : l.length + b.length ≤ 70368744177664) : slices_Concat_byte_byte.f [l, b] = some (l ++ b) := by
  have e : [l, b].flatten = l ++ b := by simp
  unfold slices_Concat_byte_byte.f
  rw [e, if_pos (by rw [List.length_append]; exact h)]
theorem impl_RingPut_eq (l b : List Int) (hl : l.length ≤ 1048576) (hb : b.length ≤ 1048576) : impl_RingPut.f l b = some (ringPutOf l b) := by
  unfold impl_RingPut.f impl_RingOk.f ringPutOf
  by_cases h : l.length ≤ 300
  · have h1 : (l.length : Int) ≤ 300 := by omega
    have e0 : wrap64 (300 - (l.length : Int)) = 300 - (l.length : Int) := w64 (by omega) (by omega)
    have e : mn (b.length : Int) (300 - (l.length : Int)) = ((min b.length (300 - l.length) : Nat) : Int) := by unfold mn; split <;> omega
    have e2 : wrap64 ((b.length : Int) - ((min b.length (300 - l.length) : Nat) : Int)) = (b.length : Int) - ((min b.length (300 - l.length) : Nat) : Int) := w64 (by omega) (by omega)
    rw [decide_eq_true h1, Option.bind_some, if_pos rfl, e0, e, if_pos (by omega), if_pos (by omega), Int.toNat_natCast, concat_bytes _ _ (by rw [List.length_take]; omega), Option.bind_some, e2, if_pos h]
  · have h1 : ¬ (l.length : Int) ≤ 300 := by omega
    rw [decide_eq_false h1, Option.bind_some, if_neg (by decide), clone_bytes _ (by omega), Option.bind_some, if_neg h]

/-- What is taken, and what is left. -/
def takeOf (l : List Int) (n : Int) : List Int × List Int := if l.length ≤ 300 then (l.take (min n.toNat l.length), l.drop (min n.toNat l.length)) else ([], l)

theorem impl_RingTake_eq (l : List Int) (n : Int) (hl : l.length ≤ 1048576) : impl_RingTake.f l n = some (takeOf l n) := by
  have cl : ∀ x : List Int, x.length ≤ 1048576 → slices_Clone_byte_byte.f x = some x := fun x hx => by
    unfold slices_Clone_byte_byte.f; rw [if_pos (by omega)]
  by_cases h : l.length ≤ 300
  · have h1 : (l.length : Int) ≤ 300 := by omega
    have e : mx 0 (mn n (l.length : Int)) = ((min n.toNat l.length : Nat) : Int) := by unfold mx mn; split <;> split <;> omega
    have h2 : 0 ≤ ((min n.toNat l.length : Nat) : Int) := by omega
    have h3 : ((min n.toNat l.length : Nat) : Int) ≤ (l.length : Int) := by omega
    have c1 := cl (l.take (min n.toNat l.length)) (by rw [List.length_take]; omega)
    have c2 := cl (l.drop (min n.toNat l.length)) (by rw [List.length_drop]; omega)
    simp only [impl_RingTake.f, impl_RingOk.f, h1, decide_true, Option.bind_some, if_true, e, h2, h3, Int.toNat_natCast, c1, c2, takeOf, h]
  · have h1 : ¬ (l.length : Int) ≤ 300 := by omega
    simp only [impl_RingTake.f, impl_RingOk.f, h1, decide_false, Bool.false_eq_true, Option.bind_some, if_false, cl l hl, takeOf, h]

/-- A draw tells a number of which P holds, and a cursor that stands right. -/
def Told (o : Option (Int × Int × Int)) (P : Int → Prop) : Prop := ∃ v i h, o = some (v, i, h) ∧ P v ∧ 0 ≤ i

theorem l1New_l0 (l : List Int) (hl : l.length ≤ 140737488351232) (d : Nat) : ∀ (i : Nat) (x : Int), i ≤ l.length → l.length - i = d → ∃ h, Ev (fun k => spec_l1New.l0 k l x (i : Int)) (l, 0, h) := by
  induction d with
  | zero =>
    intro i x hi hd
    obtain rfl : i = l.length := by omega
    refine ⟨x, evUp ?_⟩
    have h1 : ¬ ((l.length : Nat) : Int) < (l.length : Int) := by omega
    simp only [spec_l1New.l0, h1, if_false]
    exact Ev.now _
  | succ d ih =>
    intro i x hi hd
    have h1 : (i : Int) < (l.length : Int) := by omega
    have h2 : 0 ≤ (i : Int) := by omega
    by_cases h3 : (i : Int) < 4000
    · obtain ⟨h, hh⟩ := ih (i + 1) (Go.bits .and .i64 (wrap64 ((wrap64 ((wrap64 (x * 137)) + (wrap64 (rd l i)))) + 11)) 1073741823) (by omega) (by omega)
      refine ⟨h, evUp ?_⟩
      simp only [spec_l1New.l0, h1, h2, h3, if_true]
      rw [w64 (x := (i : Int) + 1) (by omega) (by omega)]
      exact hh
    · refine ⟨x, evUp ?_⟩
      simp only [spec_l1New.l0, h1, h3, if_true, if_false]
      exact Ev.now _

theorem l1New_ev (l : List Int) (hl : l.length ≤ 140737488351232) : ∃ h, Ev (fun k => spec_l1New.f k l) (l, 0, h) :=
  l1New_l0 l hl l.length 0 _ (by omega) (by omega)

theorem l1Byte_told (l : List Int) (hl : l.length ≤ 140737488351232) (i h : Int) (hi : 0 ≤ i) : Told (spec_l1Byte.f l i h) (fun v => 0 ≤ v ∧ v ≤ 255) := by
  by_cases h1 : i < (l.length : Int)
  · refine ⟨_, _, _, by simp only [spec_l1Byte.f, h1, hi, if_true]; rfl, ?_, ?_⟩
    · rw [and_255]; omega
    · rw [w64 (by omega) (by omega)]; omega
  · refine ⟨_, _, _, by simp only [spec_l1Byte.f, h1, if_false]; rfl, ?_, hi⟩
    rw [and_255]; omega

theorem l1Below_told (l : List Int) (hl : l.length ≤ 140737488351232) (i h n : Int) (hi : 0 ≤ i) (hn : 0 < n) : Told (spec_l1Below.f l i h n) (fun v => 0 ≤ v ∧ v < n ∧ v ≤ 16777215) := by
  have n0 : ¬ n ≤ 0 := by omega
  have n1 : ¬ n = 0 := by omega
  obtain ⟨v1, i1, h1, e1, p1, hi1⟩ := l1Byte_told l hl i h hi
  by_cases h2 : n ≤ 256
  · refine ⟨_, _, _, by simp only [spec_l1Below.f, n0, n1, h2, if_false, if_true, e1, Option.bind_some]; rfl, ?_, hi1⟩
    rw [tmod_pos p1.1]
    have a1 := Int.emod_nonneg v1 n1
    have a2 := Int.emod_lt_of_pos v1 hn
    have a3 : v1 % n ≤ v1 := emod_le_self p1.1 hn
    omega
  · obtain ⟨v2, i2, h2', e2, p2, hi2⟩ := l1Byte_told l hl i1 h1 hi1
    obtain ⟨v3, i3, h3, e3, p3, hi3⟩ := l1Byte_told l hl i2 h2' hi2
    refine ⟨_, _, _, by simp only [spec_l1Below.f, n0, n1, h2, if_false, e1, e2, e3, Option.bind_some]; rfl, ?_, hi3⟩
    rw [w64 (x := v1 * 65536) (by omega) (by omega), w64 (x := v2 * 256) (by omega) (by omega), w64 (x := v1 * 65536 + v2 * 256) (by omega) (by omega), w64 (by omega) (by omega), tmod_pos (by omega)]
    have a0 : 0 ≤ v1 * 65536 + v2 * 256 + v3 := by omega
    have a1 := Int.emod_nonneg (v1 * 65536 + v2 * 256 + v3) n1
    have a2 := Int.emod_lt_of_pos (v1 * 65536 + v2 * 256 + v3) hn
    have a3 : (v1 * 65536 + v2 * 256 + v3) % n ≤ v1 * 65536 + v2 * 256 + v3 := emod_le_self a0 hn
    omega

theorem l1Int_told (l : List Int) (hl : l.length ≤ 140737488351232) (i h : Int) (xs : List Int) (hi : 0 ≤ i) (hx : 0 < xs.length) : Told (spec_l1Int.f l i h xs) (fun v => v ∈ xs) := by
  obtain ⟨v, i1, h1, e1, p1, hi1⟩ := l1Below_told l hl i h (xs.length : Int) hi (by omega)
  have a1 : 0 ≤ v := p1.1
  have a2 : v < (xs.length : Int) := p1.2.1
  exact ⟨_, _, _, by simp only [spec_l1Int.f, e1, Option.bind_some, a1, a2, if_true]; rfl, rd_mem a1 a2, hi1⟩

theorem l1Once_some (l : List Int) (hl : l.length ≤ 140737488351232) (i h n : Int) (hi : 0 ≤ i) (hn : 0 < n) : ∃ v i' h', spec_l1Once.f l i h n = some (v, i', h') ∧ 0 ≤ i' := by
  obtain ⟨v, i1, c1, e1, _, hi1⟩ := l1Below_told l hl i h n hi hn
  exact ⟨_, i1, c1, by simp only [spec_l1Once.f, e1, Option.bind_some]; rfl, hi1⟩

theorem l1Bytes_l0 (l : List Int) (hl : l.length ≤ 140737488351232) (n : Nat) (hn : n ≤ 1000) (d : Nat) : ∀ (j : Nat) (acc : List Int) (i h : Int), j ≤ n → n - j = d → acc.length = j → B8 acc → 0 ≤ i →
    ∃ xs i' h', Ev (fun k => spec_l1Bytes.l0 k (n : Int) acc (j : Int) l i h) (xs, i', h') ∧ B8 xs ∧ xs.length = n ∧ 0 ≤ i' := by
  induction d with
  | zero =>
    intro j acc i h hj hd ha hb hi
    obtain rfl : j = n := by omega
    refine ⟨acc, i, h, evUp ?_, hb, ha, hi⟩
    have h1 : ¬ (j : Int) < (j : Int) := by omega
    simp only [spec_l1Bytes.l0, h1, if_false]
    exact Ev.now _
  | succ d ih =>
    intro j acc i h hj hd ha hb hi
    have h1 : (j : Int) < (n : Int) := by omega
    have h2 : acc.length < 140737488355328 := by omega
    obtain ⟨v, i1, c1, e1, p1, hi1⟩ := l1Byte_told l hl i h hi
    have e2 : v % 256 = v := by omega
    have hb1 : B8 (acc ++ [v]) := hb.append (fun x hx => by simp at hx; subst hx; exact p1)
    obtain ⟨xs, i', h', hev, hb', hlen, hi'⟩ := ih (j + 1) (acc ++ [v]) i1 c1 (by omega) (by omega) (by rw [List.length_append, ha]; rfl) hb1 hi1
    refine ⟨xs, i', h', evUp ?_, hb', hlen, hi'⟩
    simp only [spec_l1Bytes.l0, h1, h2, if_true, e1, Option.bind_some, e2]
    rw [w64 (x := (j : Int) + 1) (by omega) (by omega)]
    exact hev

theorem l1Some_ev (l : List Int) (hl : l.length ≤ 140737488351232) (i h : Int) (hi : 0 ≤ i) :
    ∃ xs i' h', Ev (fun k => spec_l1Some.f k l i h) (xs, i', h') ∧ B8 xs ∧ xs.length ≤ 20 ∧ 0 ≤ i' := by
  obtain ⟨v, i1, c1, e1, p1, hi1⟩ := l1Int_told l hl i h [0, 1, 2, 3, 5, 8, 20] hi (by simp)
  have hv : 0 ≤ v ∧ v ≤ 20 := by simp at p1; omega
  obtain ⟨m, rfl⟩ := Int.eq_ofNat_of_zero_le hv.1
  obtain ⟨xs, i', h', hev, hb, hlen, hi'⟩ := l1Bytes_l0 l hl m (by omega) m 0 [] i1 c1 (by omega) (by omega) rfl B8.nil hi1
  refine ⟨xs, i', h', ?_, hb, by omega, hi'⟩
  simp only [spec_l1Some.f, e1, Option.bind_some]
  exact evBind (g := fun k => spec_l1Bytes.f k l i1 c1 (m : Int)) hev (Ev.now _)

theorem l2Ring_ev (l : List Int) (hl : l.length ≤ 140737488351232) (i h : Int) (hi : 0 ≤ i) :
    ∃ xs i' h', Ev (fun k => spec_l2Ring.f k l i h) (xs, i', h') ∧ xs.length ≤ 301 ∧ 0 ≤ i' := by
  obtain ⟨v, i1, h1, e1, hi1⟩ := l1Once_some l hl i h 6 hi (by omega)
  cases v with
  | true =>
    obtain ⟨n, i2, h2, e2, p2, hi2⟩ := l1Below_told l hl i1 h1 4 hi1 (by omega)
    have w : wrap64 (298 + n) = 298 + n := w64 (by omega) (by omega)
    have c1 : 0 ≤ 298 + n := by omega
    have c2 : (298 + n).toNat ≤ 281474976710656 := by omega
    refine ⟨List.replicate (298 + n).toNat 0, i2, h2, ?_, by rw [List.length_replicate]; omega, hi2⟩
    simp only [spec_l2Ring.f, e1, e2, Option.bind_some, if_true, w, c1, c2]
    exact Ev.now _
  | false =>
    obtain ⟨xs, i2, h2, e2, _, p2, hi2⟩ := l1Some_ev l hl i1 h1 hi1
    refine ⟨xs, i2, h2, ?_, by omega, hi2⟩
    simp only [spec_l2Ring.f, e1, Option.bind_some, Bool.false_eq_true, if_false]
    exact evBind e2 (Ev.now _)

theorem drawRingPut_ev (l : List Int) (hl : l.length ≤ 140737488351232) : ∃ r b, Ev (fun k => spec_DrawRingPut.f k l) (r, b) ∧ r.length ≤ 301 ∧ b.length ≤ 20 := by
  obtain ⟨h, e0⟩ := l1New_ev l hl
  obtain ⟨r, i1, h1, e1, p1, hi1⟩ := l2Ring_ev l hl 0 h (by omega)
  obtain ⟨b, i2, h2, e2, _, p2, hi2⟩ := l1Some_ev l hl i1 h1 hi1
  refine ⟨r, b, ?_, p1, p2⟩
  unfold spec_DrawRingPut.f
  exact evBind e0 (evBind e1 (evBind e2 (Ev.now _)))

theorem at_some (l : List Int) (hl : l.length ≤ 1048576) : ∃ x, laws_at.f l 2 = some x := by
  unfold laws_at.f
  by_cases h : (2 : Int) < (l.length : Int)
  · exact ⟨_, by rw [if_pos h, if_pos (by omega)]⟩
  · exact ⟨_, by rw [if_neg h]⟩

theorem FnRings : laws_FnRings.Pure := by
  intro l h1 h2
  refine Ev.rounds (g := fun k => laws_FnRings.f k l) ?_
  by_cases hbig : (l.length : Int) > 1048576
  · simp only [laws_FnRings.f, laws_big.f, hbig, decide_true, Option.bind_some, if_true]; exact Ev.now _
  have hl : l.length ≤ 1048576 := by omega
  obtain ⟨r, b, e0, p1, p2⟩ := drawRingPut_ev l (by omega)
  have hb : laws_big.f l = some false := by unfold laws_big.f; rw [decide_eq_false hbig]
  simp only [laws_FnRings.f, hb, Option.bind_some, Bool.false_eq_true, if_false]
  refine evBind e0 ?_
  simp only [impl_RingPut_eq r b (by omega) (by omega), Option.bind_some]
  by_cases c : r.length ≤ 300
  · have ok : spec_RingOk.f r = some true := by unfold spec_RingOk.f; rw [decide_eq_true (by omega)]
    have put : ringPutOf r b = (r ++ b.take (min b.length (300 - r.length)), (b.length : Int) - ((min b.length (300 - r.length) : Nat) : Int)) := by unfold ringPutOf; rw [if_pos c]
    rw [put]
    have hm : min b.length (300 - r.length) ≤ b.length := by omega
    have hm2 : min b.length (300 - r.length) ≤ 300 - r.length := by omega
    have hm3 : min b.length (300 - r.length) = b.length ∨ min b.length (300 - r.length) = 300 - r.length := by omega
    generalize min b.length (300 - r.length) = m at hm hm2 hm3
    have hn : (r ++ b.take m).length = r.length + m := by rw [List.length_append, List.length_take]; omega
    generalize hN : r ++ b.take m = n at hn
    have okn : impl_RingOk.f n = some true := by unfold impl_RingOk.f; rw [decide_eq_true (by omega)]
    obtain ⟨x, hx⟩ := at_some l hl
    simp only [ok, Option.bind_some, if_true, hx]
    rw [impl_RingTake_eq n _ (by omega)]
    simp only [Option.bind_some]
    generalize Int.tmod x 20 = j
    have t1 : takeOf n j = (n.take (min j.toNat n.length), n.drop (min j.toNat n.length)) := by unfold takeOf; rw [if_pos (by omega)]
    rw [t1]
    have hc : min j.toNat n.length ≤ n.length := by omega
    generalize min j.toNat n.length = c at hc
    have ld : (n.drop c).length = n.length - c := List.length_drop
    have lt : (n.take c).length = c := by rw [List.length_take]; omega
    rw [impl_RingTake_eq (n.drop c) 300 (by omega)]
    have t2 : takeOf (n.drop c) 300 = (n.drop c, []) := by
      unfold takeOf
      rw [if_pos (by omega), show min (300 : Int).toNat (n.drop c).length = (n.drop c).length from by rw [ld]; omega, List.take_length, List.drop_length]
    rw [t2]
    have w : wrap64 ((b.length : Int) - ((b.length : Int) - (m : Int))) = (m : Int) := by rw [show (b.length : Int) - ((b.length : Int) - (m : Int)) = (m : Int) from by omega]; exact w64 (by omega) (by omega)
    have g1 : (0 : Int) ≤ (m : Int) := by omega
    have g2 : (m : Int) ≤ (b.length : Int) := by omega
    have tb : (b.take m).length = m := by rw [List.length_take]; omega
    have k1 : (0 : Nat) + c < 140737488355328 := by omega
    have k2 : c + (n.length - c) < 140737488355328 := by omega
    have k3 : (0 : Nat) + r.length < 140737488355328 := by omega
    have k4 : r.length + m < 140737488355328 := by omega
    simp only [Option.bind_some, List.length_nil, List.nil_append, lt, ld, k1, k2, k3, if_true, w, g1, g2, Int.toNat_natCast, tb, k4, okn, List.take_append_drop, hN]
    refine evBind (sameBytes_refl n (by omega)) ?_
    simp only [if_true]
    by_cases z : (b.length : Int) - (m : Int) = 0
    · simp only [z, if_true, Int.natCast_zero]; exact Ev.now _
    · have q : (n.length : Int) = 300 := by omega
      simp only [z, if_true, if_false, Int.natCast_zero, q, beq_self_eq_true]; exact Ev.now _
  · have ok : spec_RingOk.f r = some false := by unfold spec_RingOk.f; rw [decide_eq_false (by omega)]
    have oki : impl_RingOk.f r = some false := by unfold impl_RingOk.f; rw [decide_eq_false (by omega)]
    have put : ringPutOf r b = (r, (b.length : Int)) := by unfold ringPutOf; rw [if_neg c]
    rw [put]
    simp only [ok, Option.bind_some, Bool.false_eq_true, if_false, if_true, oki, Bool.not_false]
    exact Ev.now _

end Go.Proofs.Ytnikdfcdddlfbaa.Pure
