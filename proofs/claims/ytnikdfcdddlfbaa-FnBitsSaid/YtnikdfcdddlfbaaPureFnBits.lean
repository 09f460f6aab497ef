/- The law on bits is true at every code: drawn bits come back of their bytes. No condition. -/
import Derived.Test.YtnikdfcdddlfbaaQFnBitsx2
import Derived.Test.YtnikdfcdddlfbaaC
namespace Go.Proofs.Ytnikdfcdddlfbaa.Pure
open Go Go.RowKit Go.Proofs.Ytnikdfcdddlfbaa.PFnBits Go.Proofs.YtnikdfcdddlfbaaW.PrintWords Go.Proofs.YtnikdfcdddlfbaaW.PrintLast Go.Proofs.Ytnikdfcdddlfbaa.PlainC
set_option linter.unusedVariables false
set_option linter.unusedSimpArgs false

theorem sameBits_l0 (a b : List Bool) (hl : a.length ≤ 140737488355328) (he : a.length = b.length) (d : Nat) : ∀ i : Nat, i ≤ a.length → a.length - i = d →
    Ev (fun k => laws_sameBits.l0 k a b (i : Int)) (decide (a.drop i = b.drop i)) := by
  induction d with
  | zero =>
    intro i hi hd
    obtain rfl : i = a.length := by omega
    refine evUp ?_
    have h1 : ¬ ((a.length : Nat) : Int) < (a.length : Int) := by omega
    simp only [laws_sameBits.l0, h1, if_false]
    have e : decide (a.drop a.length = b.drop a.length) = true := by
      rw [List.drop_length, he, List.drop_length]; rfl
    rw [e]
    exact Ev.now _
  | succ d ih =>
    intro i hi hd
    have ha : i < a.length := by omega
    have hb : i < b.length := by omega
    refine evUp ?_
    have h1 : (i : Int) < (a.length : Int) := by omega
    have h2 : 0 ≤ (i : Int) := by omega
    have h3 : (i : Int) < (b.length : Int) := by omega
    simp only [laws_sameBits.l0, h1, h2, h3, if_true]
    rw [rdOf_get ha, rdOf_get hb, w64 (by omega) (by omega)]
    by_cases e : a[i] = b[i]
    · simp only [e, bne_self_eq_false, Bool.false_eq_true, if_false]
      have e2 : decide (a.drop i = b.drop i) = decide (a.drop (i + 1) = b.drop (i + 1)) := by
        rw [decide_eq_decide, drop_eq_iff ha hb]; simp [e]
      rw [e2]
      exact ih (i + 1) (by omega) (by omega)
    · have e3 : (a[i] != b[i]) = true := by simpa using e
      simp only [e3, if_true]
      have e2 : decide (a.drop i = b.drop i) = false := by
        rw [decide_eq_false_iff_not, drop_eq_iff ha hb]; simp [e]
      rw [e2]
      exact Ev.now _

theorem sameBits_ev (a b : List Bool) (hl : a.length ≤ 140737488355328) : Ev (fun k => laws_sameBits.f k a b) (decide (a = b)) := by
  by_cases he : a.length = b.length
  · have h := sameBits_l0 a b hl he a.length 0 (by omega) (by omega)
    have h1 : (a.length : Int) = (b.length : Int) := by omega
    simp only [laws_sameBits.f, h1, if_true]
    exact h
  · have h1 : ¬ (a.length : Int) = (b.length : Int) := by omega
    have e : decide (a = b) = false := by
      rw [decide_eq_false_iff_not]; intro h; exact he (by rw [h])
    simp only [laws_sameBits.f, h1, if_false]
    rw [e]
    exact Ev.now _

theorem sameBits_refl (a : List Bool) (hl : a.length ≤ 140737488355328) : Ev (fun k => laws_sameBits.f k a a) true := by
  have h := sameBits_ev a a hl
  rwa [decide_eq_true rfl] at h

theorem impl_PackBits_l0 (bits : List Bool) (hl : bits.length ≤ 140737488351232) (d : Nat) : ∀ i : Nat, i ≤ bits.length → bits.length - i = d →
    Ev (fun k => impl_PackBits.l0 k (packTo bits ((bits.length + 7) / 8) i) bits (bits.length : Int) (i : Int)) (packed bits) := by
  induction d with
  | zero =>
    intro i hi hd
    obtain rfl : i = bits.length := by omega
    refine evUp ?_
    have h1 : ¬ ((bits.length : Nat) : Int) < (bits.length : Int) := by omega
    simp only [impl_PackBits.l0, h1, if_false]
    exact Ev.now _
  | succ d ih =>
    intro i hi hd
    have hlt : i < bits.length := by omega
    refine evUp ?_
    have h1 : (i : Int) < (bits.length : Int) := by omega
    have h2 : 0 ≤ (i : Int) := by omega
    have e1 : wrap64 (Int.tdiv (i : Int) 8) = ((i / 8 : Nat) : Int) := by rw [tdiv_pos h2, w64 (by omega) (by omega)]; omega
    have e2 : Int.tmod (i : Int) 8 = ((i % 8 : Nat) : Int) := by rw [tmod_pos h2]; omega
    have h3 : 0 ≤ ((i / 8 : Nat) : Int) := by omega
    have h4 : ((i / 8 : Nat) : Int) < ((packTo bits ((bits.length + 7) / 8) i).length : Int) := by rw [packTo_length]; omega
    have h5 : 0 ≤ ((i % 8 : Nat) : Int) := by omega
    have e3 : wrap64 ((i : Int) + 1) = ((i + 1 : Nat) : Int) := by rw [w64 (by omega) (by omega)]; omega
    have hg : bits.getD i false = bits[i] := by rw [List.getD_eq_getElem?_getD, List.getElem?_eq_getElem hlt]; rfl
    have hn := ih (i + 1) (by omega) (by omega)
    simp only [impl_PackBits.l0, h1, h2, if_true, rdOf_get hlt, e1, e2, h3, h4, h5, e3, Int.toNat_natCast]
    simp only [packTo, hg] at hn
    by_cases hc : bits[i] = true
    · simp only [hc, if_true] at hn ⊢
      exact hn
    · simp only [hc, if_false] at hn ⊢
      exact hn

theorem impl_PackBits_ev (bits : List Bool) (hl : bits.length ≤ 140737488351232) : Ev (fun k => impl_PackBits.f k bits) (packed bits) := by
  have h := impl_PackBits_l0 bits hl bits.length 0 (by omega) (by omega)
  have e1 : wrap64 (Int.tdiv (wrap64 ((bits.length : Int) + 7)) 8) = (((bits.length + 7) / 8 : Nat) : Int) := by
    rw [w64 (x := (bits.length : Int) + 7) (by omega) (by omega), tdiv_pos (by omega), w64 (by omega) (by omega)]; omega
  have h1 : 0 ≤ (((bits.length + 7) / 8 : Nat) : Int) := by omega
  have h2 : (bits.length + 7) / 8 ≤ 281474976710656 := by omega
  simp only [impl_PackBits.f, e1, h1, if_true, Int.toNat_natCast, h2]
  exact h

theorem impl_UnpackBits_l0 (l : List Int) (hl : l.length ≤ 1048576) (hb : B8 l) (n : Nat) (hn : n ≤ 8 * l.length) (d : Nat) : ∀ i : Nat, i ≤ 8 * l.length → 8 * l.length - i = d →
    Ev (fun k => impl_UnpackBits.l0 k l (n : Int) (bitsOf l (min i n) ++ List.replicate (n - min i n) false) (((8 * l.length : Nat)) : Int) (i : Int)) (if noneSet l (max i n) (8 * l.length - max i n) = true then (bitsOf l n, true) else ([], false)) := by
  induction d with
  | zero =>
    intro i hi hd
    obtain rfl : i = 8 * l.length := by omega
    refine evUp ?_
    have h1 : ¬ ((8 * l.length : Nat) : Int) < ((8 * l.length : Nat) : Int) := by omega
    have e1 : min (8 * l.length) n = n := Nat.min_eq_right hn
    have e2 : max (8 * l.length) n = 8 * l.length := Nat.max_eq_left hn
    simp only [impl_UnpackBits.l0, h1, if_false, e1, e2, Nat.sub_self, List.replicate_zero, List.append_nil]
    exact Ev.now _
  | succ d ih =>
    intro i hi hd
    refine evUp ?_
    have h1 : (i : Int) < ((8 * l.length : Nat) : Int) := by omega
    have h2 : 0 ≤ (i : Int) := by omega
    have e1 : wrap64 (Int.tdiv (i : Int) 8) = ((i / 8 : Nat) : Int) := by rw [tdiv_pos h2, w64 (by omega) (by omega)]; omega
    have e2 : Int.tmod (i : Int) 8 = ((i % 8 : Nat) : Int) := by rw [tmod_pos h2]; omega
    have h3 : 0 ≤ ((i / 8 : Nat) : Int) := by omega
    have h4 : ((i / 8 : Nat) : Int) < (l.length : Int) := by omega
    have h5 : 0 ≤ ((i % 8 : Nat) : Int) := by omega
    have e3 : wrap64 ((i : Int) + 1) = ((i + 1 : Nat) : Int) := by rw [w64 (by omega) (by omega)]; omega
    have hr := bit_read hb (i := i) (by omega)
    have hnx := ih (i + 1) (by omega) (by omega)
    by_cases hc : i < n
    · have c1 : (i : Int) < (n : Int) := by omega
      have m1 : min i n = i := by omega
      have m2 : min (i + 1) n = i + 1 := by omega
      have m3 : max i n = n := by omega
      have m4 : max (i + 1) n = n := by omega
      have h6 : (i : Int) < ((bitsOf l i ++ List.replicate (n - i) false).length : Int) := by
        rw [List.length_append, bitsOf_length, List.length_replicate]; omega
      have e4 : (bitsOf l i ++ List.replicate (n - i) false).set i (bitOf l i) = bitsOf l (i + 1) ++ List.replicate (n - (i + 1)) false := by
        rw [show n - i = (n - (i + 1)) + 1 from by omega, List.replicate_succ, List.set_append_right _ _ (by rw [bitsOf_length]; omega), bitsOf_length, Nat.sub_self, List.set_cons_zero, bitsOf_succ, List.append_assoc]
        rfl
      rw [m2, m4] at hnx
      simp only [m1, m3, impl_UnpackBits.l0, h1, h2, if_true, e1, e2, h3, h4, h5, e3, Int.toNat_natCast, c1, h6, hr, e4]
      exact hnx
    · have c1 : ¬ (i : Int) < (n : Int) := by omega
      have m1 : min i n = n := by omega
      have m2 : min (i + 1) n = n := by omega
      have m3 : max i n = i := by omega
      have m4 : max (i + 1) n = i + 1 := by omega
      rw [m2, m4] at hnx
      have e5 : noneSet l i (8 * l.length - i) = (!bitOf l i && noneSet l (i + 1) (8 * l.length - (i + 1))) := by
        rw [show 8 * l.length - i = (8 * l.length - (i + 1)) + 1 from by omega, noneSet_succ]
      by_cases hs : bitOf l i = true
      · have hq : Go.bits .and .u8 (shr .u8 (rd l ((i / 8 : Nat) : Int)) ((i % 8 : Nat) : Int)) 1 = 1 := by rw [hs] at hr; simpa using hr
        simp only [m1, m3, impl_UnpackBits.l0, h1, if_true, e1, e2, h3, h4, h5, c1, if_false, hq, e5, hs, Bool.not_true, Bool.false_and, Bool.false_eq_true]
        exact Ev.now _
      · have hs2 : bitOf l i = false := by simpa using hs
        have hq : ¬ Go.bits .and .u8 (shr .u8 (rd l ((i / 8 : Nat) : Int)) ((i % 8 : Nat) : Int)) 1 = 1 := by rw [hs2] at hr; simpa using hr
        simp only [m1, m3, impl_UnpackBits.l0, h1, if_true, e1, e2, h3, h4, h5, e3, c1, if_false, hq, e5, hs2, Bool.not_false, Bool.true_and]
        exact hnx

theorem impl_UnpackBits_ev (l : List Int) (hl : l.length ≤ 1048576) (hb : B8 l) (n : Int) (hn : n ≤ 9223372036854775807) : Ev (fun k => impl_UnpackBits.f k l n) (unpackOf l n) := by
  have e1 : wrap64 (8 * (l.length : Int)) = ((8 * l.length : Nat) : Int) := by rw [w64 (by omega) (by omega)]; omega
  by_cases h1 : n < 0
  · have hu : unpackOf l n = ([], false) := by unfold unpackOf; rw [if_pos (by omega)]
    rw [hu]
    simp only [impl_UnpackBits.f, h1, if_true]
    refine evUp ?_
    simp only [impl_UnpackBits.j0, if_true]
    exact Ev.now _
  · by_cases h2 : n > ((8 * l.length : Nat) : Int)
    · have hu : unpackOf l n = ([], false) := by unfold unpackOf; rw [if_pos (by omega)]
      rw [hu]
      simp only [impl_UnpackBits.f, h1, if_false, e1, h2, if_true]
      refine evUp ?_
      simp only [impl_UnpackBits.j0, if_true]
      exact Ev.now _
    · obtain ⟨m, rfl⟩ := Int.eq_ofNat_of_zero_le (show 0 ≤ n by omega)
      have e2 : wrap64 (((8 * l.length : Nat) : Int) - (m : Int)) = ((8 * l.length : Nat) : Int) - (m : Int) := w64 (by omega) (by omega)
      by_cases h3 : ((8 * l.length : Nat) : Int) - (m : Int) > 7
      · have hu : unpackOf l (m : Int) = ([], false) := by unfold unpackOf; rw [if_pos (by omega)]
        rw [hu]
        simp only [impl_UnpackBits.f, h1, if_false, e1, h2, e2, h3, decide_true]
        refine evUp ?_
        simp only [impl_UnpackBits.j0, if_true]
        exact Ev.now _
      · have hu : unpackOf l (m : Int) = if noneSet l m (8 * l.length - m) = true then (bitsOf l m, true) else ([], false) := by
          unfold unpackOf; rw [if_neg (by omega), Int.toNat_natCast]
        rw [hu]
        have h4 : 0 ≤ (m : Int) := by omega
        have h5 : m ≤ 281474976710656 := by omega
        have h := impl_UnpackBits_l0 l hl hb m (by omega) (8 * l.length) 0 (by omega) (by omega)
        rw [show min 0 m = 0 from by omega, show max 0 m = m from by omega] at h
        simp only [impl_UnpackBits.f, h1, if_false, e1, h2, e2, h3, decide_false]
        refine evUp ?_
        simp only [impl_UnpackBits.j0, Bool.false_eq_true, if_false, h4, if_true, Int.toNat_natCast, h5, e1]
        exact h

/-- A draw tells a number of which P holds, and a cursor that stands right. -/
def Told (o : Option (Int × Int × Int)) (P : Int → Prop) : Prop := ∃ v i h, o = some (v, i, h) ∧ P v ∧ 0 ≤ i

theorem l1New_l0 (l : List Int) (hl : l.length ≤ 140737488351232) (d : Nat) : ∀ (i : Nat) (x : Int), i ≤ l.length → l.length - i = d → ∃ h, Ev (fun k => spec_l1New.l0 k l x (i : Int)) (l, 0, h) := by
  induction d with
  | zero =>
    intro i x hi hd
    obtain rfl : i = l.length := by omega
    refine ⟨x, evUp ?_⟩
    have h1 : ¬ ((l.length : Nat) : Int) < (l.length : Int) := by omega
    simp only [spec_l1New.l0, h1, if_false]
    exact Ev.now _
  | succ d ih =>
    intro i x hi hd
    have h1 : (i : Int) < (l.length : Int) := by omega
    have h2 : 0 ≤ (i : Int) := by omega
    by_cases h3 : (i : Int) < 4000
    · obtain ⟨h, hh⟩ := ih (i + 1) (Go.bits .and .i64 (wrap64 ((wrap64 ((wrap64 (x * 137)) + (wrap64 (rd l i)))) + 11)) 1073741823) (by omega) (by omega)
      refine ⟨h, evUp ?_⟩
      simp only [spec_l1New.l0, h1, h2, h3, if_true]
      rw [w64 (x := (i : Int) + 1) (by omega) (by omega)]
      exact hh
    · refine ⟨x, evUp ?_⟩
      simp only [spec_l1New.l0, h1, h3, if_true, if_false]
      exact Ev.now _

theorem l1New_ev (l : List Int) (hl : l.length ≤ 140737488351232) : ∃ h, Ev (fun k => spec_l1New.f k l) (l, 0, h) :=
  l1New_l0 l hl l.length 0 _ (by omega) (by omega)

theorem l1Byte_told (l : List Int) (hl : l.length ≤ 140737488351232) (i h : Int) (hi : 0 ≤ i) : Told (spec_l1Byte.f l i h) (fun v => 0 ≤ v ∧ v ≤ 255) := by
  by_cases h1 : i < (l.length : Int)
  · refine ⟨_, _, _, by simp only [spec_l1Byte.f, h1, hi, if_true]; rfl, ?_, ?_⟩
    · rw [and_255]; omega
    · rw [w64 (by omega) (by omega)]; omega
  · refine ⟨_, _, _, by simp only [spec_l1Byte.f, h1, if_false]; rfl, ?_, hi⟩
    rw [and_255]; omega

theorem l1Below_told (l : List Int) (hl : l.length ≤ 140737488351232) (i h n : Int) (hi : 0 ≤ i) (hn : 0 < n) : Told (spec_l1Below.f l i h n) (fun v => 0 ≤ v ∧ v < n ∧ v ≤ 16777215) := by
  have n0 : ¬ n ≤ 0 := by omega
  have n1 : ¬ n = 0 := by omega
  obtain ⟨v1, i1, h1, e1, p1, hi1⟩ := l1Byte_told l hl i h hi
  by_cases h2 : n ≤ 256
  · refine ⟨_, _, _, by simp only [spec_l1Below.f, n0, n1, h2, if_false, if_true, e1, Option.bind_some]; rfl, ?_, hi1⟩
    rw [tmod_pos p1.1]
    have a1 := Int.emod_nonneg v1 n1
    have a2 := Int.emod_lt_of_pos v1 hn
    have a3 : v1 % n ≤ v1 := emod_le_self p1.1 hn
    omega
  · obtain ⟨v2, i2, h2', e2, p2, hi2⟩ := l1Byte_told l hl i1 h1 hi1
    obtain ⟨v3, i3, h3, e3, p3, hi3⟩ := l1Byte_told l hl i2 h2' hi2
    refine ⟨_, _, _, by simp only [spec_l1Below.f, n0, n1, h2, if_false, e1, e2, e3, Option.bind_some]; rfl, ?_, hi3⟩
    rw [w64 (x := v1 * 65536) (by omega) (by omega), w64 (x := v2 * 256) (by omega) (by omega), w64 (x := v1 * 65536 + v2 * 256) (by omega) (by omega), w64 (by omega) (by omega), tmod_pos (by omega)]
    have a0 : 0 ≤ v1 * 65536 + v2 * 256 + v3 := by omega
    have a1 := Int.emod_nonneg (v1 * 65536 + v2 * 256 + v3) n1
    have a2 := Int.emod_lt_of_pos (v1 * 65536 + v2 * 256 + v3) hn
    have a3 : (v1 * 65536 + v2 * 256 + v3) % n ≤ v1 * 65536 + v2 * 256 + v3 := emod_le_self a0 hn
    omega

theorem l1Int_told (l : List Int) (hl : l.length ≤ 140737488351232) (i h : Int) (xs : List Int) (hi : 0 ≤ i) (hx : 0 < xs.length) : Told (spec_l1Int.f l i h xs) (fun v => v ∈ xs) := by
  obtain ⟨v, i1, h1, e1, p1, hi1⟩ := l1Below_told l hl i h (xs.length : Int) hi (by omega)
  have a1 : 0 ≤ v := p1.1
  have a2 : v < (xs.length : Int) := p1.2.1
  exact ⟨_, _, _, by simp only [spec_l1Int.f, e1, Option.bind_some, a1, a2, if_true]; rfl, rd_mem a1 a2, hi1⟩

theorem l1Once_some (l : List Int) (hl : l.length ≤ 140737488351232) (i h n : Int) (hi : 0 ≤ i) (hn : 0 < n) : ∃ v i' h', spec_l1Once.f l i h n = some (v, i', h') ∧ 0 ≤ i' := by
  obtain ⟨v, i1, c1, e1, _, hi1⟩ := l1Below_told l hl i h n hi hn
  exact ⟨_, i1, c1, by simp only [spec_l1Once.f, e1, Option.bind_some]; rfl, hi1⟩

theorem l2Bits_l0 (l : List Int) (hl : l.length ≤ 140737488351232) (n : Nat) (hn : n ≤ 100000) (d : Nat) : ∀ (j : Nat) (acc : List Bool) (i h : Int), j ≤ n → n - j = d → acc.length = j → 0 ≤ i →
    ∃ xs i' h', Ev (fun k => spec_l2Bits.l0 k (n : Int) acc (j : Int) l i h) (xs, i', h') ∧ xs.length = n ∧ 0 ≤ i' := by
  induction d with
  | zero =>
    intro j acc i h hj hd ha hi
    obtain rfl : j = n := by omega
    refine ⟨acc, i, h, evUp ?_, ha, hi⟩
    have h1 : ¬ (j : Int) < (j : Int) := by omega
    simp only [spec_l2Bits.l0, h1, if_false]
    exact Ev.now _
  | succ d ih =>
    intro j acc i h hj hd ha hi
    have h1 : (j : Int) < (n : Int) := by omega
    have h2 : acc.length < 140737488355328 := by omega
    obtain ⟨v, i1, c1, e1, hi1⟩ := l1Once_some l hl i h 2 hi (by omega)
    obtain ⟨xs, i', h', hev, hlen, hi'⟩ := ih (j + 1) (acc ++ [v]) i1 c1 (by omega) (by omega) (by rw [List.length_append, ha]; rfl) hi1
    refine ⟨xs, i', h', evUp ?_, hlen, hi'⟩
    simp only [spec_l2Bits.l0, h1, h2, if_true, e1, Option.bind_some]
    rw [w64 (x := (j : Int) + 1) (by omega) (by omega)]
    exact hev

theorem l2Bits_ev (l : List Int) (hl : l.length ≤ 140737488351232) (i h : Int) (n : Int) (h0 : 0 ≤ n) (hn : n ≤ 100000) (hi : 0 ≤ i) :
    ∃ xs i' h', Ev (fun k => spec_l2Bits.f k l i h n) (xs, i', h') ∧ (xs.length : Int) = n ∧ 0 ≤ i' := by
  obtain ⟨m, rfl⟩ := Int.eq_ofNat_of_zero_le h0
  obtain ⟨xs, i', h', hev, hlen, hi'⟩ := l2Bits_l0 l hl m (by omega) m 0 [] i h (by omega) (by omega) rfl hi
  exact ⟨xs, i', h', hev, by omega, hi'⟩

theorem packBits_draw (l : List Int) (hl : l.length ≤ 140737488351232) : ∃ b, Ev (fun k => spec_DrawPackBits.f k l) b ∧ b.length ≤ 20 := by
  obtain ⟨h, hn⟩ := l1New_ev l hl
  obtain ⟨n, i1, c1, e1, p1, hi1⟩ := l1Int_told l hl 0 h [0, 1, 7, 8, 9, 20] (by omega) (by simp)
  have hv : 0 ≤ n ∧ n ≤ 20 := by simp at p1; omega
  obtain ⟨b, i2, c2, hev, hlen, hi2⟩ := l2Bits_ev l hl i1 c1 n hv.1 (by omega) hi1
  refine ⟨b, ?_, by omega⟩
  simp only [spec_DrawPackBits.f]
  refine evBind hn ?_
  simp only [e1, Option.bind_some]
  exact evBind hev (Ev.now _)

theorem unpack_packed (bits : List Bool) : unpackOf (packed bits) (bits.length : Int) = (bits, true) := by
  have hs : noneSet (packed bits) bits.length (8 * (packed bits).length - bits.length) = true := by
    unfold noneSet
    rw [List.all_eq_true]
    intro j hj
    rw [List.mem_range, packed_length] at hj
    rw [packed_bit bits _ (by omega), List.getD_eq_getElem?_getD, List.getElem?_eq_none (by omega)]
    rfl
  unfold unpackOf
  rw [if_neg (by rw [packed_length]; omega), Int.toNat_natCast, if_pos hs, bitsOf_packed]
theorem unpack_more (bits : List Bool) : unpackOf (packed bits) ((bits.length : Int) + 9) = ([], false) := by
  unfold unpackOf
  rw [if_pos (by rw [packed_length]; omega)]

theorem FnBits : laws_FnBits.Pure := by
  intro l h1 h2 h3
  refine Ev.rounds (g := fun k => laws_FnBits.f k l) ?_
  by_cases hb : (l.length : Int) > 1048576
  · simp only [laws_FnBits.f, laws_big.f, hb, decide_true, if_true, Option.bind_some]; exact Ev.now _
  · simp only [laws_FnBits.f, laws_big.f, hb, decide_false, Bool.false_eq_true, if_false, Option.bind_some]
    obtain ⟨b, hd, hlen⟩ := packBits_draw l (by omega)
    have hp := packed_length b
    have e1 : wrap64 ((b.length : Int) + 9) = (b.length : Int) + 9 := w64 (by omega) (by omega)
    have u1 := impl_UnpackBits_ev (packed b) (by omega) (packed_8 b) (b.length : Int) (by omega)
    have u2 := impl_UnpackBits_ev (packed b) (by omega) (packed_8 b) ((b.length : Int) + 9) (by omega)
    rw [unpack_packed] at u1
    rw [unpack_more] at u2
    have e2 : ((packed b).length : Int) = wrap64 (Int.tdiv (wrap64 ((b.length : Int) + 7)) 8) := by
      rw [w64 (x := (b.length : Int) + 7) (by omega) (by omega), tdiv_pos (by omega), w64 (by omega) (by omega), hp]; omega
    refine evBind hd ?_
    refine evBind (impl_PackBits_ev b (by omega)) ?_
    refine evBind u1 ?_
    simp only [e1]
    refine evBind u2 ?_
    simp only [if_true]
    refine evBind (sameBits_refl b (by omega)) ?_
    simp only [if_true, ← e2, Bool.not_false]
    exact Ev.now _

end Go.Proofs.Ytnikdfcdddlfbaa.Pure
