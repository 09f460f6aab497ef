/- The law on masks is true of all bytes, walked over what Serve computes. No condition. -/
import Derived.Test.YtfiplepbmennbaaGSrvO
import Derived.Test.YtfiplepbmennbaaGNewI
import Derived.Test.YtfiplepbmennbaaGSame
import Derived.Test.YtfiplepbmennbaaR
namespace Go.Proofs.Ytfiplepbmennbaa.XMasks
open Go.Proofs.Ytfiplepbmennbaa.G Go.Proofs.Ytfiplepbmennbaa.K Go Go.RowKit Go.Proofs.YtfiplepbmennbaaW.PrintWords Go.Proofs.YtfiplepbmennbaaW.PrintLast Go.Proofs.YtfiplepbmennbaaW.PrintMore Go.Proofs.Ytfiplepbmennbaa.PlainC Go.Proofs.Ytfiplepbmennbaa.RowC
set_option linter.unusedVariables false
set_option linter.unusedSimpArgs false
/-! A word masked, bit by bit. -/
def maskN (x a o : Nat) : Nat := (x &&& a) ||| (o &&& (2 ^ 64 - (a + 1)))
theorem maskN_lt {x a o : Nat} (hx : x < 65536) (ho : o < 65536) : maskN x a o < 65536 := by
  have h1 : x &&& a < 2 ^ 16 := Nat.lt_of_le_of_lt Nat.and_le_left hx
  have h2 : o &&& (2 ^ 64 - (a + 1)) < 2 ^ 16 := Nat.lt_of_le_of_lt Nat.and_le_left ho
  exact Nat.or_lt_two_pow h1 h2
theorem maskN_bit {x a o : Nat} (ha : a < 65536) (i : Nat) : (maskN x a o).testBit i = ((x.testBit i && a.testBit i) || (o.testBit i && (decide (i < 64) && !a.testBit i))) := by
  unfold maskN
  rw [Nat.testBit_or, Nat.testBit_and, Nat.testBit_and, Nat.testBit_two_pow_sub_succ (by omega : a < 2 ^ 64)]
theorem bit_high {x i : Nat} (hx : x < 65536) (hi : 16 ≤ i) : x.testBit i = false := Nat.testBit_lt_two_pow (Nat.lt_of_lt_of_le hx (by show 2 ^ 16 ≤ 2 ^ i; exact Nat.pow_le_pow_right (by decide) hi))
theorem maskN_ones {x o : Nat} (hx : x < 65536) (ho : o < 65536) : maskN x 65535 o = x := by
  refine Nat.eq_of_testBit_eq fun i => ?_
  rw [maskN_bit (by decide), show (65535 : Nat) = 2 ^ 16 - 1 from rfl, Nat.testBit_two_pow_sub_one]
  by_cases h : i < 16
  · simp [h]
  · simp [h, bit_high (i := i) hx (by omega), bit_high (i := i) ho (by omega)]
theorem maskN_none {x o : Nat} (ho : o < 65536) : maskN x 0 o = o := by
  refine Nat.eq_of_testBit_eq fun i => ?_
  rw [maskN_bit (by decide), Nat.zero_testBit]
  by_cases h : i < 64
  · simp [h]
  · simp [h, bit_high (i := i) ho (by omega)]
theorem maskN_twice {x a o : Nat} (ha : a < 65536) (ho : o < 65536) : maskN (maskN x a o) a o = maskN x a o := by
  refine Nat.eq_of_testBit_eq fun i => ?_
  rw [maskN_bit ha, maskN_bit ha]
  by_cases h : i < 64
  · cases x.testBit i <;> cases a.testBit i <;> cases o.testBit i <;> simp [h]
  · simp [bit_high ha (show 16 ≤ i by omega), bit_high ho (show 16 ≤ i by omega)]
theorem bits_nat (f : BinOp) (x y : Nat) (hx : x < 65536) (hy : y < 65536) (r : Nat) (hr : r < 2 ^ 63) (h : Go.bits f .i64 (x : Int) (y : Int) = IntKind.i64.wrap ((r : Nat) : Int)) : Go.bits f .i64 (x : Int) (y : Int) = (r : Int) := by
  rw [h, i64wrap, w64 (by omega) (by omega)]
theorem maskOf_nat {x a o : Nat} (hx : x < 65536) (ha : a < 65536) (ho : o < 65536) : maskOf (x : Int) (a : Int) (o : Int) = ((maskN x a o : Nat) : Int) := by
  have m : ∀ z : Nat, z < 65536 → ((z : Int) % ((2 ^ 64 : Nat) : Int)).toNat = z := fun z hz => by omega
  have e1 : Go.bits .and .i64 (x : Int) (a : Int) = ((x &&& a : Nat) : Int) := by
    have hlt : x &&& a < 2 ^ 16 := Nat.lt_of_le_of_lt Nat.and_le_left hx
    refine bits_nat _ x a hx ha _ (by omega) ?_
    unfold Go.bits
    simp only [BitVec.toNat_and, BitVec.toNat_ofInt]
    show IntKind.i64.wrap ((((x : Int) % ((2 ^ 64 : Nat) : Int)).toNat &&& ((a : Int) % ((2 ^ 64 : Nat) : Int)).toNat : Nat) : Int) = _
    rw [m x hx, m a ha]
  have e2 : Go.bits .andNot .i64 (o : Int) (a : Int) = ((o &&& (2 ^ 64 - (a + 1)) : Nat) : Int) := by
    have hlt : o &&& (2 ^ 64 - (a + 1)) < 2 ^ 16 := Nat.lt_of_le_of_lt Nat.and_le_left ho
    refine bits_nat _ o a ho ha _ (by omega) ?_
    unfold Go.bits
    simp only [BitVec.toNat_and, BitVec.toNat_not, BitVec.toNat_ofInt]
    show IntKind.i64.wrap ((((o : Int) % ((2 ^ 64 : Nat) : Int)).toNat &&& (2 ^ 64 - 1 - ((a : Int) % ((2 ^ 64 : Nat) : Int)).toNat) : Nat) : Int) = _
    rw [m o ho, m a ha, show 2 ^ 64 - 1 - a = 2 ^ 64 - (a + 1) by omega]
  have h1 : x &&& a < 2 ^ 16 := Nat.lt_of_le_of_lt Nat.and_le_left hx
  have h2 : o &&& (2 ^ 64 - (a + 1)) < 2 ^ 16 := Nat.lt_of_le_of_lt Nat.and_le_left ho
  unfold maskOf
  rw [e1, e2]
  show _ = (((x &&& a) ||| (o &&& (2 ^ 64 - (a + 1))) : Nat) : Int)
  refine bits_nat _ _ _ h1 h2 ((x &&& a) ||| (o &&& (2 ^ 64 - (a + 1)))) (by have := maskN_lt (a := a) hx ho; unfold maskN at this; omega) ?_
  unfold Go.bits
  simp only [BitVec.toNat_or, BitVec.toNat_ofInt]
  show IntKind.i64.wrap (((((x &&& a : Nat) : Int) % ((2 ^ 64 : Nat) : Int)).toNat ||| (((o &&& (2 ^ 64 - (a + 1)) : Nat) : Int) % ((2 ^ 64 : Nat) : Int)).toNat : Nat) : Int) = _
  rw [m _ h1, m _ h2]
theorem shr_bit (x : Nat) (i : Nat) (hi : i < 16) : Go.bits .and .i64 (shr .i64 (x : Int) (i : Int)) 1 = if x.testBit i then 1 else 0 := by
  have h := and_mask (shr .i64 (x : Int) (i : Int)) 1 (by decide)
  have e : (2 : Int) ^ 1 - 1 = 1 := by decide
  rw [e] at h
  rw [h, Nat.testBit_eq_decide_div_mod_eq]
  have e2 : shr .i64 (x : Int) (i : Int) = ((x / 2 ^ i : Nat) : Int) := by
    unfold shr
    have : min (i : Int).toNat IntKind.i64.bits = i := by
      have : IntKind.i64.bits = 64 := rfl
      omega
    rw [this]
    simp
  rw [e2]
  by_cases c : x / 2 ^ i % 2 = 1
  · rw [if_pos (by simpa using c)]
    generalize x / 2 ^ i = q at c
    omega
  · rw [if_neg (by simpa using c)]
    generalize x / 2 ^ i = q at c
    omega
theorem equalB_l0 (a b : List Bool) (hl : a.length ≤ 140737488355328) (he : a.length = b.length) (d : Nat) : ∀ i : Nat, i ≤ a.length → a.length - i = d →
    Ev (fun k => slices_Equal_bool_bool.l0 k a b (a.length : Int) (i : Int)) (decide (a.drop i = b.drop i)) := by
  induction d with
  | zero =>
    intro i hi hd
    obtain rfl : i = a.length := by omega
    refine evUp ?_
    have h1 : ¬ ((a.length : Nat) : Int) < (a.length : Int) := by omega
    simp only [slices_Equal_bool_bool.l0, h1, if_false]
    have e : decide (a.drop a.length = b.drop a.length) = true := by
      rw [List.drop_length, he, List.drop_length]; rfl
    rw [e]
    exact Ev.now _
  | succ d ih =>
    intro i hi hd
    have ha : i < a.length := by omega
    have hb : i < b.length := by omega
    refine evUp ?_
    have h1 : (i : Int) < (a.length : Int) := by omega
    have h2 : 0 ≤ (i : Int) := by omega
    have h3 : (i : Int) < (b.length : Int) := by omega
    simp only [slices_Equal_bool_bool.l0, h1, h2, h3, if_true]
    rw [rdOf_get ha, rdOf_get hb, w64 (by omega) (by omega)]
    by_cases e : a[i] = b[i]
    · simp only [e, bne_self_eq_false, Bool.false_eq_true, if_false]
      have e2 : decide (a.drop i = b.drop i) = decide (a.drop (i + 1) = b.drop (i + 1)) := by
        rw [decide_eq_decide, drop_eq_iff ha hb]; simp [e]
      rw [e2]
      exact ih (i + 1) (by omega) (by omega)
    · have e3 : (a[i] != b[i]) = true := by simpa using e
      simp only [e3, if_true]
      have e2 : decide (a.drop i = b.drop i) = false := by
        rw [decide_eq_false_iff_not, drop_eq_iff ha hb]; simp [e]
      rw [e2]
      exact Ev.now _

theorem equalB_ev (a b : List Bool) (hl : a.length ≤ 140737488355328) : Ev (fun k => slices_Equal_bool_bool.f k a b) (decide (a = b)) := by
  by_cases he : a.length = b.length
  · have h := equalB_l0 a b hl he a.length 0 (by omega) (by omega)
    have h1 : (a.length : Int) = (b.length : Int) := by omega
    simp only [slices_Equal_bool_bool.f, if_pos h1]
    exact h
  · have h1 : ¬ (a.length : Int) = (b.length : Int) := by omega
    have e : decide (a = b) = false := by
      rw [decide_eq_false_iff_not]; intro h; exact he (by rw [h])
    simp only [slices_Equal_bool_bool.f, h1, if_false]
    rw [e]
    exact Ev.now _

theorem equalB_refl (a : List Bool) (hl : a.length ≤ 140737488355328) : Ev (fun k => slices_Equal_bool_bool.f k a a) true := by
  have h := equalB_ev a a hl
  rwa [decide_eq_true rfl] at h
theorem equalI_l0 (a b : List Int) (hl : a.length ≤ 140737488351232) (he : a.length = b.length) (d : Nat) : ∀ i : Nat, i ≤ a.length → a.length - i = d →
    Ev (fun k => slices_Equal_int_int.l0 k a b (a.length : Int) (i : Int)) (decide (a.drop i = b.drop i)) := by
  induction d with
  | zero =>
    intro i hi hd
    obtain rfl : i = a.length := by omega
    refine evUp ?_
    have h1 : ¬ ((a.length : Nat) : Int) < (a.length : Int) := by omega
    simp only [slices_Equal_int_int.l0, h1, if_false]
    have e : decide (a.drop a.length = b.drop a.length) = true := by
      rw [List.drop_length, he, List.drop_length]; rfl
    rw [e]
    exact Ev.now _
  | succ d ih =>
    intro i hi hd
    have ha : i < a.length := by omega
    have hb : i < b.length := by omega
    refine evUp ?_
    have h1 : (i : Int) < (a.length : Int) := by omega
    have h2 : 0 ≤ (i : Int) := by omega
    have h3 : (i : Int) < (b.length : Int) := by omega
    simp only [slices_Equal_int_int.l0, h1, h2, h3, if_true]
    rw [rd_get ha, rd_get hb, w64 (by omega) (by omega)]
    by_cases e : a[i] = b[i]
    · simp only [e, if_true]
      have e2 : decide (a.drop i = b.drop i) = decide (a.drop (i + 1) = b.drop (i + 1)) := by
        rw [decide_eq_decide, drop_eq_iff ha hb]; simp [e]
      rw [e2]
      exact ih (i + 1) (by omega) (by omega)
    · simp only [e, if_false]
      have e2 : decide (a.drop i = b.drop i) = false := by
        rw [decide_eq_false_iff_not, drop_eq_iff ha hb]; simp [e]
      rw [e2]
      exact Ev.now _

theorem equalI_ev (a b : List Int) (hl : a.length ≤ 140737488351232) : Ev (fun k => slices_Equal_int_int.f k a b) (decide (a = b)) := by
  by_cases he : a.length = b.length
  · have h := equalI_l0 a b hl he a.length 0 (by omega) (by omega)
    have h1 : (a.length : Int) = (b.length : Int) := by omega
    simp only [slices_Equal_int_int.f, if_pos h1]
    exact h
  · have h1 : ¬ (a.length : Int) = (b.length : Int) := by omega
    have e : decide (a = b) = false := by
      rw [decide_eq_false_iff_not]; intro h; exact he (by rw [h])
    simp only [slices_Equal_int_int.f, h1, if_false]
    rw [e]
    exact Ev.now _

theorem equalI_refl (a : List Int) (hl : a.length ≤ 140737488351232) : Ev (fun k => slices_Equal_int_int.f k a a) true := by
  have h := equalI_ev a a hl
  rwa [decide_eq_true rfl] at h
/-- Are two devices alike? -/
def sameB (a b : List Bool) (c d : List Int) (a1 b1 : List Bool) (c1 d1 : List Int) : Bool := if decide (a = a1) = true then (if decide (b = b1) = true then (if decide (c = c1) = true then decide (d = d1) else false) else false) else false
theorem impl_SameDevice_ev (a b : List Bool) (c d : List Int) (a1 b1 : List Bool) (c1 d1 : List Int) (h1 : a.length ≤ 1048576) (h2 : b.length ≤ 1048576) (h3 : c.length ≤ 1048576) (h4 : d.length ≤ 1048576) :
    Ev (fun k => impl_SameDevice.f k a b c d a1 b1 c1 d1) (sameB a b c d a1 b1 c1 d1) := by
  simp only [impl_SameDevice.f, sameB]
  refine evBind (equalB_ev a a1 (by omega)) ?_
  split
  · refine evBind (equalB_ev b b1 (by omega)) ?_
    split
    · refine evBind (equalI_ev c c1 (by omega)) ?_
      split
      · refine evBind (equalI_ev d d1 (by omega)) ?_
        exact Ev.now _
      · exact Ev.now _
    · exact Ev.now _
  · exact Ev.now _
theorem at_range (l : List Int) (hl : l.length ≤ 1048576) (hb : B8 l) (j : Int) (j0 : 0 ≤ j) (j9 : j ≤ 9) : ∃ x, laws_at.f l j = some x ∧ 0 ≤ x ∧ x ≤ 255 := by
  unfold laws_at.f
  by_cases h : j < (l.length : Int)
  · have r := hb.rd (i := j) j0 h
    exact ⟨_, by rw [if_pos h, if_pos j0], by rw [w64 (by omega) (by omega)]; omega, by rw [w64 (by omega) (by omega)]; omega⟩
  · refine ⟨_, by rw [if_neg h], ?_⟩
    rw [w64 (x := (l.length : Int) * 7) (by omega) (by omega), w64 (x := j * 31) (by omega) (by omega), w64 (by omega) (by omega), tmod_pos (by omega)]
    omega
abbrev F3 : List Bool := [false, false, false]
theorem wB (x : Nat) (h : x < 65536) : wordB (x : Int) = true := by rw [wordB_eq]; simp; omega
theorem dev3 (y : Nat) (hy : y < 65536) : deviceOkB F3 F3 [0, (y : Int), 0] [0, 0, 0] = true := by
  have h0 : wordB 0 = true := rfl
  simp [deviceOkB, wB y hy, h0]
theorem serve6 (v : Nat) (hv : v < 65536) :
    servedOf (zb 3) (zb 3) (zi 3) (zi 3) 6 1 0 [(v : Int)] [] 0 = (F3, F3, [0, (v : Int), 0], [0, 0, 0], 6, 0, 1, 0, [(v : Int)], []) := by
  have hr : reqB 6 1 0 [(v : Int)] [] 0 = true := by
    have h1 : wordB 1 = true := rfl
    simp [reqB, wB v hv, h1]
  have ht : thereB (zb 3) (zb 3) (zi 3) (zi 3) 6 1 0 [(v : Int)] [] 0 = true := by rfl
  unfold servedOf
  rw [if_pos ⟨dev3 0 (by omega), hr⟩, if_pos ht]
  rfl
theorem serve22 (y a o : Nat) (hy : y < 65536) (ha : a < 65536) (ho : o < 65536) :
    servedOf F3 F3 [0, (y : Int), 0] [0, 0, 0] 22 1 0 [(a : Int), (o : Int)] [] 0 = (F3, F3, [0, ((maskN y a o : Nat) : Int), 0], [0, 0, 0], 22, 0, 1, 0, [(a : Int), (o : Int)], []) := by
  have hr : reqB 22 1 0 [(a : Int), (o : Int)] [] 0 = true := by
    have h1 : wordB 1 = true := rfl
    simp [reqB, wB a ha, wB o ho, h1]
  have ht : thereB F3 F3 [0, (y : Int), 0] [0, 0, 0] 22 1 0 [(a : Int), (o : Int)] [] 0 = true := by simp [thereB]
  unfold servedOf
  rw [if_pos ⟨dev3 y hy, hr⟩, if_pos ht, ← maskOf_nat hy ha ho]
  rfl
theorem div_bit (x n : Nat) (hn : n < 16) : Go.bits .and .i64 ((x : Int) / 2 ^ n) 1 = if x.testBit n then 1 else 0 := by
  rw [← shr_bit x n hn]
  congr 1
  unfold shr
  have : min (n : Int).toNat IntKind.i64.bits = n := by
    have : IntKind.i64.bits = 64 := rfl
    omega
  rw [this]
theorem word (p q : Int) (a : 0 ≤ p) (b : p ≤ 255) (c : 0 ≤ q) (d : q ≤ 255) : ∃ n : Nat, n < 65536 ∧ IntKind.i64.wrap (p * 256) = p * 256 ∧ IntKind.i64.wrap (p * 256 + q) = (n : Int) := ⟨(p * 256 + q).toNat, by omega, by rw [i64wrap, w64 (by omega) (by omega)], by rw [i64wrap, w64 (by omega) (by omega)]; omega⟩

set_option maxHeartbeats 4000000 in
set_option maxRecDepth 100000 in
theorem walk (v0 : Value) (l0 : List Int) (w : World) (i0 : InInts .u8 w v0 l0) :
    Calls Try.prog 6 #[v0] w fun e w' => e = .returned (.bool true) ∧ Below w.heap.size w w' := by
  obtain ⟨A0, c0, rfl, hc0, hr0, hm0, hw0⟩ := i0
  have Hr := aM hr0
  have Hc := aM hc0
  have HV := aM hw0
  clear hr0 hc0 hm0 hw0
  have H := aM (Own.nil w)
  obtain ⟨b, hb⟩ : ∃ b, decide ((l0.length : Int) > 1048576) = b := ⟨_, rfl⟩
  have Hb := aM hb
  clear hb
  have hu := Try.underlying43
  cases b with
  | true =>
    go_enter Try.func6, Try.ntmps6
    go_wp2_with (refine nD 19 ?_; refine gC 19 Try.func20 (laws_big.calls A0 c0 l0 true _ (H.out.arg Hr.out) Hc.out (by unfold laws_big.f; rw [Hb.out])) ?_; rintro e w_ ⟨rfl, hO⟩; refine ⟨_, rfl, ?_⟩; replace H := aM (H.out.drawn hO); clear hO)
    go_ret
    exact ⟨rfl, H.out.below⟩
  | false =>
    have hbig := of_decide_eq_false Hb.out
    have at_ := fun j j0 j9 => at_range l0 (by omega) (B8.of HV.out) j j0 j9

    obtain ⟨p2, e2, p20, p21⟩ := at_ 2 (by omega) (by omega)
    have E2 := aM e2
    obtain ⟨p3, e3, p30, p31⟩ := at_ 3 (by omega) (by omega)
    have E3 := aM e3
    obtain ⟨p4, e4, p40, p41⟩ := at_ 4 (by omega) (by omega)
    have E4 := aM e4
    obtain ⟨p5, e5, p50, p51⟩ := at_ 5 (by omega) (by omega)
    have E5 := aM e5
    obtain ⟨p6, e6, p60, p61⟩ := at_ 6 (by omega) (by omega)
    have E6 := aM e6
    obtain ⟨p7, e7, p70, p71⟩ := at_ 7 (by omega) (by omega)
    have E7 := aM e7
    obtain ⟨x, hx, x1, x2⟩ := word p2 p3 p20 p21 p30 p31
    obtain ⟨a, ha, a1, a2⟩ := word p4 p5 p40 p41 p50 p51
    obtain ⟨o, ho, o1, o2⟩ := word p6 p7 p60 p61 p70 p71
    have S1 := aM (serve6 x hx)
    have S2 := aM (serve22 x a o hx ha ho)
    have S3 := serve22 x 65535 o hx (by omega) ho
    have S4 := serve22 x 0 o hx (by omega) ho
    rw [maskN_ones hx ho] at S3
    rw [maskN_none ho] at S4
    replace S3 := aM S3
    replace S4 := aM S4
    have S5 := serve22 (maskN x a o) a o (maskN_lt hx ho) ha ho
    rw [maskN_twice ha ho] at S5
    replace S5 := aM S5
    have HX := aM (And.intro hx (And.intro ha ho))
    clear hbig at_ e2 e3 e4 e5 e6 e7 p20 p21 p30 p31 p40 p41 p50 p51 p60 p61 p70 p71 hx ha ho
    go_enter Try.func6, Try.ntmps6
    go_wp2_with (first | (refine nD 19 ?_; refine gC 19 Try.func20 (laws_big.calls A0 c0 l0 false _ (H.out.arg Hr.out) Hc.out (by unfold laws_big.f; rw [Hb.out])) ?_; rintro e w_ ⟨rfl, hO⟩; refine ⟨_, rfl, ?_⟩; replace H := aM (H.out.drawn hO); clear hO) | (refine nD 20 ?_; refine gC 20 Try.func26 (impl_DeviceNew.own 3 _) ?_; rintro e w_ ⟨A10, A11, A12, A13, c10, c11, c12, c13, rfl, hO⟩; refine ⟨_, rfl, ?_⟩; replace H := aM (H.out.app hO); clear hO) | (refine nD 3 ?_; refine bxO 3 H.out #[.slice none 0 0, .slice none 0 0, .slice none 0 0, .slice none 0 0] 43 ?_; clear H; intro g3 _ H) | (refine nS 3 ?_; refine stO 0 H.out ?_; clear H; intro _ H) | (refine nD 22 ?_; refine gC 22 Try.func24 (laws_at.calls A0 c0 l0 2 p2 _ (H.out.arg Hr.out) Hc.out E2.out) ?_; rintro e w_ ⟨rfl, hO⟩; refine ⟨_, rfl, ?_⟩; replace H := aM (H.out.drawn hO); clear hO) | (refine nD 25 ?_; refine gC 25 Try.func24 (laws_at.calls A0 c0 l0 3 p3 _ (H.out.arg Hr.out) Hc.out E3.out) ?_; rintro e w_ ⟨rfl, hO⟩; refine ⟨_, rfl, ?_⟩; replace H := aM (H.out.drawn hO); clear hO) | (refine nD 28 ?_; refine gC 28 Try.func24 (laws_at.calls A0 c0 l0 4 p4 _ (H.out.arg Hr.out) Hc.out E4.out) ?_; rintro e w_ ⟨rfl, hO⟩; refine ⟨_, rfl, ?_⟩; replace H := aM (H.out.drawn hO); clear hO) | (refine nD 31 ?_; refine gC 31 Try.func24 (laws_at.calls A0 c0 l0 5 p5 _ (H.out.arg Hr.out) Hc.out E5.out) ?_; rintro e w_ ⟨rfl, hO⟩; refine ⟨_, rfl, ?_⟩; replace H := aM (H.out.drawn hO); clear hO) | (refine nD 34 ?_; refine gC 34 Try.func24 (laws_at.calls A0 c0 l0 6 p6 _ (H.out.arg Hr.out) Hc.out E6.out) ?_; rintro e w_ ⟨rfl, hO⟩; refine ⟨_, rfl, ?_⟩; replace H := aM (H.out.drawn hO); clear hO) | (refine nD 37 ?_; refine gC 37 Try.func24 (laws_at.calls A0 c0 l0 7 p7 _ (H.out.arg Hr.out) Hc.out E7.out) ?_; rintro e w_ ⟨rfl, hO⟩; refine ⟨_, rfl, ?_⟩; replace H := aM (H.out.drawn hO); clear hO) | (refine nD 40 ?_; refine ldO 40 0 H.out hu ?_) | (refine nD 42 ?_; refine litI 42 [(x : Int)] H.out ?_; clear H; intro Aw1 cw1 _ H) | (refine nD 44 ?_; refine gC 44 Try.func27 (serve_own S1.out (H.out.cb 2) (H.out.lb 2) (H.out.cb 3) (H.out.lb 3) (H.out.ci 4) (H.out.li 4) (H.out.ci 5) (H.out.li 5) (H.out.ci 0) (H.out.li 0) (Kd.C_nil _ _) (Nat.le_refl 0)) ?_; rintro e w_ ⟨Ba0, Ba1, Ba2, Ba3, Ba4, Ba5, ea0, ea1, ea2, ea3, ea4, ea5, rfl, hO⟩; refine ⟨_, rfl, ?_⟩; replace H := aM (H.out.app hO); clear hO) | (refine nD 7 ?_; refine bxO 7 H.out #[.int .i64 0, .int .i64 0, .int .i64 0, .int .i64 0, .slice none 0 0, .slice none 0 0] 29 ?_; clear H; intro g7 _ H) | (refine nS 3 ?_; refine stO 8 H.out ?_; clear H; intro _ H) | (refine nS 7 ?_; refine stO 0 H.out ?_; clear H; intro _ H) | (refine nD 48 ?_; refine ldO 48 8 H.out hu ?_) | (refine nD 51 ?_; refine litI 51 [(a : Int), (o : Int)] H.out ?_; clear H; intro Awb cwb _ H) | (refine nD 53 ?_; refine gC 53 Try.func27 (serve_own S2.out (H.out.cb 2) (H.out.lb 2) (H.out.cb 3) (H.out.lb 3) (H.out.ci 4) (H.out.li 4) (H.out.ci 5) (H.out.li 5) (H.out.ci 0) (H.out.li 0) (Kd.C_nil _ _) (Nat.le_refl 0)) ?_; rintro e w_ ⟨Bb0, Bb1, Bb2, Bb3, Bb4, Bb5, eb0, eb1, eb2, eb3, eb4, eb5, rfl, hO⟩; refine ⟨_, rfl, ?_⟩; replace H := aM (H.out.app hO); clear hO) | (refine nD 8 ?_; refine bxO 8 H.out #[.slice none 0 0, .slice none 0 0, .slice none 0 0, .slice none 0 0] 43 ?_; clear H; intro g8 _ H) | (refine nD 9 ?_; refine bxO 9 H.out #[.int .i64 0, .int .i64 0, .int .i64 0, .int .i64 0, .slice none 0 0, .slice none 0 0] 29 ?_; clear H; intro g9 _ H) | (refine nS 8 ?_; refine stO 1 H.out ?_; clear H; intro _ H) | (refine nS 9 ?_; refine stO 0 H.out ?_; clear H; intro _ H) | (refine nD 57 ?_; refine ldO 57 17 H.out hu ?_) | (refine nD 59 ?_; refine litI 59 [65535, (o : Int)] H.out ?_; clear H; intro Awc cwc _ H) | (refine nD 61 ?_; refine gC 61 Try.func27 (serve_own S3.out (H.out.cb 11) (H.out.lb 11) (H.out.cb 12) (H.out.lb 12) (H.out.ci 13) (H.out.li 13) (H.out.ci 14) (H.out.li 14) (H.out.ci 0) (H.out.li 0) (Kd.C_nil _ _) (Nat.le_refl 0)) ?_; rintro e w_ ⟨Bc0, Bc1, Bc2, Bc3, Bc4, Bc5, ec0, ec1, ec2, ec3, ec4, ec5, rfl, hO⟩; refine ⟨_, rfl, ?_⟩; replace H := aM (H.out.app hO); clear hO) | (refine nD 10 ?_; refine bxO 10 H.out #[.slice none 0 0, .slice none 0 0, .slice none 0 0, .slice none 0 0] 43 ?_; clear H; intro g10 _ H) | (refine nD 11 ?_; refine bxO 11 H.out #[.int .i64 0, .int .i64 0, .int .i64 0, .int .i64 0, .slice none 0 0, .slice none 0 0] 29 ?_; clear H; intro g11 _ H) | (refine nS 10 ?_; refine stO 1 H.out ?_; clear H; intro _ H) | (refine nS 11 ?_; refine stO 0 H.out ?_; clear H; intro _ H) | (refine nD 65 ?_; refine ldO 65 26 H.out hu ?_) | (refine nD 67 ?_; refine litI 67 [0, (o : Int)] H.out ?_; clear H; intro Awd cwd _ H) | (refine nD 69 ?_; refine gC 69 Try.func27 (serve_own S4.out (H.out.cb 20) (H.out.lb 20) (H.out.cb 21) (H.out.lb 21) (H.out.ci 22) (H.out.li 22) (H.out.ci 23) (H.out.li 23) (H.out.ci 0) (H.out.li 0) (Kd.C_nil _ _) (Nat.le_refl 0)) ?_; rintro e w_ ⟨Bd0, Bd1, Bd2, Bd3, Bd4, Bd5, ed0, ed1, ed2, ed3, ed4, ed5, rfl, hO⟩; refine ⟨_, rfl, ?_⟩; replace H := aM (H.out.app hO); clear hO) | (refine nD 12 ?_; refine bxO 12 H.out #[.slice none 0 0, .slice none 0 0, .slice none 0 0, .slice none 0 0] 43 ?_; clear H; intro g12 _ H) | (refine nD 13 ?_; refine bxO 13 H.out #[.int .i64 0, .int .i64 0, .int .i64 0, .int .i64 0, .slice none 0 0, .slice none 0 0] 29 ?_; clear H; intro g13 _ H) | (refine nS 12 ?_; refine stO 1 H.out ?_; clear H; intro _ H) | (refine nS 13 ?_; refine stO 0 H.out ?_; clear H; intro _ H) | (refine nD 73 ?_; refine ldO 73 19 H.out hu ?_) | (refine nD 76 ?_; refine litI 76 [(a : Int), (o : Int)] H.out ?_; clear H; intro Awf cwf _ H) | (refine nD 78 ?_; refine gC 78 Try.func27 (serve_own S5.out (H.out.cb 21) (H.out.lb 21) (H.out.cb 22) (H.out.lb 22) (H.out.ci 23) (H.out.li 23) (H.out.ci 24) (H.out.li 24) (H.out.ci 0) (H.out.li 0) (Kd.C_nil _ _) (Nat.le_refl 0)) ?_; rintro e w_ ⟨Bf0, Bf1, Bf2, Bf3, Bf4, Bf5, ef0, ef1, ef2, ef3, ef4, ef5, rfl, hO⟩; refine ⟨_, rfl, ?_⟩; replace H := aM (H.out.app hO); clear hO) | (refine nD 14 ?_; refine bxO 14 H.out #[.slice none 0 0, .slice none 0 0, .slice none 0 0, .slice none 0 0] 43 ?_; clear H; intro g14 _ H) | (refine nD 15 ?_; refine bxO 15 H.out #[.int .i64 0, .int .i64 0, .int .i64 0, .int .i64 0, .slice none 0 0, .slice none 0 0] 29 ?_; clear H; intro g15 _ H) | (refine nS 14 ?_; refine stO 1 H.out ?_; clear H; intro _ H) | (refine nS 15 ?_; refine stO 0 H.out ?_; clear H; intro wz H; obtain ⟨z7_0, y7_0, z7_1, y7_1, z7_2, y7_2, z7_3, y7_3, z7_4, y7_4, z7_5, y7_5⟩ := bk6 (H.out.b 36); obtain ⟨z9_0, y9_0, z9_1, y9_1, z9_2, y9_2, z9_3, y9_3, z9_4, y9_4, z9_5, y9_5⟩ := bk6 (H.out.b 27); obtain ⟨z8_0, y8_0, z8_1, y8_1, z8_2, y8_2, z8_3, y8_3⟩ := bk4 (H.out.b 28); obtain ⟨z10_0, y10_0, z10_1, y10_1, z10_2, y10_2, z10_3, y10_3⟩ := bk4 (H.out.b 19); obtain ⟨z12_0, y12_0, z12_1, y12_1, z12_2, y12_2, z12_3, y12_3⟩ := bk4 (H.out.b 10)))
    obtain ⟨mb, hmb, q0⟩ := cell0 (H.out.ci 31) (by simp)
    subst hmb
    have q1 := cellJ (H.out.ci 31) 1 (by simp)
    have q2 := cellJ (H.out.ci 31) 2 (by simp)
    obtain ⟨mc, hmc, _⟩ := cell0 (H.out.ci 22) (by simp)
    subst hmc
    have q3 := cellJ (H.out.ci 22) 1 (by simp)
    obtain ⟨md, hmd, _⟩ := cell0 (H.out.ci 13) (by simp)
    subst hmd
    have q4 := cellJ (H.out.ci 13) 1 (by simp)
    rw [show rd [0, ((maskN x a o : Nat) : Int), 0] 0 = 0 from rfl] at q0
    rw [show rd [0, ((maskN x a o : Nat) : Int), 0] ((1 : Nat) : Int) = ((maskN x a o : Nat) : Int) from rfl] at q1
    rw [show rd [0, ((maskN x a o : Nat) : Int), 0] ((2 : Nat) : Int) = 0 from rfl] at q2
    rw [show rd [0, (x : Int), 0] ((1 : Nat) : Int) = (x : Int) from rfl] at q3
    rw [show rd [0, (o : Int), 0] ((1 : Nat) : Int) = (o : Int) from rfl] at q4
    have sd := aM (Ev.rounds (impl_SameDevice_ev F3 F3 [0, ((maskN x a o : Nat) : Int), 0] [0, 0, 0] F3 F3 [0, ((maskN x a o : Nat) : Int), 0] [0, 0, 0] (by simp) (by simp) (by simp) (by simp)))
    rw [show sameB F3 F3 [0, ((maskN x a o : Nat) : Int), 0] [0, 0, 0] F3 F3 [0, ((maskN x a o : Nat) : Int), 0] [0, 0, 0] = true by simp [sameB]] at sd
    go_loopg [16] 17 (fun kq v16 w' => ∃ n : Nat, v16 = .int .i64 (n : Int) ∧ Aside0 (n ≤ 16 ∧ kq + n = 17) ∧ w' = wz)
    case atStart => exact ⟨0, rfl, ⟨by omega⟩, rfl⟩
    case round =>
      obtain ⟨n, rfl, HN, rfl⟩ := hrel
      have h16 := HN.out.1
      by_cases hn : n < 16
      · have n1 : (n : Int) < 16 := by omega
        have n2 : IntKind.u64.wrap (n : Int) = (n : Int) := by
          simp only [IntKind.wrap, IntKind.bits, IntKind.signed, Bool.false_and, Bool.false_eq_true, if_false]; omega
        have n3 : (0 : Int) ≤ (n : Int) := by omega
        have n4 : IntKind.i64.wrap ((n : Int) + 1) = ((n + 1 : Nat) : Int) := by rw [i64wrap, w64 (by omega) (by omega)]; omega
        have b1 := div_bit x n hn
        have b2 := div_bit a n hn
        have b3 := div_bit o n hn
        have b4 := div_bit (maskN x a o) n hn
        rw [maskN_bit HX.out.2.1 n, decide_eq_true (by omega : n < 64), Bool.true_and] at b4
        clear h16 hn
        cases hb : a.testBit n with
        | true =>
          rw [hb] at b2 b4
          simp only [Bool.and_true, Bool.not_true, Bool.and_false, Bool.or_false, if_true] at b2 b4
          generalize (if x.testBit n = true then (1 : Int) else 0) = y at b1 b4
          clear hb
          go_wp2
          go_roundg (gk - 1)
          case measure => have := HN.out; omega
          case rel => exact ⟨n + 1, rfl, ⟨by have := HN.out; omega⟩, rfl⟩
        | false =>
          rw [hb] at b2 b4
          simp only [Bool.and_true, Bool.not_false, Bool.and_false, Bool.false_or, if_false, Bool.false_eq_true] at b2 b4
          generalize (if x.testBit n = true then (1 : Int) else 0) = y1 at b1
          generalize (if o.testBit n = true then (1 : Int) else 0) = y at b3 b4
          clear hb
          go_wp2
          go_roundg (gk - 1)
          case measure => have := HN.out; omega
          case rel => exact ⟨n + 1, rfl, ⟨by have := HN.out; omega⟩, rfl⟩
      · obtain rfl : n = 16 := by omega
        clear h16 hn
        obtain ⟨ks, hs⟩ := sd.out
        have HS := aM hs
        clear hs
        have n1 : ¬ ((16 : Nat) : Int) < 16 := by omega
        go_wp2_with (first | (refine nD 152 ?_; (try (refine gate_guard (by rfl) ?_; dsimp only)); refine ldO 152 1 H.out hu ?_) | (refine nD 153 ?_; (try (refine gate_guard (by rfl) ?_; dsimp only)); refine ldO 153 28 H.out hu ?_) | (refine nD 154 ?_; (try (refine gate_guard (by rfl) ?_; dsimp only)); refine gC 154 Try.func28 (impl_SameDevice.calls ks _ _ _ _ _ _ _ _ _ _ _ _ _ _ _ _ _ _ _ _ _ _ _ _ true _ (H.out.cb 2) (H.out.lb 2) (H.out.cb 3) (H.out.lb 3) (H.out.ci 4) (H.out.li 4) (H.out.ci 5) (H.out.li 5) (H.out.cb 29) (H.out.lb 29) (H.out.cb 30) (H.out.lb 30) (H.out.ci 31) (H.out.li 31) (H.out.ci 32) (H.out.li 32) HS.out) ?_; rintro e w_ ⟨rfl, hO⟩; refine ⟨_, rfl, ?_⟩; replace H := aM (H.out.step hO); clear hO; obtain ⟨r0, s0, r1, s1, r2, s2, r3, s3⟩ := bk4 (H.out.b 28); have q5 : w_.cell? mb = some (.int .i64 0) := cellZ (H.out.ci 31) (by simp); have q6 : w_.cell? ⟨mb.block, mb.off + 2, none⟩ = some (.int .i64 0) := cellJ (H.out.ci 31) 2 (by simp)))
        go_ret
        exact ⟨rfl, H.out.below⟩
end Go.Proofs.Ytfiplepbmennbaa.XMasks
