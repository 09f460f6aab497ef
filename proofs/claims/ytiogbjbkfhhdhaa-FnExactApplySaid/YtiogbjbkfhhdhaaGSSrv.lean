/- spec.Serve, told by what it computes. Condition: no row is longer than a machine's memory. -/
import Derived.Test.YtiogbjbkfhhdhaaGSpT
import Derived.Test.YtiogbjbkfhhdhaaGSpB
import Derived.Test.YtiogbjbkfhhdhaaGSpW
import Derived.Test.YtiogbjbkfhhdhaaGSpS1
import Derived.Test.YtiogbjbkfhhdhaaGCopyS
import Derived.Test.YtiogbjbkfhhdhaaGDevOkO
namespace Go.Proofs.Ytiogbjbkfhhdhaa.G
open Go.Proofs.Ytiogbjbkfhhdhaa.K Go Go.RowKit Go.Proofs.YtiogbjbkfhhdhaaW.PrintWords Go.Proofs.YtiogbjbkfhhdhaaW.PrintLast Go.Proofs.YtiogbjbkfhhdhaaW.PrintMore Go.Proofs.Ytiogbjbkfhhdhaa.PlainC
set_option linter.unusedVariables false
set_option linter.unusedSimpArgs false
theorem noRows {w0 w : World} {x1 x2 x3 x4 : It} (H : Own w0 w [x1, x2, x3, x4]) : Own w0 w [x1, x2, x3, x4, ri (.slice none 0 0) [], rb (.slice none 0 0) []] :=
  H.nilB.nilI.perm (List.perm_append_comm (l₁ := [_, _]) (l₂ := [_, _, _, _]))
theorem served_bad {c i : List Bool} {h v : List Int} {k a n : Int} {w : List Int} {t : List Bool} {e : Int} (hb : ¬ (deviceOkB c i h v = true ∧ reqB k a n w t e = true)) : servedOf c i h v k a n w t e = (c, i, h, v, if reqB k a n w t e = true then k else 0, if reqB k a n w t e = true then 4 else 0, 0, 0, [], []) := by
  unfold servedOf
  rw [if_neg hb]
  split <;> rfl
theorem cutI {A : Option Addr} {m c : Nat} {l : List Int} (hm : l.length = m) (hc : m ≤ c) {a n : Int} (h0 : 0 ≤ a) (h1 : 0 ≤ n) (h2 : a + n ≤ (m : Int)) (hl : m ≤ 1048576) : ∃ (j : Int) (AR : Option Addr) (cR : Nat) (R : List Int), IntKind.i64.wrap (a + n) = j ∧ R = (l.take (a + n).toNat).drop a.toNat ∧ R.length ≤ 1048576 ∧ (∀ W : World, (Instr.slice 23 (.slice A m c) (some (.int .i64 a)) (some (.int .i64 j)) none).run Try.prog W = .ok (.slice AR R.length cR) W) ∧ ∀ w : World, (Kd.int .i64).C w A l.length l → (Kd.int .i64).C w AR R.length R := by
  subst hm
  obtain ⟨i0, hi, hz⟩ := Option.map_eq_some_iff.1 zinfoI
  simp only [Prod.mk.injEq] at hz
  obtain ⟨j, hj⟩ : ∃ j, a + n = j := ⟨_, rfl⟩
  have hjw : IntKind.i64.wrap (a + n) = j := (by rw [i64wrap, w64 (by omega) (by omega)]; omega)
  rw [hj] at h2
  have h01 : a ≤ j := by omega
  have hcut := cut_mid (P := Try.prog) 23 3 .i64 .i64 Try.underlying23 hi 1 hz.2.1 A l.length c a j h0 h01 h2 hc
  have hl2 : ((l.take j.toNat).drop a.toNat).length = j.toNat - a.toNat := by rw [List.length_drop, List.length_take]; omega
  rw [← hl2] at hcut
  refine ⟨j, _, _, _, hjw, by rw [hj], by omega, hcut, fun w hC => ?_⟩
  have hCR := Kd.C_mid (lo := a.toNat) (hi := j.toNat) hC (by omega) (by omega) hc
  simpa only [Kd.int, Kd.scalar] using hCR
theorem rows1 {w0 w : World} {z x1 x2 x3 x4 : It} (H : Own w0 w [z, x1, x2, x3, x4]) : Own w0 w [x1, x2, x3, x4, ri (.slice none 0 0) [], z] :=
  H.nilI.perm (List.perm_append_comm (l₁ := [_, _]) (l₂ := [_, _, _, _]))
theorem rows0 {w0 w : World} {z x1 x2 x3 x4 : It} (H : Own w0 w [z, x1, x2, x3, x4]) : Own w0 w [x1, x2, x3, x4, z, rb (.slice none 0 0) []] :=
  H.nilB.swap1.perm (List.perm_append_comm (l₁ := [_, _]) (l₂ := [_, _, _, _]))
/-! A word masked, bit by bit. -/
def maskN (x a o : Nat) : Nat := (x &&& a) ||| (o &&& (2 ^ 64 - (a + 1)))
theorem maskN_lt {x a o : Nat} (hx : x < 65536) (ho : o < 65536) : maskN x a o < 65536 := by
  have h1 : x &&& a < 2 ^ 16 := Nat.lt_of_le_of_lt Nat.and_le_left hx
  have h2 : o &&& (2 ^ 64 - (a + 1)) < 2 ^ 16 := Nat.lt_of_le_of_lt Nat.and_le_left ho
  exact Nat.or_lt_two_pow h1 h2
theorem maskN_bit {x a o : Nat} (ha : a < 65536) (i : Nat) : (maskN x a o).testBit i = ((x.testBit i && a.testBit i) || (o.testBit i && (decide (i < 64) && !a.testBit i))) := by
  unfold maskN
  rw [Nat.testBit_or, Nat.testBit_and, Nat.testBit_and, Nat.testBit_two_pow_sub_succ (by omega : a < 2 ^ 64)]
theorem bit_high {x i : Nat} (hx : x < 65536) (hi : 16 ≤ i) : x.testBit i = false := Nat.testBit_lt_two_pow (Nat.lt_of_lt_of_le hx (by show 2 ^ 16 ≤ 2 ^ i; exact Nat.pow_le_pow_right (by decide) hi))
theorem maskN_ones {x o : Nat} (hx : x < 65536) (ho : o < 65536) : maskN x 65535 o = x := by
  refine Nat.eq_of_testBit_eq fun i => ?_
  rw [maskN_bit (by decide), show (65535 : Nat) = 2 ^ 16 - 1 from rfl, Nat.testBit_two_pow_sub_one]
  by_cases h : i < 16
  · simp [h]
  · simp [h, bit_high (i := i) hx (by omega), bit_high (i := i) ho (by omega)]
theorem maskN_none {x o : Nat} (ho : o < 65536) : maskN x 0 o = o := by
  refine Nat.eq_of_testBit_eq fun i => ?_
  rw [maskN_bit (by decide), Nat.zero_testBit]
  by_cases h : i < 64
  · simp [h]
  · simp [h, bit_high (i := i) ho (by omega)]
theorem maskN_twice {x a o : Nat} (ha : a < 65536) (ho : o < 65536) : maskN (maskN x a o) a o = maskN x a o := by
  refine Nat.eq_of_testBit_eq fun i => ?_
  rw [maskN_bit ha, maskN_bit ha]
  by_cases h : i < 64
  · cases x.testBit i <;> cases a.testBit i <;> cases o.testBit i <;> simp [h]
  · simp [bit_high ha (show 16 ≤ i by omega), bit_high ho (show 16 ≤ i by omega)]
theorem bits_nat (f : BinOp) (x y : Nat) (hx : x < 65536) (hy : y < 65536) (r : Nat) (hr : r < 2 ^ 63) (h : Go.bits f .i64 (x : Int) (y : Int) = IntKind.i64.wrap ((r : Nat) : Int)) : Go.bits f .i64 (x : Int) (y : Int) = (r : Int) := by
  rw [h, i64wrap, w64 (by omega) (by omega)]
theorem maskOf_nat {x a o : Nat} (hx : x < 65536) (ha : a < 65536) (ho : o < 65536) : maskOf (x : Int) (a : Int) (o : Int) = ((maskN x a o : Nat) : Int) := by
  have m : ∀ z : Nat, z < 65536 → ((z : Int) % ((2 ^ 64 : Nat) : Int)).toNat = z := fun z hz => by omega
  have e1 : Go.bits .and .i64 (x : Int) (a : Int) = ((x &&& a : Nat) : Int) := by
    have hlt : x &&& a < 2 ^ 16 := Nat.lt_of_le_of_lt Nat.and_le_left hx
    refine bits_nat _ x a hx ha _ (by omega) ?_
    unfold Go.bits
    simp only [BitVec.toNat_and, BitVec.toNat_ofInt]
    show IntKind.i64.wrap ((((x : Int) % ((2 ^ 64 : Nat) : Int)).toNat &&& ((a : Int) % ((2 ^ 64 : Nat) : Int)).toNat : Nat) : Int) = _
    rw [m x hx, m a ha]
  have e2 : Go.bits .andNot .i64 (o : Int) (a : Int) = ((o &&& (2 ^ 64 - (a + 1)) : Nat) : Int) := by
    have hlt : o &&& (2 ^ 64 - (a + 1)) < 2 ^ 16 := Nat.lt_of_le_of_lt Nat.and_le_left ho
    refine bits_nat _ o a ho ha _ (by omega) ?_
    unfold Go.bits
    simp only [BitVec.toNat_and, BitVec.toNat_not, BitVec.toNat_ofInt]
    show IntKind.i64.wrap ((((o : Int) % ((2 ^ 64 : Nat) : Int)).toNat &&& (2 ^ 64 - 1 - ((a : Int) % ((2 ^ 64 : Nat) : Int)).toNat) : Nat) : Int) = _
    rw [m o ho, m a ha, show 2 ^ 64 - 1 - a = 2 ^ 64 - (a + 1) by omega]
  have h1 : x &&& a < 2 ^ 16 := Nat.lt_of_le_of_lt Nat.and_le_left hx
  have h2 : o &&& (2 ^ 64 - (a + 1)) < 2 ^ 16 := Nat.lt_of_le_of_lt Nat.and_le_left ho
  unfold maskOf
  rw [e1, e2]
  show _ = (((x &&& a) ||| (o &&& (2 ^ 64 - (a + 1))) : Nat) : Int)
  refine bits_nat _ _ _ h1 h2 ((x &&& a) ||| (o &&& (2 ^ 64 - (a + 1)))) (by have := maskN_lt (a := a) hx ho; unfold maskN at this; omega) ?_
  unfold Go.bits
  simp only [BitVec.toNat_or, BitVec.toNat_ofInt]
  show IntKind.i64.wrap (((((x &&& a : Nat) : Int) % ((2 ^ 64 : Nat) : Int)).toNat ||| (((o &&& (2 ^ 64 - (a + 1)) : Nat) : Int) % ((2 ^ 64 : Nat) : Int)).toNat : Nat) : Int) = _
  rw [m _ h1, m _ h2]
/-- A word masked as the spec writes it. -/
theorem maskSpec {x a o : Nat} (hx : x < 65536) (ha : a < 65536) (ho : o < 65536) : Go.bits .or .i64 (Go.bits .and .i64 (x : Int) (a : Int)) (Go.bits .and .i64 (o : Int) (Go.bits .xor .i64 65535 (a : Int))) = maskOf (x : Int) (a : Int) (o : Int) := by
  have m : ∀ z : Nat, z < 65536 → ((z : Int) % ((2 ^ 64 : Nat) : Int)).toNat = z := fun z hz => by omega
  have and_ : ∀ y z : Nat, y < 65536 → z < 65536 → Go.bits .and .i64 (y : Int) (z : Int) = ((y &&& z : Nat) : Int) := fun y z hy hz => by
    have hlt : y &&& z < 2 ^ 16 := Nat.lt_of_le_of_lt Nat.and_le_left hy
    refine bits_nat _ y z hy hz _ (by omega) ?_
    unfold Go.bits
    simp only [BitVec.toNat_and, BitVec.toNat_ofInt]
    show IntKind.i64.wrap ((((y : Int) % ((2 ^ 64 : Nat) : Int)).toNat &&& ((z : Int) % ((2 ^ 64 : Nat) : Int)).toNat : Nat) : Int) = _
    rw [m y hy, m z hz]
  have hxl : (65535 ^^^ a) < 2 ^ 16 := Nat.xor_lt_two_pow (by decide) ha
  have x_ : Go.bits .xor .i64 65535 (a : Int) = ((65535 ^^^ a : Nat) : Int) := by
    refine bits_nat _ 65535 a (by decide) ha _ (by omega) ?_
    unfold Go.bits
    simp only [BitVec.toNat_xor, BitVec.toNat_ofInt]
    show IntKind.i64.wrap (((((65535 : Nat) : Int) % ((2 ^ 64 : Nat) : Int)).toNat ^^^ ((a : Int) % ((2 ^ 64 : Nat) : Int)).toNat : Nat) : Int) = _
    rw [m 65535 (by decide), m a ha]
  have e : o &&& (65535 ^^^ a) = o &&& (2 ^ 64 - (a + 1)) := by
    refine Nat.eq_of_testBit_eq fun i => ?_
    rw [Nat.testBit_and, Nat.testBit_and, Nat.testBit_xor, Nat.testBit_two_pow_sub_succ (by omega : a < 2 ^ 64), show (65535 : Nat) = 2 ^ 16 - 1 from rfl, Nat.testBit_two_pow_sub_one]
    by_cases h : i < 16
    · simp [h, show i < 64 by omega]
    · simp [bit_high (i := i) ho (by omega)]
  have h1 : x &&& a < 2 ^ 16 := Nat.lt_of_le_of_lt Nat.and_le_left hx
  have h2 : o &&& (65535 ^^^ a) < 2 ^ 16 := Nat.lt_of_le_of_lt Nat.and_le_left ho
  rw [maskOf_nat hx ha ho, x_, and_ x a hx ha, and_ o _ ho hxl]
  refine bits_nat _ _ _ h1 h2 _ (Nat.lt_of_lt_of_le (maskN_lt hx ho) (by decide)) ?_
  unfold Go.bits
  simp only [BitVec.toNat_or, BitVec.toNat_ofInt]
  show IntKind.i64.wrap ((((x &&& a : Nat) : Int) % ((2 ^ 64 : Nat) : Int)).toNat ||| (((o &&& (65535 ^^^ a) : Nat) : Int) % ((2 ^ 64 : Nat) : Int)).toNat : Nat) = _
  rw [m _ h1, m _ h2, maskN, e]
theorem word_nat {l : List Int} (h : l.all wordB = true) {p : Nat} (hp : p < l.length) : ∃ x : Nat, rd l (p : Int) = (x : Int) ∧ x < 65536 := by
  have h1 := List.all_eq_true.1 h l[p] (List.getElem_mem hp)
  rw [wordB_eq, decide_eq_true_iff] at h1
  exact ⟨l[p].toNat, by rw [rd_get hp]; omega, by omega⟩
theorem dev_word {c i : List Bool} {h v : List Int} (hd : deviceOkB c i h v = true) {p : Nat} (hp : p < h.length) : ∃ x : Nat, rd h (p : Int) = (x : Int) ∧ x < 65536 := by
  simp only [deviceOkB, Bool.and_eq_true] at hd
  exact word_nat hd.1.2 hp
theorem req_word {k a n : Int} {w : List Int} {t : List Bool} {e : Int} (hr : reqB k a n w t e = true) {p : Nat} (hp : p < w.length) : ∃ x : Nat, rd w (p : Int) = (x : Int) ∧ x < 65536 := by
  unfold reqB at hr
  simp only [Bool.and_eq_true] at hr
  exact word_nat hr.1.1 hp
set_option maxHeartbeats 8000000 in
set_option maxRecDepth 100000 in
theorem specServe_own {w : World} {A0 A1 A2 A3 A4 A5 : Option Addr} {c0 c1 c2 c3 c4 c5 : Nat} {l0 l1 : List Bool} {l2 l3 : List Int} {k a n wat : Int} {ws : List Int} {bs : List Bool} (h0 : Kd.C Kd.bool w A0 l0.length l0) (k0 : l0.length ≤ c0) (h1 : Kd.C Kd.bool w A1 l1.length l1) (k1 : l1.length ≤ c1) (h2 : Kd.C (Kd.int .i64) w A2 l2.length l2) (k2 : l2.length ≤ c2) (h3 : Kd.C (Kd.int .i64) w A3 l3.length l3) (k3 : l3.length ≤ c3) (h4 : Kd.C (Kd.int .i64) w A4 ws.length ws) (k4 : ws.length ≤ c4) (h5 : Kd.C Kd.bool w A5 bs.length bs) (k5 : bs.length ≤ c5) {r1 r2 : List Bool} {r3 r4 : List Int} {r5 r6 r7 r8 : Int} {r9 : List Int} {r10 : List Bool} (hS : servedOf l0 l1 l2 l3 k a n ws bs wat = (r1, r2, r3, r4, r5, r6, r7, r8, r9, r10)) (m0 : l0.length ≤ 1048576) (m1 : l1.length ≤ 1048576) (m2 : l2.length ≤ 1048576) (m3 : l3.length ≤ 1048576) (m4 : ws.length ≤ 1048576) (m5 : bs.length ≤ 1048576) :
    Calls Try.prog 7 #[.agg #[.slice A0 l0.length c0, .slice A1 l1.length c1, .slice A2 l2.length c2, .slice A3 l3.length c3], .agg #[.int .i64 k, .int .i64 a, .int .i64 n, .slice A4 ws.length c4, .slice A5 bs.length c5, .int .i64 wat]] w (SrvPost w r1 r2 r3 r4 r5 r6 r7 r8 r9 r10) := by
  have hu := Try.underlying30
  have hq := Try.underlying36
  have hR := Try.underlying32
  have HA := aM (And.intro h4 (And.intro k4 (And.intro h5 (And.intro k5 (And.intro m4 m5)))))
  have HD := aM (And.intro h0 (And.intro k0 (And.intro h1 (And.intro k1 (And.intro h2 (And.intro k2 (And.intro h3 (And.intro k3 (And.intro m0 (And.intro m1 (And.intro m2 m3)))))))))))
  obtain ⟨dok, hdk⟩ : ∃ dok, deviceOkB l0 l1 l2 l3 = dok := ⟨_, rfl⟩
  obtain ⟨rq, hrq⟩ : ∃ rq, reqB k a n ws bs wat = rq := ⟨_, rfl⟩
  obtain ⟨th, hth⟩ : ∃ th, thereB l0 l1 l2 l3 k a n ws bs wat = th := ⟨_, rfl⟩
  have HK := aM (And.intro hdk hrq)
  have HT := aM hth
  have HS := aM hS
  clear h0 k0 h1 k1 h2 k2 h3 k3 h4 k4 h5 k5 m0 m1 m2 m3 m4 m5 hdk hrq hth hS
  have H := aM (Own.nil w)
  go_enter Try.func7, Try.ntmps7
  go_upto_region 2 with (first | ((with_reducible refine nD 2 ?_); refine bxO 2 H.out #[.slice A0 l0.length c0, .slice A1 l1.length c1, .slice A2 l2.length c2, .slice A3 l3.length c3] 30 ?_; clear H; intro g2 _ H) | ((with_reducible refine nD 3 ?_); refine bxO 3 H.out #[.int .i64 k, .int .i64 a, .int .i64 n, .slice A4 ws.length c4, .slice A5 bs.length c5, .int .i64 wat] 36 ?_; clear H; intro g3 _ H) | ((with_reducible refine nD 4 ?_); refine bxO 4 H.out #[.slice none 0 0, .slice none 0 0, .slice none 0 0, .slice none 0 0] 30 ?_; clear H; intro g4 _ H) | ((with_reducible refine nD 5 ?_); refine bxO 5 H.out #[.int .i64 0, .int .i64 0, .int .i64 0, .int .i64 0, .slice none 0 0, .slice none 0 0] 32 ?_; clear H; intro g5 _ H) | ((with_reducible refine nD 9 ?_); refine ldO 9 3 H.out hu ?_) | ((with_reducible refine nD 10 ?_); refine gC 10 Try.func30 (l5Copy_own (H.out.arg HD.out.1) (H.out.arg HD.out.2.2.1) (H.out.arg HD.out.2.2.2.2.1) (H.out.arg HD.out.2.2.2.2.2.2.1) HD.out.2.2.2.2.2.2.2.2.1 HD.out.2.2.2.2.2.2.2.2.2.1 HD.out.2.2.2.2.2.2.2.2.2.2.1 HD.out.2.2.2.2.2.2.2.2.2.2.2) ?_; rintro e w_ ⟨B0, B1, B2, B3, e0, e1, e2, e3, rfl, hO⟩; refine ⟨_, rfl, ?_⟩; replace H := aM (H.out.app hO); clear hO) | ((with_reducible refine nD 6 ?_); refine bxO 6 H.out #[.slice none 0 0, .slice none 0 0, .slice none 0 0, .slice none 0 0] 30 ?_; clear H; intro g6 _ H) | ((with_reducible refine nS 6 ?_); refine stO 0 H.out ?_; clear H; intro _ H))
  cases dok with
  | false =>
    have hS := HS.out
    rw [served_bad (by rw [HK.out.1]; simp)] at hS
    simp only [Prod.mk.injEq] at hS
    obtain ⟨rfl, rfl, rfl, rfl, e5, e6, rfl, rfl, rfl, rfl⟩ := hS
    have HF := aM (And.intro e5 e6)
    clear e5 e6
    clear HS HT
    go_upto_region 3 with (first | ((with_reducible refine nD 11 ?_); refine ldO 11 8 H.out hu ?_) | ((with_reducible refine nD 12 ?_); refine gC 12 Try.func31 (by have h_ := specDevOk_own (H.out.arg HD.out.1) HD.out.2.1 (H.out.arg HD.out.2.2.1) HD.out.2.2.2.1 (H.out.arg HD.out.2.2.2.2.1) HD.out.2.2.2.2.2.1 (H.out.arg HD.out.2.2.2.2.2.2.1) HD.out.2.2.2.2.2.2.2.1 HD.out.2.2.2.2.2.2.2.2.2.2.1 HD.out.2.2.2.2.2.2.2.2.2.2.2; rw [HK.out.1] at h_; exact h_) ?_; rintro e w_ ⟨rfl, hO⟩; refine ⟨_, rfl, ?_⟩; replace H := aM (H.out.step hO); clear hO))
    refine rgI [0, 7] 5 H.out ?_
    clear H
    intro w_ H
    have HL := aM (H.out.hasI [0, 7])
    refine lO 0 19 0 hu HL.out ?_
    refine lO 1 20 1 hq HL.out ?_
    clear HL
    refine clS 2 21 Try.func33 (by have h_ := specFault_own (k := k) (a := a) (n := n) (wat := wat) (H.out.arg HA.out.1) HA.out.2.1 (H.out.arg HA.out.2.2.1) HA.out.2.2.2.1 HA.out.2.2.2.2.1 HA.out.2.2.2.2.2 4 (by omega); rw [HF.out.1, HF.out.2] at h_; exact h_) ?_
    rintro e w_2 ⟨rfl, hO⟩
    refine ⟨_, rfl, (H.out.step hO).hasI [0, 7], nm ?_⟩
    have H := aM (H.out.step hO)
    clear hO
    refine stS 3 6 [0, 7] H.out ?_
    clear H
    intro _ H
    refine stS 4 5 [0, 7] H.out ?_
    clear H
    intro _ H
    refine done_ (by kernel_rfl) ?_
    try go_wp2
    refine bodyPost_ret (results_cc rfl _ _ g4 g5 30 32 #[.slice B0 l0.length e0, .slice B1 l1.length e1, .slice B2 l2.length e2, .slice B3 l3.length e3] _ (0, 0) (0, 0) _ _ rfl (H.out.b 6) hu rfl (by kernel_rfl) rfl (H.out.b 5) hR rfl (by kernel_rfl)) rfl ?_
    exact ⟨_, _, _, _, none, none, _, _, _, _, 0, 0, rfl, noRows (H.out.sub (by repeat (first | exact List.nil_sublist _ | apply List.Sublist.cons_cons | apply List.Sublist.cons)))⟩
  | true =>
    cases rq with
    | false =>
      have hS := HS.out
      rw [served_bad (by rw [HK.out.2]; simp)] at hS
      simp only [Prod.mk.injEq] at hS
      obtain ⟨rfl, rfl, rfl, rfl, e5, e6, rfl, rfl, rfl, rfl⟩ := hS
      have HF := aM (And.intro e5 e6)
      clear e5 e6
      clear HS HT
      go_upto_region 3 with (first | ((with_reducible refine nD 11 ?_); refine ldO 11 8 H.out hu ?_) | ((with_reducible refine nD 12 ?_); refine gC 12 Try.func31 (by have h_ := specDevOk_own (H.out.arg HD.out.1) HD.out.2.1 (H.out.arg HD.out.2.2.1) HD.out.2.2.2.1 (H.out.arg HD.out.2.2.2.2.1) HD.out.2.2.2.2.2.1 (H.out.arg HD.out.2.2.2.2.2.2.1) HD.out.2.2.2.2.2.2.2.1 HD.out.2.2.2.2.2.2.2.2.2.2.1 HD.out.2.2.2.2.2.2.2.2.2.2.2; rw [HK.out.1] at h_; exact h_) ?_; rintro e w_ ⟨rfl, hO⟩; refine ⟨_, rfl, ?_⟩; replace H := aM (H.out.step hO); clear hO) | ((with_reducible refine nD 15 ?_); (try (refine gate_guard (by rfl) ?_; dsimp only)); refine ldO 15 7 H.out hq ?_) | ((with_reducible refine nD 16 ?_); (try (refine gate_guard (by rfl) ?_; dsimp only)); refine gC 16 Try.func32 (by have h_ := specReq_own (k := k) (a := a) (n := n) (wat := wat) (H.out.arg HA.out.1) HA.out.2.1 (H.out.arg HA.out.2.2.1) HA.out.2.2.2.1 HA.out.2.2.2.2.1 HA.out.2.2.2.2.2; rw [HK.out.2] at h_; exact h_) ?_; rintro e w_ ⟨rfl, hO⟩; refine ⟨_, rfl, ?_⟩; replace H := aM (H.out.step hO); clear hO))
      refine rgI [0, 7] 5 H.out ?_
      clear H
      intro w_ H
      have HL := aM (H.out.hasI [0, 7])
      refine lO 0 19 0 hu HL.out ?_
      refine lO 1 20 1 hq HL.out ?_
      clear HL
      refine clS 2 21 Try.func33 (by have h_ := specFault_own (k := k) (a := a) (n := n) (wat := wat) (H.out.arg HA.out.1) HA.out.2.1 (H.out.arg HA.out.2.2.1) HA.out.2.2.2.1 HA.out.2.2.2.2.1 HA.out.2.2.2.2.2 4 (by omega); rw [HF.out.1, HF.out.2] at h_; exact h_) ?_
      rintro e w_2 ⟨rfl, hO⟩
      refine ⟨_, rfl, (H.out.step hO).hasI [0, 7], nm ?_⟩
      have H := aM (H.out.step hO)
      clear hO
      refine stS 3 6 [0, 7] H.out ?_
      clear H
      intro _ H
      refine stS 4 5 [0, 7] H.out ?_
      clear H
      intro _ H
      refine done_ (by kernel_rfl) ?_
      try go_wp2
      refine bodyPost_ret (results_cc rfl _ _ g4 g5 30 32 #[.slice B0 l0.length e0, .slice B1 l1.length e1, .slice B2 l2.length e2, .slice B3 l3.length e3] _ (0, 0) (0, 0) _ _ rfl (H.out.b 6) hu rfl (by kernel_rfl) rfl (H.out.b 5) hR rfl (by kernel_rfl)) rfl ?_
      exact ⟨_, _, _, _, none, none, _, _, _, _, 0, 0, rfl, noRows (H.out.sub (by repeat (first | exact List.nil_sublist _ | apply List.Sublist.cons_cons | apply List.Sublist.cons)))⟩
    | true =>
      go_upto_region 4 with (first | ((with_reducible refine nD 11 ?_); refine ldO 11 8 H.out hu ?_) | ((with_reducible refine nD 12 ?_); refine gC 12 Try.func31 (by have h_ := specDevOk_own (H.out.arg HD.out.1) HD.out.2.1 (H.out.arg HD.out.2.2.1) HD.out.2.2.2.1 (H.out.arg HD.out.2.2.2.2.1) HD.out.2.2.2.2.2.1 (H.out.arg HD.out.2.2.2.2.2.2.1) HD.out.2.2.2.2.2.2.2.1 HD.out.2.2.2.2.2.2.2.2.2.2.1 HD.out.2.2.2.2.2.2.2.2.2.2.2; rw [HK.out.1] at h_; exact h_) ?_; rintro e w_ ⟨rfl, hO⟩; refine ⟨_, rfl, ?_⟩; replace H := aM (H.out.step hO); clear hO) | ((with_reducible refine nD 15 ?_); (try (refine gate_guard (by rfl) ?_; dsimp only)); refine ldO 15 7 H.out hq ?_) | ((with_reducible refine nD 16 ?_); (try (refine gate_guard (by rfl) ?_; dsimp only)); refine gC 16 Try.func32 (by have h_ := specReq_own (k := k) (a := a) (n := n) (wat := wat) (H.out.arg HA.out.1) HA.out.2.1 (H.out.arg HA.out.2.2.1) HA.out.2.2.2.1 HA.out.2.2.2.2.1 HA.out.2.2.2.2.2; rw [HK.out.2] at h_; exact h_) ?_; rintro e w_ ⟨rfl, hO⟩; refine ⟨_, rfl, ?_⟩; replace H := aM (H.out.step hO); clear hO))
      cases th with
      | false =>
        have hS := HS.out
        unfold servedOf at hS
        rw [if_pos HK.out, if_neg (by rw [HT.out]; simp)] at hS
        simp only [Prod.mk.injEq] at hS
        obtain ⟨rfl, rfl, rfl, rfl, e5, e6, rfl, rfl, rfl, rfl⟩ := hS
        have HF := aM (show (if reqB k a n ws bs wat = true then k else 0) = r5 ∧ (if reqB k a n ws bs wat = true then 2 else 0) = r6 from ⟨(if_pos HK.out.2).trans e5, (if_pos HK.out.2).trans e6⟩)
        clear e5 e6
        clear HS
        go_upto_region 5 with (first | ((with_reducible refine nD 22 ?_); refine ldO 22 8 H.out hu ?_) | ((with_reducible refine nD 23 ?_); refine ldO 23 7 H.out hq ?_) | ((with_reducible refine nD 24 ?_); refine gC 24 Try.func34 (there_own (H.out.arg HA.out.1) HA.out.2.1 (H.out.arg HA.out.2.2.1) HA.out.2.2.2.1 HA.out.2.2.2.2.1 HA.out.2.2.2.2.2 (H.out.arg HD.out.1) (H.out.arg HD.out.2.2.1) (H.out.arg HD.out.2.2.2.2.1) (H.out.arg HD.out.2.2.2.2.2.2.1) HK.out.2 _ HT.out) ?_; rintro e w_ ⟨rfl, hO⟩; refine ⟨_, rfl, ?_⟩; replace H := aM (H.out.step hO); clear hO))
        refine rgI [0, 7] 5 H.out ?_
        clear H
        intro w_ H
        have HL := aM (H.out.hasI [0, 7])
        refine lO 0 26 0 hu HL.out ?_
        refine lO 1 27 1 hq HL.out ?_
        clear HL
        refine clS 2 28 Try.func33 (by have h_ := specFault_own (k := k) (a := a) (n := n) (wat := wat) (H.out.arg HA.out.1) HA.out.2.1 (H.out.arg HA.out.2.2.1) HA.out.2.2.2.1 HA.out.2.2.2.2.1 HA.out.2.2.2.2.2 2 (by omega); rw [HF.out.1, HF.out.2] at h_; exact h_) ?_
        rintro e w_2 ⟨rfl, hO⟩
        refine ⟨_, rfl, (H.out.step hO).hasI [0, 7], nm ?_⟩
        have H := aM (H.out.step hO)
        clear hO
        refine stS 3 6 [0, 7] H.out ?_
        clear H
        intro _ H
        refine stS 4 5 [0, 7] H.out ?_
        clear H
        intro _ H
        refine done_ (by kernel_rfl) ?_
        try go_wp2
        refine bodyPost_ret (results_cc rfl _ _ g4 g5 30 32 #[.slice B0 l0.length e0, .slice B1 l1.length e1, .slice B2 l2.length e2, .slice B3 l3.length e3] _ (0, 0) (0, 0) _ _ rfl (H.out.b 6) hu rfl (by kernel_rfl) rfl (H.out.b 5) hR rfl (by kernel_rfl)) rfl ?_
        exact ⟨_, _, _, _, none, none, _, _, _, _, 0, 0, rfl, noRows (H.out.sub (by repeat (first | exact List.nil_sublist _ | apply List.Sublist.cons_cons | apply List.Sublist.cons)))⟩
      | true =>
        have hS := HS.out
        unfold servedOf at hS
        rw [if_pos HK.out, if_pos HT.out] at hS
        replace HS := aM hS
        clear hS
        go_upto_region 8 with (first | ((with_reducible refine nD 22 ?_); refine ldO 22 8 H.out hu ?_) | ((with_reducible refine nD 23 ?_); refine ldO 23 7 H.out hq ?_) | ((with_reducible refine nD 24 ?_); refine gC 24 Try.func34 (there_own (H.out.arg HA.out.1) HA.out.2.1 (H.out.arg HA.out.2.2.1) HA.out.2.2.2.1 HA.out.2.2.2.2.1 HA.out.2.2.2.2.2 (H.out.arg HD.out.1) (H.out.arg HD.out.2.2.1) (H.out.arg HD.out.2.2.2.2.1) (H.out.arg HD.out.2.2.2.2.2.2.1) HK.out.2 _ HT.out) ?_; rintro e w_ ⟨rfl, hO⟩; refine ⟨_, rfl, ?_⟩; replace H := aM (H.out.step hO); clear hO; obtain ⟨zg3_0, zg3y_0, zg3_1, zg3y_1, zg3_2, zg3y_2, zg3_3, zg3y_3, zg3_4, zg3y_4, zg3_5, zg3y_5⟩ := bk6 (H.out.b 7)) | ((with_reducible refine nD 7 ?_); refine bxO 7 H.out #[.int .i64 0, .int .i64 0, .int .i64 0, .int .i64 0, .slice none 0 0, .slice none 0 0] 32 ?_; clear H; intro g7 _ H) | ((with_reducible refine nS 7 ?_); refine stO 0 H.out ?_; clear H; intro _ H; obtain ⟨y_0, yy_0, y_1, yy_1, y_2, yy_2, y_3, yy_3, y_4, yy_4, y_5, yy_5⟩ := bk6 (H.out.b 8)))
        rcases kind_cases (reqB_facts HK.out.2).1 with rfl | rfl | rfl | rfl | rfl | rfl | rfl | rfl | rfl | rfl
        · have hS := HS.out
          simp only [doneOf, Int.reduceEq, if_true, if_false, true_or, or_true, false_or, or_false, or_self, Prod.mk.injEq] at hS
          obtain ⟨_, a0, a1, f12, f34, f5, f6, f15, f16, f22, f23⟩ := reqB_facts HK.out.2
          have fn := f12 (.inl rfl)
          have hb : a + n ≤ (l0.length : Int) := by have := HT.out; simpa [thereB] using this
          have HX := aM (And.intro a0 (And.intro (show 0 ≤ n by omega) hb))
          clear fn
          clear a0 a1 f12 f34 f5 f6 f15 f16 f22 f23 HS HK HT hb
          obtain ⟨rfl, rfl, rfl, rfl, rfl, rfl, rfl, rfl, rfl, rfl⟩ := hS
          obtain ⟨zg21_0, zg21y_0, zg21_1, zg21y_1, zg21_2, zg21y_2, zg21_3, zg21y_3⟩ := bk4 (H.out.b 9); obtain ⟨zg32_0, zg32y_0, zg32_1, zg32y_1, zg32_2, zg32y_2, zg32_3, zg32y_3, zg32_4, zg32y_4, zg32_5, zg32y_5⟩ := bk6 (H.out.b 8)
          go_upto_region 41 with (first | ((with_reducible refine nD 42 ?_); refine gC 42 Try.func35 (l5Bits_own (H.out.arg HD.out.1) HD.out.2.1 HX.out.1 HX.out.2.1 HX.out.2.2 HD.out.2.2.2.2.2.2.2.2.1) ?_; rintro e w_ ⟨Bz, dz, rfl, hO⟩; refine ⟨_, rfl, ?_⟩; replace H := aM (H.out.app hO); clear hO) | ((with_reducible refine nS 43 ?_); refine scO 1 5 H.out ?_; clear H; intro _ H))
          refine rgI [2, 1] 4 H.out ?_
          clear H
          intro w_ H
          have HL := aM (H.out.hasI [2, 1])
          refine lO 0 213 0 hu HL.out ?_
          refine lO 1 214 1 hR HL.out ?_
          clear HL
          refine stS 2 8 [2, 1] H.out ?_
          clear H
          intro _ H
          refine stS 3 7 [2, 1] H.out ?_
          clear H
          intro _ H
          refine done_ (by kernel_rfl) ?_
          try go_wp2
          refine bodyPost_ret (results_cc rfl _ _ g4 g5 30 32 #[.slice B0 l0.length e0, .slice B1 l1.length e1, .slice B2 l2.length e2, .slice B3 l3.length e3] _ (0, 0) (0, 0) _ _ rfl (H.out.b 8) hu rfl (by kernel_rfl) rfl (H.out.b 7) hR rfl (by kernel_rfl)) rfl ?_
          exact ⟨_, _, _, _, _, _, _, _, _, _, _, _, rfl, rows1 (H.out.sub (by repeat (first | exact List.nil_sublist _ | apply List.Sublist.cons_cons | apply List.Sublist.cons)))⟩
        · have hS := HS.out
          simp only [doneOf, Int.reduceEq, if_true, if_false, true_or, or_true, false_or, or_false, or_self, Prod.mk.injEq] at hS
          obtain ⟨_, a0, a1, f12, f34, f5, f6, f15, f16, f22, f23⟩ := reqB_facts HK.out.2
          have fn := f12 (.inr rfl)
          have hb : a + n ≤ (l1.length : Int) := by have := HT.out; simpa [thereB] using this
          have HX := aM (And.intro a0 (And.intro (show 0 ≤ n by omega) hb))
          clear fn
          clear a0 a1 f12 f34 f5 f6 f15 f16 f22 f23 HS HK HT hb
          obtain ⟨rfl, rfl, rfl, rfl, rfl, rfl, rfl, rfl, rfl, rfl⟩ := hS
          obtain ⟨zg23_0, zg23y_0, zg23_1, zg23y_1, zg23_2, zg23y_2, zg23_3, zg23y_3⟩ := bk4 (H.out.b 9); obtain ⟨zg34_0, zg34y_0, zg34_1, zg34y_1, zg34_2, zg34y_2, zg34_3, zg34y_3, zg34_4, zg34y_4, zg34_5, zg34y_5⟩ := bk6 (H.out.b 8)
          go_upto_region 41 with (first | ((with_reducible refine nD 52 ?_); refine gC 52 Try.func35 (l5Bits_own (H.out.arg HD.out.2.2.1) HD.out.2.2.2.1 HX.out.1 HX.out.2.1 HX.out.2.2 HD.out.2.2.2.2.2.2.2.2.2.1) ?_; rintro e w_ ⟨Bz, dz, rfl, hO⟩; refine ⟨_, rfl, ?_⟩; replace H := aM (H.out.app hO); clear hO) | ((with_reducible refine nS 53 ?_); refine scO 1 5 H.out ?_; clear H; intro _ H))
          refine rgI [2, 1] 4 H.out ?_
          clear H
          intro w_ H
          have HL := aM (H.out.hasI [2, 1])
          refine lO 0 213 0 hu HL.out ?_
          refine lO 1 214 1 hR HL.out ?_
          clear HL
          refine stS 2 8 [2, 1] H.out ?_
          clear H
          intro _ H
          refine stS 3 7 [2, 1] H.out ?_
          clear H
          intro _ H
          refine done_ (by kernel_rfl) ?_
          try go_wp2
          refine bodyPost_ret (results_cc rfl _ _ g4 g5 30 32 #[.slice B0 l0.length e0, .slice B1 l1.length e1, .slice B2 l2.length e2, .slice B3 l3.length e3] _ (0, 0) (0, 0) _ _ rfl (H.out.b 8) hu rfl (by kernel_rfl) rfl (H.out.b 7) hR rfl (by kernel_rfl)) rfl ?_
          exact ⟨_, _, _, _, _, _, _, _, _, _, _, _, rfl, rows1 (H.out.sub (by repeat (first | exact List.nil_sublist _ | apply List.Sublist.cons_cons | apply List.Sublist.cons)))⟩
        · have hS := HS.out
          simp only [doneOf, Int.reduceEq, if_true, if_false, true_or, or_true, false_or, or_false, or_self, Prod.mk.injEq] at hS
          obtain ⟨_, a0, a1, f12, f34, f5, f6, f15, f16, f22, f23⟩ := reqB_facts HK.out.2
          have fn := f34 (.inl rfl)
          have hb : a + n ≤ (l2.length : Int) := by have := HT.out; simpa [thereB] using this
          obtain ⟨j, AR, cR, R, hjw, hRe, hRl, hcut, hCR⟩ := cutI (A := A2) (l := l2) rfl HD.out.2.2.2.2.2.1 a0 (show 0 ≤ n by omega) hb HD.out.2.2.2.2.2.2.2.2.2.2.1
          rw [← hRe] at hS
          have CR := aM hCR
          have HX := aM hRl
          clear fn hRe hRl hCR
          clear a0 a1 f12 f34 f5 f6 f15 f16 f22 f23 HS HK HT hb
          obtain ⟨rfl, rfl, rfl, rfl, rfl, rfl, rfl, rfl, rfl, rfl⟩ := hS
          go_upto_region 41 with (first | ((with_reducible refine nD 56 ?_); refine litIL 56 [] H.out ?_; clear H; intro Az cz _ H; obtain ⟨zg25_0, zg25y_0, zg25_1, zg25y_1, zg25_2, zg25y_2, zg25_3, zg25y_3⟩ := bk4 (H.out.b 10); obtain ⟨zg36_0, zg36y_0, zg36_1, zg36y_1, zg36_2, zg36y_2, zg36_3, zg36y_3, zg36_4, zg36y_4, zg36_5, zg36y_5⟩ := bk6 (H.out.b 9)) | ((with_reducible refine nD 67 ?_); refine apIL 0 67 H.out rfl (CR.out _ (H.out.arg HD.out.2.2.2.2.1)) ?_ (by have := HX.out; simp; omega) (List.nil_append R); clear H; intro Ay cy _ H) | ((with_reducible refine nS 68 ?_); refine scO 1 4 H.out ?_; clear H; intro _ H))
          refine rgI [2, 1] 4 H.out ?_
          clear H
          intro w_ H
          have HL := aM (H.out.hasI [2, 1])
          refine lO 0 213 0 hu HL.out ?_
          refine lO 1 214 1 hR HL.out ?_
          clear HL
          refine stS 2 8 [2, 1] H.out ?_
          clear H
          intro _ H
          refine stS 3 7 [2, 1] H.out ?_
          clear H
          intro _ H
          refine done_ (by kernel_rfl) ?_
          try go_wp2
          refine bodyPost_ret (results_cc rfl _ _ g4 g5 30 32 #[.slice B0 l0.length e0, .slice B1 l1.length e1, .slice B2 l2.length e2, .slice B3 l3.length e3] _ (0, 0) (0, 0) _ _ rfl (H.out.b 8) hu rfl (by kernel_rfl) rfl (H.out.b 7) hR rfl (by kernel_rfl)) rfl ?_
          exact ⟨_, _, _, _, _, _, _, _, _, _, _, _, rfl, rows0 (H.out.sub (by repeat (first | exact List.nil_sublist _ | apply List.Sublist.cons_cons | apply List.Sublist.cons)))⟩
        · have hS := HS.out
          simp only [doneOf, Int.reduceEq, if_true, if_false, true_or, or_true, false_or, or_false, or_self, Prod.mk.injEq] at hS
          obtain ⟨_, a0, a1, f12, f34, f5, f6, f15, f16, f22, f23⟩ := reqB_facts HK.out.2
          have fn := f34 (.inr rfl)
          have hb : a + n ≤ (l3.length : Int) := by have := HT.out; simpa [thereB] using this
          obtain ⟨j, AR, cR, R, hjw, hRe, hRl, hcut, hCR⟩ := cutI (A := A3) (l := l3) rfl HD.out.2.2.2.2.2.2.2.1 a0 (show 0 ≤ n by omega) hb HD.out.2.2.2.2.2.2.2.2.2.2.2
          rw [← hRe] at hS
          have CR := aM hCR
          have HX := aM hRl
          clear fn hRe hRl hCR
          clear a0 a1 f12 f34 f5 f6 f15 f16 f22 f23 HS HK HT hb
          obtain ⟨rfl, rfl, rfl, rfl, rfl, rfl, rfl, rfl, rfl, rfl⟩ := hS
          go_upto_region 41 with (first | ((with_reducible refine nD 71 ?_); refine litIL 71 [] H.out ?_; clear H; intro Az cz _ H; obtain ⟨zg27_0, zg27y_0, zg27_1, zg27y_1, zg27_2, zg27y_2, zg27_3, zg27y_3⟩ := bk4 (H.out.b 10); obtain ⟨zg38_0, zg38y_0, zg38_1, zg38y_1, zg38_2, zg38y_2, zg38_3, zg38y_3, zg38_4, zg38y_4, zg38_5, zg38y_5⟩ := bk6 (H.out.b 9)) | ((with_reducible refine nD 82 ?_); refine apIL 0 82 H.out rfl (CR.out _ (H.out.arg HD.out.2.2.2.2.2.2.1)) ?_ (by have := HX.out; simp; omega) (List.nil_append R); clear H; intro Ay cy _ H) | ((with_reducible refine nS 83 ?_); refine scO 1 4 H.out ?_; clear H; intro _ H))
          refine rgI [2, 1] 4 H.out ?_
          clear H
          intro w_ H
          have HL := aM (H.out.hasI [2, 1])
          refine lO 0 213 0 hu HL.out ?_
          refine lO 1 214 1 hR HL.out ?_
          clear HL
          refine stS 2 8 [2, 1] H.out ?_
          clear H
          intro _ H
          refine stS 3 7 [2, 1] H.out ?_
          clear H
          intro _ H
          refine done_ (by kernel_rfl) ?_
          try go_wp2
          refine bodyPost_ret (results_cc rfl _ _ g4 g5 30 32 #[.slice B0 l0.length e0, .slice B1 l1.length e1, .slice B2 l2.length e2, .slice B3 l3.length e3] _ (0, 0) (0, 0) _ _ rfl (H.out.b 8) hu rfl (by kernel_rfl) rfl (H.out.b 7) hR rfl (by kernel_rfl)) rfl ?_
          exact ⟨_, _, _, _, _, _, _, _, _, _, _, _, rfl, rows0 (H.out.sub (by repeat (first | exact List.nil_sublist _ | apply List.Sublist.cons_cons | apply List.Sublist.cons)))⟩
        · have hS := HS.out
          simp only [doneOf, Int.reduceEq, if_true, if_false, true_or, or_true, false_or, or_false, or_self, Prod.mk.injEq] at hS
          obtain ⟨_, a0, a1, f12, f34, f5, f6, f15, f16, f22, f23⟩ := reqB_facts HK.out.2
          have fn := f5 rfl
          have hb : a + (bs.length : Int) ≤ (l0.length : Int) := by have := HT.out; simp [thereB] at this; omega
          obtain ⟨p, rfl⟩ : ∃ p : Nat, a = (p : Int) := ⟨a.toNat, by omega⟩
          simp only [Int.toNat_natCast] at hS
          have HX := aM (show p + bs.length ≤ l0.length ∧ 0 < l0.length from ⟨by omega, by omega⟩)
          have hws : ws = [] := List.eq_nil_of_length_eq_zero (by omega)
          obtain ⟨rfl, rfl, rfl, rfl, rfl, rfl, rfl, rfl, e9, rfl⟩ := hS
          rw [hws] at e9
          subst e9
          clear hws
          have HB := aM (show l0.length ≤ 1048576 from HD.out.2.2.2.2.2.2.2.2.1)
          clear fn
          clear a0 a1 f12 f34 f5 f6 f15 f16 f22 f23 HS HK HT hb
          obtain ⟨q, rfl⟩ := row0B (show (rb (.slice B0 l0.length e0) l0).P _ from H.out.get 2 rfl) HX.out.2
          go_wp2
          go_loopg [8] (bs.length + 1) (fun kq v8 w' => ∃ i : Nat, v8 = .int .i64 (i : Int) ∧ Aside0 (i ≤ bs.length ∧ kq + i = bs.length + 1) ∧ Aside0 (Own w w' [bx g7 #[.int .i64 5, .int .i64 0, .int .i64 0, .int .i64 0, .slice none 0 0, .slice none 0 0] 32, bx g6 #[.slice (some ⟨q, 0, none⟩) l0.length e0, .slice B1 l1.length e1, .slice B2 l2.length e2, .slice B3 l3.length e3] 30, rb (.slice (some ⟨q, 0, none⟩) l0.length e0) (over l0 p (bs.take i)), rb (.slice B1 l1.length e1) l1, ri (.slice B2 l2.length e2) l2, ri (.slice B3 l3.length e3) l3, bx g5 #[.int .i64 0, .int .i64 0, .int .i64 0, .int .i64 0, .slice none 0 0, .slice none 0 0] 32, bx g4 #[.slice none 0 0, .slice none 0 0, .slice none 0 0, .slice none 0 0] 30, bx g3 #[.int .i64 5, .int .i64 (p : Int), .int .i64 n, .slice A4 ws.length c4, .slice A5 bs.length c5, .int .i64 wat] 36, bx g2 #[.slice A0 l0.length c0, .slice A1 l1.length c1, .slice A2 l2.length c2, .slice A3 l3.length c3] 30]))
          case atStart => exact ⟨0, rfl, ⟨by omega⟩, aM (by rw [List.take_zero]; exact H.out)⟩
          case round =>
            clear H
            obtain ⟨i, rfl, HI, H⟩ := hrel
            obtain ⟨zg39_0, zg39y_0, zg39_1, zg39y_1, zg39_2, zg39y_2, zg39_3, zg39y_3, zg39_4, zg39y_4, zg39_5, zg39y_5⟩ := bk6 (H.out.b 8)
            by_cases hlt : i < bs.length
            · have d1 : decide ((i : Int) < (bs.length : Int)) = true := decide_eq_true (by omega)
              have i0 : 0 ≤ (i : Int) := by omega
              have i1 : (i : Int) < (bs.length : Int) := by omega
              have hw : IntKind.i64.wrap ((i : Int) + 1) = ((i + 1 : Nat) : Int) := (by have := HX.out; have := HB.out; rw [i64wrap, w64 (by omega) (by omega)]; omega)
              have hw2 : IntKind.i64.wrap ((p : Int) + (i : Int)) = ((p + i : Nat) : Int) := (by have := HX.out; have := HB.out; rw [i64wrap, w64 (by omega) (by omega)]; omega)
              have j0 : 0 ≤ (p : Int) + (i : Int) := by omega
              have jn : ((p : Int) + (i : Int)).toNat = p + i := by omega
              have j1 : (p : Int) + (i : Int) < (l0.length : Int) := by have := HX.out; omega
              obtain ⟨ad, e, hcell⟩ := Kd.at_bool (H.out.arg HA.out.2.2.1) i i0 i1
              subst e
              clear hcell
              have HLn := aM (show (over l0 p (bs.take i)).length = l0.length from over_length _ _ _)
              go_upto_region 21 with fail
              refine rgI [1, 8] 13 H.out ?_
              clear H
              intro w_ H
              have HL := aM (H.out.hasI [1, 8])
              refine pO 0 94 ?_
              refine fO 1 95 0 0 HL.out ?_
              refine pO 2 96 ?_
              refine fO 3 97 1 1 HL.out ?_
              refine pO 4 98 ?_
              refine pO 5 99 ?_
              refine pO 6 100 ?_
              refine fO 7 101 1 4 HL.out ?_
              refine pO 8 102 ?_
              refine pO 9 103 ?_
              refine tO 10 104 (fun w' => w'.cell? (ad.add i) = some (.bool (rdOf false bs (i : Int)))) (fun w' s => by obtain ⟨ad', e, hc⟩ := Kd.at_bool (s.arg HA.out.2.2.1) i i0 i1; cases e; rw [Int.toNat_natCast] at hc; exact hc) HL.out ?_
              refine pO 11 105 ?_
              clear HL
              refine stEB 12 2 (p + i) (rdOf false bs (i : Int)) [1, 8] H.out rfl HLn.out (by rw [HLn.out]; omega) ?_ rfl
              clear H
              intro _ H
              refine done_ (by kernel_rfl) ?_
              go_wp2
              go_roundg (gk - 1)
              case measure => have := HI.out; omega
              case rel =>
                refine ⟨i + 1, rfl, ⟨by have := HI.out; omega⟩, aM ?_⟩
                have h := H.out
                rw [List.take_add_one, List.getElem?_eq_getElem hlt, Option.toList_some, over_snoc, List.length_take, Nat.min_eq_left (by omega), ← rdOf_get (d := false) hlt]
                exact h
            · have d1 : decide ((i : Int) < (bs.length : Int)) = false := decide_eq_false (by omega)
              replace H := aM (show Own w _ [bx g7 #[.int .i64 5, .int .i64 0, .int .i64 0, .int .i64 0, .slice none 0 0, .slice none 0 0] 32, bx g6 #[.slice (some ⟨q, 0, none⟩) l0.length e0, .slice B1 l1.length e1, .slice B2 l2.length e2, .slice B3 l3.length e3] 30, rb (.slice (some ⟨q, 0, none⟩) l0.length e0) (over l0 p bs), rb (.slice B1 l1.length e1) l1, ri (.slice B2 l2.length e2) l2, ri (.slice B3 l3.length e3) l3, bx g5 #[.int .i64 0, .int .i64 0, .int .i64 0, .int .i64 0, .slice none 0 0, .slice none 0 0] 32, bx g4 #[.slice none 0 0, .slice none 0 0, .slice none 0 0, .slice none 0 0] 30, bx g3 #[.int .i64 5, .int .i64 (p : Int), .int .i64 n, .slice A4 ws.length c4, .slice A5 bs.length c5, .int .i64 wat] 36, bx g2 #[.slice A0 l0.length c0, .slice A1 l1.length c1, .slice A2 l2.length c2, .slice A3 l3.length c3] 30] from by have h := H.out; rw [List.take_of_length_le (by omega)] at h; exact h)
              go_upto_region 41 with (first | ((with_reducible refine nS 108 ?_); refine scO 0 2 H.out ?_; clear H; intro _ H; obtain ⟨zg310_0, zg310y_0, zg310_1, zg310y_1, zg310_2, zg310y_2, zg310_3, zg310y_3, zg310_4, zg310y_4, zg310_5, zg310y_5⟩ := bk6 (H.out.b 8)) | ((with_reducible refine nD 112 ?_); refine litBL 112 [] H.out ?_; clear H; intro Az cz _ H; obtain ⟨zg311_0, zg311y_0, zg311_1, zg311y_1, zg311_2, zg311y_2, zg311_3, zg311y_3, zg311_4, zg311y_4, zg311_5, zg311y_5⟩ := bk6 (H.out.b 9)) | ((with_reducible refine nD 115 ?_); refine apBL 0 115 H.out rfl (H.out.arg HA.out.2.2.1) ?_ (by have := HA.out.2.2.2.2.2; simp; omega) (List.nil_append bs); clear H; intro Ay cy _ H) | ((with_reducible refine nS 116 ?_); refine scO 1 5 H.out ?_; clear H; intro _ H))
              refine rgI [2, 1] 4 H.out ?_
              clear H
              intro w_ H
              have HL := aM (H.out.hasI [2, 1])
              refine lO 0 213 0 hu HL.out ?_
              refine lO 1 214 1 hR HL.out ?_
              clear HL
              refine stS 2 8 [2, 1] H.out ?_
              clear H
              intro _ H
              refine stS 3 7 [2, 1] H.out ?_
              clear H
              intro _ H
              refine done_ (by kernel_rfl) ?_
              try go_wp2
              refine bodyPost_ret (results_cc rfl _ _ g4 g5 30 32 _ _ (0, 0) (0, 0) _ _ rfl (H.out.b 8) hu rfl (by kernel_rfl) rfl (H.out.b 7) hR rfl (by kernel_rfl)) rfl ?_
              unfold SrvPost
              simp only [over_length]
              exact ⟨_, _, _, _, _, _, _, _, _, _, _, _, rfl, rows1 (H.out.sub (by repeat (first | exact List.nil_sublist _ | apply List.Sublist.cons_cons | apply List.Sublist.cons)))⟩
        · have hS := HS.out
          simp only [doneOf, Int.reduceEq, if_true, if_false, true_or, or_true, false_or, or_false, or_self, Prod.mk.injEq] at hS
          obtain ⟨_, a0, a1, f12, f34, f5, f6, f15, f16, f22, f23⟩ := reqB_facts HK.out.2
          have fn := f6 rfl
          have hb : a + (ws.length : Int) ≤ (l2.length : Int) := by have := HT.out; simp [thereB] at this; omega
          obtain ⟨p, rfl⟩ : ∃ p : Nat, a = (p : Int) := ⟨a.toNat, by omega⟩
          simp only [Int.toNat_natCast] at hS
          have HX := aM (show p + ws.length ≤ l2.length ∧ 0 < l2.length from ⟨by omega, by omega⟩)
          have hbs : bs = [] := List.eq_nil_of_length_eq_zero (by omega)
          obtain ⟨rfl, rfl, rfl, rfl, rfl, rfl, rfl, rfl, rfl, e10⟩ := hS
          rw [hbs] at e10
          subst e10
          clear hbs
          clear fn
          clear a0 a1 f12 f34 f5 f6 f15 f16 f22 f23 HS HK HT hb
          obtain ⟨q, rfl⟩ := row0I (show (ri (.slice B2 l2.length e2) l2).P _ from H.out.get 4 rfl) HX.out.2
          obtain ⟨zg612_0, zg612y_0, zg612_1, zg612y_1, zg612_2, zg612y_2, zg612_3, zg612y_3⟩ := bk4 (H.out.b 1); obtain ⟨zg313_0, zg313y_0, zg313_1, zg313y_1, zg313_2, zg313y_2, zg313_3, zg313y_3, zg313_4, zg313y_4, zg313_5, zg313y_5⟩ := bk6 (H.out.b 8)
          go_upto_region 41 with (first | ((with_reducible refine nD 129 ?_); refine gC 129 Try.func36 (l5Write_own H.out 4 rfl rfl HA.out.1 p (by have := HX.out; omega) HD.out.2.2.2.2.2.2.2.2.2.2.1) ?_; rintro e w_ ⟨rfl, hO⟩; refine ⟨_, rfl, ?_⟩; clear H; have H := aM hO; clear hO; obtain ⟨zg314_0, zg314y_0, zg314_1, zg314y_1, zg314_2, zg314y_2, zg314_3, zg314y_3, zg314_4, zg314y_4, zg314_5, zg314y_5⟩ := bk6 (H.out.b 8)) | ((with_reducible refine nS 132 ?_); refine scO 0 2 H.out ?_; clear H; intro _ H; obtain ⟨zg315_0, zg315y_0, zg315_1, zg315y_1, zg315_2, zg315y_2, zg315_3, zg315y_3, zg315_4, zg315y_4, zg315_5, zg315y_5⟩ := bk6 (H.out.b 8)) | ((with_reducible refine nD 133 ?_); refine litIL 133 [] H.out ?_; clear H; intro Az cz _ H; obtain ⟨zg316_0, zg316y_0, zg316_1, zg316y_1, zg316_2, zg316y_2, zg316_3, zg316y_3, zg316_4, zg316y_4, zg316_5, zg316y_5⟩ := bk6 (H.out.b 9)) | ((with_reducible refine nD 136 ?_); refine apIL 0 136 H.out rfl (H.out.arg HA.out.1) ?_ (by have := HA.out.2.2.2.2.1; simp; omega) (List.nil_append ws); clear H; intro Ay cy _ H) | ((with_reducible refine nS 137 ?_); refine scO 1 4 H.out ?_; clear H; intro _ H))
          refine rgI [2, 1] 4 H.out ?_
          clear H
          intro w_ H
          have HL := aM (H.out.hasI [2, 1])
          refine lO 0 213 0 hu HL.out ?_
          refine lO 1 214 1 hR HL.out ?_
          clear HL
          refine stS 2 8 [2, 1] H.out ?_
          clear H
          intro _ H
          refine stS 3 7 [2, 1] H.out ?_
          clear H
          intro _ H
          refine done_ (by kernel_rfl) ?_
          try go_wp2
          refine bodyPost_ret (results_cc rfl _ _ g4 g5 30 32 _ _ (0, 0) (0, 0) _ _ rfl (H.out.b 8) hu rfl (by kernel_rfl) rfl (H.out.b 7) hR rfl (by kernel_rfl)) rfl ?_
          unfold SrvPost
          simp only [over_length]
          exact ⟨_, _, _, _, _, _, _, _, _, _, _, _, rfl, rows0 (H.out.sub (by repeat (first | exact List.nil_sublist _ | apply List.Sublist.cons_cons | apply List.Sublist.cons)))⟩
        · have hS := HS.out
          simp only [doneOf, Int.reduceEq, if_true, if_false, true_or, or_true, false_or, or_false, or_self, Prod.mk.injEq] at hS
          obtain ⟨_, a0, a1, f12, f34, f5, f6, f15, f16, f22, f23⟩ := reqB_facts HK.out.2
          have fn := f15 rfl
          have hb : a + (bs.length : Int) ≤ (l0.length : Int) := by have := HT.out; simp [thereB] at this; omega
          obtain ⟨p, rfl⟩ : ∃ p : Nat, a = (p : Int) := ⟨a.toNat, by omega⟩
          simp only [Int.toNat_natCast] at hS
          have HX := aM (show p + bs.length ≤ l0.length ∧ 0 < l0.length from ⟨by omega, by omega⟩)
          obtain ⟨rfl, rfl, rfl, rfl, rfl, rfl, rfl, rfl, rfl, rfl⟩ := hS
          have HB := aM (show l0.length ≤ 1048576 from HD.out.2.2.2.2.2.2.2.2.1)
          clear fn
          clear a0 a1 f12 f34 f5 f6 f15 f16 f22 f23 HS HK HT hb
          obtain ⟨q, rfl⟩ := row0B (show (rb (.slice B0 l0.length e0) l0).P _ from H.out.get 2 rfl) HX.out.2
          go_wp2
          go_loopg [8] (bs.length + 1) (fun kq v8 w' => ∃ i : Nat, v8 = .int .i64 (i : Int) ∧ Aside0 (i ≤ bs.length ∧ kq + i = bs.length + 1) ∧ Aside0 (Own w w' [bx g7 #[.int .i64 15, .int .i64 0, .int .i64 0, .int .i64 0, .slice none 0 0, .slice none 0 0] 32, bx g6 #[.slice (some ⟨q, 0, none⟩) l0.length e0, .slice B1 l1.length e1, .slice B2 l2.length e2, .slice B3 l3.length e3] 30, rb (.slice (some ⟨q, 0, none⟩) l0.length e0) (over l0 p (bs.take i)), rb (.slice B1 l1.length e1) l1, ri (.slice B2 l2.length e2) l2, ri (.slice B3 l3.length e3) l3, bx g5 #[.int .i64 0, .int .i64 0, .int .i64 0, .int .i64 0, .slice none 0 0, .slice none 0 0] 32, bx g4 #[.slice none 0 0, .slice none 0 0, .slice none 0 0, .slice none 0 0] 30, bx g3 #[.int .i64 15, .int .i64 (p : Int), .int .i64 n, .slice A4 ws.length c4, .slice A5 bs.length c5, .int .i64 wat] 36, bx g2 #[.slice A0 l0.length c0, .slice A1 l1.length c1, .slice A2 l2.length c2, .slice A3 l3.length c3] 30]))
          case atStart => exact ⟨0, rfl, ⟨by omega⟩, aM (by rw [List.take_zero]; exact H.out)⟩
          case round =>
            clear H
            obtain ⟨i, rfl, HI, H⟩ := hrel
            obtain ⟨zg317_0, zg317y_0, zg317_1, zg317y_1, zg317_2, zg317y_2, zg317_3, zg317y_3, zg317_4, zg317y_4, zg317_5, zg317y_5⟩ := bk6 (H.out.b 8)
            by_cases hlt : i < bs.length
            · have d1 : decide ((i : Int) < (bs.length : Int)) = true := decide_eq_true (by omega)
              have i0 : 0 ≤ (i : Int) := by omega
              have i1 : (i : Int) < (bs.length : Int) := by omega
              have hw : IntKind.i64.wrap ((i : Int) + 1) = ((i + 1 : Nat) : Int) := (by have := HX.out; have := HB.out; rw [i64wrap, w64 (by omega) (by omega)]; omega)
              have hw2 : IntKind.i64.wrap ((p : Int) + (i : Int)) = ((p + i : Nat) : Int) := (by have := HX.out; have := HB.out; rw [i64wrap, w64 (by omega) (by omega)]; omega)
              have j0 : 0 ≤ (p : Int) + (i : Int) := by omega
              have jn : ((p : Int) + (i : Int)).toNat = p + i := by omega
              have j1 : (p : Int) + (i : Int) < (l0.length : Int) := by have := HX.out; omega
              obtain ⟨ad, e, hcell⟩ := Kd.at_bool (H.out.arg HA.out.2.2.1) i i0 i1
              subst e
              clear hcell
              have HLn := aM (show (over l0 p (bs.take i)).length = l0.length from over_length _ _ _)
              go_upto_region 21 with fail
              refine rgI [1, 8] 13 H.out ?_
              clear H
              intro w_ H
              have HL := aM (H.out.hasI [1, 8])
              refine pO 0 94 ?_
              refine fO 1 95 0 0 HL.out ?_
              refine pO 2 96 ?_
              refine fO 3 97 1 1 HL.out ?_
              refine pO 4 98 ?_
              refine pO 5 99 ?_
              refine pO 6 100 ?_
              refine fO 7 101 1 4 HL.out ?_
              refine pO 8 102 ?_
              refine pO 9 103 ?_
              refine tO 10 104 (fun w' => w'.cell? (ad.add i) = some (.bool (rdOf false bs (i : Int)))) (fun w' s => by obtain ⟨ad', e, hc⟩ := Kd.at_bool (s.arg HA.out.2.2.1) i i0 i1; cases e; rw [Int.toNat_natCast] at hc; exact hc) HL.out ?_
              refine pO 11 105 ?_
              clear HL
              refine stEB 12 2 (p + i) (rdOf false bs (i : Int)) [1, 8] H.out rfl HLn.out (by rw [HLn.out]; omega) ?_ rfl
              clear H
              intro _ H
              refine done_ (by kernel_rfl) ?_
              go_wp2
              go_roundg (gk - 1)
              case measure => have := HI.out; omega
              case rel =>
                refine ⟨i + 1, rfl, ⟨by have := HI.out; omega⟩, aM ?_⟩
                have h := H.out
                rw [List.take_add_one, List.getElem?_eq_getElem hlt, Option.toList_some, over_snoc, List.length_take, Nat.min_eq_left (by omega), ← rdOf_get (d := false) hlt]
                exact h
            · have d1 : decide ((i : Int) < (bs.length : Int)) = false := decide_eq_false (by omega)
              replace H := aM (show Own w _ [bx g7 #[.int .i64 15, .int .i64 0, .int .i64 0, .int .i64 0, .slice none 0 0, .slice none 0 0] 32, bx g6 #[.slice (some ⟨q, 0, none⟩) l0.length e0, .slice B1 l1.length e1, .slice B2 l2.length e2, .slice B3 l3.length e3] 30, rb (.slice (some ⟨q, 0, none⟩) l0.length e0) (over l0 p bs), rb (.slice B1 l1.length e1) l1, ri (.slice B2 l2.length e2) l2, ri (.slice B3 l3.length e3) l3, bx g5 #[.int .i64 0, .int .i64 0, .int .i64 0, .int .i64 0, .slice none 0 0, .slice none 0 0] 32, bx g4 #[.slice none 0 0, .slice none 0 0, .slice none 0 0, .slice none 0 0] 30, bx g3 #[.int .i64 15, .int .i64 (p : Int), .int .i64 n, .slice A4 ws.length c4, .slice A5 bs.length c5, .int .i64 wat] 36, bx g2 #[.slice A0 l0.length c0, .slice A1 l1.length c1, .slice A2 l2.length c2, .slice A3 l3.length c3] 30] from by have h := H.out; rw [List.take_of_length_le (by omega)] at h; exact h)
              go_upto_region 41 with (first | ((with_reducible refine nS 108 ?_); refine scO 0 2 H.out ?_; clear H; intro _ H; obtain ⟨zg318_0, zg318y_0, zg318_1, zg318y_1, zg318_2, zg318y_2, zg318_3, zg318y_3, zg318_4, zg318y_4, zg318_5, zg318y_5⟩ := bk6 (H.out.b 8)) | ((with_reducible refine nS 120 ?_); refine scO 0 3 H.out ?_; clear H; intro _ H))
              refine rgI [1, 0] 4 H.out ?_
              clear H
              intro w_ H
              have HL := aM (H.out.hasI [1, 0])
              refine lO 0 213 0 hu HL.out ?_
              refine lO 1 214 1 hR HL.out ?_
              clear HL
              refine stS 2 7 [1, 0] H.out ?_
              clear H
              intro _ H
              refine stS 3 6 [1, 0] H.out ?_
              clear H
              intro _ H
              refine done_ (by kernel_rfl) ?_
              try go_wp2
              refine bodyPost_ret (results_cc rfl _ _ g4 g5 30 32 _ _ (0, 0) (0, 0) _ _ rfl (H.out.b 7) hu rfl (by kernel_rfl) rfl (H.out.b 6) hR rfl (by kernel_rfl)) rfl ?_
              unfold SrvPost
              simp only [over_length]
              exact ⟨_, _, _, _, _, _, _, _, _, _, _, _, rfl, noRows (H.out.sub (by repeat (first | exact List.nil_sublist _ | apply List.Sublist.cons_cons | apply List.Sublist.cons)))⟩
        · have hS := HS.out
          simp only [doneOf, Int.reduceEq, if_true, if_false, true_or, or_true, false_or, or_false, or_self, Prod.mk.injEq] at hS
          obtain ⟨_, a0, a1, f12, f34, f5, f6, f15, f16, f22, f23⟩ := reqB_facts HK.out.2
          have fn := f16 rfl
          have hb : a + (ws.length : Int) ≤ (l2.length : Int) := by have := HT.out; simp [thereB] at this; omega
          obtain ⟨p, rfl⟩ : ∃ p : Nat, a = (p : Int) := ⟨a.toNat, by omega⟩
          simp only [Int.toNat_natCast] at hS
          have HX := aM (show p + ws.length ≤ l2.length ∧ 0 < l2.length from ⟨by omega, by omega⟩)
          obtain ⟨rfl, rfl, rfl, rfl, rfl, rfl, rfl, rfl, rfl, rfl⟩ := hS
          clear fn
          clear a0 a1 f12 f34 f5 f6 f15 f16 f22 f23 HS HK HT hb
          obtain ⟨q, rfl⟩ := row0I (show (ri (.slice B2 l2.length e2) l2).P _ from H.out.get 4 rfl) HX.out.2
          obtain ⟨zg619_0, zg619y_0, zg619_1, zg619y_1, zg619_2, zg619y_2, zg619_3, zg619y_3⟩ := bk4 (H.out.b 1); obtain ⟨zg320_0, zg320y_0, zg320_1, zg320y_1, zg320_2, zg320y_2, zg320_3, zg320y_3, zg320_4, zg320y_4, zg320_5, zg320y_5⟩ := bk6 (H.out.b 8)
          go_upto_region 41 with (first | ((with_reducible refine nD 146 ?_); refine gC 146 Try.func36 (l5Write_own H.out 4 rfl rfl HA.out.1 p (by have := HX.out; omega) HD.out.2.2.2.2.2.2.2.2.2.2.1) ?_; rintro e w_ ⟨rfl, hO⟩; refine ⟨_, rfl, ?_⟩; clear H; have H := aM hO; clear hO; obtain ⟨zg321_0, zg321y_0, zg321_1, zg321y_1, zg321_2, zg321y_2, zg321_3, zg321y_3, zg321_4, zg321y_4, zg321_5, zg321y_5⟩ := bk6 (H.out.b 8)) | ((with_reducible refine nS 149 ?_); refine scO 0 2 H.out ?_; clear H; intro _ H; obtain ⟨zg322_0, zg322y_0, zg322_1, zg322y_1, zg322_2, zg322y_2, zg322_3, zg322y_3, zg322_4, zg322y_4, zg322_5, zg322y_5⟩ := bk6 (H.out.b 8)) | ((with_reducible refine nS 153 ?_); refine scO 0 3 H.out ?_; clear H; intro _ H))
          refine rgI [1, 0] 4 H.out ?_
          clear H
          intro w_ H
          have HL := aM (H.out.hasI [1, 0])
          refine lO 0 213 0 hu HL.out ?_
          refine lO 1 214 1 hR HL.out ?_
          clear HL
          refine stS 2 7 [1, 0] H.out ?_
          clear H
          intro _ H
          refine stS 3 6 [1, 0] H.out ?_
          clear H
          intro _ H
          refine done_ (by kernel_rfl) ?_
          try go_wp2
          refine bodyPost_ret (results_cc rfl _ _ g4 g5 30 32 _ _ (0, 0) (0, 0) _ _ rfl (H.out.b 7) hu rfl (by kernel_rfl) rfl (H.out.b 6) hR rfl (by kernel_rfl)) rfl ?_
          unfold SrvPost
          simp only [over_length]
          exact ⟨_, _, _, _, _, _, _, _, _, _, _, _, rfl, noRows (H.out.sub (by repeat (first | exact List.nil_sublist _ | apply List.Sublist.cons_cons | apply List.Sublist.cons)))⟩
        · have hS := HS.out
          simp only [doneOf, Int.reduceEq, if_true, if_false, true_or, or_true, false_or, or_false, or_self, Prod.mk.injEq] at hS
          obtain ⟨_, a0, a1, f12, f34, f5, f6, f15, f16, f22, f23⟩ := reqB_facts HK.out.2
          have fn := f22 rfl
          have hb : a + 1 ≤ (l2.length : Int) := by have := HT.out; simp [thereB] at this; omega
          obtain ⟨p, rfl⟩ : ∃ p : Nat, a = (p : Int) := ⟨a.toNat, by omega⟩
          simp only [Int.toNat_natCast] at hS
          have HX := aM (show p < l2.length ∧ 0 < l2.length ∧ ws.length = 2 from ⟨by omega, by omega, by omega⟩)
          obtain ⟨x, hx, hx6⟩ := dev_word HK.out.1 (show p < l2.length by omega)
          obtain ⟨y, hy, hy6⟩ := req_word HK.out.2 (show 0 < ws.length by omega)
          obtain ⟨z, hz, hz6⟩ := req_word HK.out.2 (show 1 < ws.length by omega)
          simp only [Int.natCast_zero, Int.natCast_one] at hy hz
          have hM := maskSpec hx6 hy6 hz6
          rw [hx, hy, hz, ← hM] at hS
          have HV := aM (And.intro hx (And.intro hy hz))
          have hbs : bs = [] := List.eq_nil_of_length_eq_zero (by omega)
          obtain ⟨rfl, rfl, rfl, rfl, rfl, rfl, rfl, rfl, rfl, e10⟩ := hS
          rw [hbs] at e10
          subst e10
          clear fn hx hy hz hM hx6 hy6 hz6 hbs
          clear a0 a1 f12 f34 f5 f6 f15 f16 f22 f23 HS HK HT hb
          obtain ⟨q, rfl⟩ := row0I (show (ri (.slice B2 l2.length e2) l2).P _ from H.out.get 4 rfl) HX.out.2.1
          have p0 : 0 ≤ (p : Int) := by omega
          have p1 : (p : Int) < (l2.length : Int) := by have := HX.out; omega
          have o0 : (0 : Int) < (ws.length : Int) := by have := HX.out; omega
          have o1 : (1 : Int) < (ws.length : Int) := by have := HX.out; omega
          have q0 : 0 < ws.length := by have := HX.out; omega
          have q1 : 1 < ws.length := by have := HX.out; omega
          obtain ⟨ad, e, hcell⟩ := Kd.at_int (H.out.arg HD.out.2.2.2.2.1) (p : Int) p0 p1
          subst e
          clear hcell
          obtain ⟨ae, e, hcell⟩ := Kd.at_int (H.out.arg HA.out.1) 0 (by decide) o0
          subst e
          clear hcell
          go_upto_region 35 with fail
          refine rgI [1, 8, 9] 28 H.out ?_
          clear H
          intro w_ H
          have HL := aM (H.out.hasI [1, 8, 9])
          refine pO 0 156 ?_
          refine fO 1 157 0 2 HL.out ?_
          refine pO 2 158 ?_
          refine fO 3 159 1 1 HL.out ?_
          refine pO 4 160 ?_
          refine fO 5 161 2 2 HL.out ?_
          refine pO 6 162 ?_
          refine fO 7 163 1 1 HL.out ?_
          refine pO 8 164 ?_
          refine tO 9 165 (fun w' => w'.cell? (ad.add p) = some (.int .i64 (x : Int))) (fun w' s => by have hc := (show w'.cell? (ad.add p) = some (.int .i64 (rd l2 (p : Int))) from (by obtain ⟨ad', e, hc⟩ := Kd.at_int (s.arg HD.out.2.2.2.2.1) (p : Int) p0 p1; cases e; rw [Int.toNat_natCast] at hc; exact hc)); rw [HV.out.1] at hc; exact hc) HL.out ?_
          refine pO 10 166 ?_
          refine fO 11 167 1 3 HL.out ?_
          refine pO 12 168 ?_
          refine tO 13 169 (fun w' => w'.cell? ae = some (.int .i64 (y : Int))) (fun w' s => by have hc := (show w'.cell? ae = some (.int .i64 (rd ws 0)) from cellZ (s.arg HA.out.1) q0); rw [HV.out.2.1] at hc; exact hc) HL.out ?_
          refine pO 14 170 ?_
          refine pO 15 171 ?_
          refine fO 16 172 1 3 HL.out ?_
          refine pO 17 173 ?_
          refine tO 18 174 (fun w' => w'.cell? ⟨ae.block, ae.off + 1, none⟩ = some (.int .i64 (z : Int))) (fun w' s => by have hc := (show w'.cell? ⟨ae.block, ae.off + 1, none⟩ = some (.int .i64 (rd ws 1)) from cellJ (s.arg HA.out.1) 1 q1); rw [HV.out.2.2] at hc; exact hc) HL.out ?_
          refine pO 19 175 ?_
          refine fO 20 176 1 3 HL.out ?_
          refine pO 21 177 ?_
          refine tO 22 178 (fun w' => w'.cell? ae = some (.int .i64 (y : Int))) (fun w' s => by have hc := (show w'.cell? ae = some (.int .i64 (rd ws 0)) from cellZ (s.arg HA.out.1) q0); rw [HV.out.2.1] at hc; exact hc) HL.out ?_
          refine pO 23 179 ?_
          refine pO 24 180 ?_
          refine pO 25 181 ?_
          refine pO 26 182 ?_
          clear HL
          refine stEI 27 4 p _ [1, 8, 9] H.out rfl rfl HX.out.1 ?_ rfl
          clear H
          intro _ H
          refine done_ (by kernel_rfl) ?_
          obtain ⟨zg323_0, zg323y_0, zg323_1, zg323y_1, zg323_2, zg323y_2, zg323_3, zg323y_3, zg323_4, zg323y_4, zg323_5, zg323y_5⟩ := bk6 (H.out.b 8)
          go_upto_region 41 with (first | ((with_reducible refine nS 185 ?_); refine scO 0 2 H.out ?_; clear H; intro _ H; obtain ⟨zg324_0, zg324y_0, zg324_1, zg324y_1, zg324_2, zg324y_2, zg324_3, zg324y_3, zg324_4, zg324y_4, zg324_5, zg324y_5⟩ := bk6 (H.out.b 8)) | ((with_reducible refine nD 186 ?_); refine litIL 186 [] H.out ?_; clear H; intro Az cz _ H; obtain ⟨zg325_0, zg325y_0, zg325_1, zg325y_1, zg325_2, zg325y_2, zg325_3, zg325y_3, zg325_4, zg325y_4, zg325_5, zg325y_5⟩ := bk6 (H.out.b 9)) | ((with_reducible refine nD 189 ?_); refine apIL 0 189 H.out rfl (H.out.arg HA.out.1) ?_ (by have := HA.out.2.2.2.2.1; simp; omega) (List.nil_append ws); clear H; intro Ay cy _ H) | ((with_reducible refine nS 190 ?_); refine scO 1 4 H.out ?_; clear H; intro _ H))
          refine rgI [2, 1] 4 H.out ?_
          clear H
          intro w_ H
          have HL := aM (H.out.hasI [2, 1])
          refine lO 0 213 0 hu HL.out ?_
          refine lO 1 214 1 hR HL.out ?_
          clear HL
          refine stS 2 8 [2, 1] H.out ?_
          clear H
          intro _ H
          refine stS 3 7 [2, 1] H.out ?_
          clear H
          intro _ H
          refine done_ (by kernel_rfl) ?_
          try go_wp2
          refine bodyPost_ret (results_cc rfl _ _ g4 g5 30 32 _ _ (0, 0) (0, 0) _ _ rfl (H.out.b 8) hu rfl (by kernel_rfl) rfl (H.out.b 7) hR rfl (by kernel_rfl)) rfl ?_
          unfold SrvPost
          simp only [List.length_set]
          exact ⟨_, _, _, _, _, _, _, _, _, _, _, _, rfl, rows0 (H.out.sub (by repeat (first | exact List.nil_sublist _ | apply List.Sublist.cons_cons | apply List.Sublist.cons)))⟩
        · have hS := HS.out
          simp only [doneOf, Int.reduceEq, if_true, if_false, true_or, or_true, false_or, or_false, or_self, Prod.mk.injEq] at hS
          obtain ⟨_, a0, a1, f12, f34, f5, f6, f15, f16, f22, f23⟩ := reqB_facts HK.out.2
          have fn := f23 rfl
          have hb : a + n ≤ (l2.length : Int) ∧ wat + (ws.length : Int) ≤ (l2.length : Int) := by have := HT.out; simp [thereB] at this; omega
          obtain ⟨p, rfl⟩ : ∃ p : Nat, wat = (p : Int) := ⟨wat.toNat, by omega⟩
          simp only [Int.toNat_natCast] at hS
          have HX := aM (show p + ws.length ≤ l2.length ∧ 0 < l2.length from ⟨by omega, by omega⟩)
          have he := H.out.li 4 (A := B2) (c := e2) (xs := l2) rfl
          obtain ⟨q, rfl⟩ := row0I (show (ri (.slice B2 l2.length e2) l2).P _ from H.out.get 4 rfl) HX.out.2
          obtain ⟨j, AR, cR, R, hjw, hRe, hRl, hcut, hCR⟩ := cutI (A := some ⟨q, 0, none⟩) (l := over l2 p ws) (over_length _ _ _) he a0 (show 0 ≤ n by omega) hb.1 HD.out.2.2.2.2.2.2.2.2.2.2.1
          rw [← hRe] at hS
          have CR := aM hCR
          have HR_ := aM hRl
          clear fn hRe hRl hCR he
          clear a0 a1 f12 f34 f5 f6 f15 f16 f22 f23 HS HK HT hb
          obtain ⟨rfl, rfl, rfl, rfl, rfl, rfl, rfl, rfl, rfl, rfl⟩ := hS
          obtain ⟨zg626_0, zg626y_0, zg626_1, zg626y_1, zg626_2, zg626y_2, zg626_3, zg626y_3⟩ := bk4 (H.out.b 1); obtain ⟨zg327_0, zg327y_0, zg327_1, zg327y_1, zg327_2, zg327y_2, zg327_3, zg327y_3, zg327_4, zg327y_4, zg327_5, zg327y_5⟩ := bk6 (H.out.b 8)
          go_upto_region 41 with (first | ((with_reducible refine nD 199 ?_); refine gC 199 Try.func36 (l5Write_own H.out 4 rfl rfl HA.out.1 p (by have := HX.out; omega) HD.out.2.2.2.2.2.2.2.2.2.2.1) ?_; rintro e w_ ⟨rfl, hO⟩; refine ⟨_, rfl, ?_⟩; clear H; have H := aM hO; clear hO) | ((with_reducible refine nD 200 ?_); refine litIL 200 [] H.out ?_; clear H; intro Az cz _ H; obtain ⟨zg628_0, zg628y_0, zg628_1, zg628y_1, zg628_2, zg628y_2, zg628_3, zg628y_3⟩ := bk4 (H.out.b 2); obtain ⟨zg329_0, zg329y_0, zg329_1, zg329y_1, zg329_2, zg329y_2, zg329_3, zg329y_3, zg329_4, zg329y_4, zg329_5, zg329y_5⟩ := bk6 (H.out.b 9)) | ((with_reducible refine nD 211 ?_); refine apIL 0 211 H.out rfl (CR.out _ (H.out.ci 5)) ?_ (by have := HR_.out; simp; omega) (List.nil_append R); clear H; intro Ay cy _ H) | ((with_reducible refine nS 212 ?_); refine scO 1 4 H.out ?_; clear H; intro _ H))
          refine rgI [2, 1] 4 H.out ?_
          clear H
          intro w_ H
          have HL := aM (H.out.hasI [2, 1])
          refine lO 0 213 0 hu HL.out ?_
          refine lO 1 214 1 hR HL.out ?_
          clear HL
          refine stS 2 8 [2, 1] H.out ?_
          clear H
          intro _ H
          refine stS 3 7 [2, 1] H.out ?_
          clear H
          intro _ H
          refine done_ (by kernel_rfl) ?_
          try go_wp2
          refine bodyPost_ret (results_cc rfl _ _ g4 g5 30 32 _ _ (0, 0) (0, 0) _ _ rfl (H.out.b 8) hu rfl (by kernel_rfl) rfl (H.out.b 7) hR rfl (by kernel_rfl)) rfl ?_
          unfold SrvPost
          simp only [over_length]
          exact ⟨_, _, _, _, _, _, _, _, _, _, _, _, rfl, rows0 (H.out.sub (by repeat (first | exact List.nil_sublist _ | apply List.Sublist.cons_cons | apply List.Sublist.cons)))⟩
end Go.Proofs.Ytiogbjbkfhhdhaa.G
