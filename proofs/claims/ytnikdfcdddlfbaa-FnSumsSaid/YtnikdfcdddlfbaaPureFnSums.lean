/- The law on sums is true at every code: the sum of bytes and of its own two bytes is nothing, and one bit turned is told. No condition. -/
import Derived.Test.YtnikdfcdddlfbaaQFnSumsx2
import Derived.Test.YtnikdfcdddlfbaaC
namespace Go.Proofs.Ytnikdfcdddlfbaa.Pure
open Go Go.RowKit Go.Proofs.Ytnikdfcdddlfbaa.PFnSums Go.Proofs.YtnikdfcdddlfbaaW.PrintWords Go.Proofs.YtnikdfcdddlfbaaW.PrintLast Go.Proofs.Ytnikdfcdddlfbaa.PlainC
set_option linter.unusedVariables false
set_option linter.unusedSimpArgs false

def lrcOf (s : Int) : Int := (256 - s % 256) % 256

theorem sum_le8 {l : List Int} (h : B8 l) : 0 ≤ l.sum ∧ l.sum ≤ 255 * l.length := by
  induction l with
  | nil => simp
  | cons x l ih =>
    have h1 := h x (List.mem_cons_self)
    have h2 := ih (fun y hy => h y (List.mem_cons_of_mem _ hy))
    rw [List.sum_cons, List.length_cons]
    omega

theorem drop_sum {l : List Int} {i : Nat} (h : i < l.length) : (l.drop i).sum = l[i] + (l.drop (i + 1)).sum := by
  rw [List.drop_eq_getElem_cons h, List.sum_cons]

theorem impl_Lrc_l0 (l : List Int) (hb : B8 l) (hl : l.length ≤ 140737488351232) (d : Nat) : ∀ (i : Nat) (s : Int), i ≤ l.length → l.length - i = d → 0 ≤ s → s ≤ 255 * i →
    Ev (fun k => impl_Lrc.l0 k s l (l.length : Int) (i : Int)) (lrcOf (s + (l.drop i).sum)) := by
  induction d with
  | zero =>
    intro i s hi hd h0 h1
    obtain rfl : i = l.length := by omega
    refine evUp ?_
    have h2 : ¬ ((l.length : Nat) : Int) < (l.length : Int) := by omega
    simp only [impl_Lrc.l0, h2, if_false]
    rw [List.drop_length, List.sum_nil, Int.add_zero, tmod_pos h0, w64 (by omega) (by omega), tmod_pos (by omega)]
    exact Ev.now _
  | succ d ih =>
    intro i s hi hd h0 h1
    have hlt : i < l.length := by omega
    refine evUp ?_
    have h2 : (i : Int) < (l.length : Int) := by omega
    have h3 : 0 ≤ (i : Int) := by omega
    have hx := hb _ (List.getElem_mem hlt)
    simp only [impl_Lrc.l0, h2, h3, if_true]
    rw [rd_get hlt, w64 (x := l[i]) (by omega) (by omega), w64 (x := s + l[i]) (by omega) (by omega), w64 (x := (i : Int) + 1) (by omega) (by omega), drop_sum hlt, ← Int.add_assoc]
    exact ih (i + 1) _ (by omega) (by omega) (by omega) (by omega)

theorem impl_Lrc_ev (l : List Int) (hb : B8 l) (hl : l.length ≤ 140737488351232) : Ev (fun k => impl_Lrc.f k l) (lrcOf l.sum) := by
  have h := impl_Lrc_l0 l hb hl l.length 0 0 (by omega) (by omega) (by omega) (by omega)
  rw [List.drop_zero, Int.zero_add] at h
  exact h

/-- One shift of the sum. -/
def crcBit (x : Int) : Int := if x % 2 = 1 then Go.bits .xor .i64 (x / 2) 40961 else x / 2
def crcBits : Nat → Int → Int
  | 0, x => x
  | n + 1, x => crcBits n (crcBit x)
def crcByte (x b : Int) : Int := crcBits 8 (Go.bits .xor .i64 x b)

theorem impl_Crc_l1 (l : List Int) (n : Int) (i : Int) (r : Int) (d : Nat) : ∀ (j : Nat) (x : Int), j ≤ 8 → 8 - j = d →
    Ev (fun k => impl_Crc.l0 k (crcBits d x) l n (wrap64 (i + 1))) r → Ev (fun k => impl_Crc.l1 k x l n i (j : Int)) r := by
  induction d with
  | zero =>
    intro j x hj hd h
    obtain rfl : j = 8 := by omega
    refine evUp ?_
    have h1 : ¬ ((8 : Nat) : Int) < 8 := by omega
    simp only [impl_Crc.l1, h1, if_false]
    exact h
  | succ d ih =>
    intro j x hj hd h
    have h1 : (j : Int) < 8 := by omega
    refine evUp ?_
    simp only [impl_Crc.l1, h1, if_true, and_1]
    rw [w64 (x := (j : Int) + 1) (by omega) (by omega)]
    by_cases e : x % 2 = 1
    · simp only [e, if_true]
      refine ih (j + 1) _ (by omega) (by omega) ?_
      rw [show Go.bits .xor .i64 (x / 2) 40961 = crcBit x from by unfold crcBit; rw [if_pos e]]
      exact h
    · simp only [e, if_false]
      refine ih (j + 1) _ (by omega) (by omega) ?_
      rw [show x / 2 = crcBit x from by unfold crcBit; rw [if_neg e]]
      exact h

theorem impl_Crc_l0 (l : List Int) (hb : B8 l) (hl : l.length ≤ 140737488351232) (d : Nat) : ∀ (i : Nat) (x : Int), i ≤ l.length → l.length - i = d →
    Ev (fun k => impl_Crc.l0 k x l (l.length : Int) (i : Int)) ((l.drop i).foldl crcByte x) := by
  induction d with
  | zero =>
    intro i x hi hd
    obtain rfl : i = l.length := by omega
    refine evUp ?_
    have h1 : ¬ ((l.length : Nat) : Int) < (l.length : Int) := by omega
    simp only [impl_Crc.l0, h1, if_false]
    rw [List.drop_length, List.foldl_nil]
    exact Ev.now _
  | succ d ih =>
    intro i x hi hd
    have hlt : i < l.length := by omega
    refine evUp ?_
    have h1 : (i : Int) < (l.length : Int) := by omega
    have h2 : 0 ≤ (i : Int) := by omega
    have hx := hb _ (List.getElem_mem hlt)
    simp only [impl_Crc.l0, h1, h2, if_true]
    rw [rd_get hlt, w64 (x := l[i]) (by omega) (by omega), List.drop_eq_getElem_cons hlt, List.foldl_cons]
    refine impl_Crc_l1 l _ _ _ 8 0 _ (by omega) (by omega) ?_
    rw [w64 (by omega) (by omega)]
    exact ih (i + 1) _ (by omega) (by omega)

theorem impl_Crc_ev (l : List Int) (hb : B8 l) (hl : l.length ≤ 140737488351232) : Ev (fun k => impl_Crc.f k l) (l.foldl crcByte 65535) := by
  have h := impl_Crc_l0 l hb hl l.length 0 65535 (by omega) (by omega)
  rw [List.drop_zero] at h
  exact h

/-- A draw tells a number of which P holds, and a cursor that stands right. -/
def Told (o : Option (Int × Int × Int)) (P : Int → Prop) : Prop := ∃ v i h, o = some (v, i, h) ∧ P v ∧ 0 ≤ i

theorem l1New_l0 (l : List Int) (hl : l.length ≤ 140737488351232) (d : Nat) : ∀ (i : Nat) (x : Int), i ≤ l.length → l.length - i = d → ∃ h, Ev (fun k => spec_l1New.l0 k l x (i : Int)) (l, 0, h) := by
  induction d with
  | zero =>
    intro i x hi hd
    obtain rfl : i = l.length := by omega
    refine ⟨x, evUp ?_⟩
    have h1 : ¬ ((l.length : Nat) : Int) < (l.length : Int) := by omega
    simp only [spec_l1New.l0, h1, if_false]
    exact Ev.now _
  | succ d ih =>
    intro i x hi hd
    have h1 : (i : Int) < (l.length : Int) := by omega
    have h2 : 0 ≤ (i : Int) := by omega
    by_cases h3 : (i : Int) < 4000
    · obtain ⟨h, hh⟩ := ih (i + 1) (Go.bits .and .i64 (wrap64 ((wrap64 ((wrap64 (x * 137)) + (wrap64 (rd l i)))) + 11)) 1073741823) (by omega) (by omega)
      refine ⟨h, evUp ?_⟩
      simp only [spec_l1New.l0, h1, h2, h3, if_true]
      rw [w64 (x := (i : Int) + 1) (by omega) (by omega)]
      exact hh
    · refine ⟨x, evUp ?_⟩
      simp only [spec_l1New.l0, h1, h3, if_true, if_false]
      exact Ev.now _

theorem l1New_ev (l : List Int) (hl : l.length ≤ 140737488351232) : ∃ h, Ev (fun k => spec_l1New.f k l) (l, 0, h) :=
  l1New_l0 l hl l.length 0 _ (by omega) (by omega)

theorem l1Byte_told (l : List Int) (hl : l.length ≤ 140737488351232) (i h : Int) (hi : 0 ≤ i) : Told (spec_l1Byte.f l i h) (fun v => 0 ≤ v ∧ v ≤ 255) := by
  by_cases h1 : i < (l.length : Int)
  · refine ⟨_, _, _, by simp only [spec_l1Byte.f, h1, hi, if_true]; rfl, ?_, ?_⟩
    · rw [and_255]; omega
    · rw [w64 (by omega) (by omega)]; omega
  · refine ⟨_, _, _, by simp only [spec_l1Byte.f, h1, if_false]; rfl, ?_, hi⟩
    rw [and_255]; omega

theorem l1Below_told (l : List Int) (hl : l.length ≤ 140737488351232) (i h n : Int) (hi : 0 ≤ i) (hn : 0 < n) : Told (spec_l1Below.f l i h n) (fun v => 0 ≤ v ∧ v < n ∧ v ≤ 16777215) := by
  have n0 : ¬ n ≤ 0 := by omega
  have n1 : ¬ n = 0 := by omega
  obtain ⟨v1, i1, h1, e1, p1, hi1⟩ := l1Byte_told l hl i h hi
  by_cases h2 : n ≤ 256
  · refine ⟨_, _, _, by simp only [spec_l1Below.f, n0, n1, h2, if_false, if_true, e1, Option.bind_some]; rfl, ?_, hi1⟩
    rw [tmod_pos p1.1]
    have a1 := Int.emod_nonneg v1 n1
    have a2 := Int.emod_lt_of_pos v1 hn
    have a3 : v1 % n ≤ v1 := emod_le_self p1.1 hn
    omega
  · obtain ⟨v2, i2, h2', e2, p2, hi2⟩ := l1Byte_told l hl i1 h1 hi1
    obtain ⟨v3, i3, h3, e3, p3, hi3⟩ := l1Byte_told l hl i2 h2' hi2
    refine ⟨_, _, _, by simp only [spec_l1Below.f, n0, n1, h2, if_false, e1, e2, e3, Option.bind_some]; rfl, ?_, hi3⟩
    rw [w64 (x := v1 * 65536) (by omega) (by omega), w64 (x := v2 * 256) (by omega) (by omega), w64 (x := v1 * 65536 + v2 * 256) (by omega) (by omega), w64 (by omega) (by omega), tmod_pos (by omega)]
    have a0 : 0 ≤ v1 * 65536 + v2 * 256 + v3 := by omega
    have a1 := Int.emod_nonneg (v1 * 65536 + v2 * 256 + v3) n1
    have a2 := Int.emod_lt_of_pos (v1 * 65536 + v2 * 256 + v3) hn
    have a3 : (v1 * 65536 + v2 * 256 + v3) % n ≤ v1 * 65536 + v2 * 256 + v3 := emod_le_self a0 hn
    omega

theorem l1Int_told (l : List Int) (hl : l.length ≤ 140737488351232) (i h : Int) (xs : List Int) (hi : 0 ≤ i) (hx : 0 < xs.length) : Told (spec_l1Int.f l i h xs) (fun v => v ∈ xs) := by
  obtain ⟨v, i1, h1, e1, p1, hi1⟩ := l1Below_told l hl i h (xs.length : Int) hi (by omega)
  have a1 : 0 ≤ v := p1.1
  have a2 : v < (xs.length : Int) := p1.2.1
  exact ⟨_, _, _, by simp only [spec_l1Int.f, e1, Option.bind_some, a1, a2, if_true]; rfl, rd_mem a1 a2, hi1⟩

theorem l1Bytes_l0 (l : List Int) (hl : l.length ≤ 140737488351232) (n : Nat) (hn : n ≤ 1000) (d : Nat) : ∀ (j : Nat) (acc : List Int) (i h : Int), j ≤ n → n - j = d → acc.length = j → B8 acc → 0 ≤ i →
    ∃ xs i' h', Ev (fun k => spec_l1Bytes.l0 k (n : Int) acc (j : Int) l i h) (xs, i', h') ∧ B8 xs ∧ xs.length = n ∧ 0 ≤ i' := by
  induction d with
  | zero =>
    intro j acc i h hj hd ha hb hi
    obtain rfl : j = n := by omega
    refine ⟨acc, i, h, evUp ?_, hb, ha, hi⟩
    have h1 : ¬ (j : Int) < (j : Int) := by omega
    simp only [spec_l1Bytes.l0, h1, if_false]
    exact Ev.now _
  | succ d ih =>
    intro j acc i h hj hd ha hb hi
    have h1 : (j : Int) < (n : Int) := by omega
    have h2 : acc.length < 140737488355328 := by omega
    obtain ⟨v, i1, c1, e1, p1, hi1⟩ := l1Byte_told l hl i h hi
    have e2 : v % 256 = v := by omega
    have hb1 : B8 (acc ++ [v]) := hb.append (fun x hx => by simp at hx; subst hx; exact p1)
    obtain ⟨xs, i', h', hev, hb', hlen, hi'⟩ := ih (j + 1) (acc ++ [v]) i1 c1 (by omega) (by omega) (by rw [List.length_append, ha]; rfl) hb1 hi1
    refine ⟨xs, i', h', evUp ?_, hb', hlen, hi'⟩
    simp only [spec_l1Bytes.l0, h1, h2, if_true, e1, Option.bind_some, e2]
    rw [w64 (x := (j : Int) + 1) (by omega) (by omega)]
    exact hev

theorem l1Some_ev (l : List Int) (hl : l.length ≤ 140737488351232) (i h : Int) (hi : 0 ≤ i) :
    ∃ xs i' h', Ev (fun k => spec_l1Some.f k l i h) (xs, i', h') ∧ B8 xs ∧ xs.length ≤ 20 ∧ 0 ≤ i' := by
  obtain ⟨v, i1, c1, e1, p1, hi1⟩ := l1Int_told l hl i h [0, 1, 2, 3, 5, 8, 20] hi (by simp)
  have hv : 0 ≤ v ∧ v ≤ 20 := by simp at p1; omega
  obtain ⟨m, rfl⟩ := Int.eq_ofNat_of_zero_le hv.1
  obtain ⟨xs, i', h', hev, hb, hlen, hi'⟩ := l1Bytes_l0 l hl m (by omega) m 0 [] i1 c1 (by omega) (by omega) rfl B8.nil hi1
  refine ⟨xs, i', h', ?_, hb, by omega, hi'⟩
  simp only [spec_l1Some.f, e1, Option.bind_some]
  exact evBind (g := fun k => spec_l1Bytes.f k l i1 c1 (m : Int)) hev (Ev.now _)

theorem xor_i64 {a b : Nat} (ha : a < 2 ^ 32) (hb : b < 2 ^ 32) : Go.bits .xor .i64 (a : Int) (b : Int) = ((a ^^^ b : Nat) : Int) := by
  have h : a ^^^ b < 2 ^ 32 := Nat.xor_lt_two_pow ha hb
  have ha2 : a % 2 ^ 64 = a := Nat.mod_eq_of_lt (by omega)
  have hb2 : b % 2 ^ 64 = b := Nat.mod_eq_of_lt (by omega)
  have e : Go.bits .xor .i64 (a : Int) (b : Int) = IntKind.i64.wrap (((a % 2 ^ 64) ^^^ (b % 2 ^ 64) : Nat) : Int) := by
    unfold Go.bits
    simp only [BitVec.toNat_xor, BitVec.ofInt_natCast, BitVec.toNat_ofNat]
    rfl
  rw [e, ha2, hb2, i64wrap]
  generalize a ^^^ b = q at h
  exact w64 (by omega) (by omega)

theorem xor_u8 {a b : Nat} (ha : a < 2 ^ 8) (hb : b < 2 ^ 8) : Go.bits .xor .u8 (a : Int) (b : Int) = ((a ^^^ b : Nat) : Int) := by
  have h : a ^^^ b < 2 ^ 8 := Nat.xor_lt_two_pow ha hb
  have ha2 : a % 2 ^ 8 = a := Nat.mod_eq_of_lt ha
  have hb2 : b % 2 ^ 8 = b := Nat.mod_eq_of_lt hb
  have e : Go.bits .xor .u8 (a : Int) (b : Int) = IntKind.u8.wrap (((a % 2 ^ 8) ^^^ (b % 2 ^ 8) : Nat) : Int) := by
    unfold Go.bits
    simp only [BitVec.toNat_xor, BitVec.ofInt_natCast, BitVec.toNat_ofNat]
    rfl
  rw [e, ha2, hb2, IntKind.wrap_u8]
  generalize a ^^^ b = q at h
  omega

def bitN (x : Nat) : Nat := if x % 2 = 1 then (x / 2) ^^^ 40961 else x / 2
theorem crcBit_nat {a : Nat} (h : a < 65536) : crcBit (a : Int) = ((bitN a : Nat) : Int) ∧ bitN a < 65536 := by
  unfold crcBit bitN
  by_cases c : a % 2 = 1
  · have c2 : (a : Int) % 2 = 1 := by omega
    rw [if_pos c, if_pos c2]
    have hx : (a / 2) ^^^ 40961 < 2 ^ 16 := Nat.xor_lt_two_pow (by omega) (by omega)
    refine ⟨?_, by omega⟩
    rw [show (a : Int) / 2 = ((a / 2 : Nat) : Int) from by omega, show (40961 : Int) = ((40961 : Nat) : Int) from rfl]
    exact xor_i64 (by omega) (by omega)
  · have c2 : ¬ (a : Int) % 2 = 1 := by omega
    rw [if_neg c, if_neg c2]
    exact ⟨by omega, by omega⟩

theorem bitN_inj {a b : Nat} (ha : a < 65536) (hb : b < 65536) (h : bitN a = bitN b) : a = b := by
  have top : ∀ x : Nat, x < 65536 → Nat.testBit (x / 2) 15 = false := fun x hx => Nat.testBit_lt_two_pow (by omega)
  have t1 : Nat.testBit 40961 15 = true := by decide
  unfold bitN at h
  by_cases c : a % 2 = 1
  · by_cases d : b % 2 = 1
    · rw [if_pos c, if_pos d] at h
      have h2 : a / 2 = b / 2 := by
        have h3 : (a / 2 ^^^ 40961) ^^^ 40961 = (b / 2 ^^^ 40961) ^^^ 40961 := by rw [h]
        rwa [Nat.xor_assoc, Nat.xor_self, Nat.xor_zero, Nat.xor_assoc, Nat.xor_self, Nat.xor_zero] at h3
      omega
    · rw [if_pos c, if_neg d] at h
      have h2 := congrArg (fun z => Nat.testBit z 15) h
      simp only [Nat.testBit_xor, top a ha, top b hb, t1] at h2
      exact absurd h2 (by decide)
  · by_cases d : b % 2 = 1
    · rw [if_neg c, if_pos d] at h
      have h2 := congrArg (fun z => Nat.testBit z 15) h
      simp only [Nat.testBit_xor, top a ha, top b hb, t1] at h2
      exact absurd h2 (by decide)
    · rw [if_neg c, if_neg d] at h
      omega

def bitsN : Nat → Nat → Nat
  | 0, x => x
  | n + 1, x => bitsN n (bitN x)
theorem crcBits_nat (n : Nat) : ∀ a : Nat, a < 65536 → crcBits n (a : Int) = ((bitsN n a : Nat) : Int) ∧ bitsN n a < 65536 := by
  induction n with
  | zero => intro a h; exact ⟨rfl, h⟩
  | succ n ih =>
    intro a h
    obtain ⟨h1, h2⟩ := crcBit_nat h
    simp only [crcBits, bitsN, h1]
    exact ih _ h2
theorem bitsN_inj (n : Nat) : ∀ a b : Nat, a < 65536 → b < 65536 → bitsN n a = bitsN n b → a = b := by
  induction n with
  | zero => intro a b _ _ h; exact h
  | succ n ih =>
    intro a b ha hb h
    exact bitN_inj ha hb (ih _ _ (crcBit_nat ha).2 (crcBit_nat hb).2 h)
def byteN (x b : Nat) : Nat := bitsN 8 (x ^^^ b)
theorem xor_16 {a b : Nat} (ha : a < 65536) (hb : b < 256) : a ^^^ b < 65536 := by
  have h : a ^^^ b < 2 ^ 16 := Nat.xor_lt_two_pow (by omega) (by omega)
  omega
theorem crcByte_nat {a b : Nat} (ha : a < 65536) (hb : b < 256) : crcByte (a : Int) (b : Int) = ((byteN a b : Nat) : Int) ∧ byteN a b < 65536 := by
  unfold crcByte byteN
  rw [xor_i64 (by omega) (by omega)]
  exact crcBits_nat 8 _ (xor_16 ha hb)
theorem byteN_inj {a b x y : Nat} (ha : a < 65536) (hb : b < 65536) (hx : x < 256) (hy : y < 256) (h : byteN a x = byteN b y) : a ^^^ x = b ^^^ y :=
  bitsN_inj 8 _ _ (xor_16 ha hx) (xor_16 hb hy) h
theorem xor_cancel {a b x : Nat} (h : a ^^^ x = b ^^^ x) : a = b := by
  have h3 : (a ^^^ x) ^^^ x = (b ^^^ x) ^^^ x := by rw [h]
  rwa [Nat.xor_assoc, Nat.xor_self, Nat.xor_zero, Nat.xor_assoc, Nat.xor_self, Nat.xor_zero] at h3

theorem fold_range (l : List Int) : ∀ x : Int, B8 l → 0 ≤ x → x ≤ 65535 → 0 ≤ l.foldl crcByte x ∧ l.foldl crcByte x ≤ 65535 := by
  induction l with
  | nil => intro x _ h0 h1; exact ⟨h0, h1⟩
  | cons b l ih =>
    intro x hb h0 h1
    have hx := hb b List.mem_cons_self
    obtain ⟨a, rfl⟩ := Int.eq_ofNat_of_zero_le h0
    obtain ⟨c, rfl⟩ := Int.eq_ofNat_of_zero_le hx.1
    obtain ⟨e, h⟩ := crcByte_nat (a := a) (b := c) (by omega) (by omega)
    rw [List.foldl_cons, e]
    exact ih _ (fun y hy => hb y (List.mem_cons_of_mem _ hy)) (by omega) (by omega)

theorem fold_inj (l : List Int) : ∀ x y : Int, B8 l → 0 ≤ x → x ≤ 65535 → 0 ≤ y → y ≤ 65535 → l.foldl crcByte x = l.foldl crcByte y → x = y := by
  induction l with
  | nil => intro x y _ _ _ _ _ h; exact h
  | cons b l ih =>
    intro x y hb h0 h1 h2 h3 h
    have hx := hb b List.mem_cons_self
    obtain ⟨a, rfl⟩ := Int.eq_ofNat_of_zero_le h0
    obtain ⟨a2, rfl⟩ := Int.eq_ofNat_of_zero_le h2
    obtain ⟨c, rfl⟩ := Int.eq_ofNat_of_zero_le hx.1
    obtain ⟨e, g⟩ := crcByte_nat (a := a) (b := c) (by omega) (by omega)
    obtain ⟨e2, g2⟩ := crcByte_nat (a := a2) (b := c) (by omega) (by omega)
    rw [List.foldl_cons, List.foldl_cons, e, e2] at h
    have := ih _ _ (fun y hy => hb y (List.mem_cons_of_mem _ hy)) (by omega) (by omega) (by omega) (by omega) h
    have h5 := xor_cancel (byteN_inj (by omega) (by omega) (by omega) (by omega) (Int.ofNat_inj.1 this))
    omega

/-- One byte turned is told. -/
theorem crc_turned (l : List Int) (hb : B8 l) (i : Nat) (hi : i < l.length) (v : Int) (h0 : 0 ≤ v) (h1 : v ≤ 255) (hne : v ≠ l[i]) : (l.set i v).foldl crcByte 65535 ≠ l.foldl crcByte 65535 := by
  intro h
  have hx := hb _ (List.getElem_mem hi)
  have hd : B8 (l.drop (i + 1)) := fun y hy => hb y (List.mem_of_mem_drop hy)
  have ht : B8 (l.take i) := fun y hy => hb y (List.mem_of_mem_take hy)
  have e : l = l.take i ++ l[i] :: l.drop (i + 1) := by rw [← List.drop_eq_getElem_cons hi, List.take_append_drop]
  have e2 : l.set i v = l.take i ++ v :: l.drop (i + 1) := by
    rw [List.set_eq_take_append_cons_drop, if_pos hi]
  rw [e2] at h
  have h' : (l.take i ++ v :: l.drop (i + 1)).foldl crcByte 65535 = (l.take i ++ l[i] :: l.drop (i + 1)).foldl crcByte 65535 := h.trans (congrArg (fun z => z.foldl crcByte 65535) e)
  rw [List.foldl_append, List.foldl_append, List.foldl_cons, List.foldl_cons] at h'
  obtain ⟨r0, r1⟩ := fold_range _ 65535 ht (by omega) (by omega)
  generalize (l.take i).foldl crcByte 65535 = s at h' r0 r1
  generalize l[i] = u at hx hne h'
  obtain ⟨a, rfl⟩ := Int.eq_ofNat_of_zero_le r0
  obtain ⟨c, rfl⟩ := Int.eq_ofNat_of_zero_le hx.1
  obtain ⟨c2, rfl⟩ := Int.eq_ofNat_of_zero_le h0
  obtain ⟨q1, g1⟩ := crcByte_nat (a := a) (b := c) (by omega) (by omega)
  obtain ⟨q2, g2⟩ := crcByte_nat (a := a) (b := c2) (by omega) (by omega)
  rw [q1, q2] at h'
  have := fold_inj _ _ _ hd (by omega) (by omega) (by omega) (by omega) h'
  have h5 := byteN_inj (a := a) (b := a) (x := c2) (y := c) (by omega) (by omega) (by omega) (by omega) (Int.ofNat_inj.1 this)
  rw [Nat.xor_comm a c2, Nat.xor_comm a c] at h5
  exact hne (by rw [xor_cancel h5])

theorem bitN_even (y : Nat) : bitN (2 * y) = y := by unfold bitN; rw [if_neg (by omega)]; omega
theorem bits_shift (h : Nat) : bitsN 8 (256 * h) = h := by
  simp only [bitsN]
  rw [show 256 * h = 2 * (128 * h) from by omega, bitN_even, show 128 * h = 2 * (64 * h) from by omega, bitN_even, show 64 * h = 2 * (32 * h) from by omega, bitN_even, show 32 * h = 2 * (16 * h) from by omega, bitN_even,
    show 16 * h = 2 * (8 * h) from by omega, bitN_even, show 8 * h = 2 * (4 * h) from by omega, bitN_even, show 4 * h = 2 * (2 * h) from by omega, bitN_even, bitN_even]
theorem xor_low (x : Nat) : x ^^^ (x % 256) = 256 * (x / 256) := by
  have e : 256 * (x / 256) = (x >>> 8) <<< 8 := by rw [Nat.shiftRight_eq_div_pow, Nat.shiftLeft_eq]; omega
  rw [e]
  apply Nat.eq_of_testBit_eq
  intro i
  rw [Nat.testBit_xor, show (256 : Nat) = 2 ^ 8 from rfl, Nat.testBit_mod_two_pow, Nat.testBit_shiftLeft, Nat.testBit_shiftRight]
  by_cases h : i < 8
  · have h2 : ¬ i ≥ 8 := by omega
    simp [h, h2]
  · have h2 : i ≥ 8 := by omega
    have h3 : 8 + (i - 8) = i := by omega
    simp [h, h2, h3]

/-- The sum of bytes and of the sum's own two bytes. -/
theorem crc_self (x : Int) (h0 : 0 ≤ x) (h1 : x ≤ 65535) : [x % 256, (x / 256) % 256].foldl crcByte x = 0 := by
  obtain ⟨a, rfl⟩ := Int.eq_ofNat_of_zero_le h0
  have e1 : (a : Int) % 256 = ((a % 256 : Nat) : Int) := by omega
  have e2 : (a : Int) / 256 % 256 = ((a / 256 : Nat) : Int) := by omega
  have g1 : byteN a (a % 256) = a / 256 := by unfold byteN; rw [xor_low, bits_shift]
  have g2 : byteN (a / 256) (a / 256) = 0 := by unfold byteN; rw [Nat.xor_self]; exact bits_shift 0
  rw [List.foldl_cons, List.foldl_cons, List.foldl_nil, e1, e2, (crcByte_nat (by omega) (by omega)).1, g1, (crcByte_nat (by omega) (by omega)).1, g2]
  rfl

theorem lrc_turned (l : List Int) (hb : B8 l) (i : Nat) (hi : i < l.length) (v : Int) (h0 : 0 ≤ v) (h1 : v ≤ 255) (hne : v ≠ l[i]) : lrcOf (l.set i v).sum ≠ lrcOf l.sum := by
  have hx := hb _ (List.getElem_mem hi)
  have e : l.sum = (l.take i).sum + (l[i] + (l.drop (i + 1)).sum) := by
    rw [← List.sum_cons, ← List.sum_append, ← List.drop_eq_getElem_cons hi, List.take_append_drop]
  have e2 : (l.set i v).sum = (l.take i).sum + (v + (l.drop (i + 1)).sum) := by
    rw [List.set_eq_take_append_cons_drop, if_pos hi, List.sum_append, List.sum_cons]
  rw [e, e2]
  unfold lrcOf
  omega

theorem at_told (l : List Int) (hb : B8 l) (hl : l.length ≤ 1048576) (i : Int) (h0 : 0 ≤ i) (h1 : i ≤ 1000) : ∃ v, laws_at.f l i = some v ∧ 0 ≤ v ∧ v ≤ 255 := by
  by_cases c : i < (l.length : Int)
  · have r := hb.rd h0 c
    refine ⟨_, by simp only [laws_at.f, c, h0, if_true]; rfl, ?_⟩
    rw [w64 (by omega) (by omega)]
    exact r
  · refine ⟨_, by simp only [laws_at.f, c, if_false]; rfl, ?_⟩
    rw [w64 (x := i * 31) (by omega) (by omega), w64 (x := (l.length : Int) * 7) (by omega) (by omega), w64 (by omega) (by omega), tmod_pos (by omega)]
    omega

theorem crc_draw (l : List Int) (hl : l.length ≤ 140737488351232) : ∃ b, Ev (fun k => spec_DrawCrc.f k l) b ∧ B8 b ∧ b.length ≤ 20 := by
  obtain ⟨h, hn⟩ := l1New_ev l hl
  obtain ⟨b, i1, c1, hev, hb, hlen, hi1⟩ := l1Some_ev l hl 0 h (by omega)
  refine ⟨b, ?_, hb, hlen⟩
  simp only [spec_DrawCrc.f]
  refine evBind hn ?_
  exact evBind hev (Ev.now _)

theorem sums_j0 (l b : List Int) (hl : l.length ≤ 1048576) (hl8 : B8 l) (hb : B8 b) (hlen : b.length ≤ 20) : Ev (fun k => laws_FnSums.j0 k l b (b.foldl crcByte 65535) (lrcOf b.sum) false) true := by
  refine evUp ?_
  by_cases h0 : (b.length : Int) = 0
  · obtain rfl : b = [] := List.eq_nil_of_length_eq_zero (by omega)
    have e1 : ([] : List Int).foldl crcByte 65535 = 65535 := rfl
    have e2 : (lrcOf ([] : List Int).sum == 0) = true := by decide
    simp only [laws_FnSums.j0, Bool.false_eq_true, if_false, h0, if_true, e1, e2]
    exact Ev.now _
  · obtain ⟨v1, a1, p1⟩ := at_told l hl8 hl 2 (by omega) (by omega)
    obtain ⟨v2, a2, p2⟩ := at_told l hl8 hl 3 (by omega) (by omega)
    have w1 : wrap64 (8 * (b.length : Int)) = 8 * (b.length : Int) := w64 (by omega) (by omega)
    have w2 : wrap64 (wrap64 (v1 * 256) + v2) = v1 * 256 + v2 := by rw [w64 (x := v1 * 256) (by omega) (by omega), w64 (by omega) (by omega)]
    have n0 : ¬ 8 * (b.length : Int) = 0 := by omega
    have w3 : Int.tmod (v1 * 256 + v2) (8 * (b.length : Int)) = (v1 * 256 + v2) % (8 * (b.length : Int)) := tmod_pos (by omega)
    have k0 : 0 ≤ (v1 * 256 + v2) % (8 * (b.length : Int)) := Int.emod_nonneg _ n0
    have k1 : (v1 * 256 + v2) % (8 * (b.length : Int)) < 8 * (b.length : Int) := Int.emod_lt_of_pos _ (by omega)
    have c1 : ([] : List Int).length + b.length < 140737488355328 := by rw [List.length_nil]; omega
    generalize (v1 * 256 + v2) % (8 * (b.length : Int)) = kk at w3 k0 k1
    obtain ⟨q, rfl⟩ := Int.eq_ofNat_of_zero_le k0
    have w4 : wrap64 (Int.tdiv (q : Int) 8) = ((q / 8 : Nat) : Int) := by rw [tdiv_pos k0, w64 (by omega) (by omega)]; omega
    have w5 : IntKind.u64.wrap (Int.tmod (q : Int) 8) = ((q % 8 : Nat) : Int) := by
      rw [tmod_pos k0, show (q : Int) % 8 = ((q % 8 : Nat) : Int) from by omega]
      simp [IntKind.wrap, IntKind.bits, IntKind.signed]
      omega
    have hq : q / 8 < b.length := by omega
    have hx := hb _ (List.getElem_mem hq)
    have hm : q % 8 < 8 := Nat.mod_lt _ (by decide)
    have hp : 2 ^ (q % 8) < 2 ^ 8 := Nat.pow_lt_pow_right (by decide) hm
    obtain ⟨u, hu⟩ := Int.eq_ofNat_of_zero_le hx.1
    have ht : Go.bits .xor .u8 (rd b ((q / 8 : Nat) : Int)) (shl .u8 1 ((q % 8 : Nat) : Int)) = ((u ^^^ 2 ^ (q % 8) : Nat) : Int) := by
      rw [rd_get hq, hu, shl_u8_1 hm, xor_u8 (by omega) hp]
    have hlt : u ^^^ 2 ^ (q % 8) < 2 ^ 8 := Nat.xor_lt_two_pow (by omega) hp
    have hne : ((u ^^^ 2 ^ (q % 8) : Nat) : Int) ≠ b[q / 8] := by
      rw [hu]
      intro h
      have h2 : u ^^^ 2 ^ (q % 8) = u := Int.ofNat_inj.1 h
      have h3 : u ^^^ (u ^^^ 2 ^ (q % 8)) = u ^^^ u := by rw [h2]
      rw [← Nat.xor_assoc, Nat.xor_self, Nat.zero_xor] at h3
      have h4 : 0 < 2 ^ (q % 8) := Nat.two_pow_pos _
      omega
    have hb2 : B8 (b.set (q / 8) ((u ^^^ 2 ^ (q % 8) : Nat) : Int)) := by
      intro y hy
      rcases List.mem_or_eq_of_mem_set hy with h | h
      · exact hb y h
      · subst h
        generalize u ^^^ 2 ^ (q % 8) = z at hlt
        omega
    have d1 : 0 ≤ ((q / 8 : Nat) : Int) := by omega
    have d2 : ((q / 8 : Nat) : Int) < (b.length : Int) := by omega
    have d3 : 0 ≤ ((q % 8 : Nat) : Int) := by omega
    have z0 : 0 ≤ ((u ^^^ 2 ^ (q % 8) : Nat) : Int) ∧ ((u ^^^ 2 ^ (q % 8) : Nat) : Int) ≤ 255 := by
      generalize u ^^^ 2 ^ (q % 8) = z at hlt
      omega
    have r1 := crc_turned b hb (q / 8) hq _ z0.1 z0.2 hne
    have r2 := lrc_turned b hb (q / 8) hq _ z0.1 z0.2 hne
    have r3 : (lrcOf (b.set (q / 8) ((u ^^^ 2 ^ (q % 8) : Nat) : Int)).sum != lrcOf b.sum) = true := by simpa using r2
    simp only [laws_FnSums.j0, Bool.false_eq_true, if_false, h0, a1, a2, Option.bind_some, w1, w2, w3, n0, c1, if_true, List.nil_append, w4, w5, d1, d2, d3, ht, Int.toNat_natCast]
    refine evBind (impl_Crc_ev _ hb2 (by rw [List.length_set]; omega)) ?_
    simp only [r1, if_false]
    refine evBind (impl_Lrc_ev _ hb2 (by rw [List.length_set]; omega)) ?_
    simp only [r3]
    exact Ev.now _

theorem FnSums : laws_FnSums.Pure := by
  intro l h1 h2 h3
  refine Ev.rounds (g := fun k => laws_FnSums.f k l) ?_
  by_cases hc : (l.length : Int) > 1048576
  · simp only [laws_FnSums.f, laws_big.f, hc, decide_true, if_true, Option.bind_some]; exact Ev.now _
  · simp only [laws_FnSums.f, laws_big.f, hc, decide_false, Bool.false_eq_true, if_false, Option.bind_some]
    obtain ⟨b, hd, hb, hlen⟩ := crc_draw l (by omega)
    obtain ⟨x0, x1⟩ := fold_range b 65535 hb (by omega) (by omega)
    have hj := sums_j0 l b (by omega) (B8.of h3) hb hlen
    have hs := sum_le8 hb
    have q0 : 0 ≤ lrcOf b.sum ∧ lrcOf b.sum ≤ 255 := by unfold lrcOf; omega
    have hall : ((b ++ [(b.foldl crcByte 65535) % 256, (b.foldl crcByte 65535) / 256 % 256]).foldl crcByte 65535) = 0 := by
      rw [List.foldl_append]; exact crc_self _ x0 x1
    have hb1 : B8 (b ++ [(b.foldl crcByte 65535) % 256, (b.foldl crcByte 65535) / 256 % 256]) := hb.append (fun y hy => by simp at hy; rcases hy with rfl | rfl <;> omega)
    have hb2 : B8 (b ++ [lrcOf b.sum % 256]) := hb.append (fun y hy => by simp at hy; subst hy; omega)
    have hl2 : lrcOf (b ++ [lrcOf b.sum % 256]).sum = 0 := by
      rw [List.sum_append, List.sum_cons, List.sum_nil]; unfold lrcOf; omega
    have hi := impl_Crc_ev b hb (by omega)
    have hL := impl_Lrc_ev b hb (by omega)
    have hi2 := impl_Crc_ev _ hb1 (by rw [List.length_append]; simp; omega)
    have hL2 := impl_Lrc_ev _ hb2 (by rw [List.length_append]; simp; omega)
    rw [hall] at hi2
    rw [hl2] at hL2
    have c1 : ([] : List Int).length + b.length < 140737488355328 := by rw [List.length_nil]; omega
    have c2 : b.length + ([(b.foldl crcByte 65535) % 256, (b.foldl crcByte 65535) / 256 % 256] : List Int).length < 140737488355328 := by simp; omega
    have c3 : b.length < 140737488355328 := by omega
    have n1 : ¬ b.foldl crcByte 65535 < 0 := by omega
    have n2 : decide (b.foldl crcByte 65535 > 65535) = false := decide_eq_false (by omega)
    refine evBind hd ?_
    refine evBind hi ?_
    simp only [Option.bind_some, c1, if_true, List.nil_append, c2]
    refine evBind hL ?_
    refine evBind hi2 ?_
    simp only [if_true, c3]
    refine evBind hL2 ?_
    simp only [if_true, n1, if_false, n2]
    exact hj

end Go.Proofs.Ytnikdfcdddlfbaa.Pure
