/- Plain facts on whole numbers, bits and lists, for the pure statements of this seat. No condition. -/
import Derived.Test.YteoghpcgompajaaWMore
import Derived.Test.YteoghpcgompajaaWSized
namespace Go.Proofs.Yteoghpcgompajaa.PlainC
open Go Go.RowKit Go.Proofs.YteoghpcgompajaaW.PrintWords

theorem w64 {x : Int} (h1 : -9223372036854775808 ≤ x) (h2 : x ≤ 9223372036854775807) : wrap64 x = x := by
  unfold wrap64; omega

theorem wf8 {x : Int} : (Lit.int .u8 x).wf = true ↔ 0 ≤ x ∧ x ≤ 255 := by
  simp [Lit.wf, IntKind.min, IntKind.max, IntKind.signed, IntKind.bits]

theorem i64wrap (x : Int) : IntKind.i64.wrap x = wrap64 x := by
  rw [IntKind.wrap_i64]; unfold wrap64; rfl

/-- And with a mask of n ones, of any whole number. -/
theorem and_mask (x : Int) (n : Nat) (hn : n ≤ 63) : Go.bits .and .i64 x (2 ^ n - 1) = x % 2 ^ n := by
  have e0 : Go.bits .and .i64 x (2 ^ n - 1) = IntKind.i64.wrap ((((x % ((2 ^ 64 : Nat) : Int)).toNat &&& (((2 : Int) ^ n - 1) % ((2 ^ 64 : Nat) : Int)).toNat) : Nat) : Int) := by
    unfold Go.bits
    simp only [BitVec.toNat_and, BitVec.toNat_ofInt]
    rfl
  rw [e0]
  have hp : (2 : Nat) ^ n ≤ 2 ^ 63 := Nat.pow_le_pow_right (by decide) hn
  have hp0 : 0 < (2 : Nat) ^ n := Nat.two_pow_pos n
  have e : (((2 : Int) ^ n - 1) % ((2 ^ 64 : Nat) : Int)).toNat = 2 ^ n - 1 := by
    have h1 : ((2 : Int) ^ n - 1) = ((2 ^ n - 1 : Nat) : Int) := by
      rw [Int.natCast_sub hp0]; simp
    rw [h1]
    rw [← Int.natCast_emod, Int.toNat_natCast]
    exact Nat.mod_eq_of_lt (by omega)
  rw [e, Nat.and_two_pow_sub_one_eq_mod]
  have hpos : 0 ≤ x % ((2 ^ 64 : Nat) : Int) := Int.emod_nonneg _ (by decide)
  have h2 : (((x % ((2 ^ 64 : Nat) : Int)).toNat % 2 ^ n : Nat) : Int) = x % 2 ^ n := by
    rw [Int.natCast_emod, Int.toNat_of_nonneg hpos]
    simp only [Int.natCast_pow, Int.cast_ofNat_Int]
    exact Int.emod_emod_of_dvd x ⟨2 ^ (64 - n), by rw [← Int.pow_add]; congr 1; omega⟩
  rw [h2]
  rw [i64wrap]
  have h3 : 0 ≤ x % (2 : Int) ^ n := Int.emod_nonneg _ (by
    have : (0 : Int) < 2 ^ n := by exact_mod_cast hp0
    omega)
  have h4 : x % (2 : Int) ^ n < 2 ^ n := Int.emod_lt_of_pos _ (by exact_mod_cast hp0)
  have h5 : (2 : Int) ^ n ≤ 2 ^ 63 := by exact_mod_cast hp
  exact w64 (by omega) (by omega)

theorem and_255 (x : Int) : Go.bits .and .i64 x 255 = x % 256 := and_mask x 8 (by decide)
/-- A list out of two bytes. -/
theorem or_byte {x y : Int} (hx : 0 ≤ x) (hx1 : x ≤ 255) (hy : 0 ≤ y) (hy1 : y ≤ 255) : Go.bits .or .i64 (x * 256) y = x * 256 + y :=
  bits_join .i64 63 (by decide) (fun n h0 h1 => by rw [i64wrap]; exact w64 (by omega) (by omega)) 8 (x * 256) y (by omega) (by omega) (by omega) hy (by omega) (by omega)

theorem tmod_pos {x m : Int} (h : 0 ≤ x) : Int.tmod x m = x % m := Int.tmod_eq_emod_of_nonneg h

theorem tdiv_pos {x m : Int} (h : 0 ≤ x) : Int.tdiv x m = x / m := Int.tdiv_eq_ediv_of_nonneg h

theorem emod_le_self {a n : Int} (h : 0 ≤ a) (hn : 0 < n) : a % n ≤ a := by
  obtain ⟨x, rfl⟩ := Int.eq_ofNat_of_zero_le h
  obtain ⟨y, rfl⟩ := Int.eq_ofNat_of_zero_le (Int.le_of_lt hn)
  rw [← Int.natCast_emod]
  exact Int.ofNat_le.2 (Nat.mod_le x y)

theorem rd_get {xs : List Int} {i : Nat} (h : i < xs.length) : rd xs (i : Int) = xs[i] := by
  unfold rd
  simp [List.getD, h]

theorem rd_mem {xs : List Int} {i : Int} (h0 : 0 ≤ i) (h : i < (xs.length : Int)) : rd xs i ∈ xs := by
  have e : i = ((i.toNat : Nat) : Int) := by omega
  rw [e, rd_get (by omega)]
  exact List.getElem_mem _

theorem rdOf_get {α : Type} {d : α} {xs : List α} {i : Nat} (h : i < xs.length) : rdOf d xs (i : Int) = xs[i] := by
  unfold rdOf
  simp [List.getD, h]

/-- Bytes. -/
def B8 (xs : List Int) : Prop := ∀ x ∈ xs, 0 ≤ x ∧ x ≤ 255
theorem B8.of {xs : List Int} (h : ∀ x ∈ xs, (Lit.int .u8 x).wf = true) : B8 xs := fun x hx => wf8.1 (h x hx)
theorem B8.nil : B8 [] := fun x hx => by cases hx
theorem B8.append {xs ys : List Int} (h1 : B8 xs) (h2 : B8 ys) : B8 (xs ++ ys) := fun x hx => by
  rcases List.mem_append.1 hx with h | h
  · exact h1 x h
  · exact h2 x h
theorem B8.rd {xs : List Int} (h : B8 xs) {i : Int} (h0 : 0 ≤ i) (h1 : i < (xs.length : Int)) : 0 ≤ rd xs i ∧ rd xs i ≤ 255 := h _ (rd_mem h0 h1)

/-- One round more. -/
theorem evUp {α : Type} {g : Nat → Option α} {r : α} (h : Ev (fun k => g (k + 1)) r) : Ev g r := Ev.step (f := fun k => g (k + 1)) (fun _ => rfl) h

theorem evBind {α β : Type} {g : Nat → Option α} {f : Nat → α → Option β} {a : α} {r : β} (h : Ev g a) (k : Ev (fun n => f n a) r) : Ev (fun n => (g n).bind (fun x => f n x)) r := Ev.bind h k

theorem drop_eq_iff {α : Type} {a b : List α} {i : Nat} (ha : i < a.length) (hb : i < b.length) : a.drop i = b.drop i ↔ a[i] = b[i] ∧ a.drop (i + 1) = b.drop (i + 1) := by
  rw [List.drop_eq_getElem_cons ha, List.drop_eq_getElem_cons hb, List.cons.injEq]

/-! Bits of bytes. -/
theorem and_u8_1 {x : Int} (h0 : 0 ≤ x) (h1 : x ≤ 255) : Go.bits .and .u8 x 1 = x % 2 := bits_mask .u8 8 (by decide) wraps_u8 1 (by decide) x h0 (by omega)
theorem or_u8 {a b : Nat} (ha : a < 256) (hb : b < 256) : Go.bits .or .u8 (a : Int) (b : Int) = ((a ||| b : Nat) : Int) := (bits_nat .u8 8 (by decide) wraps_u8 a b ha hb).2
theorem shl_u8_1 {m : Nat} (h : m < 8) : shl .u8 1 (m : Int) = ((2 ^ m : Nat) : Int) := by
  unfold shl
  rw [Int.toNat_natCast, Nat.min_eq_left (by simp only [IntKind.bits]; omega), Int.one_mul, IntKind.wrap_u8]
  have h2 : 2 ^ m < 2 ^ 8 := Nat.pow_lt_pow_right (by decide) h
  have h3 : (2 : Int) ^ m = ((2 ^ m : Nat) : Int) := by simp
  rw [h3]
  generalize 2 ^ m = q at h2
  exact Int.emod_eq_of_lt (by omega) (by omega)
theorem shr_u8 {a m : Nat} (h : m < 8) : shr .u8 (a : Int) (m : Int) = ((a / 2 ^ m : Nat) : Int) := by
  unfold shr
  rw [Int.toNat_natCast, Nat.min_eq_left (by simp only [IntKind.bits]; omega)]
  simp

/-- Bit i of a list of bytes. -/
def bitOf (l : List Int) (i : Nat) : Bool := (l.getD (i / 8) 0).toNat.testBit (i % 8)

theorem bit_read {l : List Int} (hb : B8 l) {i : Nat} (h : i / 8 < l.length) : (Go.bits .and .u8 (shr .u8 (rd l ((i / 8 : Nat) : Int)) ((i % 8 : Nat) : Int)) 1 == 1) = bitOf l i := by
  have hx := hb _ (List.getElem_mem h)
  have hm : i % 8 < 8 := Nat.mod_lt _ (by decide)
  obtain ⟨a, ha⟩ := Int.eq_ofNat_of_zero_le hx.1
  have hq : a / 2 ^ (i % 8) ≤ a := Nat.div_le_self _ _
  have e : bitOf l i = a.testBit (i % 8) := by
    unfold bitOf
    rw [List.getD_eq_getElem?_getD, List.getElem?_eq_getElem h, Option.getD_some, ha, Int.toNat_natCast]
  rw [rd_get h, ha, shr_u8 hm, e, Nat.testBit_eq_decide_div_mod_eq]
  generalize a / 2 ^ (i % 8) = q at hq
  rw [and_u8_1 (by omega) (by omega), Bool.eq_iff_iff, beq_iff_eq, decide_eq_true_iff]
  omega

/-- The bytes of the first i bits. -/
def packTo (bits : List Bool) (m : Nat) : Nat → List Int
  | 0 => List.replicate m 0
  | i + 1 => if bits.getD i false = true then (packTo bits m i).set (i / 8) (Go.bits .or .u8 (rd (packTo bits m i) ((i / 8 : Nat) : Int)) (shl .u8 1 ((i % 8 : Nat) : Int))) else packTo bits m i
def packed (bits : List Bool) : List Int := packTo bits ((bits.length + 7) / 8) bits.length

theorem packTo_length (bits : List Bool) (m i : Nat) : (packTo bits m i).length = m := by
  induction i with
  | zero => simp [packTo]
  | succ i ih => simp only [packTo]; split <;> simp [ih]
theorem packed_length (bits : List Bool) : (packed bits).length = (bits.length + 7) / 8 := packTo_length _ _ _

theorem packTo_step (bits : List Bool) (m i : Nat) (hi : i / 8 < m) (hb : B8 (packTo bits m i)) :
    ∃ a : Nat, a < 256 ∧ (packTo bits m i).getD (i / 8) 0 = (a : Int) ∧ Go.bits .or .u8 (rd (packTo bits m i) ((i / 8 : Nat) : Int)) (shl .u8 1 ((i % 8 : Nat) : Int)) = ((a ||| 2 ^ (i % 8) : Nat) : Int) ∧ (a ||| 2 ^ (i % 8)) < 256 := by
  have hlt : i / 8 < (packTo bits m i).length := by rw [packTo_length]; exact hi
  have hm : i % 8 < 8 := Nat.mod_lt _ (by decide)
  have hx := hb _ (List.getElem_mem hlt)
  obtain ⟨a, ha⟩ := Int.eq_ofNat_of_zero_le hx.1
  have h2 : 2 ^ (i % 8) < 2 ^ 8 := Nat.pow_lt_pow_right (by decide) hm
  have h3 : a ||| 2 ^ (i % 8) < 2 ^ 8 := Nat.or_lt_two_pow (by omega) h2
  refine ⟨a, by omega, ?_, ?_, by omega⟩
  · rw [List.getD_eq_getElem?_getD, List.getElem?_eq_getElem hlt, Option.getD_some, ha]
  · rw [rd_get hlt, ha, shl_u8_1 hm, or_u8 (by omega) (by omega)]

theorem packTo_8 (bits : List Bool) (m : Nat) : ∀ i, i ≤ 8 * m → B8 (packTo bits m i) := by
  intro i
  induction i with
  | zero => intro _ x hx; simp [packTo] at hx; omega
  | succ i ih =>
    intro hi
    have hb := ih (by omega)
    simp only [packTo]
    split
    · obtain ⟨a, ha, _, e, h3⟩ := packTo_step bits m i (by omega) hb
      rw [e]
      intro x hx
      rcases List.mem_or_eq_of_mem_set hx with h | h
      · exact hb x h
      · omega
    · exact hb
theorem packed_8 (bits : List Bool) : B8 (packed bits) := packTo_8 _ _ _ (by omega)

theorem packTo_bit (bits : List Bool) (m : Nat) : ∀ i, i ≤ 8 * m → ∀ j, j < 8 * m → bitOf (packTo bits m i) j = (decide (j < i) && bits.getD j false) := by
  intro i
  induction i with
  | zero =>
    intro _ j hj
    have h : (List.replicate m (0 : Int)).getD (j / 8) 0 = 0 := by
      rw [List.getD_eq_getElem?_getD, List.getElem?_replicate]; split <;> rfl
    simp only [bitOf, packTo, h]
    simp
  | succ i ih =>
    intro hi j hj
    have h := ih (by omega) j hj
    simp only [packTo]
    by_cases hc : bits.getD i false = true
    · rw [if_pos hc]
      obtain ⟨a, ha, e0, e, h3⟩ := packTo_step bits m i (by omega) (packTo_8 bits m i (by omega))
      rw [e]
      have hlen : i / 8 < (packTo bits m i).length := by rw [packTo_length]; omega
      by_cases hq : j / 8 = i / 8
      · have hjl : j / 8 < (packTo bits m i).length := by rw [packTo_length]; omega
        have e1 : ((packTo bits m i).set (i / 8) ((a ||| 2 ^ (i % 8) : Nat) : Int)).getD (j / 8) 0 = ((a ||| 2 ^ (i % 8) : Nat) : Int) := by
          rw [hq, List.getD_eq_getElem?_getD, List.getElem?_set_self hlen, Option.getD_some]
        have e2 : bitOf (packTo bits m i) j = a.testBit (j % 8) := by unfold bitOf; rw [hq, e0, Int.toNat_natCast]
        unfold bitOf
        rw [e1, Int.toNat_natCast, Nat.testBit_or, ← e2, h, Nat.testBit_two_pow]
        by_cases hji : j = i
        · subst hji
          rw [hc]; simp
        · have n1 : i % 8 ≠ j % 8 := by omega
          have n2 : decide (i % 8 = j % 8) = false := decide_eq_false n1
          rw [n2, Bool.or_false]
          have e4 : decide (j < i + 1) = decide (j < i) := by rw [decide_eq_decide]; omega
          rw [e4]
      · have e1 : ((packTo bits m i).set (i / 8) ((a ||| 2 ^ (i % 8) : Nat) : Int)).getD (j / 8) 0 = (packTo bits m i).getD (j / 8) 0 := by
          rw [List.getD_eq_getElem?_getD, List.getElem?_set_ne (Ne.symm hq), ← List.getD_eq_getElem?_getD]
        have e4 : decide (j < i + 1) = decide (j < i) := by rw [decide_eq_decide]; omega
        unfold bitOf at h ⊢
        rw [e1, h, e4]
    · rw [if_neg hc, h]
      by_cases hji : j = i
      · subst hji
        have : bits.getD j false = false := by simpa using hc
        rw [this]; simp
      · have e4 : decide (j < i + 1) = decide (j < i) := by rw [decide_eq_decide]; omega
        rw [e4]
theorem packed_bit (bits : List Bool) (j : Nat) (hj : j < 8 * ((bits.length + 7) / 8)) : bitOf (packed bits) j = bits.getD j false := by
  unfold packed
  rw [packTo_bit bits _ _ (by omega) j hj]
  by_cases h : j < bits.length
  · simp [h]
  · have : bits.getD j false = false := by rw [List.getD_eq_getElem?_getD, List.getElem?_eq_none (by omega)]; rfl
    rw [this]; simp

/-- The first n bits of bytes. -/
def bitsOf (l : List Int) (n : Nat) : List Bool := (List.range n).map (bitOf l)
theorem bitsOf_length (l : List Int) (n : Nat) : (bitsOf l n).length = n := by simp [bitsOf]
theorem bitsOf_succ (l : List Int) (n : Nat) : bitsOf l (n + 1) = bitsOf l n ++ [bitOf l n] := by unfold bitsOf; rw [List.range_succ, List.map_append]; rfl
theorem bitsOf_packed (bits : List Bool) : bitsOf (packed bits) bits.length = bits := by
  apply List.ext_getElem
  · rw [bitsOf_length]
  · intro i h1 h2
    simp only [bitsOf, List.getElem_map, List.getElem_range]
    rw [packed_bit bits i (by omega), List.getD_eq_getElem?_getD, List.getElem?_eq_getElem h2]; rfl

/-- Is no bit set from i on, of so many more? -/
def noneSet (l : List Int) (i d : Nat) : Bool := (List.range d).all (fun j => !bitOf l (i + j))
theorem noneSet_succ (l : List Int) (i d : Nat) : noneSet l i (d + 1) = (!bitOf l i && noneSet l (i + 1) d) := by
  unfold noneSet
  rw [List.range_succ_eq_map, List.all_cons, List.all_map]
  congr 1
  congr 1
  funext j
  simp only [Function.comp]
  rw [show i + (j + 1) = i + 1 + j from by omega]
/-- What unpacking tells. -/
def unpackOf (l : List Int) (n : Int) : List Bool × Bool :=
  if n < 0 ∨ n > 8 * (l.length : Int) ∨ 8 * (l.length : Int) - n > 7 then ([], false)
  else if noneSet l n.toNat (8 * l.length - n.toNat) = true then (bitsOf l n.toNat, true) else ([], false)

end Go.Proofs.Yteoghpcgompajaa.PlainC

namespace Go.Proofs.Yteoghpcgompajaa.PrintWords
open Go Go.ChangeShapes Go.WideShapes
end Go.Proofs.Yteoghpcgompajaa.PrintWords
