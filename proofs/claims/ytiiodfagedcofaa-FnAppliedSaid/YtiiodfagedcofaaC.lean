/- Plain facts on whole numbers, bits and lists, for the pure statements of this seat. No condition. -/
import Derived.Test.YtiiodfagedcofaaWMore
import Derived.SizedLaws
import Derived.ChangeSlices
namespace Go.Proofs.Ytiiodfagedcofaa.PlainC
open Go Go.RowKit Go.Proofs.YtiiodfagedcofaaW.PrintWords

theorem w64 {x : Int} (h1 : -9223372036854775808 ≤ x) (h2 : x ≤ 9223372036854775807) : wrap64 x = x := by
  unfold wrap64; omega

theorem wf8 {x : Int} : (Lit.int .u8 x).wf = true ↔ 0 ≤ x ∧ x ≤ 255 := by
  simp [Lit.wf, IntKind.min, IntKind.max, IntKind.signed, IntKind.bits]

theorem i64wrap (x : Int) : IntKind.i64.wrap x = wrap64 x := by
  rw [IntKind.wrap_i64]; unfold wrap64; rfl

/-- And with a mask of n ones, of any whole number. -/
theorem and_mask (x : Int) (n : Nat) (hn : n ≤ 63) : Go.bits .and .i64 x (2 ^ n - 1) = x % 2 ^ n := by
  have e0 : Go.bits .and .i64 x (2 ^ n - 1) = IntKind.i64.wrap ((((x % ((2 ^ 64 : Nat) : Int)).toNat &&& (((2 : Int) ^ n - 1) % ((2 ^ 64 : Nat) : Int)).toNat) : Nat) : Int) := by
    unfold Go.bits
    simp only [BitVec.toNat_and, BitVec.toNat_ofInt]
    rfl
  rw [e0]
  have hp : (2 : Nat) ^ n ≤ 2 ^ 63 := Nat.pow_le_pow_right (by decide) hn
  have hp0 : 0 < (2 : Nat) ^ n := Nat.two_pow_pos n
  have e : (((2 : Int) ^ n - 1) % ((2 ^ 64 : Nat) : Int)).toNat = 2 ^ n - 1 := by
    have h1 : ((2 : Int) ^ n - 1) = ((2 ^ n - 1 : Nat) : Int) := by
      rw [Int.natCast_sub hp0]; simp
    rw [h1]
    rw [← Int.natCast_emod, Int.toNat_natCast]
    exact Nat.mod_eq_of_lt (by omega)
  rw [e, Nat.and_two_pow_sub_one_eq_mod]
  have hpos : 0 ≤ x % ((2 ^ 64 : Nat) : Int) := Int.emod_nonneg _ (by decide)
  have h2 : (((x % ((2 ^ 64 : Nat) : Int)).toNat % 2 ^ n : Nat) : Int) = x % 2 ^ n := by
    rw [Int.natCast_emod, Int.toNat_of_nonneg hpos]
    simp only [Int.natCast_pow, Int.cast_ofNat_Int]
    exact Int.emod_emod_of_dvd x ⟨2 ^ (64 - n), by rw [← Int.pow_add]; congr 1; omega⟩
  rw [h2]
  rw [i64wrap]
  have h3 : 0 ≤ x % (2 : Int) ^ n := Int.emod_nonneg _ (by
    have : (0 : Int) < 2 ^ n := by exact_mod_cast hp0
    omega)
  have h4 : x % (2 : Int) ^ n < 2 ^ n := Int.emod_lt_of_pos _ (by exact_mod_cast hp0)
  have h5 : (2 : Int) ^ n ≤ 2 ^ 63 := by exact_mod_cast hp
  exact w64 (by omega) (by omega)

theorem tmod_pos {x m : Int} (h : 0 ≤ x) : Int.tmod x m = x % m := Int.tmod_eq_emod_of_nonneg h

theorem rd_get {xs : List Int} {i : Nat} (h : i < xs.length) : rd xs (i : Int) = xs[i] := by
  unfold rd
  simp [List.getD, h]

theorem rd_mem {xs : List Int} {i : Int} (h0 : 0 ≤ i) (h : i < (xs.length : Int)) : rd xs i ∈ xs := by
  have e : i = ((i.toNat : Nat) : Int) := by omega
  rw [e, rd_get (by omega)]
  exact List.getElem_mem _

theorem rdOf_get {α : Type} {d : α} {xs : List α} {i : Nat} (h : i < xs.length) : rdOf d xs (i : Int) = xs[i] := by
  unfold rdOf
  simp [List.getD, h]

/-- Bytes. -/
def B8 (xs : List Int) : Prop := ∀ x ∈ xs, 0 ≤ x ∧ x ≤ 255
theorem B8.of {xs : List Int} (h : ∀ x ∈ xs, (Lit.int .u8 x).wf = true) : B8 xs := fun x hx => wf8.1 (h x hx)
theorem B8.nil : B8 [] := fun x hx => by cases hx
theorem B8.append {xs ys : List Int} (h1 : B8 xs) (h2 : B8 ys) : B8 (xs ++ ys) := fun x hx => by
  rcases List.mem_append.1 hx with h | h
  · exact h1 x h
  · exact h2 x h
theorem B8.rd {xs : List Int} (h : B8 xs) {i : Int} (h0 : 0 ≤ i) (h1 : i < (xs.length : Int)) : 0 ≤ rd xs i ∧ rd xs i ≤ 255 := h _ (rd_mem h0 h1)

/-- One round more. -/
theorem evUp {α : Type} {g : Nat → Option α} {r : α} (h : Ev (fun k => g (k + 1)) r) : Ev g r := Ev.step (f := fun k => g (k + 1)) (fun _ => rfl) h

theorem evBind {α β : Type} {g : Nat → Option α} {f : Nat → α → Option β} {a : α} {r : β} (h : Ev g a) (k : Ev (fun n => f n a) r) : Ev (fun n => (g n).bind (fun x => f n x)) r := Ev.bind h k

theorem drop_eq_iff {α : Type} {a b : List α} {i : Nat} (ha : i < a.length) (hb : i < b.length) : a.drop i = b.drop i ↔ a[i] = b[i] ∧ a.drop (i + 1) = b.drop (i + 1) := by
  rw [List.drop_eq_getElem_cons ha, List.drop_eq_getElem_cons hb, List.cons.injEq]

/-! Bits of bytes. -/
end Go.Proofs.Ytiiodfagedcofaa.PlainC

namespace Go.Proofs.Ytiiodfagedcofaa.PrintWords
open Go Go.ChangeShapes Go.WideShapes
end Go.Proofs.Ytiiodfagedcofaa.PrintWords
