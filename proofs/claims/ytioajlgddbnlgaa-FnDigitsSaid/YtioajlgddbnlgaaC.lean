/- Plain facts on whole numbers, bits and lists, for the pure statements of this seat. No condition. -/
import Derived.Test.YtioajlgddbnlgaaWMore
import Derived.Test.YtioajlgddbnlgaaWSized
namespace Go.Proofs.Ytioajlgddbnlgaa.PlainC
open Go Go.RowKit Go.Proofs.YtioajlgddbnlgaaW.PrintWords

theorem w64 {x : Int} (h1 : -9223372036854775808 ≤ x) (h2 : x ≤ 9223372036854775807) : wrap64 x = x := by
  unfold wrap64; omega

theorem wf8 {x : Int} : (Lit.int .u8 x).wf = true ↔ 0 ≤ x ∧ x ≤ 255 := by
  simp [Lit.wf, IntKind.min, IntKind.max, IntKind.signed, IntKind.bits]

theorem wf64 {x : Int} : (Lit.int .i64 x).wf = true ↔ -9223372036854775808 ≤ x ∧ x ≤ 9223372036854775807 := by
  simp [Lit.wf, IntKind.min, IntKind.max, IntKind.signed, IntKind.bits]

theorem i64wrap (x : Int) : IntKind.i64.wrap x = wrap64 x := by
  rw [IntKind.wrap_i64]; unfold wrap64; rfl

/-- And with a mask of n ones, of any whole number. -/
theorem and_mask (x : Int) (n : Nat) (hn : n ≤ 63) : Go.bits .and .i64 x (2 ^ n - 1) = x % 2 ^ n := by
  have e0 : Go.bits .and .i64 x (2 ^ n - 1) = IntKind.i64.wrap ((((x % ((2 ^ 64 : Nat) : Int)).toNat &&& (((2 : Int) ^ n - 1) % ((2 ^ 64 : Nat) : Int)).toNat) : Nat) : Int) := by
    unfold Go.bits
    simp only [BitVec.toNat_and, BitVec.toNat_ofInt]
    rfl
  rw [e0]
  have hp : (2 : Nat) ^ n ≤ 2 ^ 63 := Nat.pow_le_pow_right (by decide) hn
  have hp0 : 0 < (2 : Nat) ^ n := Nat.two_pow_pos n
  have e : (((2 : Int) ^ n - 1) % ((2 ^ 64 : Nat) : Int)).toNat = 2 ^ n - 1 := by
    have h1 : ((2 : Int) ^ n - 1) = ((2 ^ n - 1 : Nat) : Int) := by
      rw [Int.natCast_sub hp0]; simp
    rw [h1]
    rw [← Int.natCast_emod, Int.toNat_natCast]
    exact Nat.mod_eq_of_lt (by omega)
  rw [e, Nat.and_two_pow_sub_one_eq_mod]
  have hpos : 0 ≤ x % ((2 ^ 64 : Nat) : Int) := Int.emod_nonneg _ (by decide)
  have h2 : (((x % ((2 ^ 64 : Nat) : Int)).toNat % 2 ^ n : Nat) : Int) = x % 2 ^ n := by
    rw [Int.natCast_emod, Int.toNat_of_nonneg hpos]
    simp only [Int.natCast_pow, Int.cast_ofNat_Int]
    exact Int.emod_emod_of_dvd x ⟨2 ^ (64 - n), by rw [← Int.pow_add]; congr 1; omega⟩
  rw [h2]
  rw [i64wrap]
  have h3 : 0 ≤ x % (2 : Int) ^ n := Int.emod_nonneg _ (by
    have : (0 : Int) < 2 ^ n := by exact_mod_cast hp0
    omega)
  have h4 : x % (2 : Int) ^ n < 2 ^ n := Int.emod_lt_of_pos _ (by exact_mod_cast hp0)
  have h5 : (2 : Int) ^ n ≤ 2 ^ 63 := by exact_mod_cast hp
  exact w64 (by omega) (by omega)

theorem and_255 (x : Int) : Go.bits .and .i64 x 255 = x % 256 := and_mask x 8 (by decide)
theorem and_65535 (x : Int) : Go.bits .and .i64 x 65535 = x % 65536 := and_mask x 16 (by decide)
theorem and_1 (x : Int) : Go.bits .and .i64 x 1 = x % 2 := and_mask x 1 (by decide)
theorem and_32 (x : Int) : Go.bits .and .i64 x 4294967295 = x % 4294967296 := and_mask x 32 (by decide)
theorem and_30 (x : Int) : Go.bits .and .i64 x 1073741823 = x % 1073741824 := and_mask x 30 (by decide)

/-- A list out of two bytes. -/
theorem or_byte {x y : Int} (hx : 0 ≤ x) (hx1 : x ≤ 255) (hy : 0 ≤ y) (hy1 : y ≤ 255) : Go.bits .or .i64 (x * 256) y = x * 256 + y :=
  bits_join .i64 63 (by decide) (fun n h0 h1 => by rw [i64wrap]; exact w64 (by omega) (by omega)) 8 (x * 256) y (by omega) (by omega) (by omega) hy (by omega) (by omega)

theorem tmod_pos {x m : Int} (h : 0 ≤ x) : Int.tmod x m = x % m := Int.tmod_eq_emod_of_nonneg h

theorem tdiv_pos {x m : Int} (h : 0 ≤ x) : Int.tdiv x m = x / m := Int.tdiv_eq_ediv_of_nonneg h

theorem emod_le_self {a n : Int} (h : 0 ≤ a) (hn : 0 < n) : a % n ≤ a := by
  obtain ⟨x, rfl⟩ := Int.eq_ofNat_of_zero_le h
  obtain ⟨y, rfl⟩ := Int.eq_ofNat_of_zero_le (Int.le_of_lt hn)
  rw [← Int.natCast_emod]
  exact Int.ofNat_le.2 (Nat.mod_le x y)

theorem rd_get {xs : List Int} {i : Nat} (h : i < xs.length) : rd xs (i : Int) = xs[i] := by
  unfold rd
  simp [List.getD, h]

theorem rd_mem {xs : List Int} {i : Int} (h0 : 0 ≤ i) (h : i < (xs.length : Int)) : rd xs i ∈ xs := by
  have e : i = ((i.toNat : Nat) : Int) := by omega
  rw [e, rd_get (by omega)]
  exact List.getElem_mem _

/-- Bytes. -/
def B8 (xs : List Int) : Prop := ∀ x ∈ xs, 0 ≤ x ∧ x ≤ 255
theorem B8.of {xs : List Int} (h : ∀ x ∈ xs, (Lit.int .u8 x).wf = true) : B8 xs := fun x hx => wf8.1 (h x hx)
theorem B8.nil : B8 [] := fun x hx => by cases hx
theorem B8.append {xs ys : List Int} (h1 : B8 xs) (h2 : B8 ys) : B8 (xs ++ ys) := fun x hx => by
  rcases List.mem_append.1 hx with h | h
  · exact h1 x h
  · exact h2 x h
theorem B8.rd {xs : List Int} (h : B8 xs) {i : Int} (h0 : 0 ≤ i) (h1 : i < (xs.length : Int)) : 0 ≤ rd xs i ∧ rd xs i ≤ 255 := h _ (rd_mem h0 h1)

/-- A loop that copies: what was written so far, then zeros. -/
theorem set_copy {α : Type} (d : α) (xs : List α) (i : Nat) (h : i < xs.length) :
    (xs.take i ++ List.replicate (xs.length - i) d).set i xs[i] = xs.take (i + 1) ++ List.replicate (xs.length - (i + 1)) d := by
  have hl : (xs.take i).length = i := by rw [List.length_take]; omega
  have hr : List.replicate (xs.length - i) d = d :: List.replicate (xs.length - (i + 1)) d := by
    rw [← List.replicate_succ]; congr 1; omega
  rw [hr, List.set_append_right _ _ (by omega), hl, Nat.sub_self, List.set_cons_zero, List.take_succ_eq_append_getElem h, List.append_assoc]
  rfl

/-- One round more. -/
theorem evUp {α : Type} {g : Nat → Option α} {r : α} (h : Ev (fun k => g (k + 1)) r) : Ev g r := Ev.step (f := fun k => g (k + 1)) (fun _ => rfl) h

theorem evBind {α β : Type} {g : Nat → Option α} {f : Nat → α → Option β} {a : α} {r : β} (h : Ev g a) (k : Ev (fun n => f n a) r) : Ev (fun n => (g n).bind (fun x => f n x)) r := Ev.bind h k

theorem set_next {α : Type} (p l : List α) (v : α) (i : Nat) (hp : p.length = i) (h : i < l.length) : (p ++ l.drop i).set i v = (p ++ [v]) ++ l.drop (i + 1) := by
  rw [List.drop_eq_getElem_cons h, List.set_append_right _ _ (by omega), hp, Nat.sub_self, List.set_cons_zero, List.append_assoc]
  rfl

/-- What marking leaves: the numbers from k on, each through f. -/
def marks {α : Type} (f : Int → α) (k : Int) (n : Nat) : List α := (List.range n).map (fun j : Nat => f (k + (j : Int)))
theorem marks_length {α : Type} (f : Int → α) (k : Int) (n : Nat) : (marks f k n).length = n := by simp [marks]
theorem marks_succ {α : Type} (f : Int → α) (k : Int) (n : Nat) : marks f k (n + 1) = marks f k n ++ [f (k + (n : Int))] := by
  unfold marks; rw [List.range_succ, List.map_append]; rfl
theorem marks_get {α : Type} (f : Int → α) (k : Int) (n i : Nat) (h : i < n) : (marks f k n)[i]'(by rw [marks_length]; exact h) = f (k + (i : Int)) := by
  simp [marks]

theorem drop_eq_iff {α : Type} {a b : List α} {i : Nat} (ha : i < a.length) (hb : i < b.length) : a.drop i = b.drop i ↔ a[i] = b[i] ∧ a.drop (i + 1) = b.drop (i + 1) := by
  rw [List.drop_eq_getElem_cons ha, List.drop_eq_getElem_cons hb, List.cons.injEq]

end Go.Proofs.Ytioajlgddbnlgaa.PlainC

namespace Go.Proofs.Ytioajlgddbnlgaa.PrintWords
open Go Go.ChangeShapes Go.WideShapes
/-- The name by which the rows call it. -/
theorem sized_ints {H : Type} {enc : TypeId × Value → H} {P : Program} {W : World} {base : Nat} {spare : Nat → Bool} {held : Bool} {t e : TypeId} {k : IntKind} {a : Option Addr} {len cap : Nat} {d : DataW H} {ps : List MemPlace} {ts : List TypeId} {ds : List (DataW H)} {j : Nat}
    (hsz : (DataW.weightsEach P ts ds).all (· ≤ reachBytes) = true) (ht : ts[j]? = some t) (hd : ds[j]? = some d) (hu : P.underlying t = some (.slice e)) (he : P.underlying e = some (.int k)) (hc : P.cellsOf e = 1) {B : Nat} (hB : P.bytesOf e = B)
    (h : DataW.Trod enc P W base spare held t (.slice a len cap) d ps) : len * B ≤ 140737488351232 := Go.Proofs.YtioajlgddbnlgaaW.PrintWords.sized_ints hsz ht hd hu he hc hB h
end Go.Proofs.Ytioajlgddbnlgaa.PrintWords
