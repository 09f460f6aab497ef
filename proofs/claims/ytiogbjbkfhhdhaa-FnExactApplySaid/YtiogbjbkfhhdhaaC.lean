/- Plain facts on whole numbers, bits and lists, for the pure statements of this seat. No condition. -/
import Derived.Test.YtiogbjbkfhhdhaaWMore
import Derived.SizedLaws
import Derived.ChangeSlices
namespace Go.Proofs.Ytiogbjbkfhhdhaa.PlainC
open Go Go.RowKit Go.Proofs.YtiogbjbkfhhdhaaW.PrintWords

theorem w64 {x : Int} (h1 : -9223372036854775808 ≤ x) (h2 : x ≤ 9223372036854775807) : wrap64 x = x := by
  unfold wrap64; omega

theorem wf8 {x : Int} : (Lit.int .u8 x).wf = true ↔ 0 ≤ x ∧ x ≤ 255 := by
  simp [Lit.wf, IntKind.min, IntKind.max, IntKind.signed, IntKind.bits]

theorem i64wrap (x : Int) : IntKind.i64.wrap x = wrap64 x := by
  rw [IntKind.wrap_i64]; unfold wrap64; rfl

theorem tmod_pos {x m : Int} (h : 0 ≤ x) : Int.tmod x m = x % m := Int.tmod_eq_emod_of_nonneg h

theorem rd_get {xs : List Int} {i : Nat} (h : i < xs.length) : rd xs (i : Int) = xs[i] := by
  unfold rd
  simp [List.getD, h]

theorem rd_mem {xs : List Int} {i : Int} (h0 : 0 ≤ i) (h : i < (xs.length : Int)) : rd xs i ∈ xs := by
  have e : i = ((i.toNat : Nat) : Int) := by omega
  rw [e, rd_get (by omega)]
  exact List.getElem_mem _

theorem rdOf_get {α : Type} {d : α} {xs : List α} {i : Nat} (h : i < xs.length) : rdOf d xs (i : Int) = xs[i] := by
  unfold rdOf
  simp [List.getD, h]

/-- The mark of a bool. -/
def markB (k : Int) : Bool := k % 3 == 0

/-- Bytes. -/
def B8 (xs : List Int) : Prop := ∀ x ∈ xs, 0 ≤ x ∧ x ≤ 255
theorem B8.of {xs : List Int} (h : ∀ x ∈ xs, (Lit.int .u8 x).wf = true) : B8 xs := fun x hx => wf8.1 (h x hx)
theorem B8.nil : B8 [] := fun x hx => by cases hx
theorem B8.append {xs ys : List Int} (h1 : B8 xs) (h2 : B8 ys) : B8 (xs ++ ys) := fun x hx => by
  rcases List.mem_append.1 hx with h | h
  · exact h1 x h
  · exact h2 x h
theorem B8.rd {xs : List Int} (h : B8 xs) {i : Int} (h0 : 0 ≤ i) (h1 : i < (xs.length : Int)) : 0 ≤ rd xs i ∧ rd xs i ≤ 255 := h _ (rd_mem h0 h1)

/-- One round more. -/
theorem evUp {α : Type} {g : Nat → Option α} {r : α} (h : Ev (fun k => g (k + 1)) r) : Ev g r := Ev.step (f := fun k => g (k + 1)) (fun _ => rfl) h

theorem evBind {α β : Type} {g : Nat → Option α} {f : Nat → α → Option β} {a : α} {r : β} (h : Ev g a) (k : Ev (fun n => f n a) r) : Ev (fun n => (g n).bind (fun x => f n x)) r := Ev.bind h k

/-- What marking leaves: the numbers from k on, each through f. -/
def marks {α : Type} (f : Int → α) (k : Int) (n : Nat) : List α := (List.range n).map (fun j : Nat => f (k + (j : Int)))
theorem marks_length {α : Type} (f : Int → α) (k : Int) (n : Nat) : (marks f k n).length = n := by simp [marks]
theorem marks_succ {α : Type} (f : Int → α) (k : Int) (n : Nat) : marks f k (n + 1) = marks f k n ++ [f (k + (n : Int))] := by
  unfold marks; rw [List.range_succ, List.map_append]; rfl
theorem marks_get {α : Type} (f : Int → α) (k : Int) (n i : Nat) (h : i < n) : (marks f k n)[i]'(by rw [marks_length]; exact h) = f (k + (i : Int)) := by
  simp [marks]

/-! Bits of bytes. -/
end Go.Proofs.Ytiogbjbkfhhdhaa.PlainC

namespace Go.Proofs.Ytiogbjbkfhhdhaa.PrintWords
open Go Go.ChangeShapes Go.WideShapes
end Go.Proofs.Ytiogbjbkfhhdhaa.PrintWords
