/- What slices.Concat of byte slices does, told as a function. Condition: fewer than 2^46 elements in all. -/
import Derived.Test.YtnikdfcdddlfbaaGConcat
namespace Go.Proofs.Ytnikdfcdddlfbaa.G
open Go.RowKit Go.Proofs.YtnikdfcdddlfbaaW.PrintWords Go.Proofs.YtnikdfcdddlfbaaW.PrintLast Go.Proofs.YtnikdfcdddlfbaaW.PrintMore
def slices_Concat_byte_byte.f (l0 : List (List Int)) : Option (List Int) := if l0.flatten.length ≤ 70368744177664 then some l0.flatten else none
theorem slices_Concat_byte_byte.calls (A0 : Option Addr) (c0 : Nat) (l0 : List (List Int)) (r : List Int) (w : World) (hr0 : Kd.C (Kd.slice 5 (Kd.int .u8)) w A0 l0.length l0) (_hc0 : l0.length ≤ c0) (h : slices_Concat_byte_byte.f l0 = some r) :
    Calls Try.prog 92 #[.slice A0 l0.length c0] w fun e w' => ∃ v0_ : Value, e = .returned (v0_) ∧ Kd.R (Kd.int .u8) 5 w' w.heap.size (fun _ => True) v0_ r ∧ Below w.heap.size w w' := by
  unfold slices_Concat_byte_byte.f at h
  by_cases c : l0.flatten.length ≤ 70368744177664
  · rw [if_pos c] at h
    obtain rfl := Option.some.inj h
    exact concat_any A0 c0 l0 w hr0 c
  · rw [if_neg c] at h; exact absurd h (by simp)
end Go.Proofs.Ytnikdfcdddlfbaa.G
