/- spec.l5Bits: bits read out of a row, filled up to whole bytes. No condition. -/
import Derived.Test.YtiogbjbkfhhdhaaGOwn
import Derived.Test.YtiogbjbkfhhdhaaGSrvO
import Derived.Test.YtiogbjbkfhhdhaaC
namespace Go.Proofs.Ytiogbjbkfhhdhaa.G
open Go.Proofs.Ytiogbjbkfhhdhaa.K Go Go.RowKit Go.Proofs.YtiogbjbkfhhdhaaW.PrintWords Go.Proofs.YtiogbjbkfhhdhaaW.PrintLast Go.Proofs.YtiogbjbkfhhdhaaW.PrintMore Go.Proofs.Ytiogbjbkfhhdhaa.PlainC
set_option linter.unusedVariables false
set_option linter.unusedSimpArgs false
theorem filled_more {l : List Bool} (h : l.length % 8 ≠ 0) : filledOf (l ++ [false]) = filledOf l ∧ (8 - (l ++ [false]).length % 8) % 8 + 1 = (8 - l.length % 8) % 8 := by
  have hl : (l ++ [false]).length = l.length + 1 := by simp
  have e : (8 - (l ++ [false]).length % 8) % 8 + 1 = (8 - l.length % 8) % 8 := by rw [hl]; omega
  refine ⟨?_, e⟩
  unfold filledOf
  rw [← e, List.replicate_succ, List.append_assoc, List.singleton_append]
theorem filled_done {l : List Bool} (h : l.length % 8 = 0) : filledOf l = l := by
  unfold filledOf
  rw [show (8 - l.length % 8) % 8 = 0 by omega, List.replicate_zero, List.append_nil]
def RowPost (w : World) (R : List Bool) (e : Ending) (w' : World) : Prop := ∃ B d, e = .returned (.slice B R.length d) ∧ Own w w' [rb (.slice B R.length d) R]
set_option maxHeartbeats 8000000 in
set_option maxRecDepth 100000 in
theorem l5Bits_own {w : World} {A : Option Addr} {c : Nat} {l : List Bool} (hC : Kd.C Kd.bool w A l.length l) (hc : l.length ≤ c) {a n : Int} (h0 : 0 ≤ a) (h1 : 0 ≤ n) (h2 : a + n ≤ (l.length : Int)) (hl : l.length ≤ 1048576) :
    Calls Try.prog 35 #[.slice A l.length c, .int .i64 a, .int .i64 n] w (RowPost w (filledOf ((l.take (a + n).toNat).drop a.toNat))) := by
  obtain ⟨i0, hi, hz⟩ := Option.map_eq_some_iff.1 zinfoB
  simp only [Prod.mk.injEq] at hz
  obtain ⟨j, hj⟩ : ∃ j, a + n = j := ⟨_, rfl⟩
  have hjw : IntKind.i64.wrap (a + n) = j := (by rw [i64wrap, w64 (by omega) (by omega)]; omega)
  rw [hj] at h2 ⊢
  have h01 : a ≤ j := by omega
  have hcut := cut_mid (P := Try.prog) 22 4 .i64 .i64 Try.underlying22 hi 1 hz.2.1 A l.length c a j h0 h01 h2 hc
  have hCR := Kd.C_mid (lo := a.toNat) (hi := j.toNat) hC (by omega) (by omega) hc
  have hl2 : ((l.take j.toNat).drop a.toNat).length = j.toNat - a.toNat := by rw [List.length_drop, List.length_take]; omega
  have hR : ((l.take j.toNat).drop a.toNat).length ≤ 1048576 := by omega
  rw [← hl2] at hcut
  simp only [Kd.bool, Kd.scalar] at hCR
  generalize (if c = a.toNat then A else A.map (·.add (a.toNat * 1))) = AR at hcut hCR
  generalize c - a.toNat = cR at hcut
  generalize (l.take j.toNat).drop a.toNat = R at hcut hCR hR ⊢
  have HC := aM (show Kd.C Kd.bool w AR R.length R from hCR)
  have HR := aM hR
  have H := aM (Own.nil w)
  clear hi hz hj h0 h1 h2 h01 hl hl2 hCR hR hC hc
  go_enter Try.func35, Try.ntmps35
  go_wp2_with (first | ((with_reducible refine nD 8 ?_); refine litBL 8 [] H.out ?_; clear H; intro A1 c1 _ H) | ((with_reducible refine nD 15 ?_); refine apBL 0 15 H.out rfl (H.out.arg HC.out) ?_ (by have := HR.out; simp; omega) (List.nil_append R); clear H; intro A2 c2 _ H))
  go_loopg [7] ((8 - R.length % 8) % 8 + 1) (fun kq v7 w' => ∃ (B : Option Addr) (d : Nat) (ys : List Bool), v7 = .slice B ys.length d ∧ Aside0 (ys.length ≤ 1048584 - (8 - ys.length % 8) % 8 ∧ kq = (8 - ys.length % 8) % 8 + 1 ∧ filledOf ys = filledOf R) ∧ Aside0 (Own w w' [rb (.slice B ys.length d) ys]))
  case atStart => exact ⟨A2, c2, R, rfl, ⟨by have := HR.out; omega, rfl, rfl⟩, H⟩
  case round =>
    clear H
    obtain ⟨B, d, ys, rfl, HI, H⟩ := hrel
    have ht : Int.tmod (ys.length : Int) 8 = ((ys.length % 8 : Nat) : Int) := by rw [tmod_pos (by omega)]; omega
    by_cases hm : ys.length % 8 = 0
    · have d1 : ¬ ((ys.length % 8 : Nat) : Int) ≠ 0 := by omega
      have d2 : (((ys.length % 8 : Nat) : Int) != 0) = false := by simp [hm]
      have hf := aM ((filled_done hm).symm.trans HI.out.2.2)
      clear hm
      go_wp2
      go_ret
      rw [← hf.out]
      exact ⟨_, _, rfl, H.out⟩
    · have d2 : (((ys.length % 8 : Nat) : Int) != 0) = true := by simp; omega
      have hf := aM (filled_more hm)
      have HM := aM hm
      clear hm
      go_wp2_with (first | ((with_reducible refine nD 21 ?_); refine litBL 21 [false] H.out ?_; clear H; intro A3 c3 _ H) | ((with_reducible refine nD 22 ?_); refine apBL 1 22 H.out rfl (H.out.cb 0) ?_ (by have := HI.out; simp; omega) rfl; clear H; intro A4 c4 _ H))
      go_roundg (gk - 1)
      case measure => have := HI.out; omega
      case rel => exact ⟨A4, c4, ys ++ [false], by simp, ⟨by have := HI.out; have := hf.out.2; have := HM.out; simp only [List.length_append, List.length_singleton] at this ⊢; omega, by have := HI.out; have := hf.out.2; omega, hf.out.1.trans HI.out.2.2⟩, aM (H.out.tail 1)⟩
end Go.Proofs.Ytiogbjbkfhhdhaa.G
