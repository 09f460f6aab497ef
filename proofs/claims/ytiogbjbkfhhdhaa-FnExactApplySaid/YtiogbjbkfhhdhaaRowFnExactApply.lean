/- The row of the law FnExactApply, out of its walk. No condition. -/
import Derived.Test.YtiogbjbkfhhdhaaRows
import Derived.Test.YtiogbjbkfhhdhaaXExactApply
import Derived.WalkKit
import Derived.ProofKit
import Derived.OpenShut
import Derived.ShutString
import Derived.ChangeOld
import Derived.Below
import Derived.SizedLaws
namespace Go.Proofs.Ytiogbjbkfhhdhaa.fnExactApply
open Go.ChangeShapes Go.WideShapes Go.ChangeAt Go.RowKit Go.Proofs.Ytiogbjbkfhhdhaa.RowC
open Go.ChangeMaps (open_string shut_string)
set_option linter.unusedVariables false
theorem own : ownKnob Try.prog.godebug = none := by kernel_rfl
theorem laidOut : laidOutB Try.prog = true := by kernel_rfl
set_option maxRecDepth 100000 in
theorem lifted (os : Os) (started : os.Started) (H : Type) (enc : TypeId × Value → H) :
    ReturnsInHanded {} Try.checked os 4 .any (Rows.fnExactApplySpec.pre6 enc Try.prog Try.f4 Rows.fnExactApplyRow.domain false) (Rows.fnExactApplySpec.post enc Try.prog Try.f4 false true false false) := by
  refine returnsInHanded_of_change_sized (C := Try.checked) own started (by kernel_rfl) Try.func4
    (ChangeSpec.witness6 (enc := enc) (C := Try.checked) false ⟨#[], #[.agg #[.slice none 0 0, .slice none 0 0, .slice none 0 0, .slice none 0 0], .slice none 0 0], []⟩ 8 (by kernel_rfl) (by kernel_rfl) (by kernel_rfl) (by kernel_rfl)) ?_
  intro W base args ds gs before hval0 hW hcnd hsz0 _
  have hval : ∀ (j : Nat) t v, Try.f4.params[j]? = some t → args[j]? = some v → Value.okWide Try.prog W .any base t v := hval0
  have hW' := hW
  obtain ⟨p, q, hA0, hV, rfl, hfz, hnd⟩ := hW
  have hA : DataW.TrodAll enc Try.prog W 0 (fun _ => true) true Try.f4.params.toList args.toList ds p := hA0
  rw [Try.params4] at hA hval
  obtain ⟨v0, vs0, d0, ds0, p0, q0, hargs, rfl, rfl, h0, r0⟩ := trodAll_cons hA
  obtain ⟨v1, vs1, d1, ds1, p1, q1, rfl, rfl, rfl, h1, r1⟩ := trodAll_cons r0
  obtain ⟨rfl, rfl, rfl⟩ := trodAll_nil r1
  obtain rfl : args = #[v0, v1] := by cases args; simp_all
  obtain ⟨rfl, rfl⟩ := trodVars_none hV
  have k0 := h0
  have lt0 : ∀ x ∈ p0, x.block < W.heap.size := by obtain ⟨m, hm⟩ := k0; exact DataW.trod_lt m _ _ _ hm
  obtain ⟨cs0, rfl, sz0, n0, g0⟩ := in_agg Try.underlying25 (by kernel_rfl) (by kernel_rfl) (hval 0 25 v0 rfl rfl) h0
  obtain ⟨c0_0, c0_1, c0_2, c0_3, rfl⟩ := arr4 sz0
  obtain ⟨y0_0, g0_0⟩ := g0 0 _ c0_0 rfl rfl
  obtain ⟨l0_0, i0_0⟩ := in_bools Try.underlying22 Try.underlying4 (by kernel_rfl) g0_0
  obtain ⟨y0_1, g0_1⟩ := g0 1 _ c0_1 rfl rfl
  obtain ⟨l0_1, i0_1⟩ := in_bools Try.underlying22 Try.underlying4 (by kernel_rfl) g0_1
  obtain ⟨y0_2, g0_2⟩ := g0 2 _ c0_2 rfl rfl
  obtain ⟨l0_2, i0_2⟩ := in_ints Try.underlying23 Try.underlying3 (by kernel_rfl) g0_2
  obtain ⟨y0_3, g0_3⟩ := g0 3 _ c0_3 rfl rfl
  obtain ⟨l0_3, i0_3⟩ := in_ints Try.underlying23 Try.underlying3 (by kernel_rfl) g0_3
  have k1 := h1
  have lt1 : ∀ x ∈ p1, x.block < W.heap.size := by obtain ⟨m, hm⟩ := k1; exact DataW.trod_lt m _ _ _ hm
  obtain ⟨aa1, ln1, cp1, rfl⟩ := okWide_slice Try.underlying45 (hval 1 45 v1 rfl rfl)
  obtain ⟨fu1, g1⟩ := h1
  obtain ⟨l1, i1⟩ := in_rows27 (show DataW.trod enc Try.prog W 0 (fun _ => true) true fu1 45 [.slice aa1 ln1 cp1] = some _ from g1)
  clear hA0 hval0 hsz0
  refine (XExactApply.walk _ l0_0 _ l0_1 _ l0_2 _ l0_3 _ l1 W i0_0 i0_1 i0_2 i0_3 i1).mono fun e W' ⟨he, bel⟩ => ?_
  subst he
  exact ⟨_, rfl, _, _, _, [], _, [], hW', trodAll_mk1 (shut_bool Try.underlying4 _), (trodAll_cons_mk (Below.trod laidOut (by kernel_rfl) (of_decide_eq_true (by kernel_rfl)) k0 bel lt0) (trodAll_cons_mk (Below.trod laidOut (by kernel_rfl) (of_decide_eq_true (by kernel_rfl)) k1 bel lt1) trodAll_mk0)), rfl, bel.frame _, fun h => by cases h⟩
theorem over : Rows.fnExactApplyRow.holds Try.pinned (OpenSpec.ofChange Rows.fnExactApplySpec) :=
  OpenClaim.holds_of_wide 4 Try.f4 rfl rfl rfl rfl rfl rfl rfl ⟨rfl, rfl, rfl, rfl, rfl⟩ rfl rfl rfl rfl rfl (by kernel_rfl) Try.func4 (by kernel_rfl)
    (of_decide_eq_true (by kernel_rfl)) (by unfold Func.isWrapper; first | (rw [if_pos (by decide +kernel)]; kernel_rfl) | (rw [if_neg (by decide +kernel)]; exact ⟨rfl, rfl⟩))
    (fun os started H enc _ => lifted os started H enc)
theorem proved : Rows.FnExactApplySaid := over
end Go.Proofs.Ytiogbjbkfhhdhaa.fnExactApply
namespace Go.Proofs.Ytiogbjbkfhhdhaa
/-- The row, under a short name, for the claim. -/
theorem fnExactApply_holds : Rows.FnExactApplySaid := fnExactApply.proved
end Go.Proofs.Ytiogbjbkfhhdhaa
