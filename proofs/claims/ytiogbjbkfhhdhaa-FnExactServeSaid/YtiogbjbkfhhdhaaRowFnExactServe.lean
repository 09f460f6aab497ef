/- The row of the law FnExactServe, out of its walk. No condition. -/
import Derived.Test.YtiogbjbkfhhdhaaRows
import Derived.Test.YtiogbjbkfhhdhaaXExactServe
import Derived.WalkKit
import Derived.ProofKit
import Derived.OpenShut
import Derived.ShutString
import Derived.ChangeOld
import Derived.Below
import Derived.SizedLaws
namespace Go.Proofs.Ytiogbjbkfhhdhaa.fnExactServe
open Go.ChangeShapes Go.WideShapes Go.ChangeAt Go.RowKit Go.Proofs.Ytiogbjbkfhhdhaa.RowC
open Go.ChangeMaps (open_string shut_string)
set_option linter.unusedVariables false
theorem own : ownKnob Try.prog.godebug = none := by kernel_rfl
theorem laidOut : laidOutB Try.prog = true := by kernel_rfl
set_option maxRecDepth 100000 in
theorem lifted (os : Os) (started : os.Started) (H : Type) (enc : TypeId × Value → H) :
    ReturnsInHanded {} Try.checked os 3 .any (Rows.fnExactServeSpec.pre6 enc Try.prog Try.f3 Rows.fnExactServeRow.domain false) (Rows.fnExactServeSpec.post enc Try.prog Try.f3 false true false false) := by
  refine returnsInHanded_of_change_sized (C := Try.checked) own started (by kernel_rfl) Try.func3
    (ChangeSpec.witness6 (enc := enc) (C := Try.checked) false ⟨#[], #[.agg #[.slice none 0 0, .slice none 0 0, .slice none 0 0, .slice none 0 0], .agg #[.int .i64 0, .int .i64 0, .int .i64 0, .slice none 0 0, .slice none 0 0, .int .i64 0]], []⟩ 8 (by kernel_rfl) (by kernel_rfl) (by kernel_rfl) (by kernel_rfl)) ?_
  intro W base args ds gs before hval0 hW hcnd hsz0 _
  have hval : ∀ (j : Nat) t v, Try.f3.params[j]? = some t → args[j]? = some v → Value.okWide Try.prog W .any base t v := hval0
  have hW' := hW
  obtain ⟨p, q, hA0, hV, rfl, hfz, hnd⟩ := hW
  have hA : DataW.TrodAll enc Try.prog W 0 (fun _ => true) true Try.f3.params.toList args.toList ds p := hA0
  rw [Try.params3] at hA hval
  obtain ⟨v0, vs0, d0, ds0, p0, q0, hargs, rfl, rfl, h0, r0⟩ := trodAll_cons hA
  obtain ⟨v1, vs1, d1, ds1, p1, q1, rfl, rfl, rfl, h1, r1⟩ := trodAll_cons r0
  obtain ⟨rfl, rfl, rfl⟩ := trodAll_nil r1
  obtain rfl : args = #[v0, v1] := by cases args; simp_all
  obtain ⟨rfl, rfl⟩ := trodVars_none hV
  have k0 := h0
  have lt0 : ∀ x ∈ p0, x.block < W.heap.size := by obtain ⟨m, hm⟩ := k0; exact DataW.trod_lt m _ _ _ hm
  obtain ⟨cs0, rfl, sz0, n0, g0⟩ := in_agg Try.underlying25 (by kernel_rfl) (by kernel_rfl) (hval 0 25 v0 rfl rfl) h0
  obtain ⟨c0_0, c0_1, c0_2, c0_3, rfl⟩ := arr4 sz0
  obtain ⟨y0_0, g0_0⟩ := g0 0 _ c0_0 rfl rfl
  obtain ⟨l0_0, i0_0⟩ := in_bools Try.underlying22 Try.underlying4 (by kernel_rfl) g0_0
  obtain ⟨y0_1, g0_1⟩ := g0 1 _ c0_1 rfl rfl
  obtain ⟨l0_1, i0_1⟩ := in_bools Try.underlying22 Try.underlying4 (by kernel_rfl) g0_1
  obtain ⟨y0_2, g0_2⟩ := g0 2 _ c0_2 rfl rfl
  obtain ⟨l0_2, i0_2⟩ := in_ints Try.underlying23 Try.underlying3 (by kernel_rfl) g0_2
  obtain ⟨y0_3, g0_3⟩ := g0 3 _ c0_3 rfl rfl
  obtain ⟨l0_3, i0_3⟩ := in_ints Try.underlying23 Try.underlying3 (by kernel_rfl) g0_3
  have k1 := h1
  have lt1 : ∀ x ∈ p1, x.block < W.heap.size := by obtain ⟨m, hm⟩ := k1; exact DataW.trod_lt m _ _ _ hm
  obtain ⟨cs1, rfl, sz1, n1, g1⟩ := in_agg Try.underlying27 (by kernel_rfl) (by kernel_rfl) (hval 1 27 v1 rfl rfl) h1
  obtain ⟨c1_0, c1_1, c1_2, c1_3, c1_4, c1_5, rfl⟩ := arr6 sz1
  obtain ⟨y1_0, g1_0⟩ := g1 0 _ c1_0 rfl rfl
  obtain ⟨a1_0, rfl, w1_0⟩ := in_int Try.underlying3 g1_0
  obtain ⟨y1_1, g1_1⟩ := g1 1 _ c1_1 rfl rfl
  obtain ⟨a1_1, rfl, w1_1⟩ := in_int Try.underlying3 g1_1
  obtain ⟨y1_2, g1_2⟩ := g1 2 _ c1_2 rfl rfl
  obtain ⟨a1_2, rfl, w1_2⟩ := in_int Try.underlying3 g1_2
  obtain ⟨y1_3, g1_3⟩ := g1 3 _ c1_3 rfl rfl
  obtain ⟨l1_3, i1_3⟩ := in_ints Try.underlying23 Try.underlying3 (by kernel_rfl) g1_3
  obtain ⟨y1_4, g1_4⟩ := g1 4 _ c1_4 rfl rfl
  obtain ⟨l1_4, i1_4⟩ := in_bools Try.underlying22 Try.underlying4 (by kernel_rfl) g1_4
  obtain ⟨y1_5, g1_5⟩ := g1 5 _ c1_5 rfl rfl
  obtain ⟨a1_5, rfl, w1_5⟩ := in_int Try.underlying3 g1_5
  clear hA0 hval0 hsz0
  refine (XExactServe.walk _ l0_0 _ l0_1 _ l0_2 _ l0_3 a1_0 a1_1 a1_2 _ l1_3 _ l1_4 a1_5 W i0_0 i0_1 i0_2 i0_3 w1_0 w1_1 w1_2 i1_3 i1_4 w1_5).mono fun e W' ⟨he, bel⟩ => ?_
  subst he
  exact ⟨_, rfl, _, _, _, [], _, [], hW', trodAll_mk1 (shut_bool Try.underlying4 _), (trodAll_cons_mk (Below.trod laidOut (by kernel_rfl) (of_decide_eq_true (by kernel_rfl)) k0 bel lt0) (trodAll_cons_mk (Below.trod laidOut (by kernel_rfl) (of_decide_eq_true (by kernel_rfl)) k1 bel lt1) trodAll_mk0)), rfl, bel.frame _, fun h => by cases h⟩
theorem over : Rows.fnExactServeRow.holds Try.pinned (OpenSpec.ofChange Rows.fnExactServeSpec) :=
  OpenClaim.holds_of_wide 3 Try.f3 rfl rfl rfl rfl rfl rfl rfl ⟨rfl, rfl, rfl, rfl, rfl⟩ rfl rfl rfl rfl rfl (by kernel_rfl) Try.func3 (by kernel_rfl)
    (of_decide_eq_true (by kernel_rfl)) (by unfold Func.isWrapper; first | (rw [if_pos (by decide +kernel)]; kernel_rfl) | (rw [if_neg (by decide +kernel)]; exact ⟨rfl, rfl⟩))
    (fun os started H enc _ => lifted os started H enc)
theorem proved : Rows.FnExactServeSaid := over
end Go.Proofs.Ytiogbjbkfhhdhaa.fnExactServe
namespace Go.Proofs.Ytiogbjbkfhhdhaa
/-- The row, under a short name, for the claim. -/
theorem fnExactServe_holds : Rows.FnExactServeSaid := fnExactServe.proved
end Go.Proofs.Ytiogbjbkfhhdhaa
