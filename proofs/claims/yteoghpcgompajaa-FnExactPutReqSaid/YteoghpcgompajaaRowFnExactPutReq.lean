/- The row of the law FnExactPutReq, out of its pure statement and its walk. No condition. -/
import Derived.Test.YteoghpcgompajaaRows
import Derived.Test.YteoghpcgompajaaSFnExactPutReq
import Derived.Test.YteoghpcgompajaaPureFnExactPutReq
import Derived.WalkKit
import Derived.ProofKit
import Derived.OpenShut
import Derived.ShutString
import Derived.ChangeOld
import Derived.Below
import Derived.SizedLaws
namespace Go.Proofs.Yteoghpcgompajaa.fnExactPutReq
open Go.ChangeShapes Go.WideShapes Go.ChangeAt Go.RowKit Go.Proofs.Yteoghpcgompajaa.RowC
open Go.ChangeMaps (open_string shut_string)
set_option linter.unusedVariables false
theorem own : ownKnob Try.prog.godebug = none := by kernel_rfl
theorem laidOut : laidOutB Try.prog = true := by kernel_rfl
set_option maxRecDepth 100000 in
theorem lifted (os : Os) (started : os.Started) (H : Type) (enc : TypeId × Value → H) :
    ReturnsInHanded {} Try.checked os 4 .any (Rows.fnExactPutReqSpec.pre6 enc Try.prog Try.f4 Rows.fnExactPutReqRow.domain false) (Rows.fnExactPutReqSpec.post enc Try.prog Try.f4 false true false false) := by
  refine returnsInHanded_of_change_sized (C := Try.checked) own started (by kernel_rfl) Try.func4
    (ChangeSpec.witness6 (enc := enc) (C := Try.checked) false ⟨#[], #[.agg #[.int .i64 0, .int .i64 0, .int .i64 0, .slice none 0 0, .slice none 0 0, .int .i64 0]], []⟩ 8 (by kernel_rfl) (by kernel_rfl) (by kernel_rfl) (by kernel_rfl)) ?_
  intro W base args ds gs before hval0 hW hcnd hsz0 _
  have hval : ∀ (j : Nat) t v, Try.f4.params[j]? = some t → args[j]? = some v → Value.okWide Try.prog W .any base t v := hval0
  have hW' := hW
  obtain ⟨p, q, hA0, hV, rfl, hfz, hnd⟩ := hW
  have hA : DataW.TrodAll enc Try.prog W 0 (fun _ => true) true Try.f4.params.toList args.toList ds p := hA0
  rw [Try.params4] at hA hval
  obtain ⟨v0, vs0, d0, ds0, p0, q0, hargs, rfl, rfl, h0, r0⟩ := trodAll_cons hA
  obtain ⟨rfl, rfl, rfl⟩ := trodAll_nil r0
  obtain rfl : args = #[v0] := by cases args; simp_all
  obtain ⟨rfl, rfl⟩ := trodVars_none hV
  have k0 := h0
  have lt0 : ∀ x ∈ p0, x.block < W.heap.size := by obtain ⟨m, hm⟩ := k0; exact DataW.trod_lt m _ _ _ hm
  obtain ⟨cs0, rfl, sz0, n0, g0⟩ := in_agg Try.underlying25 (by kernel_rfl) (by kernel_rfl) (hval 0 25 v0 rfl rfl) h0
  obtain ⟨c0_0, c0_1, c0_2, c0_3, c0_4, c0_5, rfl⟩ := arr6 sz0
  obtain ⟨y0_0, g0_0⟩ := g0 0 _ c0_0 rfl rfl
  obtain ⟨a0_0, rfl, w0_0⟩ := in_int Try.underlying3 g0_0
  obtain ⟨y0_1, g0_1⟩ := g0 1 _ c0_1 rfl rfl
  obtain ⟨a0_1, rfl, w0_1⟩ := in_int Try.underlying3 g0_1
  obtain ⟨y0_2, g0_2⟩ := g0 2 _ c0_2 rfl rfl
  obtain ⟨a0_2, rfl, w0_2⟩ := in_int Try.underlying3 g0_2
  obtain ⟨y0_3, g0_3⟩ := g0 3 _ c0_3 rfl rfl
  obtain ⟨l0_3, i0_3⟩ := in_ints Try.underlying22 Try.underlying3 (by kernel_rfl) g0_3
  obtain ⟨y0_4, g0_4⟩ := g0 4 _ c0_4 rfl rfl
  obtain ⟨l0_4, i0_4⟩ := in_bools Try.underlying23 Try.underlying4 (by kernel_rfl) g0_4
  obtain ⟨y0_5, g0_5⟩ := g0 5 _ c0_5 rfl rfl
  obtain ⟨a0_5, rfl, w0_5⟩ := in_int Try.underlying3 g0_5
  clear hA0 hval0 hsz0
  refine (PFnExactPutReq.laws_FnExactPutReq.walk Pure.FnExactPutReq a0_0 a0_1 a0_2 _ l0_3 _ l0_4 a0_5 W w0_0 w0_1 w0_2 i0_3 i0_4 w0_5).mono fun e W' ⟨he, bel⟩ => ?_
  subst he
  exact ⟨_, rfl, _, _, _, [], _, [], hW', trodAll_mk1 (shut_bool Try.underlying4 _), (trodAll_cons_mk (Below.trod laidOut (by kernel_rfl) (of_decide_eq_true (by kernel_rfl)) k0 bel lt0) trodAll_mk0), rfl, bel.frame _, fun h => by cases h⟩
theorem over : Rows.fnExactPutReqRow.holds Try.pinned (OpenSpec.ofChange Rows.fnExactPutReqSpec) :=
  OpenClaim.holds_of_wide 4 Try.f4 rfl rfl rfl rfl rfl rfl rfl ⟨rfl, rfl, rfl, rfl, rfl⟩ rfl rfl rfl rfl rfl (by kernel_rfl) Try.func4 (by kernel_rfl)
    (of_decide_eq_true (by kernel_rfl)) (by unfold Func.isWrapper; first | (rw [if_pos (by decide +kernel)]; kernel_rfl) | (rw [if_neg (by decide +kernel)]; exact ⟨rfl, rfl⟩))
    (fun os started H enc _ => lifted os started H enc)
theorem proved : Rows.FnExactPutReqSaid := over
end Go.Proofs.Yteoghpcgompajaa.fnExactPutReq
namespace Go.Proofs.Yteoghpcgompajaa
/-- The row, under a short name, for the claim. -/
theorem fnExactPutReq_holds : Rows.FnExactPutReqSaid := fnExactPutReq.proved
end Go.Proofs.Yteoghpcgompajaa
