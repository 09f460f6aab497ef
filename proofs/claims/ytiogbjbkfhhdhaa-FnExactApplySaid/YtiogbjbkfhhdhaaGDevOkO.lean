/- spec.DeviceOk, told by what it computes. Condition: no row is longer than a machine's memory. -/
import Derived.Test.YtiogbjbkfhhdhaaGSpecO
namespace Go.Proofs.Ytiogbjbkfhhdhaa.G
open Go.Proofs.Ytiogbjbkfhhdhaa.K Go Go.RowKit Go.Proofs.YtiogbjbkfhhdhaaW.PrintWords Go.Proofs.YtiogbjbkfhhdhaaW.PrintLast Go.Proofs.YtiogbjbkfhhdhaaW.PrintMore Go.Proofs.Ytiogbjbkfhhdhaa.PlainC
set_option linter.unusedVariables false
set_option linter.unusedSimpArgs false
theorem spec_DeviceOk_ev (a b : List Bool) (c d : List Int) (hc : c.length ≤ 1048576) (hd : d.length ≤ 1048576) : Ev (fun k => spec_DeviceOk.f k a b c d) (deviceOkB a b c d) := by
  have q : ∀ n : Nat, ((n : Int) ≤ 64) = (n ≤ 64) := fun n => propext ⟨fun h => by omega, fun h => by omega⟩
  simp only [spec_DeviceOk.f, q, deviceOkB]
  by_cases h1 : a.length ≤ 64
  · by_cases h2 : b.length ≤ 64
    · by_cases h3 : c.length ≤ 64
      · by_cases h4 : d.length ≤ 64
        · simp only [h1, h2, h3, h4, if_true, decide_true, Bool.true_and]
          refine evBind (l3Words_ev c hc) ?_
          by_cases h5 : c.all wordB = true
          · simp only [h5, if_true, Bool.true_and]
            exact evBind (l3Words_ev d hd) (Ev.now _)
          · have h6 : c.all wordB = false := by simpa using h5
            simp only [h6, Bool.false_eq_true, if_false, Bool.false_and]
            exact Ev.now _
        · simp only [h1, h2, h3, h4, if_true, if_false, decide_true, decide_false, Bool.true_and, Bool.false_and]; exact Ev.now _
      · simp only [h1, h2, h3, if_true, if_false, decide_true, decide_false, Bool.true_and, Bool.false_and]; exact Ev.now _
    · simp only [h1, h2, if_true, if_false, decide_true, decide_false, Bool.true_and, Bool.false_and]; exact Ev.now _
  · simp only [h1, if_false, decide_false, Bool.false_and]; exact Ev.now _
theorem specDevOk_own {w : World} {Aa0 Aa1 Aa2 Aa3 : Option Addr} {ca0 ca1 ca2 ca3 : Nat} {la0 la1 : List Bool} {la2 la3 : List Int} (ha0 : Kd.C Kd.bool w Aa0 la0.length la0) (ka0 : la0.length ≤ ca0) (ha1 : Kd.C Kd.bool w Aa1 la1.length la1) (ka1 : la1.length ≤ ca1) (ha2 : Kd.C (Kd.int .i64) w Aa2 la2.length la2) (ka2 : la2.length ≤ ca2) (ha3 : Kd.C (Kd.int .i64) w Aa3 la3.length la3) (ka3 : la3.length ≤ ca3) (m2 : la2.length ≤ 1048576) (m3 : la3.length ≤ 1048576) : Calls Try.prog 31 #[.agg #[.slice Aa0 la0.length ca0, .slice Aa1 la1.length ca1, .slice Aa2 la2.length ca2, .slice Aa3 la3.length ca3]] w fun e w' => e = .returned (.bool (deviceOkB la0 la1 la2 la3)) ∧ Below w.heap.size w w' := by
  obtain ⟨r, hr⟩ := Ev.rounds (spec_DeviceOk_ev la0 la1 la2 la3 m2 m3)
  exact spec_DeviceOk.calls r _ _ _ _ _ _ _ _ _ _ _ _ _ w ha0 ka0 ha1 ka1 ha2 ka2 ha3 ka3 hr
end Go.Proofs.Ytiogbjbkfhhdhaa.G
