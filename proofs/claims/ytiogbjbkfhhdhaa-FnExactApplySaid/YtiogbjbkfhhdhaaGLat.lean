/- Steps of regions whose order is open, for lattices of states. No condition. -/
import Derived.Test.YtiogbjbkfhhdhaaGOwn
namespace Go.Proofs.Ytiogbjbkfhhdhaa.G
open Go.Proofs.Ytiogbjbkfhhdhaa.K Go Go.RowKit Go.Proofs.YtiogbjbkfhhdhaaW.PrintWords Go.Proofs.YtiogbjbkfhhdhaaW.PrintLast Go.Proofs.YtiogbjbkfhhdhaaW.PrintMore
set_option linter.unusedVariables false
set_option linter.unusedSimpArgs false
section
variable {P : Program} {ops : Array Oper} {Q : Exit → Act → World → Prop} {o : Oper} {a : Act} {w0 w : World} {L : List It} {md : Region.Mode} {S : World → Prop} {ds : List Nat} {fuel : Nat} {l : Array Bool}
theorem gen2_ (h : ∀ (G : Nat → Array Bool → Act → World → Prop) (a0 : Act), a0 = a → G = wpAnyLast P md ops Q S ds → G fuel l a0 w) : wpAnyLast P md ops Q S ds fuel l a w := h _ _ rfl rfl
theorem nmL {rest : List Oper} {a' : Act} (h : wpList P ops Q rest a' w) (ha : a = a' := by simp only [Act.put, List.setIfInBounds_toArray, List.set_cons_zero, List.set_cons_succ, i64_w, i32_w]; rfl) : wpList P ops Q rest a w := ha ▸ h
theorem genL_ {p : Prop} (H : Aside0 (Own w0 w L)) (h : ∀ Lb, Lb = L → Aside0 (Own w0 w Lb) → p) : p := h L rfl H
theorem eqA {G : Nat → Array Bool → Act → World → Prop} {n : Nat} {a' : Act} (h : G n l a w) (e : a' = a := by simp only [Act.put, List.setIfInBounds_toArray, List.set_cons_zero, List.set_cons_succ]) : G n l a' w := e ▸ h
/-- A variable is made: one step of a region. -/
theorem alR {K : Act → World → Prop} (N : Tmp) (cs : Array Value) (t : Nat) (H : Own w0 w L) (h : ∀ g w1, Aside0 (Own w0 w1 (bx g cs t :: L)) → K (a.put (some N) (.pointer (some ⟨g, 0, none⟩))) w1) (hd : o.dst = some N := by rfl) (hw : Region.wanted o (yielded ops a.tmps) = true := by rfl)
    (hrun : (execOp a.eval o).run P w = .ok (.value (.pointer (some ⟨w.heap.size, 0, none⟩))) (w.alloc (.cells cs t (0, 0))) := by first | (go_simp; done) | (go_simp; rfl)) : if Region.wanted o (yielded ops a.tmps) = true then Oper.wp P o a w K Q else K (a.put (some N) undef) w := by
  rw [← hd]
  refine event_step hw hrun ?_
  rw [hd]
  exact h _ _ (aM (H.box rfl (blk_new w _) (below_alloc (Below.refl _ _) _)))
end
end Go.Proofs.Ytiogbjbkfhhdhaa.G
