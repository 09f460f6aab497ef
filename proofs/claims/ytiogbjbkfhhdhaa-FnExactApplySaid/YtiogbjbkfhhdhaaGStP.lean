/- Writes into rows of structs that are told by their block. No condition. -/
import Derived.Test.YtiogbjbkfhhdhaaGFlat
namespace Go.Proofs.Ytiogbjbkfhhdhaa.G
open Go.Proofs.Ytiogbjbkfhhdhaa.K Go Go.RowKit Go.Proofs.YtiogbjbkfhhdhaaW.PrintWords Go.Proofs.YtiogbjbkfhhdhaaW.PrintLast Go.Proofs.YtiogbjbkfhhdhaaW.PrintMore
set_option linter.unusedVariables false
set_option linter.unusedSimpArgs false
section
variable {ops : Array Oper} {Q : Exit → Act → World → Prop} {o : Oper} {a : Act} {w0 w : World} {L : List It} {rest : List Oper} {hp : Nat → Option Obj} {F : Nat → Prop} {q e n : Nat} {cs : Array Value} {f : Nat → Nat → Value}
/-- A block, its cells told, among what is one's own. -/
def PB (hp : Nat → Option Obj) (F : Nat → Prop) (q e n : Nat) (f : Nat → Nat → Value) : Prop := F q ∧ ∃ cs, hp q = some (.cells cs e (0, 0)) ∧ FL cs n f
theorem PB.cell (h : PB hp F q e n f) (H : Own w0 w L) {r : Nat} (hr : L[r]? = some (pf hp F)) {j m : Nat} (hj : j < n) (hm : m < 6) : w.cell? ⟨q, j * 6 + m, none⟩ = some (f j m) ∧ w.frozen? ⟨q, j * 6 + m, none⟩ = false := by
  obtain ⟨hF, cs, hc, hfl⟩ := h
  have hb : w.heap[q]? = some (.cells cs e (0, 0)) := (H.get r hr q hF).trans hc
  exact ⟨(blk_cell hb _).trans (hfl j hj m hm), blk_frozen hb _⟩
/-- One cell is written. -/
theorem Own.putP (H : Own w0 w L) (r : Nat) (hr : L[r]? = some (pf hp F)) (h : PB hp F q e n f) (i m : Nat) (hi : i < n) (hm : m < 6) (u : Value) : ∃ hp1, Own w0 (w.setCell ⟨q, i * 6 + m, none⟩ u) (L.set r (pf hp1 F)) ∧ PB hp1 F q e n (fun j k => if j = i ∧ k = m then u else f j k) := by
  obtain ⟨hF, cs, hc, hfl⟩ := h
  exact ⟨_, H.setPf r hr hF hc (i * 6 + m) u, hF, _, if_pos rfl, hfl.set i m hi hm u⟩
/-- .. as a step. -/
theorem stP1 (r i m : Nat) (u : Value) (H : Own w0 w L) (hr : L[r]? = some (pf hp F)) (hP : PB hp F q e n f) (hi : i < n) (hm : m < 6) (h : ∀ w1 hp1, Aside0 (Own w0 w1 (L.set r (pf hp1 F))) → Aside0 (PB hp1 F q e n (fun j k => if j = i ∧ k = m then u else f j k)) → wpList Try.prog ops Q rest (a.put none undef) w1) (hN : o.dst = none := by rfl) (hg : o.guard = none := by rfl)
    (hrun : ∀ v, w.cell? ⟨q, i * 6 + m, none⟩ = some v → w.frozen? ⟨q, i * 6 + m, none⟩ = false → (execOp a.eval o).run Try.prog w = .ok .skip (w.setCell ⟨q, i * 6 + m, none⟩ u) := by (intro v z y; (try simp only [Nat.add_zero] at z y); go_simp)) : wpList Try.prog ops Q (o :: rest) a w := by
  have hcell := hP.cell H hr hi hm
  obtain ⟨hp1, h1, h2⟩ := H.putP r hr hP i m hi hm u
  refine wpList_plain hg fun K hK => ?_
  unfold Oper.wp
  rw [hrun _ hcell.1 hcell.2]
  show K (a.put o.dst undef) _
  rw [hN]
  exact hK _ _ (h _ hp1 (aM h1) (aM h2))
/-- A whole element is written. -/
theorem stP6 (r i : Nat) (u0 u1 u2 u3 u4 u5 : Value) (H : Own w0 w L) (hr : L[r]? = some (pf hp F)) (hP : PB hp F q e n f) (hi : i < n) (h : ∀ w1 hp1 f1, Aside0 (Own w0 w1 (L.set r (pf hp1 F))) → Aside0 (PB hp1 F q e n f1 ∧ (∀ m, f1 i m = if m = 5 then u5 else if m = 4 then u4 else if m = 3 then u3 else if m = 2 then u2 else if m = 1 then u1 else if m = 0 then u0 else f i m) ∧ ∀ j m, j ≠ i → f1 j m = f j m) → wpList Try.prog ops Q rest (a.put none undef) w1) (hN : o.dst = none := by rfl) (hg : o.guard = none := by rfl)
    (hrun : ∀ v0 v1 v2 v3 v4 v5, w.cell? ⟨q, i * 6, none⟩ = some v0 → w.frozen? ⟨q, i * 6, none⟩ = false → w.cell? ⟨q, i * 6 + 1, none⟩ = some v1 → w.frozen? ⟨q, i * 6 + 1, none⟩ = false → w.cell? ⟨q, i * 6 + 2, none⟩ = some v2 → w.frozen? ⟨q, i * 6 + 2, none⟩ = false → w.cell? ⟨q, i * 6 + 3, none⟩ = some v3 → w.frozen? ⟨q, i * 6 + 3, none⟩ = false → w.cell? ⟨q, i * 6 + 4, none⟩ = some v4 → w.frozen? ⟨q, i * 6 + 4, none⟩ = false → w.cell? ⟨q, i * 6 + 5, none⟩ = some v5 → w.frozen? ⟨q, i * 6 + 5, none⟩ = false →
      (execOp a.eval o).run Try.prog w = .ok .skip ((((((w.setCell ⟨q, i * 6, none⟩ u0).setCell ⟨q, i * 6 + 1, none⟩ u1).setCell ⟨q, i * 6 + 2, none⟩ u2).setCell ⟨q, i * 6 + 3, none⟩ u3).setCell ⟨q, i * 6 + 4, none⟩ u4).setCell ⟨q, i * 6 + 5, none⟩ u5) := by (intro v0 v1 v2 v3 v4 v5 y0 z0 y1 z1 y2 z2 y3 z3 y4 z4 y5 z5; go_simp)) : wpList Try.prog ops Q (o :: rest) a w := by
  have c := fun m (hm : m < 6) => hP.cell H hr hi hm
  have c0 := c 0 (by decide)
  rw [Nat.add_zero] at c0
  obtain ⟨p1, h1, P1⟩ := H.putP r hr hP i 0 hi (by decide) u0
  have g : ∀ {L : List It} {x : It}, L[r]? = some x → ∀ y, (L.set r y)[r]? = some y := fun hx y => gS hx y
  obtain ⟨p2, h2, P2⟩ := h1.putP r (g hr _) P1 i 1 hi (by decide) u1
  rw [List.set_set] at h2
  obtain ⟨p3, h3, P3⟩ := h2.putP r (g hr _) P2 i 2 hi (by decide) u2
  rw [List.set_set] at h3
  obtain ⟨p4, h4, P4⟩ := h3.putP r (g hr _) P3 i 3 hi (by decide) u3
  rw [List.set_set] at h4
  obtain ⟨p5, h5, P5⟩ := h4.putP r (g hr _) P4 i 4 hi (by decide) u4
  rw [List.set_set] at h5
  obtain ⟨p6, h6, P6⟩ := h5.putP r (g hr _) P5 i 5 hi (by decide) u5
  rw [List.set_set] at h6
  refine wpList_plain hg fun K hK => ?_
  unfold Oper.wp
  rw [hrun _ _ _ _ _ _ c0.1 c0.2 (c 1 (by decide)).1 (c 1 (by decide)).2 (c 2 (by decide)).1 (c 2 (by decide)).2 (c 3 (by decide)).1 (c 3 (by decide)).2 (c 4 (by decide)).1 (c 4 (by decide)).2 (c 5 (by decide)).1 (c 5 (by decide)).2]
  show K (a.put o.dst undef) _
  rw [hN]
  refine hK _ _ (h _ p6 _ (aM h6) (aM ⟨P6, fun m => ?_, fun j m hj => ?_⟩))
  · simp
  · simp [hj]
end
end Go.Proofs.Ytiogbjbkfhhdhaa.G
