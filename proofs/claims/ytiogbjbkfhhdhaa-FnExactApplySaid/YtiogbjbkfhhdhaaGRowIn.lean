/- A row of questions that came in. No condition. -/
import Derived.Test.YtiogbjbkfhhdhaaGStru
import Derived.Test.YtiogbjbkfhhdhaaR
namespace Go.Proofs.Ytiogbjbkfhhdhaa.RowC
open Go Go.ChangeShapes Go.WideShapes Go.ChangeAt Go.RowKit Go.Joins Go.Deep Go.Proofs.YtiogbjbkfhhdhaaW.PrintWords Go.Proofs.Ytiogbjbkfhhdhaa.G
set_option linter.unusedVariables false
def InRows27 (w : World) (v : Value) (l : List S27) : Prop := ∃ A c, v = .slice A l.length c ∧ l.length ≤ c ∧ Kd.C k27 w A l.length l ∧ l.length ≤ maxLen
instance : Inhabited S27 := ⟨z27⟩
theorem in_rows27 {H : Type} {enc : TypeId × Value → H} {w : World} {base : Nat} {held : Bool} {fuel : Nat} {v : Value} {y : DataW H × List MemPlace} (h : DataW.trod enc Try.prog w base (fun _ => true) held fuel 45 [v] = some y) : ∃ l, InRows27 w v l := by
  have h6 : Try.prog.cellsOf 27 = 6 := by kernel_rfl
  have hI : Try.prog.cellsOf 3 = 1 := by kernel_rfl
  have hB : Try.prog.cellsOf 4 = 1 := by kernel_rfl
  have hSI : Try.prog.cellsOf 23 = 1 := by kernel_rfl
  have hSB : Try.prog.cellsOf 22 = 1 := by kernel_rfl
  rcases DataW.trod_slice Try.underlying45 h with ⟨hcs, _⟩ | ⟨a, len, cap, elems, rest, n, rfl, hcs, _, hb, hl, hm, hlen, hel, _, _⟩
  · simp at hcs
    exact ⟨[], none, 0, hcs, Nat.le_refl _, ⟨rfl, by decide, fun h => absurd h (by decide)⟩, Nat.zero_le _⟩
  · simp at hcs
    have each : ∀ i, i < len → ∃ x : S27, ∃ cl : List Value, k27.K w x cl ∧ ∀ m u, cl[m]? = some u → w.cell? (a.add (i * 6 + m)) = some u := fun i hi => by
      have h1 := hel i hi
      rw [List.getElem?_eq_getElem (by omega)] at h1
      obtain ⟨cl, hc, ht⟩ := Option.bind_eq_some_iff.1 h1
      rw [h6] at hc
      have hcell := World.cells?_some hc
      obtain ⟨xs, n2, _, _, hl6, hlx, hg⟩ := DataW.trod_struct Try.underlying27 ht
      rw [h6] at hl6
      have each6 : ∀ m, m < 6 → ∃ z, xs[m]? = some z := fun m hm6 => ⟨xs[m]'(by rw [hlx]; exact hm6), List.getElem?_eq_getElem _⟩
      match cl, hl6 with
      | [c0, c1, c2, c3, c4, c5], _ =>
        obtain ⟨z0, e0⟩ := each6 0 (by decide)
        obtain ⟨z1, e1⟩ := each6 1 (by decide)
        obtain ⟨z2, e2⟩ := each6 2 (by decide)
        obtain ⟨z3, e3⟩ := each6 3 (by decide)
        obtain ⟨z4, e4⟩ := each6 4 (by decide)
        obtain ⟨z5, e5⟩ := each6 5 (by decide)
        have g0 : DataW.trod enc Try.prog w base (fun _ => true) held n2 3 [c0] = some z0 := by
          have h_ : DataW.trod enc Try.prog w base (fun _ => true) held n2 3 (([c0, c1, c2, c3, c4, c5].drop 0).take (Try.prog.cellsOf 3)) = some z0 := (hg 0 _ rfl).trans e0
          rw [hI] at h_
          exact h_
        have g1 : DataW.trod enc Try.prog w base (fun _ => true) held n2 3 [c1] = some z1 := by
          have h_ : DataW.trod enc Try.prog w base (fun _ => true) held n2 3 (([c0, c1, c2, c3, c4, c5].drop 1).take (Try.prog.cellsOf 3)) = some z1 := (hg 1 _ rfl).trans e1
          rw [hI] at h_
          exact h_
        have g2 : DataW.trod enc Try.prog w base (fun _ => true) held n2 3 [c2] = some z2 := by
          have h_ : DataW.trod enc Try.prog w base (fun _ => true) held n2 3 (([c0, c1, c2, c3, c4, c5].drop 2).take (Try.prog.cellsOf 3)) = some z2 := (hg 2 _ rfl).trans e2
          rw [hI] at h_
          exact h_
        have g3 : DataW.trod enc Try.prog w base (fun _ => true) held n2 23 [c3] = some z3 := by
          have h_ : DataW.trod enc Try.prog w base (fun _ => true) held n2 23 (([c0, c1, c2, c3, c4, c5].drop 3).take (Try.prog.cellsOf 23)) = some z3 := (hg 3 _ rfl).trans e3
          rw [hSI] at h_
          exact h_
        have g4 : DataW.trod enc Try.prog w base (fun _ => true) held n2 22 [c4] = some z4 := by
          have h_ : DataW.trod enc Try.prog w base (fun _ => true) held n2 22 (([c0, c1, c2, c3, c4, c5].drop 4).take (Try.prog.cellsOf 22)) = some z4 := (hg 4 _ rfl).trans e4
          rw [hSB] at h_
          exact h_
        have g5 : DataW.trod enc Try.prog w base (fun _ => true) held n2 3 [c5] = some z5 := by
          have h_ : DataW.trod enc Try.prog w base (fun _ => true) held n2 3 (([c0, c1, c2, c3, c4, c5].drop 5).take (Try.prog.cellsOf 3)) = some z5 := (hg 5 _ rfl).trans e5
          rw [hI] at h_
          exact h_
        obtain ⟨k, rfl, _⟩ := in_int Try.underlying3 g0
        obtain ⟨a_, rfl, _⟩ := in_int Try.underlying3 g1
        obtain ⟨n_, rfl, _⟩ := in_int Try.underlying3 g2
        obtain ⟨ws, A3, d3, rfl, l3, r3, _, _⟩ := in_ints Try.underlying23 Try.underlying3 hI g3
        obtain ⟨bs, A4, d4, rfl, l4, r4, _⟩ := in_bools Try.underlying22 Try.underlying4 hB g4
        obtain ⟨wat, rfl, _⟩ := in_int Try.underlying3 g5
        refine ⟨⟨k, a_, n_, ws, bs, wat⟩, _, k27_mk w (⟨k, a_, n_, ws, bs, wat⟩ : S27) l3 r3 l4 r4, fun m u hu => ?_⟩
        have hm6 : m < 6 := (List.getElem?_eq_some_iff.1 hu).1
        have hx := hcell.2.2 m hm6
        rw [hu] at hx
        have hadd : (a.add (i * 6)).add m = a.add (i * 6 + m) := by rw [Addr.add_add]
        rw [hadd] at hx
        exact hx
    obtain ⟨B, hBB⟩ := choose_lt (α := S27) (p := fun i x => ∃ cl : List Value, k27.K w x cl ∧ ∀ m u, cl[m]? = some u → w.cell? (a.add (i * 6 + m)) = some u) each
    have e1 : ((List.range len).map B).length = len := by simp
    refine ⟨(List.range len).map B, some a, cap, by rw [hcs, e1], by omega, ?_, by omega⟩
    refine ⟨rfl, by unfold maxLen at hm; omega, fun _ => ⟨a, rfl, fun j p hp => ?_⟩⟩
    have hj : j < len := by have := (List.getElem?_eq_some_iff.1 hp).1; omega
    rw [List.getElem?_map, List.getElem?_range hj, Option.map_some] at hp
    obtain rfl := Option.some.inj hp
    obtain ⟨cl, hK, hcl⟩ := hBB j hj
    exact ⟨cl, k27.K_len hK, hK, hcl⟩
end Go.Proofs.Ytiogbjbkfhhdhaa.RowC
