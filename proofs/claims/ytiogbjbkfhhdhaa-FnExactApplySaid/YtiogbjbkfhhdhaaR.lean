/- How a law's arguments are read: rows of whole numbers and of bools, structs of such, rows of such structs. No condition. -/
import Derived.Test.YtiogbjbkfhhdhaaWMore
import Derived.WalkKit
import Derived.ProofKit
import Derived.OpenShut
import Derived.ShutString
import Derived.ChangeOld
import Derived.Below
import Derived.SizedLaws
import Derived.Deep.Grids
import Derived.Lib.SmallJoins
namespace Go.Proofs.Ytiogbjbkfhhdhaa.RowC
open Go Go.ChangeShapes Go.WideShapes Go.ChangeAt Go.RowKit Go.Joins Go.Deep Go.Proofs.YtiogbjbkfhhdhaaW.PrintWords
set_option linter.unusedVariables false

section
variable {H : Type} {enc : TypeId × Value → H} {P : Program} {w : World} {base : Nat} {held : Bool}

/-- A row of whole numbers that came in. -/
def InInts (k : IntKind) (w : World) (v : Value) (l : List Int) : Prop :=
  ∃ A c, v = .slice A l.length c ∧ l.length ≤ c ∧ Kd.C (Kd.int k) w A l.length l ∧ l.length ≤ maxLen ∧ ∀ x ∈ l, (Lit.int k x).wf = true
def InBools (w : World) (v : Value) (l : List Bool) : Prop :=
  ∃ A c, v = .slice A l.length c ∧ l.length ≤ c ∧ Kd.C Kd.bool w A l.length l ∧ l.length ≤ maxLen

theorem in_ints {t e : TypeId} {k : IntKind} {fuel : Nat} {v : Value} {y : DataW H × List MemPlace} (ht : P.underlying t = some (.slice e)) (he : P.underlying e = some (.int k)) (hc : P.cellsOf e = 1)
    (h : DataW.trod enc P w base (fun _ => true) held fuel t [v] = some y) : ∃ l, InInts k w v l := by
  rcases open_ints ht he hc h with ⟨hcs, _⟩ | ⟨x, len, cap, zs, hcs, _, hl, hm, hz, _, hcell, hwz⟩
  · simp at hcs
    obtain ⟨l, e1, hr, hm, hw, hcp⟩ := ReadsInt.ofRowC (k := k) (w := w) (a := none) (len := 0) (cap := 0) (zs := []) (.inl ⟨rfl, rfl, rfl, rfl⟩)
    rw [← e1] at hr hm hcp
    refine ⟨l, none, 0, by rw [hcs, ← e1], by omega, ?_, by omega, hw⟩
    rw [← e1]
    exact Kd.C_of_reads (d := (0 : Int)) (h1 := fun _ => rfl) hr
  · simp at hcs
    obtain ⟨l, e1, hr, hm2, hw, hcp⟩ := ReadsInt.ofRowC (k := k) (w := w) (a := some x) (len := len) (cap := cap) (zs := zs) (.inr ⟨x, rfl, hl, hm, by simpa using hz, hcell, hwz⟩)
    refine ⟨l, some x, cap, by rw [hcs, e1], hcp, Kd.C_of_reads (d := (0 : Int)) (h1 := fun _ => rfl) hr, hm2, hw⟩

theorem in_bools {t e : TypeId} {fuel : Nat} {v : Value} {y : DataW H × List MemPlace} (ht : P.underlying t = some (.slice e)) (he : P.underlying e = some .bool) (hc : P.cellsOf e = 1)
    (h : DataW.trod enc P w base (fun _ => true) held fuel t [v] = some y) : ∃ l, InBools w v l := by
  rcases open_bools ht he hc h with ⟨hcs, _⟩ | ⟨x, len, cap, B, hcs, _, hl, hm, _, hcell⟩
  · simp at hcs
    exact ⟨[], none, 0, hcs, Nat.le_refl _, Kd.C_of_reads (d := false) (h1 := fun _ => rfl) ⟨rfl, by decide, fun h => absurd h (by decide)⟩, Nat.zero_le _⟩
  · simp at hcs
    have e1 : ((List.range len).map B).length = len := by simp
    refine ⟨(List.range len).map B, some x, cap, by rw [hcs, e1], by omega, ?_, by omega⟩
    rw [e1]
    refine Kd.C_of_reads (d := false) (h1 := fun _ => rfl) ⟨e1, by unfold maxLen at hm; omega, fun _ => ⟨x, rfl, fun j hj => ?_⟩⟩
    rw [hcell j (by omega), List.getD_eq_getElem?_getD, List.getElem?_map, List.getElem?_range hj]
    rfl

theorem in_int {t : TypeId} {k : IntKind} {fuel : Nat} {v : Value} {y : DataW H × List MemPlace} {sp : Nat → Bool} (ht : P.underlying t = some (.int k)) (h : DataW.trod enc P w base sp held fuel t [v] = some y) : ∃ n, v = .int k n ∧ (Lit.int k n).wf = true := by
  obtain ⟨n, hcs, _, hw⟩ := DataW.trod_int ht h
  simp at hcs
  exact ⟨n, hcs, hw⟩
theorem in_bool {t : TypeId} {fuel : Nat} {v : Value} {y : DataW H × List MemPlace} {sp : Nat → Bool} (ht : P.underlying t = some .bool) (h : DataW.trod enc P w base sp held fuel t [v] = some y) : ∃ b, v = .bool b := by
  obtain ⟨b, hcs, _⟩ := DataW.trod_bool ht h
  simp at hcs
  exact ⟨b, hcs⟩

theorem arr1 {α : Type} {cs : Array α} (h : cs.size = 1) : ∃ c0, cs = #[c0] := by
  obtain ⟨l⟩ := cs
  match l, h with
  | [c0], _ => exact ⟨c0, rfl⟩
theorem arr4 {α : Type} {cs : Array α} (h : cs.size = 4) : ∃ c0 c1 c2 c3, cs = #[c0, c1, c2, c3] := by
  obtain ⟨l⟩ := cs
  match l, h with
  | [c0, c1, c2, c3], _ => exact ⟨c0, c1, c2, c3, rfl⟩
theorem arr5 {α : Type} {cs : Array α} (h : cs.size = 5) : ∃ c0 c1 c2 c3 c4, cs = #[c0, c1, c2, c3, c4] := by
  obtain ⟨l⟩ := cs
  match l, h with
  | [c0, c1, c2, c3, c4], _ => exact ⟨c0, c1, c2, c3, c4, rfl⟩
theorem arr6 {α : Type} {cs : Array α} (h : cs.size = 6) : ∃ c0 c1 c2 c3 c4 c5, cs = #[c0, c1, c2, c3, c4, c5] := by
  obtain ⟨l⟩ := cs
  match l, h with
  | [c0, c1, c2, c3, c4, c5], _ => exact ⟨c0, c1, c2, c3, c4, c5, rfl⟩

/-- A struct of one-cell fields: its fields, each with its reading. -/
theorem in_agg {r : Reach} {b0 : Nat} {t : TypeId} {fs : Array Field} {v : Value} {d : DataW H} {p : List MemPlace} {sp : Nat → Bool} (hs : P.underlying t = some (.struct fs)) (hone : oneCellFields P fs = true) (hC : P.cellsOf t = fs.size)
    (hv : Value.okWide P w r b0 t v) (h : DataW.Trod enc P w base sp held t v d p) :
    ∃ cs : Array Value, v = .agg cs ∧ cs.size = fs.size ∧ ∃ n, ∀ (i : Nat) (f : Field) (c : Value), fs[i]? = some f → cs[i]? = some c → ∃ y, DataW.trod enc P w base sp held n f.type [c] = some y := by
  obtain ⟨cs, rfl, hsz⟩ := okWide_struct hs hv
  obtain ⟨fuel, hf⟩ := h
  obtain ⟨xs, n, _, hx, hl, hlen, hg⟩ := DataW.trod_struct hs hf
  refine ⟨cs, rfl, hsz.trans hC, n, fun i f c hfi hci => ?_⟩
  obtain ⟨o, k⟩ := hone_of hone i f hfi
  have hi : i < fs.size := (Array.getElem?_eq_some_iff.1 hfi).1
  have hy := hg i f hfi
  have hc1 : (cs.toList.drop i).take 1 = [c] := by
    have hci' : cs.toList[i]? = some c := by rw [Array.getElem?_toList]; exact hci
    obtain ⟨hlt, he⟩ := List.getElem?_eq_some_iff.1 hci'
    rw [List.drop_eq_getElem_cons hlt, List.take_succ_cons, List.take_zero, he]
  obtain ⟨y, hy2⟩ : ∃ y, xs[i]? = some y := ⟨xs[i]'(by rw [hlen]; exact hi), List.getElem?_eq_getElem _⟩
  refine ⟨y, ?_⟩
  rw [← hy2, ← hy, o, k]
  rw [show (Value.agg cs).cells.toList = cs.toList from rfl, hc1]
end
end Go.Proofs.Ytiogbjbkfhhdhaa.RowC
