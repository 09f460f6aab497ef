/- Things told as one and apart again; rows of structs told by their block. No condition. -/
import Derived.Test.YtiogbjbkfhhdhaaGRowT
namespace Go.Proofs.Ytiogbjbkfhhdhaa.G
open Go.Proofs.Ytiogbjbkfhhdhaa.K Go Go.RowKit Go.Proofs.YtiogbjbkfhhdhaaW.PrintWords Go.Proofs.YtiogbjbkfhhdhaaW.PrintLast Go.Proofs.YtiogbjbkfhhdhaaW.PrintMore
set_option linter.unusedVariables false
set_option linter.unusedSimpArgs false
/-- Several things, as one. -/
def grp (N : List It) : It := ⟨fun w => ∀ x, x ∈ N → x.P w, fun k => ∃ x, x ∈ N ∧ x.F k, fun w w' h hf x hx => x.loc w w' (h x hx) (fun k hk => hf k ⟨x, hx, hk⟩)⟩
def Apart (N : List It) : Prop := N.Pairwise (fun x y => ∀ k, x.F k → ¬ y.F k)
/-- Blocks, as they are. -/
def pf (hp : Nat → Option Obj) (F : Nat → Prop) : It := ⟨fun w => ∀ k, F k → w.heap[k]? = hp k, F, fun w w' h hf k hk => (hf k hk).trans (h k hk)⟩
section
variable {w0 w w1 : World} {L N : List It} {x y : It}
theorem own_iff : Own w0 w L ↔ Below w0.heap.size w0 w ∧ (∀ x, x ∈ L → x.P w ∧ ∀ k, x.F k → w0.heap.size ≤ k ∧ k < w.heap.size) ∧ Apart L := by
  constructor
  · intro H
    refine ⟨H.below, fun x hx => ?_, ?_⟩
    · obtain ⟨i, hi⟩ := List.getElem?_of_mem hx
      exact H.all i x hi
    · exact List.pairwise_iff_getElem.2 (fun i j hi hj hij => H.apart i j _ _ (List.getElem?_eq_getElem hi) (List.getElem?_eq_getElem hj) (by omega))
  · rintro ⟨h1, h2, h3⟩
    refine ⟨h1, fun i x hi => h2 x (List.mem_of_getElem? hi), fun i j x y hi hj hij k a b => ?_⟩
    have hp := List.pairwise_iff_getElem.1 h3
    obtain ⟨li, rfl⟩ := List.getElem?_eq_some_iff.1 hi
    obtain ⟨lj, rfl⟩ := List.getElem?_eq_some_iff.1 hj
    rcases Nat.lt_or_gt_of_ne hij with h | h
    · exact hp i j li lj h k a b
    · exact hp j i lj li h k b a
theorem Own.group (H : Own w0 w (N ++ L)) : Own w0 w (grp N :: L) := by
  obtain ⟨h1, h2, h3⟩ := own_iff.1 H
  obtain ⟨p1, p2, p3⟩ := List.pairwise_append.1 h3
  refine own_iff.2 ⟨h1, fun x hx => ?_, List.pairwise_cons.2 ⟨fun b hb k hk => ?_, p2⟩⟩
  · rcases List.mem_cons.1 hx with rfl | hx
    · exact ⟨fun y hy => (h2 y (List.mem_append_left _ hy)).1, fun k hk => by obtain ⟨y, hy, hk⟩ := hk; exact (h2 y (List.mem_append_left _ hy)).2 k hk⟩
    · exact h2 x (List.mem_append_right _ hx)
  · obtain ⟨y, hy, hk⟩ := hk
    exact p3 y hy b hb k hk
theorem Own.ungroup (H : Own w0 w (grp N :: L)) (hN : Apart N) : Own w0 w (N ++ L) := by
  obtain ⟨h1, h2, h3⟩ := own_iff.1 H
  obtain ⟨p1, p2⟩ := List.pairwise_cons.1 h3
  have hg := h2 (grp N) (List.mem_cons_self ..)
  refine own_iff.2 ⟨h1, fun x hx => ?_, List.pairwise_append.2 ⟨hN, p2, fun a ha b hb k hk => p1 b hb k ⟨a, ha, hk⟩⟩⟩
  rcases List.mem_append.1 hx with hx | hx
  · exact ⟨hg.1 x hx, fun k hk => hg.2 k ⟨x, hx, hk⟩⟩
  · exact h2 x (List.mem_cons_of_mem _ hx)
theorem Own.apartL (H : Own w0 w (N ++ L)) : Apart N := (List.pairwise_append.1 (own_iff.1 H).2.2).1
/-- A thing is taken out of its place. -/
theorem Own.takeOut (H : Own w0 w L) (i : Nat) (hi : L[i]? = some x) : Own w0 w (x :: L.set i (grp [])) := by
  have il := (List.getElem?_eq_some_iff.1 hi).1
  have key : ∀ (j : Nat) (z : It), (L.set i (grp []))[j]? = some z → (j ≠ i ∧ L[j]? = some z) ∨ (∀ k, ¬ z.F k) ∧ z.P w := fun j z hz => by
    by_cases h : i = j
    · subst h
      rw [List.getElem?_set_self il] at hz
      obtain rfl := Option.some.inj hz
      exact .inr ⟨fun k hk => (by obtain ⟨y, hy, _⟩ := hk; cases hy), fun y hy => (by cases hy)⟩
    · rw [List.getElem?_set_ne h] at hz
      exact .inl ⟨fun e => h e.symm, hz⟩
  refine ⟨H.below, fun j z hz => ?_, fun j m z z' hz hz' hjm k hk hk' => ?_⟩
  · cases j with
    | zero => obtain rfl : x = z := by simpa using hz
              exact H.all i x hi
    | succ j =>
      rcases key j z (by simpa using hz) with ⟨_, h⟩ | ⟨h, h'⟩
      · exact H.all j z h
      · exact ⟨h', fun k hk => (h k hk).elim⟩
  · cases j with
    | zero =>
      obtain rfl : x = z := by simpa using hz
      cases m with
      | zero => exact hjm rfl
      | succ m =>
        rcases key m z' (by simpa using hz') with ⟨hn, h⟩ | ⟨h, _⟩
        · exact H.apart i m _ _ hi h (fun e => hn e.symm) k hk hk'
        · exact h k hk'
    | succ j =>
      rcases key j z (by simpa using hz) with ⟨hn, h⟩ | ⟨h, _⟩
      · cases m with
        | zero =>
          obtain rfl : x = z' := by simpa using hz'
          exact H.apart j i _ _ h hi hn k hk hk'
        | succ m =>
          rcases key m z' (by simpa using hz') with ⟨_, h'⟩ | ⟨h', _⟩
          · exact H.apart j m _ _ h h' (by omega) k hk hk'
          · exact h' k hk'
      · exact h k hk
/-- What is told otherwise: blocks as they are. -/
theorem Own.toPf (H : Own w0 w L) (i : Nat) (hi : L[i]? = some x) : Own w0 w (L.set i (pf (fun k => w.heap[k]?) x.F)) := H.conv i (pf (fun k => w.heap[k]?) x.F) hi rfl (fun _ _ => rfl)
/-- A cell of a block is written. -/
theorem Own.setPf (H : Own w0 w L) (i : Nat) {hp : Nat → Option Obj} {F : Nat → Prop} (hi : L[i]? = some (pf hp F)) {q e : Nat} {cs : Array Value} (hq : F q) (hc : hp q = some (.cells cs e (0, 0))) (m : Nat) (u : Value) :
    Own w0 (w.setCell ⟨q, m, none⟩ u) (L.set i (pf (fun k => if k = q then some (.cells (cs.setIfInBounds m u) e (0, 0)) else hp k) F)) := by
  have hP : ∀ k, F k → w.heap[k]? = hp k := H.get i hi
  have hb : w.heap[q]? = some (.cells cs e (0, 0)) := (hP q hq).trans hc
  refine H.upd i _ _ (S := fun k => k = q) hi rfl (fun k hk => ?_) ⟨by simp [World.setCell], fun k _ hn => Below.heap_setCell w ⟨q, m, none⟩ u k hn⟩ (fun k hk => hk ▸ hq) (H.below.setCell ((H.all i _ hi).2 q hq).1 _)
  show _ = if k = q then some (Obj.cells (cs.setIfInBounds m u) e (0, 0)) else hp k
  by_cases h : k = q
  · subst h
    rw [if_pos rfl, setCell_eq_setRow w k m cs e (0, 0) u hb]
    exact setRow_heap w k cs _ e (0, 0) hb
  · rw [if_neg h, Below.heap_setCell w ⟨q, m, none⟩ u k h]
    exact hP k hk
end
theorem add0 (q n : Nat) : (⟨q, 0, none⟩ : Addr).add n = ⟨q, n, none⟩ := by
  unfold Addr.add
  by_cases h : n = 0 <;> simp [h]
/-- Of n structs of six cells each, cell m of number j is f j m. -/
def FL (cs : Array Value) (n : Nat) (f : Nat → Nat → Value) : Prop := ∀ j, j < n → ∀ m, m < 6 → cs[j * 6 + m]? = some (f j m)
theorem FL.set {cs : Array Value} {n : Nat} {f : Nat → Nat → Value} (h : FL cs n f) (i m : Nat) (hi : i < n) (hm : m < 6) (u : Value) : FL (cs.setIfInBounds (i * 6 + m) u) n (fun j k => if j = i ∧ k = m then u else f j k) := fun j hj k hk => by
  have hin : i * 6 + m < cs.size := (Array.getElem?_eq_some_iff.1 (h i hi m hm)).1
  by_cases he : j = i ∧ k = m
  · obtain ⟨rfl, rfl⟩ := he
    simp [Array.getElem?_setIfInBounds, hin]
  · have hne : i * 6 + m ≠ j * 6 + k := fun e => he ⟨by omega, by omega⟩
    show _ = some (if j = i ∧ k = m then u else f j k)
    rw [if_neg he, Array.getElem?_setIfInBounds_ne hne]
    exact h j hj k hk
theorem FL.mono {cs : Array Value} {n : Nat} {f g : Nat → Nat → Value} (h : FL cs n f) (e : ∀ j, j < n → ∀ m, m < 6 → f j m = g j m) : FL cs n g := fun j hj m hm => by rw [← e j hj m hm]; exact h j hj m hm
/-- A row of n structs stands in the blocks F as hp tells. -/
def RowAt (A : Option Addr) (n e : Nat) (hp : Nat → Option Obj) (F : Nat → Prop) (f : Nat → Nat → Value) : Prop := n = 0 ∨ ∃ q cs, A = some ⟨q, 0, none⟩ ∧ F q ∧ hp q = some (.cells cs e (0, 0)) ∧ FL cs n f
/-- Elements told by their cells. -/
def kc {α : Type} (c : α → List Value) (h6 : ∀ x, (c x).length = 6) (h1 : ∀ x, ∀ u ∈ c x, u.oneCell' = true) : Kd α where
  sz := 6
  E := []
  K := fun _ x cs => cs = c x
  M := fun _ _ _ x cs => cs = c x
  K_len := fun h => h ▸ h6 _
  K_one := fun h => h ▸ h1 _
  K_below := fun _ h => h
  K_of_M := fun h => h
  M_mono := fun _ h => h
  M_bound := fun h => h
  M_move := fun _ h => h
  M_lower := fun _ h => h
theorem rowAt_kc {α : Type} {c : α → List Value} {h6 : ∀ x, (c x).length = 6} {h1 : ∀ x, ∀ u ∈ c x, u.oneCell' = true} {w : World} {e n cp : Nat} {A : Option Addr} {xs : List α} {F : Nat → Prop} (h : Kd.R (kc c h6 h1) e w 0 F (.slice A n cp) xs) (z : α) : RowAt A n e (fun k => w.heap[k]?) F (fun j m => ((c (xs.getD j z))[m]?).getD undef) := by
  have hn := (Kd.R_reads' h).1
  by_cases h0 : n = 0
  · exact .inl h0
  · obtain ⟨q, cap, hv, _, _, cs, hcs⟩ := Kd.R_form h (by omega)
    injection hv with hA _ _
    subst hA
    refine .inr ⟨q, cs, rfl, h.1 q rfl, hcs, fun j hj m hm => ?_⟩
    obtain ⟨ad, cl, e_, _, hK, hc⟩ := Kd.C_get (Kd.R_reads' h).2.2 z (j : Int) (by omega) (by omega)
    obtain rfl := Option.some.inj e_
    have hK' : cl = c (xs.getD j z) := by
      have h := (show cl = c _ from hK)
      simpa using h
    have hm' : m < (c (xs.getD j z)).length := by rw [h6]; exact hm
    have := hc m _ (by rw [hK']; exact List.getElem?_eq_getElem hm')
    rw [add0, show (j : Int).toNat * (kc c h6 h1).sz + m = j * 6 + m from by rw [Int.toNat_natCast]; rfl] at this
    show cs[j * 6 + m]? = some (((c (xs.getD j z))[m]?).getD undef)
    rw [List.getElem?_eq_getElem hm', Option.getD_some]
    exact ((blk_cell hcs _).symm.trans this)
end Go.Proofs.Ytiogbjbkfhhdhaa.G
