/- What a call holds of the heap as its own, blocks and rows, told as one list; steps of walks over it. No condition. -/
import Derived.Test.YtiogbjbkfhhdhaaL
import Derived.Test.YtiogbjbkfhhdhaaWKept
import Derived.Test.YtiogbjbkfhhdhaaWApart
import Derived.Test.YtiogbjbkfhhdhaaWGuard
import Derived.Test.YtiogbjbkfhhdhaaWMore
import Derived.Test.YtiogbjbkfhhdhaaProg
import Derived.Test.YtiogbjbkfhhdhaaWRepsOne
import Derived.Test.YtiogbjbkfhhdhaaWTab
import Derived.Below
import Derived.Deep.Draws
import Derived.Deep.AppendLies
import Derived.Maps.AppendAt
import Derived.OwnWalk
import Derived.Laws.BytesArg
import Derived.Laws.MakeOwn
import Derived.Laws.OwnMore
import Derived.Deep.OwnRows
import Derived.Tactics
import Derived.Lib.ConvBytes
import Derived.Laws.Slices
import Derived.WalkKit
import Derived.KernelRfl
import Derived.RowKit3
import Derived.Deep.LoopGhost
import Derived.Deep.QuietTactic
import Derived.BigQuiet
import Derived.WideLaws
import Derived.Deep.DeepCutAuto
import Derived.Deep.CutBlock
import Derived.Deep.RegionHeld3
import Derived.Lib.AppendStr
import Derived.ArgAppend
import Derived.Laws.IdiomCopy
import Derived.OrdersHeld
import Derived.Laws.BitsLemmas
import Derived.RowKit
import Derived.WalkSpells
import Derived.Laws.CopyOwn
import Derived.Laws.Rows
import Derived.Laws.Tables
namespace Go.Proofs.Ytiogbjbkfhhdhaa.G
open Go.Proofs.Ytiogbjbkfhhdhaa.K Go Go.RowKit Go.Proofs.YtiogbjbkfhhdhaaW.PrintWords Go.Proofs.YtiogbjbkfhhdhaaW.PrintLast Go.Proofs.YtiogbjbkfhhdhaaW.PrintMore
set_option linter.unusedVariables false
set_option linter.unusedSimpArgs false

/-- Something that is one's own: what is told of it, and the blocks that bear it. -/
structure It where
  P : World → Prop
  F : Nat → Prop
  loc : ∀ w w' : World, P w → (∀ k, F k → w'.heap[k]? = w.heap[k]?) → P w'
/-- A block. -/
def bx (g : Nat) (cs : Array Value) (t : Nat) : It := ⟨fun w => w.heap[g]? = some (.cells cs t (0, 0)), fun k => k = g, fun _ _ h hf => (hf g rfl).trans h⟩
/-- A row of flags. -/
def rb (v : Value) (xs : List Bool) : It := ⟨fun w => Kd.R Kd.bool 4 w 0 (fun k => some k = v.ownBlock) v xs, fun k => some k = v.ownBlock, fun _ _ h hf => Kd.R_step h (fun k ho _ => hf k ho)⟩
/-- A row of numbers. -/
def ri (v : Value) (xs : List Int) : It := ⟨fun w => Kd.R (Kd.int .i64) 3 w 0 (fun k => some k = v.ownBlock) v xs, fun k => some k = v.ownBlock, fun _ _ h hf => Kd.R_step h (fun k ho _ => hf k ho)⟩

structure Own (w0 w : World) (L : List It) : Prop where
  below : Below w0.heap.size w0 w
  all : ∀ (i : Nat) (x : It), L[i]? = some x → x.P w ∧ ∀ k, x.F k → w0.heap.size ≤ k ∧ k < w.heap.size
  apart : ∀ (i j : Nat) (x y : It), L[i]? = some x → L[j]? = some y → i ≠ j → ∀ k, x.F k → ¬ y.F k
section
variable {w0 w w1 : World} {L : List It} {x y : It} {g t i : Nat} {cs cs' : Array Value}
theorem Own.nil (w : World) : Own w w [] := ⟨Below.refl _ _, fun i x h => by simp at h, fun i j x y h => by simp at h⟩
theorem Own.get (H : Own w0 w L) (i : Nat) (hi : L[i]? = some x := by rfl) : x.P w := (H.all i x hi).1
theorem Own.b (H : Own w0 w L) (i : Nat) (hi : L[i]? = some (bx g cs t) := by rfl) : w.heap[g]? = some (.cells cs t (0, 0)) := (H.all i _ hi).1
theorem Own.step (H : Own w0 w L) (hb : Below w.heap.size w w1) : Own w0 w1 L :=
  ⟨below_step H.below hb, fun i x h => ⟨x.loc w w1 (H.all i x h).1 (fun k hk => hb.block k ((H.all i x h).2 k hk).2), fun k hk => ⟨((H.all i x h).2 k hk).1, Nat.lt_of_lt_of_le ((H.all i x h).2 k hk).2 hb.size⟩⟩, H.apart⟩
theorem Own.drew (H : Own w0 w L) : Own w0 w.drew L := H.step (below_drew1 (Below.refl _ _))
/-- What has just been made is one's own, too. -/
theorem Own.cons (H : Own w0 w L) (hb : Below w.heap.size w w1) (hx : x.P w1) (hF : ∀ k, x.F k → w.heap.size ≤ k ∧ k < w1.heap.size) : Own w0 w1 (x :: L) := by
  have H1 := H.step hb
  refine ⟨H1.below, fun i z hz => ?_, fun i j a b ha hb' hij => ?_⟩
  · cases i with
    | zero => obtain rfl : x = z := by simpa using hz
              exact ⟨hx, fun k hk => ⟨Nat.le_trans H.below.size (hF k hk).1, (hF k hk).2⟩⟩
    | succ i => exact H1.all i z (by simpa using hz)
  · cases i with
    | zero =>
      obtain rfl : x = a := by simpa using ha
      cases j with
      | zero => exact absurd rfl hij
      | succ j => exact fun k hk hk' => by have := ((H.all j b (by simpa using hb')).2 k hk').2; have := (hF k hk).1; omega
    | succ i =>
      cases j with
      | zero =>
        obtain rfl : x = b := by simpa using hb'
        exact fun k hk hk' => by have := ((H.all i a (by simpa using ha)).2 k hk).2; have := (hF k hk').1; omega
      | succ j => exact H.apart i j a b (by simpa using ha) (by simpa using hb') (by omega)
/-- The order of the list is of no matter. -/
theorem Own.perm (H : Own w0 w L) {L' : List It} (h : L.Perm L') : Own w0 w L' := by
  have hp : L.Pairwise (fun x y => ∀ k, x.F k → ¬ y.F k) := List.pairwise_iff_getElem.2 (fun i j hi hj hij => H.apart i j _ _ (List.getElem?_eq_getElem hi) (List.getElem?_eq_getElem hj) (by omega))
  have hp' := List.pairwise_iff_getElem.1 ((h.pairwise_iff (fun {x y} hxy => fun k hy hx => hxy k hx hy)).1 hp)
  refine ⟨H.below, fun i x hx => ?_, fun i j x y hx hy hij k hk hk' => ?_⟩
  · obtain ⟨j, hj⟩ := List.getElem?_of_mem (h.symm.subset (List.mem_of_getElem? hx))
    exact H.all j x hj
  · obtain ⟨hi, rfl⟩ := List.getElem?_eq_some_iff.1 hx
    obtain ⟨hj, rfl⟩ := List.getElem?_eq_some_iff.1 hy
    rcases Nat.lt_or_gt_of_ne hij with h1 | h1
    · exact hp' i j hi hj h1 k hk hk'
    · exact hp' j i hj hi h1 k hk' hk
theorem Own.ins (H : Own w0 w (x :: L)) (i : Nat) (hi : i ≤ L.length := by simp) : Own w0 w (L.insertIdx i x) := H.perm (List.perm_insertIdx x L hi).symm
/-- One more thing that was made between w and w1: apart from what is new. -/
theorem Own.add (H : Own w0 w L) {X : List It} (H1 : Own w0 w1 (X ++ L)) (hx : x.P w1) (hF : ∀ k, x.F k → w.heap.size ≤ k ∧ k < w1.heap.size) (ha : ∀ y, y ∈ X → ∀ k, x.F k → ¬ y.F k) : Own w0 w1 (x :: (X ++ L)) := by
  have old : ∀ (n : Nat) y, (X ++ L)[n]? = some y → ∀ k, x.F k → ¬ y.F k := fun n y hy k hk hk' => by
    by_cases hn : n < X.length
    · rw [List.getElem?_append_left hn] at hy
      exact ha y (List.mem_of_getElem? hy) k hk hk'
    · rw [List.getElem?_append_right (by omega)] at hy
      have := ((H.all _ y hy).2 k hk').2
      have := (hF k hk).1
      omega
  refine ⟨H1.below, fun i z hz => ?_, fun i j a b ha' hb' hij => ?_⟩
  · cases i with
    | zero => obtain rfl : x = z := by simpa using hz
              exact ⟨hx, fun k hk => ⟨Nat.le_trans H.below.size (hF k hk).1, (hF k hk).2⟩⟩
    | succ i => exact H1.all i z (by simpa using hz)
  · cases i with
    | zero =>
      obtain rfl : x = a := by simpa using ha'
      cases j with
      | zero => exact absurd rfl hij
      | succ j => exact old j b (by simpa using hb')
    | succ i =>
      cases j with
      | zero =>
        obtain rfl : x = b := by simpa using hb'
        exact fun k hk hk' => old i a (by simpa using ha') k hk' hk
      | succ j => exact H1.apart i j a b (by simpa using ha') (by simpa using hb') (by omega)
/-- What a call has made and hands back is one's own, too. -/
theorem Own.app (H : Own w0 w L) {X : List It} (H' : Own w w1 X) : Own w0 w1 (X ++ L) := by
  have H1 := H.step H'.below
  refine ⟨H1.below, fun i z hz => ?_, fun i j a b ha hb hij => ?_⟩
  · by_cases hn : i < X.length
    · rw [List.getElem?_append_left hn] at hz
      exact ⟨(H'.all i z hz).1, fun k hk => ⟨Nat.le_trans H.below.size ((H'.all i z hz).2 k hk).1, ((H'.all i z hz).2 k hk).2⟩⟩
    · rw [List.getElem?_append_right (by omega)] at hz
      exact H1.all _ z hz
  · by_cases hi : i < X.length <;> by_cases hj : j < X.length
    · rw [List.getElem?_append_left hi] at ha
      rw [List.getElem?_append_left hj] at hb
      exact H'.apart i j a b ha hb hij
    · rw [List.getElem?_append_left hi] at ha
      rw [List.getElem?_append_right (by omega)] at hb
      exact fun k hk hk' => by have := ((H'.all _ a ha).2 k hk).1; have := ((H.all _ b hb).2 k hk').2; omega
    · rw [List.getElem?_append_right (by omega)] at ha
      rw [List.getElem?_append_left hj] at hb
      exact fun k hk hk' => by have := ((H'.all _ b hb).2 k hk').1; have := ((H.all _ a ha).2 k hk).2; omega
    · rw [List.getElem?_append_right (by omega)] at ha hb
      exact H.apart _ _ a b ha hb (by omega)
theorem Own.drawn (H : Own w0 w L) (h : Drawn0 w w1) : Own w0 w1 L := by
  obtain ⟨n, rfl⟩ := h
  exact H.step (pw_below_drewN (Below.refl _ _) n)
/-- A part of what is one's own. -/
theorem Own.sub (H : Own w0 w L) {L' : List It} (h : L'.Sublist L) : Own w0 w L' := by
  have hp : L.Pairwise (fun x y => ∀ k, x.F k → ¬ y.F k) := List.pairwise_iff_getElem.2 (fun i j hi hj hij => H.apart i j _ _ (List.getElem?_eq_getElem hi) (List.getElem?_eq_getElem hj) (by omega))
  have hp' := List.pairwise_iff_getElem.1 (hp.sublist h)
  refine ⟨H.below, fun i x hx => ?_, fun i j x y hx hy hij k hk hk' => ?_⟩
  · obtain ⟨j, hj⟩ := List.getElem?_of_mem (h.subset (List.mem_of_getElem? hx))
    exact H.all j x hj
  · obtain ⟨hi, rfl⟩ := List.getElem?_eq_some_iff.1 hx
    obtain ⟨hj, rfl⟩ := List.getElem?_eq_some_iff.1 hy
    rcases Nat.lt_or_gt_of_ne hij with h1 | h1
    · exact hp' i j hi hj h1 k hk hk'
    · exact hp' j i hj hi h1 k hk' hk
theorem Own.box (H : Own w0 w L) (hg : g = w.heap.size) (hb : w1.heap[g]? = some (.cells cs t (0, 0))) (hB : Below w.heap.size w w1) : Own w0 w1 (bx g cs t :: L) :=
  H.cons hB hb (fun k hk => by have : k = g := hk; subst this; exact ⟨by omega, blk_lt hb⟩)
/-- Some of what is one's own has been written: that of U. -/
theorem Own.turn (H : Own w0 w L) {S : Nat → Prop} (hk : Kept w w1 S) (hb : Below w0.heap.size w0 w1) (L' : List It) (hl : ∀ (i : Nat) (x : It), L'[i]? = some x → (∃ y, L[i]? = some y ∧ ∀ k, x.F k → y.F k) ∧ (x.P w1 ∨ (L[i]? = some x ∧ ∀ k, x.F k → ¬ S k))) : Own w0 w1 L' := by
  refine ⟨hb, fun i x hx => ?_, fun i j x y hx hy hij k => ?_⟩
  · obtain ⟨⟨y, hy, hF⟩, h2⟩ := hl i x hx
    have hB : ∀ k, x.F k → w0.heap.size ≤ k ∧ k < w.heap.size := fun k hk => (H.all i y hy).2 k (hF k hk)
    refine ⟨?_, fun k hk' => ⟨(hB k hk').1, Nat.lt_of_lt_of_le (hB k hk').2 hk.1⟩⟩
    rcases h2 with h2 | ⟨h2, h3⟩
    · exact h2
    · exact x.loc w w1 (H.all i x h2).1 (fun k hx' => hk.2 k (hB k hx').2 (h3 k hx'))
  · obtain ⟨⟨x', hx', hF⟩, _⟩ := hl i x hx
    obtain ⟨⟨y', hy', hG⟩, _⟩ := hl j y hy
    exact fun a b => H.apart i j x' y' hx' hy' hij k (hF k a) (hG k b)
/-- One thing has been written. -/
theorem Own.upd (H : Own w0 w L) (i : Nat) (x y : It) {S : Nat → Prop} (hi : L[i]? = some x) (hF : y.F = x.F) (hy : y.P w1) (hk : Kept w w1 S) (hS : ∀ k, S k → x.F k) (hb : Below w0.heap.size w0 w1) : Own w0 w1 (L.set i y) := by
  refine H.turn hk hb _ (fun j z hz => ?_)
  by_cases hij : i = j
  · subst hij
    have hlt : i < L.length := (List.getElem?_eq_some_iff.1 hi).1
    rw [List.getElem?_set_self hlt] at hz
    obtain rfl := Option.some.inj hz
    exact ⟨⟨x, hi, fun k hk => hF ▸ hk⟩, .inl hy⟩
  · rw [List.getElem?_set_ne hij] at hz
    exact ⟨⟨z, hz, fun _ hk => hk⟩, .inr ⟨hz, fun k hk' hs => H.apart i j x z hi hz hij k (hS k hs) hk'⟩⟩
/-- The same thing, told otherwise. -/
theorem Own.conv (H : Own w0 w L) (i : Nat) (y : It) (hi : L[i]? = some x) (hF : y.F = x.F) (hy : y.P w) : Own w0 w (L.set i y) :=
  H.upd i x y (S := fun _ => False) hi hF hy (Kept.refl _ _) (fun _ h => h.elim) H.below
/-- What is new takes the place of number i. -/
theorem Own.swap (H : Own w0 w (y :: L)) (i : Nat) : Own w0 w (L.set i y) := by
  have hk : ∀ (j : Nat) (z : It), (L.set i y)[j]? = some z → (i = j ∧ z = y) ∨ (i ≠ j ∧ L[j]? = some z) := fun j z hz => by
    by_cases h : i = j
    · subst h
      by_cases hl : i < L.length
      · rw [List.getElem?_set_self hl] at hz; exact .inl ⟨rfl, (Option.some.inj hz).symm⟩
      · rw [List.getElem?_eq_none (by simp; omega)] at hz; cases hz
    · rw [List.getElem?_set_ne h] at hz; exact .inr ⟨h, hz⟩
  refine ⟨H.below, fun j z hz => ?_, fun j m z z' hz hz' hjm => ?_⟩
  · rcases hk j z hz with ⟨_, rfl⟩ | ⟨_, h⟩
    · exact H.all 0 z rfl
    · exact H.all (j + 1) z (by simpa using h)
  · rcases hk j z hz with ⟨hj, rfl⟩ | ⟨hj, h⟩ <;> rcases hk m z' hz' with ⟨hm, rfl⟩ | ⟨hm, h'⟩
    · exact absurd (hj.symm.trans hm) hjm
    · exact H.apart 0 (m + 1) z z' rfl (by simpa using h') (by omega)
    · exact H.apart (j + 1) 0 z z' (by simpa using h) rfl (by omega)
    · exact H.apart (j + 1) (m + 1) z z' (by simpa using h) (by simpa using h') (by omega)
/-- A row that has grown, in its place or into another. -/
theorem Own.grown (H : Own w0 w L) (i : Nat) {v v1 : Value} (hi : L[i]? = some x) (hx : x.F = fun k => some k = v.ownBlock) (hy : y.P w1) (hyF : y.F = fun k => some k = v1.ownBlock) (hlt : ∀ k, v1.ownBlock = some k → k < w1.heap.size) (hg : w.grownBy w1 v.ownBlock) (hb : Below w0.heap.size w0 w1) (hat : v1.ownBlock = v.ownBlock ∨ ∃ b, v1.ownBlock = some b ∧ w.heap.size ≤ b) : Own w0 w1 (L.set i y) := by
  have hil : i < L.length := (List.getElem?_eq_some_iff.1 hi).1
  refine ⟨hb, fun j z hz => ?_, fun j m z z' hz hz' hjm k hk hk' => ?_⟩
  · by_cases hij : i = j
    · subst hij
      rw [List.getElem?_set_self hil] at hz
      obtain rfl := Option.some.inj hz
      refine ⟨hy, fun k hk => ?_⟩
      rw [hyF] at hk
      refine ⟨?_, hlt k hk.symm⟩
      rcases hat with e | ⟨b, e, hb'⟩
      · have := (H.all i x hi).2 k (by rw [hx]; show some k = v.ownBlock; rw [← e]; exact hk)
        exact this.1
      · rw [e] at hk
        have : k = b := Option.some.inj hk
        have := H.below.size
        omega
    · rw [List.getElem?_set_ne hij] at hz
      have h1 := H.all j z hz
      refine ⟨z.loc w w1 h1.1 (fun k hk => hg.block k (h1.2 k hk).2 (fun e => H.apart i j x z hi hz hij k (by rw [hx]; exact e) hk)), fun k hk => ⟨(h1.2 k hk).1, Nat.lt_of_lt_of_le (h1.2 k hk).2 hg.size⟩⟩
  · have key : ∀ (p : Nat) (u : It), i ≠ p → L[p]? = some u → ∀ k, y.F k → u.F k → False := fun p u hp hu k a b => by
      rw [hyF] at a
      rcases hat with e | ⟨q, e, hq⟩
      · exact H.apart i p x u hi hu hp k (by rw [hx]; show some k = v.ownBlock; rw [← e]; exact a) b
      · rw [e] at a
        have : k = q := Option.some.inj a
        have := ((H.all p u hu).2 k b).2
        omega
    by_cases hj : i = j
    · subst hj
      rw [List.getElem?_set_self hil] at hz
      obtain rfl := Option.some.inj hz
      rw [List.getElem?_set_ne hjm] at hz'
      exact key m z' hjm hz' k hk hk'
    · rw [List.getElem?_set_ne hj] at hz
      by_cases hm : i = m
      · subst hm
        rw [List.getElem?_set_self hil] at hz'
        obtain rfl := Option.some.inj hz'
        exact key j z hj hz k hk' hk
      · rw [List.getElem?_set_ne hm] at hz'
        exact H.apart j m z z' hz hz' hjm k hk hk'
theorem gS {i : Nat} (hi : L[i]? = some x) (y : It) : (L.set i y)[i]? = some y := List.getElem?_set_self (List.getElem?_eq_some_iff.1 hi).1
/-- What was told otherwise for a while is told as before. -/
theorem Own.back {i : Nat} {b : It} (H : Own w0 w (L.set i b)) (hi : L[i]? = some x) (hF : x.F = b.F) (hP : x.P w) : Own w0 w L := by
  have h := H.conv i x (gS hi b) hF hP
  rw [List.set_set] at h
  have : L.set i x = L := by
    obtain ⟨hl, rfl⟩ := List.getElem?_eq_some_iff.1 hi
    exact List.set_getElem_self hl
  rwa [this] at h
theorem Own.tail (H : Own w0 w L) (k : Nat) {L' : List It} (h : L.drop k = L' := by rfl) : Own w0 w L' := H.sub (h ▸ List.drop_sublist k L)
theorem Own.keep4 {x1 x2 x3 x4 : It} (H : Own w0 w (x1 :: x2 :: x3 :: x4 :: L)) (m : Nat) {L' : List It} (h : L.drop m = L' := by rfl) : Own w0 w (x1 :: x2 :: x3 :: x4 :: L') := H.sub (h ▸ ((((List.drop_sublist m L).cons_cons x4).cons_cons x3).cons_cons x2).cons_cons x1)
theorem Own.nilI (H : Own w0 w L) : Own w0 w (ri (.slice none 0 0) [] :: L) := H.cons (Below.refl _ _) (Kd.R_nil _ _ _ _ _) (fun k hk => by have h : some k = none := hk; cases h)
theorem Own.nilB (H : Own w0 w L) : Own w0 w (rb (.slice none 0 0) [] :: L) := H.cons (Below.refl _ _) (Kd.R_nil _ _ _ _ _) (fun k hk => by have h : some k = none := hk; cases h)
theorem Own.swap1 (H : Own w0 w (x :: y :: L)) : Own w0 w (y :: x :: L) := H.perm (List.Perm.swap y x L)
theorem Own.setRow (H : Own w0 w L) (i : Nat) (cs' : Array Value) (hi : L[i]? = some (bx g cs t) := by rfl) : Own w0 (w.setRow g cs') (L.set i (bx g cs' t)) :=
  H.upd i _ (bx g cs' t) (S := fun k => k = g) hi rfl (setRow_heap w g cs cs' t (0, 0) (H.b i hi)) ⟨by simp [World.setRow], fun k _ hn => setRow_other w g k cs' hn⟩ (fun k hk => hk) (below_setRow H.below ((H.all i _ hi).2 g rfl).1 cs')
theorem Own.setCell (H : Own w0 w L) (i : Nat) (j : Nat) (u : Value) (hi : L[i]? = some (bx g cs t) := by rfl) : Own w0 (w.setCell ⟨g, j, none⟩ u) (L.set i (bx g (cs.setIfInBounds j u) t)) := by
  rw [setCell_eq_setRow w g j cs t (0, 0) u (H.b i hi)]
  exact H.setRow i _ hi
end
section
variable {w0 w w1 : World} {L : List It} {b : Nat} {ok ok1 ok2 ok3 ok4 : Nat → Prop} {v v0 v1 v2 v3 v8 v9 : Value}
theorem rb_P {xs : List Bool} (h : Kd.R Kd.bool 4 w b ok v xs) : (rb v xs).P w := Kd.R_tight rfl (Kd.R_lower h (Nat.zero_le _))
theorem ri_P {xs : List Int} (h : Kd.R (Kd.int .i64) 3 w b ok v xs) : (ri v xs).P w := Kd.R_tight rfl (Kd.R_lower h (Nat.zero_le _))
theorem row_F {α : Type} {d : Kd α} {e : Nat} {xs : List α} (h : d.R e w1 w.heap.size ok v xs) : ∀ k, some k = v.ownBlock → w.heap.size ≤ k ∧ k < w1.heap.size := fun k hk => ⟨Kd.R_base h k hk.symm, Kd.R_lt h k hk.symm⟩
theorem ib_ne {xs : List Int} {ys : List Bool} {b' : Nat} (h : Kd.R (Kd.int .i64) 3 w b ok v xs) (h' : Kd.R Kd.bool 4 w b' ok1 v1 ys) : ∀ k, some k = v.ownBlock → ¬ some k = v1.ownBlock := fun k hk hk' => by
  obtain ⟨c, hc⟩ := Kd.R_typed h k hk.symm
  obtain ⟨c', hc'⟩ := Kd.R_typed h' k hk'.symm
  rw [hc] at hc'
  injection hc' with hc'
  injection hc' with _ hc'
  exact absurd hc' (by decide)
theorem Own.rb (H : Own w0 w L) {xs : List Bool} (hb : Below w.heap.size w w1) (h : Kd.R Kd.bool 4 w1 w.heap.size ok v xs) : Own w0 w1 (rb v xs :: L) := H.cons hb (rb_P h) (row_F h)
theorem Own.ri (H : Own w0 w L) {xs : List Int} (hb : Below w.heap.size w w1) (h : Kd.R (Kd.int .i64) 3 w1 w.heap.size ok v xs) : Own w0 w1 (ri v xs :: L) := H.cons hb (ri_P h) (row_F h)
/-- Numbers and flags (a question, an answer). -/
theorem Own.r2 (H : Own w0 w L) {xs : List Int} {ys : List Bool} (hb : Below w.heap.size w w1) (h : Kd.R (Kd.int .i64) 3 w1 w.heap.size ok v xs) (h1 : Kd.R Kd.bool 4 w1 w.heap.size ok1 v1 ys) : Own w0 w1 (G.ri v xs :: G.rb v1 ys :: L) :=
  H.add (X := [G.rb v1 ys]) (H.rb hb h1) (ri_P h) (row_F h) (fun y hy => by obtain rfl := List.mem_singleton.1 hy; exact ib_ne h h1)
/-- A device's rows. -/
theorem Own.r4 (H : Own w0 w L) {l0 l1 : List Bool} {l2 l3 : List Int} (hb : Below w.heap.size w w1) (h0 : Kd.R Kd.bool 4 w1 w.heap.size (fun k => some k ≠ v1.ownBlock ∧ ok k) v0 l0) (h1 : Kd.R Kd.bool 4 w1 w.heap.size ok1 v1 l1) (h2 : Kd.R (Kd.int .i64) 3 w1 w.heap.size (fun k => some k ≠ v3.ownBlock ∧ ok2 k) v2 l2) (h3 : Kd.R (Kd.int .i64) 3 w1 w.heap.size ok3 v3 l3) :
    Own w0 w1 (G.rb v0 l0 :: G.rb v1 l1 :: G.ri v2 l2 :: G.ri v3 l3 :: L) := by
  have a3 := H.ri hb h3
  have a2 := H.add (x := G.ri v2 l2) (X := [G.ri v3 l3]) a3 (ri_P h2) (row_F h2) (fun y hy => by obtain rfl := List.mem_singleton.1 hy; exact fun k hk => (h2.1 k hk.symm).1)
  have a1 := H.add (x := G.rb v1 l1) (X := [G.ri v2 l2, G.ri v3 l3]) a2 (rb_P h1) (row_F h1) (fun y hy k hk hk' => by
    rcases List.mem_cons.1 hy with rfl | hy
    · exact ib_ne h2 h1 k hk' hk
    · obtain rfl := List.mem_singleton.1 hy; exact ib_ne h3 h1 k hk' hk)
  exact H.add (x := G.rb v0 l0) (X := [G.rb v1 l1, G.ri v2 l2, G.ri v3 l3]) a1 (rb_P h0) (row_F h0) (fun y hy k hk hk' => by
    rcases List.mem_cons.1 hy with rfl | hy
    · exact (h0.1 k hk.symm).1 hk'
    · rcases List.mem_cons.1 hy with rfl | hy
      · exact ib_ne h2 h0 k hk' hk
      · obtain rfl := List.mem_singleton.1 hy; exact ib_ne h3 h0 k hk' hk)
/-- A device's rows and an answer's. -/
theorem Own.r6 (H : Own w0 w L) {l0 l1 l9 : List Bool} {l2 l3 l8 : List Int} (hb : Below w.heap.size w w1) (h0 : Kd.R Kd.bool 4 w1 w.heap.size (fun k => some k ≠ v1.ownBlock ∧ some k ≠ v9.ownBlock) v0 l0) (h1 : Kd.R Kd.bool 4 w1 w.heap.size (fun k => some k ≠ v0.ownBlock ∧ some k ≠ v9.ownBlock) v1 l1)
    (h2 : Kd.R (Kd.int .i64) 3 w1 w.heap.size (fun k => some k ≠ v3.ownBlock ∧ some k ≠ v8.ownBlock) v2 l2) (h3 : Kd.R (Kd.int .i64) 3 w1 w.heap.size (fun k => some k ≠ v2.ownBlock ∧ some k ≠ v8.ownBlock) v3 l3) (h8 : Kd.R (Kd.int .i64) 3 w1 w.heap.size ok v8 l8) (h9 : Kd.R Kd.bool 4 w1 w.heap.size ok1 v9 l9) :
    Own w0 w1 (G.rb v0 l0 :: G.rb v1 l1 :: G.ri v2 l2 :: G.ri v3 l3 :: G.ri v8 l8 :: G.rb v9 l9 :: L) := by
  have a8 := H.r2 hb h8 h9
  have a3 := H.add (x := G.ri v3 l3) (X := [G.ri v8 l8, G.rb v9 l9]) a8 (ri_P h3) (row_F h3) (fun y hy k hk hk' => by
    rcases List.mem_cons.1 hy with rfl | hy
    · exact (h3.1 k hk.symm).2 hk'
    · obtain rfl := List.mem_singleton.1 hy; exact ib_ne h3 h9 k hk hk')
  have a2 := H.add (x := G.ri v2 l2) (X := [G.ri v3 l3, G.ri v8 l8, G.rb v9 l9]) a3 (ri_P h2) (row_F h2) (fun y hy k hk hk' => by
    rcases List.mem_cons.1 hy with rfl | hy
    · exact (h2.1 k hk.symm).1 hk'
    · rcases List.mem_cons.1 hy with rfl | hy
      · exact (h2.1 k hk.symm).2 hk'
      · obtain rfl := List.mem_singleton.1 hy; exact ib_ne h2 h9 k hk hk')
  have a1 := H.add (x := G.rb v1 l1) (X := [G.ri v2 l2, G.ri v3 l3, G.ri v8 l8, G.rb v9 l9]) a2 (rb_P h1) (row_F h1) (fun y hy k hk hk' => by
    rcases List.mem_cons.1 hy with rfl | hy
    · exact ib_ne h2 h1 k hk' hk
    · rcases List.mem_cons.1 hy with rfl | hy
      · exact ib_ne h3 h1 k hk' hk
      · rcases List.mem_cons.1 hy with rfl | hy
        · exact ib_ne h8 h1 k hk' hk
        · obtain rfl := List.mem_singleton.1 hy; exact (h1.1 k hk.symm).2 hk')
  exact H.add (x := G.rb v0 l0) (X := [G.rb v1 l1, G.ri v2 l2, G.ri v3 l3, G.ri v8 l8, G.rb v9 l9]) a1 (rb_P h0) (row_F h0) (fun y hy k hk hk' => by
    rcases List.mem_cons.1 hy with rfl | hy
    · exact (h0.1 k hk.symm).1 hk'
    · rcases List.mem_cons.1 hy with rfl | hy
      · exact ib_ne h2 h0 k hk' hk
      · rcases List.mem_cons.1 hy with rfl | hy
        · exact ib_ne h3 h0 k hk' hk
        · rcases List.mem_cons.1 hy with rfl | hy
          · exact ib_ne h8 h0 k hk' hk
          · obtain rfl := List.mem_singleton.1 hy; exact (h0.1 k hk.symm).2 hk')
/-- What a row bears may be read. -/
theorem Own.cb (H : Own w0 w L) (i : Nat) {A : Option Addr} {n c : Nat} {xs : List Bool} (hi : L[i]? = some (G.rb (.slice A n c) xs) := by rfl) : Kd.C Kd.bool w A xs.length xs := (Kd.R_reads' (H.get i hi)).2.2
theorem Own.ci (H : Own w0 w L) (i : Nat) {A : Option Addr} {n c : Nat} {xs : List Int} (hi : L[i]? = some (G.ri (.slice A n c) xs) := by rfl) : Kd.C (Kd.int .i64) w A xs.length xs := (Kd.R_reads' (H.get i hi)).2.2
theorem Own.lb (H : Own w0 w L) (i : Nat) {A : Option Addr} {c : Nat} {xs : List Bool} (hi : L[i]? = some (G.rb (.slice A xs.length c) xs) := by rfl) : xs.length ≤ c := (Kd.R_reads' (H.get i hi)).2.1
theorem Own.li (H : Own w0 w L) (i : Nat) {A : Option Addr} {c : Nat} {xs : List Int} (hi : L[i]? = some (G.ri (.slice A xs.length c) xs) := by rfl) : xs.length ≤ c := (Kd.R_reads' (H.get i hi)).2.1
theorem Own.arg (H : Own w0 w L) {α : Type} {d : Kd α} {A : Option Addr} {n : Nat} {xs : List α} (h : d.C w0 A n xs) : d.C w A n xs := Kd.C_below h H.below
/-- An element of a row. -/
theorem cell0 {A : Option Addr} {n : Nat} {xs : List Int} (h : Kd.C (Kd.int .i64) w A n xs) (hj : 0 < n) : ∃ ad, A = some ad ∧ w.cell? ad = some (.int .i64 (rd xs 0)) := by
  obtain ⟨ad, e, hc⟩ := Kd.at_int h 0 (by omega) (by omega)
  exact ⟨ad, e, by simpa [Addr.add] using hc⟩
theorem cellZ {ad : Addr} {n : Nat} {xs : List Int} (h : Kd.C (Kd.int .i64) w (some ad) n xs) (hj : 0 < n) : w.cell? ad = some (.int .i64 (rd xs 0)) := by
  obtain ⟨ad', e, hc⟩ := cell0 h hj
  cases e
  exact hc
theorem cellJ {ad : Addr} {n : Nat} {xs : List Int} (h : Kd.C (Kd.int .i64) w (some ad) n xs) (j : Nat) (hj : j < n) (h0 : 0 < j := by decide) : w.cell? ⟨ad.block, ad.off + j, none⟩ = some (.int .i64 (rd xs j)) := by
  obtain ⟨ad', e, hc⟩ := Kd.at_int h j (by omega) (by omega)
  cases e
  have : j ≠ 0 := by omega
  simpa [Addr.add, this] using hc
/-- What is told in every world that bears L and leaves w0's heap as it was. -/
def Has (w0 : World) (L : List It) (w : World) : Prop := Below w0.heap.size w0 w ∧ ∀ (i : Nat) (x : It), L[i]? = some x → x.P w
theorem Own.hasI (H : Own w0 w L) (idx : List Nat) {L0 : List It} (h : idx.filterMap (L[·]?) = L0 := by rfl) : Has w0 L0 w := by
  refine ⟨H.below, fun i x hx => ?_⟩
  subst h
  obtain ⟨j, _, hj⟩ := List.mem_filterMap.1 (List.mem_of_getElem? hx)
  exact (H.all j x hj).1
theorem Has.cell {g t : Nat} {cs : Array Value} {u : Value} (h : Has w0 L w) (i j : Nat) (hi : L[i]? = some (bx g cs t) := by rfl) (hj : cs[j]? = some u := by rfl) : w.cell? ⟨g, j, none⟩ = some u := (blk_cell (h.2 i _ hi) j).trans hj
theorem Has.arg {α : Type} {d : Kd α} {A : Option Addr} {n : Nat} {xs : List α} (h : Has w0 L w) (hC : d.C w0 A n xs) : d.C w A n xs := Kd.C_below hC h.1
end
section
variable {P : Program} {ops : Array Oper} {rest : List Oper} {Q : Exit → Act → World → Prop} {o : Oper} {a : Act} {N : Option Tmp}
variable {w0 w : World} {L : List It} {g t : Nat} {cs : Array Value}
theorem nD (N : Tmp) (h : wpList P ops Q (o :: rest) a w) (hN : o.dst = some N := by with_reducible rfl) : wpList P ops Q (o :: rest) a w := h
theorem nS (p : Tmp) (h : wpList P ops Q (o :: rest) a w) {T : TypeId} {y : Operand} (ho : o.op = .store T (.tmp p) y := by with_reducible rfl) : wpList P ops Q (o :: rest) a w := h
/-- A variable is made. -/
theorem bxO (N : Tmp) (H : Own w0 w L) (cs : Array Value) (t : Nat) (h : ∀ g w1, Aside0 (Own w0 w1 (bx g cs t :: L)) → wpList P ops Q rest (a.put (some N) (.pointer (some ⟨g, 0, none⟩))) w1)
    (hN : o.dst = some N := by rfl) (hgd : o.guard = none := by rfl) (hrun : (execOp a.eval o).run P w = .ok (.value (.pointer (some ⟨w.heap.size, 0, none⟩))) (w.alloc (.cells cs t (0, 0))) := by first | (go_simp; done) | (go_simp; rfl)) : wpList P ops Q (o :: rest) a w :=
  box_event hgd hN hrun (fun g hg w1 hb hB => by rw [hN]; exact h g w1 (aM (H.box hg hb hB)))
/-- A whole variable is read. -/
theorem ldO (N : Tmp) (i : Nat) (H : Own w0 w L) {T : TypeId} {x : Operand} {d : TypeDesc} (hu : P.underlying T = some d) (h : wpList P ops Q rest (a.put (some N) (.agg cs)) w) (hN : o.dst = some N := by rfl) (hgd : o.guard = none := by rfl) (ho : o.op = .load T x := by rfl) (hx : a.eval x = .pointer (some ⟨g, 0, none⟩) := by rfl) (hi : L[i]? = some (bx g cs t) := by rfl)
    (hd : (match d with | .struct _ | .array _ _ => true | _ => false) = true := by rfl) (hz : (P.info? T).map (·.size) = some cs.size := by kernel_rfl) : wpList P ops Q (o :: rest) a w := by
  refine wpList_load_row hgd T x ho g hx t cs (0, 0) d (H.b i hi) hu hd hz ?_
  rw [hN]
  exact h
/-- A whole variable is written. -/
theorem stO (i : Nat) (H : Own w0 w L) {T : TypeId} {x y : Operand} {cells : Array Value} (h : ∀ w1, Aside0 (Own w0 w1 (L.set i (bx g cells t))) → wpList P ops Q rest (a.put none undef) w1) (hN : o.dst = none := by rfl) (hgd : o.guard = none := by rfl) (ho : o.op = .store T x y := by rfl) (hx : a.eval x = .pointer (some ⟨g, 0, none⟩) := by rfl) (hy : a.eval y = .agg cells := by rfl)
    (hi : L[i]? = some (bx g cs t) := by rfl) (hz : (P.info? T).map (·.size) = some cells.size := by kernel_rfl) (hold : cs.size = cells.size := by rfl) (h1 : cells.all (·.oneCell') = true := by simp [Value.oneCell']) : wpList P ops Q (o :: rest) a w := by
  refine wpList_store_row hgd T x y ho g cells hx hy t cs (H.b i hi) hz hold h1 ?_
  rw [hN]
  exact h _ (aM (H.setRow i cells hi))
/-- A field of a variable is written. -/
theorem scO (j m : Nat) (H : Own w0 w L) {T : TypeId} {x y : Operand} {u : Value} {cs' : Array Value} (h : ∀ w1, Aside0 (Own w0 w1 (L.set j (bx g cs' t))) → wpList P ops Q rest (a.put none undef) w1) (hN : o.dst = none := by rfl) (hgd : o.guard = none := by rfl) (ho : o.op = .store T x y := by rfl) (hx : a.eval x = .pointer (some ⟨g, m, none⟩) := by rfl) (hy : a.eval y = u := by first | (go_simp; rfl) | rfl)
    (hj : L[j]? = some (bx g cs t) := by rfl) (hrun : ∀ v, w.cell? ⟨g, m, none⟩ = some v → w.frozen? ⟨g, m, none⟩ = false → (execOp a.eval o).run P w = .ok .skip (w.setCell ⟨g, m, none⟩ u) := by (intro v z y; go_simp)) (hlt : m < cs.size := by first | decide | simp) (e : cs.setIfInBounds m u = cs' := by simp only [List.setIfInBounds_toArray, List.set_cons_zero, List.set_cons_succ]; rfl) : wpList P ops Q (o :: rest) a w := by
  refine wpList_plain hgd fun K hK => ?_
  unfold Oper.wp
  rw [hrun cs[m] ((blk_cell (H.b j hj) m).trans (by simp [hlt])) (blk_frozen (H.b j hj) m)]
  subst e
  show K (a.put o.dst undef) _
  rw [hN]
  exact hK _ _ (h _ (aM (H.setCell j m u hj)))
/-- A call, by its contract. -/
theorem gC (N : Tmp) {f : FuncId} {fn : Func} {zs : Array Operand} {ts : Array TypeId} {args : Array Value} {R : Ending → World → Prop} (hf : P.funcs[f]? = some fn) (hc : Calls P f args w R) (h : ∀ e w', R e w' → ∃ v, e = .returned v ∧ wpList P ops Q rest (a.put (some N) v) w')
    (hop : o.op = .call { callee := .value (.func f), args := zs, argTypes := ts } := by rfl) (hargs : zs.map a.eval = args := by (try simp only [List.map_toArray, List.map_cons, List.map_nil]); first | done | rfl | (simp only [List.length_drop, List.length_take]; rfl)) (hd : o.dst = some N := by rfl) (hg : o.guard = none := by rfl) (hname : (fn.name == "runtime.NumGoroutine") = false := by kernel_rfl) (hb : fn.body.isSome = true := by rfl) : wpList P ops Q (o :: rest) a w :=
  goesL_ (some N) hd hg hf hname hb args hop hargs (hc.mono h)
/-- A literal of numbers. -/
theorem litI (N : Tmp) (xs : List Int) (H : Own w0 w L) (h : ∀ A c w1, Aside0 (Own w0 w1 (ri (.slice A xs.length c) xs :: L)) → wpList P ops Q rest (a.put (some N) (.slice A xs.length c)) w1) (hrep : xs.length ≤ 9223372036854775807 := by simp) (hd : o.dst = some N := by rfl) (hg : o.guard = none := by rfl)
    (hrun : (execOp a.eval o).run P w = .ok (.value (.slice (some ⟨w.heap.size, 0, none⟩) xs.length xs.length)) (w.alloc (.cells (xs.map (Value.int .i64)).toArray 3 (0, 0))) := by first | (go_simp; done) | (go_simp; rfl)) : wpList P ops Q (o :: rest) a w := by
  refine Kd.event_run hg hrun ?_
  rw [hd]
  refine h _ _ _ (aM (H.cons (below_alloc (Below.refl _ _) _) (ri_P (b := w.heap.size) (ok := fun _ => True) (Kd.R_of_own ?_ (fun _ _ => trivial))) (fun k hk => ?_)))
  · have := World.ownsRow_lit (base := w.heap.size) (e := 3) (size := 1) w (xs.map (Value.int .i64)).toArray xs.length (Nat.le_refl _) (by simpa [maxLen] using hrep) (by simp)
    simpa [encs] using this
  · have : w.heap.size = k := by simpa [Value.ownBlock] using hk.symm
    subst this
    exact ⟨Nat.le_refl _, blk_lt (blk_new w _)⟩
end
section
variable {P : Program} {md : Region.Mode} {ops : Array Oper} {Q : Exit → Act → World → Prop} {ds : List Nat} {N : Option Tmp} {oi : Oper} {v : Value} {fuel n id : Nat} {l : Array Bool} {a a' : Act} {w0 w : World} {L : List It} {S : World → Prop}
theorem rgI (idx : List Nat) (n : Nat) (H : Own w0 w L) {L0 : List It} (h : ∀ w1, Aside0 (Own w0 w1 L) → wpAnyLast P .any ops Q (Has w0 L0) [] n (Array.replicate n false) a w1) (hm : P.follows .mixedOrders = true := by kernel_rfl) (hn : ops.size = n := by rfl) (hs : idx.filterMap (L[·]?) = L0 := by rfl) : (Code.region id ops true).wp P Q a w :=
  start_ (Array.replicate n false) hm hn rfl (H.drew.hasI idx hs) (fun _ => h _ (aM H.drew))
theorem nm (h : wpAnyLast P md ops Q S ds fuel l a' w) (ha : a = a' := by simp only [Act.put, List.setIfInBounds_toArray, List.set_cons_zero, List.set_cons_succ, i64_w, i32_w]; rfl) : wpAnyLast P md ops Q S ds fuel l a w := norm_ ha h
/-- A call as a step of a region. -/
theorem goR (N : Option Tmp) {K : Act → World → Prop} {f : FuncId} {fn : Func} {zs : Array Operand} {ts : Array TypeId} {args : Array Value} {R : Ending → World → Prop} (hf : P.funcs[f]? = some fn) (hc : Calls P f args w R) (h : ∀ e w', R e w' → ∃ v, e = .returned v ∧ K (a.put N v) w')
    (hN : oi.dst = N := by rfl) (hop : oi.op = .call { callee := .value (.func f), args := zs, argTypes := ts } := by rfl) (hargs : zs.map a.eval = args := by (try simp only [List.map_toArray, List.map_cons, List.map_nil]); first | done | rfl | (simp only [List.length_drop, List.length_take]; rfl)) (hw : Region.wanted oi (yielded ops a.tmps) = true := by rfl) (hname : (fn.name == "runtime.NumGoroutine") = false := by kernel_rfl) (hb : fn.body.isSome = true := by rfl) : if Region.wanted oi (yielded ops a.tmps) = true then Oper.wp P oi a w K Q else K (a.put N undef) w :=
  goes_ hf hname hb args hw hN hop hargs (hc.mono h)
/-- A whole variable is written, as a step of a region. -/
theorem stR {K : Act → World → Prop} (i : Nat) (H : Own w0 w L) {T : TypeId} {x y : Operand} {g t : Nat} {cs cells : Array Value} (h : ∀ w1, Aside0 (Own w0 w1 (L.set i (bx g cells t))) → K a w1) (hN : oi.dst = none := by rfl) (ho : oi.op = .store T x y := by rfl) (hx : a.eval x = .pointer (some ⟨g, 0, none⟩) := by rfl) (hy : a.eval y = .agg cells := by rfl)
    (hi : L[i]? = some (bx g cs t) := by rfl) (hz : (P.info? T).map (·.size) = some cells.size := by kernel_rfl) (hold : cs.size = cells.size := by rfl) (h1 : cells.all (·.oneCell') = true := by simp [Value.oneCell']) (hw : Region.wanted oi (yielded ops a.tmps) = true := by rfl) : if Region.wanted oi (yielded ops a.tmps) = true then Oper.wp P oi a w K Q else K (a.put none undef) w := by
  rw [if_pos hw]
  refine wp_store_row T x y ho g cells hx hy t cs (H.b i hi) hz hold h1 ?_
  rw [hN]
  exact h _ (aM (H.setRow i cells hi))
/-- A store of a whole variable, L's number j, that may come up alone. -/
theorem stS (i j : Nat) (idx : List Nat) (H : Own w0 w L) {L0 : List It} {T : TypeId} {x y : Operand} {g t : Nat} {cs cells : Array Value} (h : ∀ w1, Aside0 (Own w0 w1 (L.set j (bx g cells t))) → wpAnyLast P md ops Q (Has w0 L0) ds fuel (l.setIfInBounds i true) a w1) (hi : ops[i]? = some oi := by rfl) (hN : oi.dst = none := by rfl) (hc : readyB md ops l (l.setIfInBounds i true) i = true := by kernel_rfl) (ho : oi.op = .store T x y := by rfl) (hx : a.eval x = .pointer (some ⟨g, 0, none⟩) := by rfl) (hy : a.eval y = .agg cells := by rfl)
    (hj : L[j]? = some (bx g cs t) := by rfl) (hs : idx.filterMap ((L.set j (bx g cells t))[·]?) = L0 := by rfl) (hz : (P.info? T).map (·.size) = some cells.size := by kernel_rfl) (hold : cs.size = cells.size := by rfl) (h1 : cells.all (·.oneCell') = true := by simp [Value.oneCell']) (hw : Region.wanted oi (yielded ops a.tmps) = true := by rfl) (hd : i ∉ ds := by simp) : wpAnyLast P md ops Q (Has w0 L0) ds (fuel + 1) l a w :=
  one_ _ hi hN hc hd (fun K hK => stR j H (fun w2 H2 => hK.out _ _ (H2.out.hasI idx hs) (fun _ => h w2 H2)) hN ho hx hy hj hz hold h1 hw)
/-- A call that may come up alone. -/
theorem clS (i : Nat) (N : Tmp) {L0 : List It} {f : FuncId} {fn : Func} {zs : Array Operand} {ts : Array TypeId} {args : Array Value} {R : Ending → World → Prop} (hf : P.funcs[f]? = some fn) (hcl : Calls P f args w R) (h : ∀ e w', R e w' → ∃ v, e = .returned v ∧ Has w0 L0 w' ∧ wpAnyLast P md ops Q (Has w0 L0) ds fuel (l.setIfInBounds i true) (a.put (some N) v) w')
    (hi : ops[i]? = some oi := by rfl) (hN : oi.dst = some N := by rfl) (hc : readyB md ops l (l.setIfInBounds i true) i = true := by kernel_rfl) (hop : oi.op = .call { callee := .value (.func f), args := zs, argTypes := ts } := by rfl) (hargs : zs.map a.eval = args := by (try simp only [List.map_toArray, List.map_cons, List.map_nil]); first | done | rfl | (simp only [List.length_drop, List.length_take]; rfl)) (hw : Region.wanted oi (yielded ops a.tmps) = true := by rfl) (hname : (fn.name == "runtime.NumGoroutine") = false := by kernel_rfl) (hb : fn.body.isSome = true := by rfl) (hd : i ∉ ds := by simp) : wpAnyLast P md ops Q (Has w0 L0) ds (fuel + 1) l a w :=
  one_ _ hi hN hc hd (fun K hK => goes_ hf hname hb args hw hN hop hargs (hcl.mono (fun e w' r => by
    obtain ⟨v, hv, hs, hh⟩ := h e w' r
    exact ⟨v, hv, hK.out _ _ hs (fun _ => hh)⟩)))
theorem gen_ (h : ∀ G : Nat → Array Bool → Act → World → Prop, G = wpAnyLast P md ops Q S ds → G fuel l a w) : wpAnyLast P md ops Q S ds fuel l a w := h _ rfl
/-- Some steps of a region may come up, in any order. -/
theorem rdy (rs : List Nat) (h : AllReadyL P md ops Q S ds fuel l a w rs) (hne : rs ≠ [] := by simp) (hr : Region.ready md ops l = rs := by kernel_rfl) : wpAnyLast P md ops Q S ds (fuel + 1) l a w := wpAnyLast_ready hr hne h
/-- A step of a region that reads nothing. -/
theorem pO (i : Nat) (N : Tmp) (h : wpAnyLast P md ops Q S ds fuel (l.setIfInBounds i true) a' w) (hi : ops[i]? = some oi := by rfl) (hc : anyB md ops l (l.setIfInBounds i true) i = true := by kernel_rfl) (hN : oi.dst = some N := by rfl)
    (hw : Region.wanted oi (yielded ops a.tmps) = true := by rfl) (hv : ∀ w', (execOp a.eval oi).run P w' = .ok (.value v) w' := by (intro w'; go_simp <;> with_reducible rfl)) (ha : a.put (some N) v = a' := by simp only [Act.put, List.setIfInBounds_toArray, List.set_cons_zero, List.set_cons_succ, i64_w, i32_w]; rfl)
    (hQ : ∀ c a w, Q (.panic c) (a.put oi.dst v) w → Q (.panic c) a w := by exact (fun _ _ _ h => h)) : wpAnyLast P md ops Q S ds (fuel + 1) l a w :=
  pure_ _ hi hN hc hQ (Or.inl ⟨hw, hv⟩) ha h
/-- A step of a region that is not wanted. -/
theorem nO (i : Nat) (N : Tmp) (h : wpAnyLast P md ops Q S ds fuel (l.setIfInBounds i true) a' w) (hi : ops[i]? = some oi := by rfl) (hc : anyB md ops l (l.setIfInBounds i true) i = true := by kernel_rfl) (hN : oi.dst = some N := by rfl)
    (hw : Region.wanted oi (yielded ops a.tmps) = false := by rfl) (ha : a.put (some N) undef = a' := by simp only [Act.put, List.setIfInBounds_toArray, List.set_cons_zero, List.set_cons_succ, i64_w, i32_w]; rfl)
    (hQ : ∀ c a w, Q (.panic c) (a.put oi.dst undef) w → Q (.panic c) a w := by exact (fun _ _ _ h => h)) : wpAnyLast P md ops Q S ds (fuel + 1) l a w :=
  pure_ _ hi hN hc hQ (Or.inr ⟨hw, rfl⟩) ha h
theorem ld_run' {T : TypeId} {x : Operand} {d : TypeDesc} {g t : Nat} {cs : Array Value} (ho : oi.op = .load T x) (hx : a.eval x = .pointer (some ⟨g, 0, none⟩)) (hg : w.heap[g]? = some (.cells cs t (0, 0))) (hu : P.underlying T = some d) (hd : (match d with | .struct _ | .array _ _ => true | _ => false) = true) (hi : (P.info? T).map (·.size) = some cs.size) : (execOp a.eval oi).run P w = .ok (.value (.agg cs)) w := by
  unfold execOp
  simp only [ho, hx, Instr.loadAt, Instr.sureAddr, Sem.run_bind, Sem.run_pure, Result.andThen_ok, run_loadVar_row w g t T cs (0, 0) d hg hu hd hi]
/-- A step of a region that reads a whole variable, L's number j. -/
theorem lO (i : Nat) (N : Tmp) (j : Nat) {T : TypeId} {x : Operand} {d : TypeDesc} {g t : Nat} {cs : Array Value} (hu : P.underlying T = some d) (hS : Has w0 L w) (h : wpAnyLast P md ops Q (Has w0 L) ds fuel (l.setIfInBounds i true) a' w) (hi : ops[i]? = some oi := by rfl) (hc : takeB md ops ds l (l.setIfInBounds i true) i = true := by kernel_rfl) (hN : oi.dst = some N := by rfl) (ho : oi.op = .load T x := by rfl) (hx : a.eval x = .pointer (some ⟨g, 0, none⟩) := by rfl) (hj : L[j]? = some (bx g cs t) := by rfl)
    (hd : (match d with | .struct _ | .array _ _ => true | _ => false) = true := by rfl) (hz : (P.info? T).map (·.size) = some cs.size := by kernel_rfl) (hw : Region.wanted oi (yielded ops a.tmps) = true := by rfl) (ha : a.put (some N) (.agg cs) = a' := by simp only [Act.put, List.setIfInBounds_toArray, List.set_cons_zero, List.set_cons_succ, i64_w, i32_w]; rfl)
    (hQ : ∀ c a w, Q (.panic c) (a.put oi.dst (.agg cs)) w → Q (.panic c) a w := by exact (fun _ _ _ h => h)) : wpAnyLast P md ops Q (Has w0 L) ds (fuel + 1) l a w :=
  take_ _ hi hN hc hQ (Or.inl ⟨hw, fun w' s => ld_run' ho hx (s.2 j _ hj) hu hd hz⟩) hS ha h
/-- A step of a region that reads what F tells. -/
theorem tO (i : Nat) (N : Tmp) (F : World → Prop) (hF : ∀ w', Has w0 L w' → F w') (hS : Has w0 L w) (h : wpAnyLast P md ops Q (Has w0 L) ds fuel (l.setIfInBounds i true) a' w) (hi : ops[i]? = some oi := by rfl) (hc : takeB md ops ds l (l.setIfInBounds i true) i = true := by kernel_rfl) (hN : oi.dst = some N := by rfl)
    (hw : Region.wanted oi (yielded ops a.tmps) = true := by rfl) (hv : ∀ w', F w' → (execOp a.eval oi).run P w' = .ok (.value v) w' := by (intro w' s0; go_simp <;> with_reducible rfl)) (ha : a.put (some N) v = a' := by simp only [Act.put, List.setIfInBounds_toArray, List.set_cons_zero, List.set_cons_succ, i64_w, i32_w]; rfl)
    (hQ : ∀ c a w, Q (.panic c) (a.put oi.dst v) w → Q (.panic c) a w := by exact (fun _ _ _ h => h)) : wpAnyLast P md ops Q (Has w0 L) ds (fuel + 1) l a w :=
  take_ _ hi hN hc hQ (Or.inl ⟨hw, fun w' s => hv w' (hF w' s)⟩) hS ha h
/-- A step of a region that reads a field: number m of L's number j. -/
theorem fO (i : Nat) (N : Tmp) (j m : Nat) {g t : Nat} {cs : Array Value} {u : Value} (hS : Has w0 L w) (h : wpAnyLast P md ops Q (Has w0 L) ds fuel (l.setIfInBounds i true) a' w) (hi : ops[i]? = some oi := by rfl) (hc : takeB md ops ds l (l.setIfInBounds i true) i = true := by kernel_rfl) (hN : oi.dst = some N := by rfl) (hj : L[j]? = some (bx g cs t) := by rfl) (hm : cs[m]? = some u := by first | (simp only [List.getElem?_toArray, List.getElem?_cons_succ, List.getElem?_cons_zero]; rfl) | rfl)
    (hw : Region.wanted oi (yielded ops a.tmps) = true := by rfl) (hv : ∀ w', w'.cell? ⟨g, m, none⟩ = some u → (execOp a.eval oi).run P w' = .ok (.value u) w' := by (intro w' s0; go_simp <;> with_reducible rfl)) (ha : a.put (some N) u = a' := by simp only [Act.put, List.setIfInBounds_toArray, List.set_cons_zero, List.set_cons_succ, i64_w, i32_w]; rfl)
    (hQ : ∀ c a w, Q (.panic c) (a.put oi.dst u) w → Q (.panic c) a w := by exact (fun _ _ _ h => h)) : wpAnyLast P md ops Q (Has w0 L) ds (fuel + 1) l a w :=
  take_ _ hi hN hc hQ (Or.inl ⟨hw, fun w' s => hv w' (s.cell j m hj hm)⟩) hS ha h
end
section
variable {ops : Array Oper} {Q : Exit → Act → World → Prop} {o : Oper} {a : Act} {w0 w : World} {L : List It}
theorem zinfoB : (Try.prog.info? 4).map (fun i => (i.zero, i.size, i.bytes)) = some (some (.bool false), 1, 1) := by kernel_rfl
/-- append(v, ys...), v a row of one's own: one step. -/
theorem apBS {K : Act → World → Prop} (i : Nat) (N : Tmp) (H : Own w0 w L) {v : Value} {A : Option Addr} {m c : Nat} {xs ys zs : List Bool} (hi : L[i]? = some (rb v xs)) (hy : Kd.bool.C w A m ys) (h : ∀ A' c' w1, Aside0 (Own w0 w1 (L.set i (rb (.slice A' zs.length c') zs))) → K (a.put (some N) (.slice A' zs.length c')) w1) (hl : xs.length + m ≤ 2000000) (hz : xs ++ ys = zs) {s x : Operand}
    (ho : o.op = .call { callee := .builtin .append, args := #[s, x], argTypes := #[22, 22] } := by rfl) (hs : a.eval s = v := by rfl) (hx : a.eval x = .slice A m c := by rfl) (hN : o.dst = some N := by rfl) (hw : Region.wanted o (yielded ops a.tmps) = true := by rfl) : if Region.wanted o (yielded ops a.tmps) = true then Oper.wp Try.prog o a w K Q else K (a.put (some N) undef) w := by
  subst hz
  have h2 := H.get i hi
  rw [← hN]
  refine Kd.R_append_rows_step Kd.bool (Rr := Kd.bool.K w) (w0 := w0) 0 hw s x 22 4 (.bool false) 1 ho Try.underlying22 zinfoB rfl (by decide) (by decide) v xs ys A m c (fun _ => True) (fun _ => False) hs hx (Kd.R_mono h2 (fun _ _ => trivial)) hy (fun _ _ h => h) (fun _ h => h.elim) (fun _ _ => trivial) (H.below.mono (Nat.zero_le _)) (Nat.zero_le _) (by omega) ?_
  intro v1 w1 hr hb hg hat
  obtain ⟨A1, c1, rfl⟩ := Kd.R_slice hr
  rw [hN]
  have hB : Below w0.heap.size w0 w1 := H.below.grown hg H.below.size (fun k hk => ((H.all i _ hi).2 k hk.symm).1)
  exact h A1 c1 w1 (aM (H.grown i hi rfl (rb_P hr) rfl (Kd.R_lt hr) hg hB hat))
theorem apBL {rest : List Oper} (i : Nat) (N : Tmp) (H : Own w0 w L) {v : Value} {A : Option Addr} {m c : Nat} {xs ys zs : List Bool} (hi : L[i]? = some (rb v xs)) (hy : Kd.bool.C w A m ys) (h : ∀ A' c' w1, Aside0 (Own w0 w1 (L.set i (rb (.slice A' zs.length c') zs))) → wpList Try.prog ops Q rest (a.put (some N) (.slice A' zs.length c')) w1) (hl : xs.length + m ≤ 2000000) (hz : xs ++ ys = zs) {s x : Operand}
    (ho : o.op = .call { callee := .builtin .append, args := #[s, x], argTypes := #[22, 22] } := by rfl) (hs : a.eval s = v := by rfl) (hx : a.eval x = .slice A m c := by rfl) (hN : o.dst = some N := by rfl) (hg : o.guard = none := by rfl) : wpList Try.prog ops Q (o :: rest) a w :=
  wpList_step (fun K hK => by
    have hw : Region.wanted o (yielded ops a.tmps) = true := by simp [Region.wanted, hg]
    rw [hN]
    exact apBS i N H hi hy (fun A' c' w1 H1 => hK _ _ (h A' c' w1 H1)) hl hz ho hs hx hN hw)
/-- A literal of a row: one step. -/
theorem litBS {K : Act → World → Prop} (N : Tmp) (xs : List Bool) (H : Own w0 w L) (h : ∀ A c w1, Aside0 (Own w0 w1 (rb (.slice A xs.length c) xs :: L)) → K (a.put (some N) (.slice A xs.length c)) w1) (hrep : xs.length ≤ 9223372036854775807) (hd : o.dst = some N := by rfl) (hw : Region.wanted o (yielded ops a.tmps) = true := by rfl)
    (hrun : (execOp a.eval o).run Try.prog w = .ok (.value (.slice (some ⟨w.heap.size, 0, none⟩) xs.length xs.length)) (w.alloc (.cells (xs.map Value.bool).toArray 4 (0, 0))) := by first | (go_simp; done) | (go_simp; rfl)) : if Region.wanted o (yielded ops a.tmps) = true then Oper.wp Try.prog o a w K Q else K (a.put (some N) undef) w := by
  rw [← hd]
  refine event_step hw hrun ?_
  rw [hd]
  refine h _ _ _ (aM (H.cons (below_alloc (Below.refl _ _) _) (rb_P (b := w.heap.size) (ok := fun _ => True) (Kd.R_of_own ?_ (fun _ _ => trivial))) (fun k hk => ?_)))
  · have := World.ownsRow_lit (base := w.heap.size) (e := 4) (size := 1) w (xs.map Value.bool).toArray xs.length (Nat.le_refl _) (by simpa [maxLen] using hrep) (by simp)
    simpa [encs] using this
  · have : w.heap.size = k := by simpa [Value.ownBlock] using hk.symm
    subst this
    exact ⟨Nat.le_refl _, blk_lt (blk_new w _)⟩
theorem litBL {rest : List Oper} (N : Tmp) (xs : List Bool) (H : Own w0 w L) (h : ∀ A c w1, Aside0 (Own w0 w1 (rb (.slice A xs.length c) xs :: L)) → wpList Try.prog ops Q rest (a.put (some N) (.slice A xs.length c)) w1) (hrep : xs.length ≤ 9223372036854775807 := by simp) (hd : o.dst = some N := by rfl) (hg : o.guard = none := by rfl)
    (hrun : (execOp a.eval o).run Try.prog w = .ok (.value (.slice (some ⟨w.heap.size, 0, none⟩) xs.length xs.length)) (w.alloc (.cells (xs.map Value.bool).toArray 4 (0, 0))) := by first | (go_simp; done) | (go_simp; rfl)) : wpList Try.prog ops Q (o :: rest) a w :=
  wpList_step (fun K hK => by
    have hw : Region.wanted o (yielded ops a.tmps) = true := by simp [Region.wanted, hg]
    rw [hd]
    exact litBS N xs H (fun A c w1 H1 => hK _ _ (h A c w1 H1)) hrep hd hw hrun)
theorem zinfoI : (Try.prog.info? 3).map (fun i => (i.zero, i.size, i.bytes)) = some (some (.int .i64 0), 1, 8) := by kernel_rfl
/-- append(v, ys...), v a row of one's own: one step. -/
theorem apIS {K : Act → World → Prop} (i : Nat) (N : Tmp) (H : Own w0 w L) {v : Value} {A : Option Addr} {m c : Nat} {xs ys zs : List Int} (hi : L[i]? = some (ri v xs)) (hy : (Kd.int .i64).C w A m ys) (h : ∀ A' c' w1, Aside0 (Own w0 w1 (L.set i (ri (.slice A' zs.length c') zs))) → K (a.put (some N) (.slice A' zs.length c')) w1) (hl : xs.length + m ≤ 2000000) (hz : xs ++ ys = zs) {s x : Operand}
    (ho : o.op = .call { callee := .builtin .append, args := #[s, x], argTypes := #[23, 23] } := by rfl) (hs : a.eval s = v := by rfl) (hx : a.eval x = .slice A m c := by rfl) (hN : o.dst = some N := by rfl) (hw : Region.wanted o (yielded ops a.tmps) = true := by rfl) : if Region.wanted o (yielded ops a.tmps) = true then Oper.wp Try.prog o a w K Q else K (a.put (some N) undef) w := by
  subst hz
  have h2 := H.get i hi
  rw [← hN]
  refine Kd.R_append_rows_step (Kd.int .i64) (Rr := (Kd.int .i64).K w) (w0 := w0) 0 hw s x 23 3 (.int .i64 0) 8 ho Try.underlying23 zinfoI rfl (by decide) (by decide) v xs ys A m c (fun _ => True) (fun _ => False) hs hx (Kd.R_mono h2 (fun _ _ => trivial)) hy (fun _ _ h => h) (fun _ h => h.elim) (fun _ _ => trivial) (H.below.mono (Nat.zero_le _)) (Nat.zero_le _) (by omega) ?_
  intro v1 w1 hr hb hg hat
  obtain ⟨A1, c1, rfl⟩ := Kd.R_slice hr
  rw [hN]
  have hB : Below w0.heap.size w0 w1 := H.below.grown hg H.below.size (fun k hk => ((H.all i _ hi).2 k hk.symm).1)
  exact h A1 c1 w1 (aM (H.grown i hi rfl (ri_P hr) rfl (Kd.R_lt hr) hg hB hat))
theorem apIL {rest : List Oper} (i : Nat) (N : Tmp) (H : Own w0 w L) {v : Value} {A : Option Addr} {m c : Nat} {xs ys zs : List Int} (hi : L[i]? = some (ri v xs)) (hy : (Kd.int .i64).C w A m ys) (h : ∀ A' c' w1, Aside0 (Own w0 w1 (L.set i (ri (.slice A' zs.length c') zs))) → wpList Try.prog ops Q rest (a.put (some N) (.slice A' zs.length c')) w1) (hl : xs.length + m ≤ 2000000) (hz : xs ++ ys = zs) {s x : Operand}
    (ho : o.op = .call { callee := .builtin .append, args := #[s, x], argTypes := #[23, 23] } := by rfl) (hs : a.eval s = v := by rfl) (hx : a.eval x = .slice A m c := by rfl) (hN : o.dst = some N := by rfl) (hg : o.guard = none := by rfl) : wpList Try.prog ops Q (o :: rest) a w :=
  wpList_step (fun K hK => by
    have hw : Region.wanted o (yielded ops a.tmps) = true := by simp [Region.wanted, hg]
    rw [hN]
    exact apIS i N H hi hy (fun A' c' w1 H1 => hK _ _ (h A' c' w1 H1)) hl hz ho hs hx hN hw)
/-- A literal of a row: one step. -/
theorem litIS {K : Act → World → Prop} (N : Tmp) (xs : List Int) (H : Own w0 w L) (h : ∀ A c w1, Aside0 (Own w0 w1 (ri (.slice A xs.length c) xs :: L)) → K (a.put (some N) (.slice A xs.length c)) w1) (hrep : xs.length ≤ 9223372036854775807) (hd : o.dst = some N := by rfl) (hw : Region.wanted o (yielded ops a.tmps) = true := by rfl)
    (hrun : (execOp a.eval o).run Try.prog w = .ok (.value (.slice (some ⟨w.heap.size, 0, none⟩) xs.length xs.length)) (w.alloc (.cells (xs.map (Value.int .i64)).toArray 3 (0, 0))) := by first | (go_simp; done) | (go_simp; rfl)) : if Region.wanted o (yielded ops a.tmps) = true then Oper.wp Try.prog o a w K Q else K (a.put (some N) undef) w := by
  rw [← hd]
  refine event_step hw hrun ?_
  rw [hd]
  refine h _ _ _ (aM (H.cons (below_alloc (Below.refl _ _) _) (ri_P (b := w.heap.size) (ok := fun _ => True) (Kd.R_of_own ?_ (fun _ _ => trivial))) (fun k hk => ?_)))
  · have := World.ownsRow_lit (base := w.heap.size) (e := 3) (size := 1) w (xs.map (Value.int .i64)).toArray xs.length (Nat.le_refl _) (by simpa [maxLen] using hrep) (by simp)
    simpa [encs] using this
  · have : w.heap.size = k := by simpa [Value.ownBlock] using hk.symm
    subst this
    exact ⟨Nat.le_refl _, blk_lt (blk_new w _)⟩
theorem litIL {rest : List Oper} (N : Tmp) (xs : List Int) (H : Own w0 w L) (h : ∀ A c w1, Aside0 (Own w0 w1 (ri (.slice A xs.length c) xs :: L)) → wpList Try.prog ops Q rest (a.put (some N) (.slice A xs.length c)) w1) (hrep : xs.length ≤ 9223372036854775807 := by simp) (hd : o.dst = some N := by rfl) (hg : o.guard = none := by rfl)
    (hrun : (execOp a.eval o).run Try.prog w = .ok (.value (.slice (some ⟨w.heap.size, 0, none⟩) xs.length xs.length)) (w.alloc (.cells (xs.map (Value.int .i64)).toArray 3 (0, 0))) := by first | (go_simp; done) | (go_simp; rfl)) : wpList Try.prog ops Q (o :: rest) a w :=
  wpList_step (fun K hK => by
    have hw : Region.wanted o (yielded ops a.tmps) = true := by simp [Region.wanted, hg]
    rw [hd]
    exact litIS N xs H (fun A c w1 H1 => hK _ _ (h A c w1 H1)) hrep hd hw hrun)
/-- An element of a row is written. -/
theorem Own.putB (H : Own w0 w L) (r : Nat) {q n cap : Nat} {xs : List Bool} (hi : L[r]? = some (G.rb (.slice (some ⟨q, 0, none⟩) n cap) xs)) (hn : xs.length = n) (k : Nat) (x : Bool) : Own w0 (w.setCell ⟨q, k, none⟩ (Value.bool x)) (L.set r (G.rb (.slice (some ⟨q, 0, none⟩) n cap) (xs.set k x))) := by
  subst hn
  have h1 := H.get r hi
  have hp := Kd.R_put h1 (k : Int) x
  simp only [Int.toNat_natCast] at hp
  refine H.upd r _ _ (S := fun j => some j = some q) hi rfl (G.rb_P hp.1) ⟨hp.2.size, fun j hj hn => hp.2.block j hj hn⟩ (fun j hj => ?_) ?_
  · show some j = (Value.slice (some ⟨q, 0, none⟩) xs.length cap).ownBlock
    simpa [Value.ownBlock] using hj
  · exact H.below.setCell ((H.all r _ hi).2 q (by show some q = (Value.slice (some ⟨q, 0, none⟩) xs.length cap).ownBlock; simp [Value.ownBlock])).1 _
/-- .. as a step of a region. -/
theorem stEB {md : Region.Mode} {ds : List Nat} {fuel : Nat} {l : Array Bool} (i r k : Nat) (x : Bool) (idx : List Nat) (H : Own w0 w L) {L0 : List It} {q n cap : Nat} {xs : List Bool} (hr : L[r]? = some (rb (.slice (some ⟨q, 0, none⟩) n cap) xs)) (hn : xs.length = n) (hk : k < xs.length) {T : TypeId} {p y : Operand} (h : ∀ w1, Aside0 (Own w0 w1 (L.set r (rb (.slice (some ⟨q, 0, none⟩) n cap) (xs.set k x)))) → wpAnyLast Try.prog md ops Q (Has w0 L0) ds fuel (l.setIfInBounds i true) a w1)
    (hs : idx.filterMap ((L.set r (rb (.slice (some ⟨q, 0, none⟩) n cap) (xs.set k x)))[·]?) = L0) (hi : ops[i]? = some o := by rfl) (hN : o.dst = none := by rfl) (hc : readyB md ops l (l.setIfInBounds i true) i = true := by kernel_rfl) (ho : o.op = .store T p y := by rfl) (hx : a.eval p = .pointer (some ⟨q, k, none⟩) := by rfl) (hy : a.eval y = Value.bool x := by rfl)
    (hrun : ∀ v, w.cell? ⟨q, k, none⟩ = some v → w.frozen? ⟨q, k, none⟩ = false → (execOp a.eval o).run Try.prog w = .ok .skip (w.setCell ⟨q, k, none⟩ (Value.bool x)) := by (intro v z y; go_simp)) (hw : Region.wanted o (yielded ops a.tmps) = true := by rfl) (hd : i ∉ ds := by simp) : wpAnyLast Try.prog md ops Q (Has w0 L0) ds (fuel + 1) l a w := by
  subst hn
  have h1 := H.get r hr
  have hcell := Kd.R_celln false h1 (k : Int) (by omega) (by omega)
  simp only [Int.toNat_natCast] at hcell
  refine one_ _ hi hN hc hd (fun K hK => ?_)
  have H2 := H.putB r hr rfl k x
  exact skip_ hw hN (hrun _ hcell.1 hcell.2) (hK.out _ _ (H2.hasI idx hs) (fun _ => h _ (aM H2)))
/-- An element of a row is written. -/
theorem Own.putI (H : Own w0 w L) (r : Nat) {q n cap : Nat} {xs : List Int} (hi : L[r]? = some (G.ri (.slice (some ⟨q, 0, none⟩) n cap) xs)) (hn : xs.length = n) (k : Nat) (x : Int) : Own w0 (w.setCell ⟨q, k, none⟩ ((Value.int .i64) x)) (L.set r (G.ri (.slice (some ⟨q, 0, none⟩) n cap) (xs.set k x))) := by
  subst hn
  have h1 := H.get r hi
  have hp := Kd.R_put h1 (k : Int) x
  simp only [Int.toNat_natCast] at hp
  refine H.upd r _ _ (S := fun j => some j = some q) hi rfl (G.ri_P hp.1) ⟨hp.2.size, fun j hj hn => hp.2.block j hj hn⟩ (fun j hj => ?_) ?_
  · show some j = (Value.slice (some ⟨q, 0, none⟩) xs.length cap).ownBlock
    simpa [Value.ownBlock] using hj
  · exact H.below.setCell ((H.all r _ hi).2 q (by show some q = (Value.slice (some ⟨q, 0, none⟩) xs.length cap).ownBlock; simp [Value.ownBlock])).1 _
/-- .. as a step of a region. -/
theorem stEI {md : Region.Mode} {ds : List Nat} {fuel : Nat} {l : Array Bool} (i r k : Nat) (x : Int) (idx : List Nat) (H : Own w0 w L) {L0 : List It} {q n cap : Nat} {xs : List Int} (hr : L[r]? = some (ri (.slice (some ⟨q, 0, none⟩) n cap) xs)) (hn : xs.length = n) (hk : k < xs.length) {T : TypeId} {p y : Operand} (h : ∀ w1, Aside0 (Own w0 w1 (L.set r (ri (.slice (some ⟨q, 0, none⟩) n cap) (xs.set k x)))) → wpAnyLast Try.prog md ops Q (Has w0 L0) ds fuel (l.setIfInBounds i true) a w1)
    (hs : idx.filterMap ((L.set r (ri (.slice (some ⟨q, 0, none⟩) n cap) (xs.set k x)))[·]?) = L0) (hi : ops[i]? = some o := by rfl) (hN : o.dst = none := by rfl) (hc : readyB md ops l (l.setIfInBounds i true) i = true := by kernel_rfl) (ho : o.op = .store T p y := by rfl) (hx : a.eval p = .pointer (some ⟨q, k, none⟩) := by rfl) (hy : a.eval y = (Value.int .i64) x := by rfl)
    (hrun : ∀ v, w.cell? ⟨q, k, none⟩ = some v → w.frozen? ⟨q, k, none⟩ = false → (execOp a.eval o).run Try.prog w = .ok .skip (w.setCell ⟨q, k, none⟩ ((Value.int .i64) x)) := by (intro v z y; go_simp)) (hw : Region.wanted o (yielded ops a.tmps) = true := by rfl) (hd : i ∉ ds := by simp) : wpAnyLast Try.prog md ops Q (Has w0 L0) ds (fuel + 1) l a w := by
  subst hn
  have h1 := H.get r hr
  have hcell := Kd.R_celln 0 h1 (k : Int) (by omega) (by omega)
  simp only [Int.toNat_natCast] at hcell
  refine one_ _ hi hN hc hd (fun K hK => ?_)
  have H2 := H.putI r hr rfl k x
  exact skip_ hw hN (hrun _ hcell.1 hcell.2) (hK.out _ _ (H2.hasI idx hs) (fun _ => h _ (aM H2)))
/-- An element of a row is written. -/
theorem seLB {rest : List Oper} (r k : Nat) (x : Bool) (H : Own w0 w L) {q n cap : Nat} {xs : List Bool} (hr : L[r]? = some (rb (.slice (some ⟨q, 0, none⟩) n cap) xs)) (hn : xs.length = n) (hk : k < xs.length) (h : ∀ w1, Aside0 (Own w0 w1 (L.set r (rb (.slice (some ⟨q, 0, none⟩) n cap) (xs.set k x)))) → wpList Try.prog ops Q rest (a.put none undef) w1) {T : TypeId} {p y : Operand} (hN : o.dst = none := by rfl) (hg : o.guard = none := by rfl) (ho : o.op = .store T p y := by rfl) (hx : a.eval p = .pointer (some ⟨q, k, none⟩) := by rfl) (hy : a.eval y = Value.bool x := by rfl)
    (hrun : ∀ v, w.cell? ⟨q, k, none⟩ = some v → w.frozen? ⟨q, k, none⟩ = false → (execOp a.eval o).run Try.prog w = .ok .skip (w.setCell ⟨q, k, none⟩ (Value.bool x)) := by (intro v z y; go_simp)) : wpList Try.prog ops Q (o :: rest) a w := by
  subst hn
  have h1 := H.get r hr
  have hcell := Kd.R_celln false h1 (k : Int) (by omega) (by omega)
  simp only [Int.toNat_natCast] at hcell
  refine wpList_plain hg fun K hK => ?_
  unfold Oper.wp
  rw [hrun _ hcell.1 hcell.2]
  show K (a.put o.dst undef) _
  rw [hN]
  exact hK _ _ (h _ (aM (H.putB r hr rfl k x)))
/-- An element of a row is written. -/
theorem seLI {rest : List Oper} (r k : Nat) (x : Int) (H : Own w0 w L) {q n cap : Nat} {xs : List Int} (hr : L[r]? = some (ri (.slice (some ⟨q, 0, none⟩) n cap) xs)) (hn : xs.length = n) (hk : k < xs.length) (h : ∀ w1, Aside0 (Own w0 w1 (L.set r (ri (.slice (some ⟨q, 0, none⟩) n cap) (xs.set k x)))) → wpList Try.prog ops Q rest (a.put none undef) w1) {T : TypeId} {p y : Operand} (hN : o.dst = none := by rfl) (hg : o.guard = none := by rfl) (ho : o.op = .store T p y := by rfl) (hx : a.eval p = .pointer (some ⟨q, k, none⟩) := by rfl) (hy : a.eval y = (Value.int .i64) x := by rfl)
    (hrun : ∀ v, w.cell? ⟨q, k, none⟩ = some v → w.frozen? ⟨q, k, none⟩ = false → (execOp a.eval o).run Try.prog w = .ok .skip (w.setCell ⟨q, k, none⟩ ((Value.int .i64) x)) := by (intro v z y; go_simp)) : wpList Try.prog ops Q (o :: rest) a w := by
  subst hn
  have h1 := H.get r hr
  have hcell := Kd.R_celln 0 h1 (k : Int) (by omega) (by omega)
  simp only [Int.toNat_natCast] at hcell
  refine wpList_plain hg fun K hK => ?_
  unfold Oper.wp
  rw [hrun _ hcell.1 hcell.2]
  show K (a.put o.dst undef) _
  rw [hN]
  exact hK _ _ (h _ (aM (H.putI r hr rfl k x)))
end
end Go.Proofs.Ytiogbjbkfhhdhaa.G
