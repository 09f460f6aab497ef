/- Rows of anything, as things of one's own: made, grown by one or by many. No condition. -/
import Derived.Test.YtiogbjbkfhhdhaaGOwn
import Derived.Test.YtiogbjbkfhhdhaaGLat
namespace Go.Proofs.Ytiogbjbkfhhdhaa.G
open Go.Proofs.Ytiogbjbkfhhdhaa.K Go Go.RowKit Go.Proofs.YtiogbjbkfhhdhaaW.PrintWords Go.Proofs.YtiogbjbkfhhdhaaW.PrintLast Go.Proofs.YtiogbjbkfhhdhaaW.PrintMore
set_option linter.unusedVariables false
set_option linter.unusedSimpArgs false
/-- A row of elements of any kind, in blocks F. -/
def ix {α : Type} (d : Kd α) (e : Nat) (v : Value) (xs : List α) (F : Nat → Prop) : It := ⟨fun w => Kd.R d e w 0 F v xs, F, fun w w' h hf => Kd.R_move h (fun k hk => hf k hk)⟩
/-- A kind told as it stands at one world: its elements' own rows are of no matter. -/
def frz {α : Type} (d : Kd α) (W0 : World) : Kd α where
  sz := d.sz
  E := []
  K := fun _ x cs => d.K W0 x cs
  M := fun _ _ _ x cs => d.K W0 x cs
  K_len := fun h => d.K_len h
  K_one := fun h => d.K_one h
  K_below := fun _ h => h
  K_of_M := fun h => h
  M_mono := fun _ h => h
  M_bound := fun h => h
  M_move := fun _ h => h
  M_lower := fun _ h => h
section
variable {α : Type} {d : Kd α} {e : Nat} {P : Program} {ops : Array Oper} {Q : Exit → Act → World → Prop} {o : Oper} {a : Act} {w0 w w1 : World} {L : List It} {rest : List Oper} {v : Value} {xs ys zs : List α} {F : Nat → Prop} {x y : It}
theorem Own.cx (H : Own w0 w L) (i : Nat) {A : Option Addr} {n c : Nat} (hi : L[i]? = some (ix d e (.slice A n c) xs F) := by rfl) : Kd.C d w A xs.length xs := (Kd.R_reads' (H.get i hi)).2.2
theorem Own.nx (H : Own w0 w L) (i : Nat) {A : Option Addr} {n c : Nat} (hi : L[i]? = some (ix d e (.slice A n c) xs F) := by rfl) : n = xs.length := (Kd.R_reads' (H.get i hi)).1
theorem Own.lx (H : Own w0 w L) (i : Nat) {A : Option Addr} {c : Nat} (hi : L[i]? = some (ix d e (.slice A xs.length c) xs F) := by rfl) : xs.length ≤ c := (Kd.R_reads' (H.get i hi)).2.1
/-- What is readable is readable as it stands. -/
theorem C_frz {A : Option Addr} {n : Nat} (h : Kd.C d w A n xs) : Kd.C (frz d w) w A n xs := h
theorem C_unfrz {A : Option Addr} {n : Nat} (h : Kd.C (frz d w) w1 A n xs) (hb : Below w.heap.size w w1) : Kd.C d w1 A n xs := ReadsRow.imp_ h (Below.refl _ _) (fun _ _ hp => d.K_below hb hp)
/-- A row has grown by what is in blocks G. -/
theorem Own.ixGrown (H : Own w0 w L) (i : Nat) (hi : L[i]? = some (ix d e v xs F)) {d' : Kd α} (G : Nat → Prop) (hG1 : ∀ k, G k → w0.heap.size ≤ k ∧ k < w.heap.size) (hG2 : ∀ (j : Nat) (y : It), L[j]? = some y → ∀ k, y.F k → ¬ G k) {v1 : Value} (hr : Kd.R d' e w1 0 (fun k => F k ∨ G k ∨ w.heap.size ≤ k) v1 ys) (hg : w.grownBy w1 v.ownBlock) :
    Own w0 w1 (L.set i (ix d' e v1 ys (fun k => (F k ∨ G k ∨ w.heap.size ≤ k) ∧ k < w1.heap.size))) := by
  have hil : i < L.length := (List.getElem?_eq_some_iff.1 hi).1
  have hP : Kd.R d e w 0 F v xs := H.get i hi
  have hbd := (H.all i _ hi).2
  have hB : Below w0.heap.size w0 w1 := H.below.grown hg H.below.size (fun k hk => (hbd k (hP.1 k hk)).1)
  have h0 := H.below.size
  have key : ∀ (j : Nat) (z : It), i ≠ j → L[j]? = some z → ∀ k, z.F k → ¬ ((F k ∨ G k ∨ w.heap.size ≤ k) ∧ k < w1.heap.size) := fun j z hij hz k hk hk' => by
    rcases hk'.1 with h | h | h
    · exact H.apart i j _ z hi hz hij k h hk
    · exact hG2 j z hz k hk h
    · have := ((H.all j z hz).2 k hk).2
      omega
  refine ⟨hB, fun j z hz => ?_, fun j m z z' hz hz' hjm k hk hk' => ?_⟩
  · by_cases hij : i = j
    · subst hij
      rw [List.getElem?_set_self hil] at hz
      obtain rfl := Option.some.inj hz
      refine ⟨Kd.R_mono (Kd.R_bound hr) (fun k hk => ⟨hk.1, hk.2.2.1⟩), fun k hk => ⟨?_, hk.2⟩⟩
      rcases hk.1 with h | h | h
      · exact (hbd k h).1
      · exact (hG1 k h).1
      · omega
    · rw [List.getElem?_set_ne hij] at hz
      have h1 := H.all j z hz
      exact ⟨z.loc w w1 h1.1 (fun k hk => hg.block k (h1.2 k hk).2 (fun e_ => H.apart i j _ z hi hz hij k (hP.1 k e_.symm) hk)), fun k hk => ⟨(h1.2 k hk).1, Nat.lt_of_lt_of_le (h1.2 k hk).2 hg.size⟩⟩
  · by_cases hj : i = j
    · subst hj
      rw [List.getElem?_set_self hil] at hz
      obtain rfl := Option.some.inj hz
      rw [List.getElem?_set_ne hjm] at hz'
      exact key m z' hjm hz' k hk' hk
    · rw [List.getElem?_set_ne hj] at hz
      by_cases hm : i = m
      · subst hm
        rw [List.getElem?_set_self hil] at hz'
        obtain rfl := Option.some.inj hz'
        exact key j z hj hz k hk hk'
      · rw [List.getElem?_set_ne hm] at hz'
        exact H.apart j m z z' hz hz' hjm k hk hk'
/-- One element is appended, whose own rows are the first two things of what is one's own. -/
theorem apT (i : Nat) (N : Tmp) (H : Own w0 w (x :: y :: L)) (p : α) (cs : List Value) {t : TypeId} {z : Value} {bytes : Nat} (hi : L[i]? = some (ix d e v xs F)) (hp : d.M w 0 (fun k => x.F k ∨ y.F k) p cs) (ht : P.underlying t = some (.slice e)) (hinfo : (P.info? e).map (fun i => (i.zero, i.size, i.bytes)) = some (some z, d.sz, bytes)) (hz : z.cells.size = d.sz) (hs0 : 0 < d.sz) (hb0 : 0 < bytes) (hl : (xs.length + 1) * bytes ≤ 140737488355328)
    (h : ∀ A' c' w1 F1, Aside0 (Own w0 w1 (L.set i (ix d e (.slice A' zs.length c') zs F1))) → wpList P ops Q rest (a.put (some N) (.slice A' zs.length c')) w1) (hzs : xs ++ [p] = zs) {s xo : Operand}
    (ho : o.op = .call { callee := .builtin .append, args := #[s, xo], argTypes := #[t, t] } := by rfl) (hs : a.eval s = v := by rfl) (hx : a.eval xo = .slice (some ⟨w.heap.size, 0, none⟩) 1 1 := by rfl) (hN : o.dst = some N := by rfl) (hg : o.guard = none := by rfl) : wpList P ops Q (o :: rest) a (w.alloc (.cells cs.toArray e)) := by
  subst hzs
  have hP : Kd.R d e w 0 F v xs := H.get (i + 2) (by simpa using hi)
  have hx0 := (H.all 0 x rfl).2
  have hy0 := (H.all 1 y rfl).2
  have hap : ∀ k, F k → ¬ (x.F k ∨ y.F k) := fun k hk hk' => by
    rcases hk' with h1 | h1
    · exact H.apart 0 (i + 2) x _ rfl (by simpa using hi) (by omega) k h1 hk
    · exact H.apart 1 (i + 2) y _ rfl (by simpa using hi) (by omega) k h1 hk
  refine Kd.R_append d 0 hg s xo t e z bytes ho ht hinfo hz hs0 hb0 v xs p cs (fun k => F k ∨ (x.F k ∨ y.F k) ∨ w.heap.size ≤ k) (fun k => x.F k ∨ y.F k) hs hx hp (fun k hk => ⟨.inr (.inl hk), fun hv => hap k (hP.1 k hv.symm) hk⟩) (fun k hk => .inr (.inr hk)) (Kd.R_mono hP (fun k hk => .inl hk)) (H.below.mono (Nat.zero_le _)) (Nat.zero_le _) hl ?_
  intro v1 w1 hr hB hgr hat
  obtain ⟨A1, c1, rfl⟩ := Kd.R_slice hr
  rw [hN]
  refine h A1 c1 w1 _ (aM ((H.tail 2).ixGrown i hi (fun k => x.F k ∨ y.F k) (fun k hk => hk.elim (hx0 k) (hy0 k)) (fun j z hz k hk hk' => ?_) hr hgr))
  rcases hk' with h1 | h1
  · exact H.apart 0 (j + 2) x z rfl (by simpa using hz) (by omega) k h1 hk
  · exact H.apart 1 (j + 2) y z rfl (by simpa using hz) (by omega) k h1 hk
/-- Many elements are appended, as they stand. -/
theorem apR {W0 : World} (i : Nat) (N : Tmp) (H : Own w0 w L) {A : Option Addr} {m c : Nat} {t : TypeId} {z : Value} {bytes : Nat} (hi : L[i]? = some (ix (frz d W0) e v xs F)) (hC : Kd.C (frz d W0) w A m ys) (ht : P.underlying t = some (.slice e)) (hinfo : (P.info? e).map (fun i => (i.zero, i.size, i.bytes)) = some (some z, d.sz, bytes)) (hz : z.cells.size = d.sz) (hs0 : 0 < d.sz) (hb0 : 0 < bytes) (hl : (xs.length + m) * bytes ≤ 140737488355328)
    (h : ∀ A' c' w1 F1, Aside0 (Own w0 w1 (L.set i (ix (frz d W0) e (.slice A' zs.length c') zs F1))) → wpList P ops Q rest (a.put (some N) (.slice A' zs.length c')) w1) (hzs : xs ++ ys = zs) {s xo : Operand}
    (ho : o.op = .call { callee := .builtin .append, args := #[s, xo], argTypes := #[t, t] } := by rfl) (hs : a.eval s = v := by rfl) (hx : a.eval xo = .slice A m c := by rfl) (hN : o.dst = some N := by rfl) (hg : o.guard = none := by rfl) : wpList P ops Q (o :: rest) a w :=
  wpList_step (fun K hK => by
    subst hzs
    have hw : Region.wanted o (yielded ops a.tmps) = true := by simp [Region.wanted, hg]
    have hP : Kd.R (frz d W0) e w 0 F v xs := H.get i hi
    refine Kd.R_append_rows_step (frz d W0) (Rr := fun x cs => d.K W0 x cs) (w0 := w0) 0 hw s xo t e z bytes ho ht hinfo hz hs0 hb0 v xs ys A m c (fun k => F k ∨ False ∨ w.heap.size ≤ k) (fun _ => False) hs hx (Kd.R_mono hP (fun k hk => .inl hk)) hC (fun _ _ h => h) (fun _ h => h.elim) (fun k hk => .inr (.inr hk)) (H.below.mono (Nat.zero_le _)) (Nat.zero_le _) hl ?_
    intro v1 w1 hr hB hgr hat
    obtain ⟨A1, c1, rfl⟩ := Kd.R_slice hr
    rw [hN]
    exact hK _ _ (h A1 c1 w1 _ (aM (H.ixGrown i hi (fun _ => False) (fun k hk => hk.elim) (fun _ _ _ _ _ hk => hk) hr hgr))))
/-- An empty row is made. -/
theorem litT (d : Kd α) (e : Nat) (N : Tmp) (H : Own w0 w L) (h : ∀ A c w1 F1, Aside0 (Own w0 w1 (ix d e (.slice A ([] : List α).length c) [] F1 :: L)) → wpList P ops Q rest (a.put (some N) (.slice A ([] : List α).length c)) w1) (hd : o.dst = some N := by rfl) (hg : o.guard = none := by rfl)
    (hrun : (execOp a.eval o).run P w = .ok (.value (.slice (some ⟨w.heap.size, 0, none⟩) ([] : List α).length ([] : List α).length)) (w.alloc (.cells ([] : List Value).toArray e)) := by first | (go_simp; done) | (go_simp; rfl)) : wpList P ops Q (o :: rest) a w := by
  refine Kd.R_lit d (w0 := w) 0 e hg hd (ok := fun k => w.heap.size ≤ k) (okp := fun _ => False) hrun (Reps.none _ _) (fun _ h => h.elim) (Nat.le_refl _) (Below.refl _ _) (Nat.zero_le _) (by simp) ?_
  intro v1 w1 hr hB hgr hat
  obtain ⟨A1, c1, rfl⟩ := Kd.R_slice hr
  rw [hd]
  exact h A1 c1 w1 (fun k => w.heap.size ≤ k ∧ k < w1.heap.size) (aM (H.cons ((Below.refl w.heap.size w).grown hgr (Nat.le_refl _) (fun k hk => by cases hk)) (Kd.R_mono (Kd.R_bound hr) (fun k hk => ⟨hk.1, hk.2.2.1⟩)) (fun k hk => hk)))
end
end Go.Proofs.Ytiogbjbkfhhdhaa.G
