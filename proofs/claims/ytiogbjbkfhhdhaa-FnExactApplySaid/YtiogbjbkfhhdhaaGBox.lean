/- Boxes: blocks of a call's own, a variable each, and rows of a device: what stays of them. No condition. -/
import Derived.Test.YtiogbjbkfhhdhaaM
import Derived.Laws.CopyOwn
import Derived.Test.YtiogbjbkfhhdhaaWKept
namespace Go.Proofs.Ytiogbjbkfhhdhaa.G
open Go.Proofs.Ytiogbjbkfhhdhaa.K Go Go.RowKit Go.Proofs.YtiogbjbkfhhdhaaW.PrintWords Go.Proofs.YtiogbjbkfhhdhaaW.PrintLast Go.Proofs.YtiogbjbkfhhdhaaW.PrintMore
set_option linter.unusedVariables false
set_option linter.unusedSimpArgs false

/-- The blocks of L lie in w as told, from n on and apart from each other. -/
def Bx (n : Nat) (w : World) (L : List (Nat × Array Value × Nat)) : Prop :=
  (∀ x ∈ L, w.heap[x.1]? = some (.cells x.2.1 x.2.2 (0, 0)) ∧ n ≤ x.1) ∧ L.Pairwise (fun x y => x.1 ≠ y.1)
section
variable {n : Nat} {w w1 : World} {L : List (Nat × Array Value × Nat)} {g t : Nat} {cs : Array Value}
theorem Bx.start (n : Nat) (w : World) : Bx n w [] := ⟨fun x hx => by simp at hx, List.Pairwise.nil⟩
theorem Bx.blk (h : Bx n w L) (hx : (g, cs, t) ∈ L) : w.heap[g]? = some (.cells cs t (0, 0)) := (h.1 _ hx).1
theorem Bx.ge (h : Bx n w L) (hx : (g, cs, t) ∈ L) : n ≤ g := (h.1 _ hx).2
theorem Bx.below (h : Bx n w L) (hB : Below w.heap.size w w1) : Bx n w1 L :=
  ⟨fun x hx => ⟨blk_below (h.1 x hx).1 hB, (h.1 x hx).2⟩, h.2⟩
theorem Bx.box (h : Bx n w L) (hn : n ≤ w.heap.size) (hg : g = w.heap.size) (hb : w1.heap[g]? = some (.cells cs t (0, 0))) (hB : Below w.heap.size w w1) : Bx n w1 ((g, cs, t) :: L) := by
  have h1 := h.below hB
  refine ⟨fun x hx => ?_, List.Pairwise.cons (fun x hx => ?_) h.2⟩
  · rcases List.mem_cons.1 hx with rfl | hx
    · exact ⟨hb, by rw [hg]; exact hn⟩
    · exact h1.1 x hx
  · have := blk_lt (h.1 x hx).1
    show g ≠ x.1
    omega
/-- A whole variable is written. -/
theorem Bx.row (L1 L2 : List (Nat × Array Value × Nat)) (h : Bx n w (L1 ++ (g, cs, t) :: L2)) (cs' : Array Value) : Bx n (w.setRow g cs') (L1 ++ (g, cs', t) :: L2) := by
  obtain ⟨hL, hp⟩ := h
  have hp' := List.pairwise_append.1 hp
  have hp2 := List.pairwise_cons.1 hp'.2.1
  have hg := hL (g, cs, t) (by simp)
  refine ⟨fun x hx => ?_, List.pairwise_append.2 ⟨hp'.1, List.pairwise_cons.2 ⟨fun y hy => hp2.1 y hy, hp2.2⟩, fun x hx y hy => ?_⟩⟩
  · have hne : ∀ y : Nat × Array Value × Nat, y.1 ≠ g → (w.setRow g cs').heap[y.1]? = w.heap[y.1]? := fun y hy => setRow_other w g y.1 cs' hy
    rcases List.mem_append.1 hx with hx | hx
    · have hn : x.1 ≠ g := hp'.2.2 x hx (g, cs, t) (by simp)
      have := hL x (by simp [hx])
      exact ⟨(hne x hn).trans this.1, this.2⟩
    · rcases List.mem_cons.1 hx with rfl | hx
      · exact ⟨setRow_heap w g cs cs' t (0, 0) hg.1, hg.2⟩
      · have hn : x.1 ≠ g := fun e => hp2.1 x hx e.symm
        have := hL x (by simp [hx])
        exact ⟨(hne x hn).trans this.1, this.2⟩
  · rcases List.mem_cons.1 hy with rfl | hy
    · exact hp'.2.2 x hx (g, cs, t) (by simp)
    · exact hp'.2.2 x hx y (by simp [hy])
/-- Something that is no box of L is written, or grows. -/
theorem Bx.kept {S : Nat → Prop} (h : Bx n w L) (hk : Kept w w1 S) (hS : ∀ x ∈ L, ¬ S x.1) : Bx n w1 L :=
  ⟨fun x hx => ⟨(hk.2 x.1 (blk_lt (h.1 x hx).1) (hS x hx)).trans (h.1 x hx).1, (h.1 x hx).2⟩, h.2⟩
theorem keep_setRow (w : World) (g : Nat) (cs : Array Value) : KeepBut w (w.setRow g cs) g none := ⟨by simp [World.setRow], fun i _ hi _ => setRow_other w g i cs hi⟩
theorem R_row {α : Type} {d : Kd α} {e base : Nat} {ok : Nat → Prop} {v : Value} {xs : List α} (h : d.R e w base ok v xs) (hb : w.heap[g]? = some (.cells cs t (0, 0))) (ht : ∀ q, q ∈ e :: d.E → q ≠ t) (cs' : Array Value) : d.R e (w.setRow g cs') base ok v xs :=
  Kd.R_mono (Kd.R_keep (Kd.R_types h hb ht) (keep_setRow w g cs') (fun _ hk => hk.2)) (fun _ hk => hk.1)
end

/-- A device's rows. -/
def Rows4 (w : World) (base : Nat) (v0 v1 v2 v3 : Value) (l0 l1 : List Bool) (l2 l3 : List Int) : Prop :=
  Kd.R Kd.bool 4 w base (fun k_ => some k_ ≠ v1.ownBlock) v0 l0 ∧ Kd.R Kd.bool 4 w base (fun k_ => some k_ ≠ v0.ownBlock) v1 l1 ∧ Kd.R (Kd.int .i64) 3 w base (fun k_ => some k_ ≠ v3.ownBlock) v2 l2 ∧ Kd.R (Kd.int .i64) 3 w base (fun k_ => some k_ ≠ v2.ownBlock) v3 l3
section
variable {w w1 : World} {base : Nat} {v0 v1 v2 v3 : Value} {l0 l1 : List Bool} {l2 l3 : List Int}
theorem Rows4.below (h : Rows4 w base v0 v1 v2 v3 l0 l1 l2 l3) (hb : Below w.heap.size w w1) : Rows4 w1 base v0 v1 v2 v3 l0 l1 l2 l3 := ⟨Kd.R_below h.1 hb, Kd.R_below h.2.1 hb, Kd.R_below h.2.2.1 hb, Kd.R_below h.2.2.2 hb⟩
theorem Rows4.lower {b : Nat} (h : Rows4 w base v0 v1 v2 v3 l0 l1 l2 l3) (hb : b ≤ base) : Rows4 w b v0 v1 v2 v3 l0 l1 l2 l3 := ⟨Kd.R_lower h.1 hb, Kd.R_lower h.2.1 hb, Kd.R_lower h.2.2.1 hb, Kd.R_lower h.2.2.2 hb⟩
theorem Rows4.row {g t : Nat} {cs : Array Value} (h : Rows4 w base v0 v1 v2 v3 l0 l1 l2 l3) (hb : w.heap[g]? = some (.cells cs t (0, 0))) (cs' : Array Value) (h0 : 4 ≠ t := by decide) (h1 : 3 ≠ t := by decide) : Rows4 (w.setRow g cs') base v0 v1 v2 v3 l0 l1 l2 l3 :=
  have a0 : ∀ q, q ∈ 4 :: (Kd.bool).E → q ≠ t := fun q hq => by rcases List.mem_cons.1 hq with rfl | hq <;> first | exact h0 | exact absurd hq (by simp [Kd.bool, Kd.scalar])
  have a1 : ∀ q, q ∈ 3 :: (Kd.int .i64).E → q ≠ t := fun q hq => by rcases List.mem_cons.1 hq with rfl | hq <;> first | exact h1 | exact absurd hq (by simp [Kd.int, Kd.scalar])
  ⟨R_row h.1 hb a0 cs', R_row h.2.1 hb a0 cs', R_row h.2.2.1 hb a1 cs', R_row h.2.2.2 hb a1 cs'⟩
/-- No box of another type is a row of the device. -/
theorem Rows4.ne0 {g t : Nat} {cs : Array Value} (h : Rows4 w base v0 v1 v2 v3 l0 l1 l2 l3) (hb : w.heap[g]? = some (.cells cs t (0, 0))) (h0 : 4 ≠ t) : some g ≠ v0.ownBlock := Kd.R_ne h.1 hb h0
theorem Rows4.ne2 {g t : Nat} {cs : Array Value} (h : Rows4 w base v0 v1 v2 v3 l0 l1 l2 l3) (hb : w.heap[g]? = some (.cells cs t (0, 0))) (h0 : 3 ≠ t) : some g ≠ v2.ownBlock := Kd.R_ne h.2.2.1 hb h0
theorem own_other_types {α β : Type} {d : Kd α} {d' : Kd β} {e e' b b' : Nat} {ok ok' : Nat → Prop} {u v : Value} {xs : List α} {ys : List β} (hu : d.R e w b ok u xs) (hv : d'.R e' w b' ok' v ys) (hne : e ≠ e') : ∀ k, u.ownBlock = some k → some k ≠ v.ownBlock := by
  obtain ⟨_, inner, ho, _⟩ := hu
  obtain ⟨_, inner', ho', _⟩ := hv
  intro k hk he
  obtain ⟨c1, h1⟩ := own_typed ho k hk
  obtain ⟨c2, h2⟩ := own_typed ho' k he.symm
  rw [h1] at h2
  injection h2 with h2
  injection h2 with _ h2
  exact hne h2
theorem R_own_ok {α : Type} {d : Kd α} {e b : Nat} {ok ok' : Nat → Prop} {v : Value} {xs : List α} (h : d.R e w b ok v xs) (hE : d.E = []) (hM : ∀ w b (p p' : Nat → Prop) x c, d.M w b p x c → d.M w b p' x c) (h' : ∀ k, v.ownBlock = some k → ok' k) : d.R e w b ok' v xs := by
  obtain ⟨_, inner, ho, hr⟩ := h
  exact ⟨h', inner, ho, hr.imp_ (fun _ _ hp => hM _ _ _ _ _ _ hp)⟩
theorem R_bool_ok {e b : Nat} {ok ok' : Nat → Prop} {v : Value} {xs : List Bool} (h : Kd.bool.R e w b ok v xs) (h' : ∀ k, v.ownBlock = some k → ok' k) : Kd.bool.R e w b ok' v xs := R_own_ok h rfl (fun _ _ _ _ _ _ h => h) h'
theorem R_int_ok {e b : Nat} {ok ok' : Nat → Prop} {v : Value} {xs : List Int} (h : (Kd.int .i64).R e w b ok v xs) (h' : ∀ k, v.ownBlock = some k → ok' k) : (Kd.int .i64).R e w b ok' v xs := R_own_ok h rfl (fun _ _ _ _ _ _ h => h) h'
/-- The row of v0 has been written: the other rows stay. -/
theorem Rows4.put0 (h : Rows4 w base v0 v1 v2 v3 l0 l1 l2 l3) {l0' : List Bool} (h0 : Kd.R Kd.bool 4 w1 base (fun k_ => some k_ ≠ v1.ownBlock) v0 l0') (hg : w.grownBy w1 v0.ownBlock) : Rows4 w1 base v0 v1 v2 v3 l0' l1 l2 l3 :=
  ⟨h0, Kd.R_grown h.2.1 hg (fun _ hk => hk), Kd.R_mono (Kd.R_grown (R_int_ok (ok' := fun k_ => some k_ ≠ v3.ownBlock ∧ some k_ ≠ v0.ownBlock) h.2.2.1 (fun k hk => ⟨h.2.2.1.1 k hk, own_other_types h.2.2.1 h.1 (by decide) k hk⟩)) hg (fun _ hk => hk.2)) (fun _ hk => hk.1),
   Kd.R_mono (Kd.R_grown (R_int_ok (ok' := fun k_ => some k_ ≠ v2.ownBlock ∧ some k_ ≠ v0.ownBlock) h.2.2.2 (fun k hk => ⟨h.2.2.2.1 k hk, own_other_types h.2.2.2 h.1 (by decide) k hk⟩)) hg (fun _ hk => hk.2)) (fun _ hk => hk.1)⟩
/-- The row of v2 has been written: the other rows stay. -/
theorem Rows4.put2 (h : Rows4 w base v0 v1 v2 v3 l0 l1 l2 l3) {l2' : List Int} (h2 : Kd.R (Kd.int .i64) 3 w1 base (fun k_ => some k_ ≠ v3.ownBlock) v2 l2') (hg : w.grownBy w1 v2.ownBlock) : Rows4 w1 base v0 v1 v2 v3 l0 l1 l2' l3 :=
  ⟨Kd.R_mono (Kd.R_grown (R_bool_ok (ok' := fun k_ => some k_ ≠ v1.ownBlock ∧ some k_ ≠ v2.ownBlock) h.1 (fun k hk => ⟨h.1.1 k hk, own_other_types h.1 h.2.2.1 (by decide) k hk⟩)) hg (fun _ hk => hk.2)) (fun _ hk => hk.1),
   Kd.R_mono (Kd.R_grown (R_bool_ok (ok' := fun k_ => some k_ ≠ v0.ownBlock ∧ some k_ ≠ v2.ownBlock) h.2.1 (fun k hk => ⟨h.2.1.1 k hk, own_other_types h.2.1 h.2.2.1 (by decide) k hk⟩)) hg (fun _ hk => hk.2)) (fun _ hk => hk.1), h2, Kd.R_grown h.2.2.2 hg (fun _ hk => hk)⟩
end

/-- A device's rows and an answer's. -/
def Rows6 (w : World) (base : Nat) (v0 v1 v2 v3 v8 v9 : Value) (l0 l1 : List Bool) (l2 l3 l8 : List Int) (l9 : List Bool) : Prop :=
  Kd.R Kd.bool 4 w base (fun k_ => some k_ ≠ v1.ownBlock ∧ some k_ ≠ v9.ownBlock) v0 l0 ∧ Kd.R Kd.bool 4 w base (fun k_ => some k_ ≠ v0.ownBlock ∧ some k_ ≠ v9.ownBlock) v1 l1 ∧ Kd.R (Kd.int .i64) 3 w base (fun k_ => some k_ ≠ v3.ownBlock ∧ some k_ ≠ v8.ownBlock) v2 l2 ∧ Kd.R (Kd.int .i64) 3 w base (fun k_ => some k_ ≠ v2.ownBlock ∧ some k_ ≠ v8.ownBlock) v3 l3 ∧
  Kd.R (Kd.int .i64) 3 w base (fun k_ => some k_ ≠ v2.ownBlock ∧ some k_ ≠ v3.ownBlock) v8 l8 ∧ Kd.R Kd.bool 4 w base (fun k_ => some k_ ≠ v0.ownBlock ∧ some k_ ≠ v1.ownBlock) v9 l9
section
variable {w w1 : World} {base b : Nat} {v0 v1 v2 v3 v8 v9 : Value} {l0 l1 l9 : List Bool} {l2 l3 l8 : List Int}
/-- The answer's rows are younger than the device's. -/
theorem Rows6.of (h : Rows4 w base v0 v1 v2 v3 l0 l1 l2 l3) (hlt : ∀ v, v = v0 ∨ v = v1 ∨ v = v2 ∨ v = v3 → ∀ k, v.ownBlock = some k → k < b) (h8 : Kd.R (Kd.int .i64) 3 w b (fun _ => True) v8 l8) (h9 : Kd.R Kd.bool 4 w b (fun _ => True) v9 l9) (hb : base ≤ b) : Rows6 w base v0 v1 v2 v3 v8 v9 l0 l1 l2 l3 l8 l9 := by
  have e8 : ∀ v, v = v0 ∨ v = v1 ∨ v = v2 ∨ v = v3 → ∀ k, v.ownBlock = some k → some k ≠ v8.ownBlock := fun v hv k hk he => by have := hlt v hv k hk; have := Kd.R_base h8 k he.symm; omega
  have e9 : ∀ v, v = v0 ∨ v = v1 ∨ v = v2 ∨ v = v3 → ∀ k, v.ownBlock = some k → some k ≠ v9.ownBlock := fun v hv k hk he => by have := hlt v hv k hk; have := Kd.R_base h9 k he.symm; omega
  refine ⟨R_bool_ok h.1 (fun k hk => ⟨h.1.1 k hk, e9 v0 (by simp) k hk⟩), R_bool_ok h.2.1 (fun k hk => ⟨h.2.1.1 k hk, e9 v1 (by simp) k hk⟩), R_int_ok h.2.2.1 (fun k hk => ⟨h.2.2.1.1 k hk, e8 v2 (by simp) k hk⟩), R_int_ok h.2.2.2 (fun k hk => ⟨h.2.2.2.1 k hk, e8 v3 (by simp) k hk⟩), Kd.R_lower (R_int_ok h8 (fun k hk => ⟨fun he => e8 v2 (by simp) k he.symm hk.symm, fun he => e8 v3 (by simp) k he.symm hk.symm⟩)) hb, Kd.R_lower (R_bool_ok h9 (fun k hk => ⟨fun he => e9 v0 (by simp) k he.symm hk.symm, fun he => e9 v1 (by simp) k he.symm hk.symm⟩)) hb⟩
theorem Rows6.below (h : Rows6 w base v0 v1 v2 v3 v8 v9 l0 l1 l2 l3 l8 l9) (hb : Below w.heap.size w w1) : Rows6 w1 base v0 v1 v2 v3 v8 v9 l0 l1 l2 l3 l8 l9 := ⟨Kd.R_below h.1 hb, Kd.R_below h.2.1 hb, Kd.R_below h.2.2.1 hb, Kd.R_below h.2.2.2.1 hb, Kd.R_below h.2.2.2.2.1 hb, Kd.R_below h.2.2.2.2.2 hb⟩
theorem Rows6.row {g t : Nat} {cs : Array Value} (h : Rows6 w base v0 v1 v2 v3 v8 v9 l0 l1 l2 l3 l8 l9) (hb : w.heap[g]? = some (.cells cs t (0, 0))) (cs' : Array Value) (h0 : 4 ≠ t := by decide) (h1 : 3 ≠ t := by decide) : Rows6 (w.setRow g cs') base v0 v1 v2 v3 v8 v9 l0 l1 l2 l3 l8 l9 :=
  have a0 : ∀ q, q ∈ 4 :: (Kd.bool).E → q ≠ t := fun q hq => by rcases List.mem_cons.1 hq with rfl | hq <;> first | exact h0 | exact absurd hq (by simp [Kd.bool, Kd.scalar])
  have a1 : ∀ q, q ∈ 3 :: (Kd.int .i64).E → q ≠ t := fun q hq => by rcases List.mem_cons.1 hq with rfl | hq <;> first | exact h1 | exact absurd hq (by simp [Kd.int, Kd.scalar])
  ⟨R_row h.1 hb a0 cs', R_row h.2.1 hb a0 cs', R_row h.2.2.1 hb a1 cs', R_row h.2.2.2.1 hb a1 cs', R_row h.2.2.2.2.1 hb a1 cs', R_row h.2.2.2.2.2 hb a0 cs'⟩
end

/-- The first n of m steps are done. -/
def flg (n m : Nat) : Array Bool := (List.replicate n true ++ List.replicate (m - n) false).toArray
/-- ys laid over xs from place o on. -/
def over {α : Type} : List α → Nat → List α → List α
  | xs, _, [] => xs
  | xs, o, y :: ys => over (xs.set o y) (o + 1) ys
theorem over_length {α : Type} : ∀ (ys xs : List α) (o : Nat), (over xs o ys).length = xs.length
  | [], _, _ => rfl
  | y :: ys, xs, o => by rw [over, over_length ys]; simp
section
variable {α : Type} {enc : α → Value} {h1 : ∀ x, (enc x).oneCell' = true} {e base g cap : Nat} {ok : Nat → Prop} {d0 : α}
theorem setCells_over : ∀ (ys xs : List α) (o : Nat) (W : World), (Kd.scalar enc h1).R e W base ok (.slice (some ⟨g, 0, none⟩) xs.length cap) xs → o + ys.length ≤ xs.length →
    (Kd.scalar enc h1).R e (W.setCells g o (ys.map enc)) base ok (.slice (some ⟨g, 0, none⟩) xs.length cap) (over xs o ys) ∧ W.grownBy (W.setCells g o (ys.map enc)) (some g)
  | [], xs, o, W, h, _ => ⟨h, World.grownBy.refl _ _⟩
  | y :: ys, xs, o, W, h, ho => by
    have hp := Kd.R_put h (o : Int) y
    simp only [Int.toNat_natCast] at hp
    have hl : (xs.set o y).length = xs.length := by simp
    have ih := setCells_over ys (xs.set o y) (o + 1) (W.setCell ⟨g, o, none⟩ (enc y)) (by rw [hl]; exact hp.1) (by rw [hl]; simp at ho; omega)
    rw [hl] at ih
    exact ⟨ih.1, hp.2.trans ih.2⟩
end

section
variable {P : Program} {α : Type} {enc : α → Value} {h1 : ∀ x, (enc x).oneCell' = true} {e base : Nat} {ok : Nat → Prop}
/-- copy(v[off:], ys), v a row of one's own: the row bears ys from off on, nothing else turns. -/
theorem copy_run (z : α) {w : World} {A As : Option Addr} {c cs : Nat} {xs ys : List α} (h : (Kd.scalar enc h1).R e w base ok (.slice A xs.length c) xs) (hy : (Kd.scalar enc h1).C w As ys.length ys) (off : Nat) (ho : off + ys.length ≤ xs.length)
    (T ty elem : TypeId) (hu : P.underlying T = some (.slice elem)) (hs : (P.info? elem).map (·.size) = some 1) :
    ∃ w', (Builtin.copy_ #[T, T] ty #[.slice (if c = off then A else A.map (·.add (off * 1))) (xs.length - off) (c - off), .slice As ys.length cs]).run P w = .ok (goInt ys.length) w' ∧ (Kd.scalar enc h1).R e w' base ok (.slice A xs.length c) (over xs off ys) ∧ w.grownBy w' (Value.slice A xs.length c).ownBlock := by
  rcases Nat.eq_zero_or_pos ys.length with h0 | h0
  · obtain rfl : ys = [] := List.eq_nil_of_length_eq_zero h0
    exact ⟨w, run_copy_none w T T ty elem _ _ _ _ _ _ hu hs (by simp), h, World.grownBy.refl _ _⟩
  · obtain ⟨g, cap, he, hg, hlt, _⟩ := Kd.R_form h (by omega)
    simp only [Value.slice.injEq] at he
    obtain ⟨rfl, _, rfl⟩ := he
    have hc : xs.length ≤ c := (Kd.R_reads' h).2.1
    obtain ⟨ad, rfl, hcell⟩ := hy.2.2 h0
    have hput := setCells_over (enc := enc) (h1 := h1) ys xs off w h ho
    have hlen : (ys.map enc).length = ys.length := by simp
    refine ⟨w.setCells g off (ys.map enc), ?_, hput.1, hput.2⟩
    rw [if_neg (by omega)]
    have ha : (some (⟨g, 0, none⟩ : Addr)).map (·.add (off * 1)) = some ⟨g, off, none⟩ := by simp [add_at]
    rw [ha]
    have hr := run_copy_cells (P := P) w T T ty elem g off (xs.length - off) (c - off) ad ys.length cs (ys.map enc) hu hs (by rw [hlen]; show ys.length = min ys.length (xs.length - off); omega) (fun j v hv => by
      rw [List.getElem?_map] at hv
      obtain ⟨y, hy1, rfl⟩ := Option.map_eq_some_iff.1 hv
      obtain ⟨u, hu1, hu2, hu3⟩ := hcell j y hy1
      have hu2' : u = [enc y] := hu2
      subst hu2'
      have := hu3 0 (enc y) rfl
      simpa [Kd.scalar] using this)
      (fun j hj => by
        have := (Kd.R_cell z h ((off + j : Nat) : Int) (by omega) (by rw [hlen] at hj; omega)).1
        simp only [Int.toNat_natCast] at this
        rw [this]; rfl)
      (fun j hj => by
        have := (Kd.R_cell z h ((off + j : Nat) : Int) (by omega) (by rw [hlen] at hj; omega)).2
        simpa only [Int.toNat_natCast] using this)
      (fun v hv => by obtain ⟨y, _, rfl⟩ := List.mem_map.1 hv; exact h1 y)
    rw [hlen] at hr
    exact hr
variable {ops : Array Oper} {Q : Exit → Act → World → Prop}
theorem copy_ (z : α) {oi : Oper} {N : Option Tmp} {a : Act} {w : World} {K : Act → World → Prop} {d s : Operand} {T elem : TypeId} {A As : Option Addr} {c cs : Nat} {xs ys : List α} (off : Nat)
    (hw : Region.wanted oi (yielded ops a.tmps) = true) (hN : oi.dst = N) (hop : oi.op = .call { callee := .builtin .copy, args := #[d, s], argTypes := #[T, T] }) (hu : P.underlying T = some (.slice elem)) (hs : (P.info? elem).map (·.size) = some 1)
    (hd : a.eval d = .slice (if c = off then A else A.map (·.add (off * 1))) (xs.length - off) (c - off)) (hsrc : a.eval s = .slice As ys.length cs)
    (h : (Kd.scalar enc h1).R e w base ok (.slice A xs.length c) xs) (hy : (Kd.scalar enc h1).C w As ys.length ys) (ho : off + ys.length ≤ xs.length)
    (hK : ∀ w', (Kd.scalar enc h1).R e w' base ok (.slice A xs.length c) (over xs off ys) → w.grownBy w' (Value.slice A xs.length c).ownBlock → K (a.put N (goInt ys.length)) w') : if Region.wanted oi (yielded ops a.tmps) = true then Oper.wp P oi a w K Q else K (a.put N undef) w := by
  obtain ⟨w', hrun, hR, hg⟩ := copy_run (P := P) (cs := cs) z h hy off ho T oi.type elem hu hs
  rw [if_pos hw]
  subst hN
  simp only [Nat.mul_one] at hrun hd
  unfold Oper.wp
  simp [execOp, hop, resolve, invoke, builtin, hd, hsrc, hrun, Result.andThen]
  exact hK w' hR hg
end

/-- What a call that works on a device's rows holds: its own boxes L, the rows, and that nothing else of w has turned. -/
def DX (w0 w w' : World) (L : List (Nat × Array Value × Nat)) (v0 v1 v2 v3 : Value) (l0 l1 : List Bool) (l2 l3 : List Int) : Prop :=
  w0.heap.size ≤ w.heap.size ∧ Bx w.heap.size w' L ∧ Rows4 w' w0.heap.size v0 v1 v2 v3 l0 l1 l2 l3 ∧ Below w0.heap.size w0 w' ∧ Kept w w' (fun k => some k = v0.ownBlock ∨ some k = v2.ownBlock)
section
variable {w0 w w' w1 : World} {L : List (Nat × Array Value × Nat)} {v0 v1 v2 v3 : Value} {l0 l1 : List Bool} {l2 l3 : List Int} {g t : Nat} {cs : Array Value}
theorem DX.start (h4 : Rows4 w w0.heap.size v0 v1 v2 v3 l0 l1 l2 l3) (hB : Below w0.heap.size w0 w) : DX w0 w w [] v0 v1 v2 v3 l0 l1 l2 l3 := ⟨hB.size, Bx.start _ _, h4, hB, Kept.refl _ _⟩
theorem DX.blk (h : DX w0 w w' L v0 v1 v2 v3 l0 l1 l2 l3) (hx : (g, cs, t) ∈ L) : w'.heap[g]? = some (.cells cs t (0, 0)) := h.2.1.blk hx
theorem DX.rows (h : DX w0 w w' L v0 v1 v2 v3 l0 l1 l2 l3) : Rows4 w' w0.heap.size v0 v1 v2 v3 l0 l1 l2 l3 := h.2.2.1
theorem DX.old {o : Obj} (h : DX w0 w w' L v0 v1 v2 v3 l0 l1 l2 l3) (hb : w.heap[g]? = some o) (n0 : some g ≠ v0.ownBlock) (n2 : some g ≠ v2.ownBlock) : w'.heap[g]? = some o :=
  (h.2.2.2.2.2 g (blk_lt hb) (by rintro (e | e); exact n0 e; exact n2 e)).trans hb
theorem DX.below (h : DX w0 w w' L v0 v1 v2 v3 l0 l1 l2 l3) (hB : Below w'.heap.size w' w1) : DX w0 w w1 L v0 v1 v2 v3 l0 l1 l2 l3 :=
  ⟨h.1, h.2.1.below hB, h.2.2.1.below hB, below_step h.2.2.2.1 hB, Kept.below h.2.2.2.2 hB⟩
theorem DX.drew (h : DX w0 w w' L v0 v1 v2 v3 l0 l1 l2 l3) : DX w0 w w'.drew L v0 v1 v2 v3 l0 l1 l2 l3 := h.below (below_drew1 (Below.refl _ _))
theorem DX.box (h : DX w0 w w' L v0 v1 v2 v3 l0 l1 l2 l3) (hg : g = w'.heap.size) (hb : w1.heap[g]? = some (.cells cs t (0, 0))) (hB : Below w'.heap.size w' w1) : DX w0 w w1 ((g, cs, t) :: L) v0 v1 v2 v3 l0 l1 l2 l3 :=
  ⟨h.1, h.2.1.box h.2.2.2.2.1 hg hb hB, h.2.2.1.below hB, below_step h.2.2.2.1 hB, Kept.below h.2.2.2.2 hB⟩
theorem DX.row (L1 L2 : List (Nat × Array Value × Nat)) (h : DX w0 w w' (L1 ++ (g, cs, t) :: L2) v0 v1 v2 v3 l0 l1 l2 l3) (cs' : Array Value) (h0 : 4 ≠ t := by decide) (h1 : 3 ≠ t := by decide) : DX w0 w (w'.setRow g cs') (L1 ++ (g, cs', t) :: L2) v0 v1 v2 v3 l0 l1 l2 l3 := by
  have hb := h.2.1.blk (g := g) (cs := cs) (t := t) (by simp)
  have hge := h.2.1.ge (g := g) (cs := cs) (t := t) (by simp)
  refine ⟨h.1, Bx.row L1 L2 h.2.1 cs', h.2.2.1.row hb cs' h0 h1, below_setRow h.2.2.2.1 (Nat.le_trans h.1 hge) cs', ⟨by simpa [World.setRow] using h.2.2.2.2.1, fun i hi hS => ?_⟩⟩
  exact (setRow_other w' g i cs' (by omega)).trans (h.2.2.2.2.2 i hi hS)
theorem kept_of_grown {row : Option Nat} (h : w.grownBy w1 row) : Kept w w1 (fun k => some k = row) := ⟨h.size, fun i hi hS => h.block i hi hS⟩
theorem DX.put0 {l0' : List Bool} (h : DX w0 w w' L v0 v1 v2 v3 l0 l1 l2 l3) (h0 : Kd.R Kd.bool 4 w1 w0.heap.size (fun k_ => some k_ ≠ v1.ownBlock) v0 l0') (hg : w'.grownBy w1 v0.ownBlock) (hL : ∀ x ∈ L, 4 ≠ x.2.2) : DX w0 w w1 L v0 v1 v2 v3 l0' l1 l2 l3 := by
  have hk := kept_of_grown hg
  refine ⟨h.1, h.2.1.kept hk (fun x hx e => Kd.R_ne h.2.2.1.1 (h.2.1.1 x hx).1 (hL x hx) e), h.2.2.1.put0 h0 hg, h.2.2.2.1.grown hg (below_size h.2.2.2.1) (fun k hk => Kd.R_base h.2.2.1.1 k hk), ⟨Nat.le_trans h.2.2.2.2.1 hg.size, fun i hi hS => ?_⟩⟩
  exact (hg.block i (Nat.lt_of_lt_of_le hi h.2.2.2.2.1) (fun e => hS (.inl e))).trans (h.2.2.2.2.2 i hi hS)
theorem DX.put2 {l2' : List Int} (h : DX w0 w w' L v0 v1 v2 v3 l0 l1 l2 l3) (h2 : Kd.R (Kd.int .i64) 3 w1 w0.heap.size (fun k_ => some k_ ≠ v3.ownBlock) v2 l2') (hg : w'.grownBy w1 v2.ownBlock) (hL : ∀ x ∈ L, 3 ≠ x.2.2) : DX w0 w w1 L v0 v1 v2 v3 l0 l1 l2' l3 := by
  have hk := kept_of_grown hg
  refine ⟨h.1, h.2.1.kept hk (fun x hx e => Kd.R_ne h.2.2.1.2.2.1 (h.2.1.1 x hx).1 (hL x hx) e), h.2.2.1.put2 h2 hg, h.2.2.2.1.grown hg (below_size h.2.2.2.1) (fun k hk => Kd.R_base h.2.2.1.2.2.1 k hk), ⟨Nat.le_trans h.2.2.2.2.1 hg.size, fun i hi hS => ?_⟩⟩
  exact (hg.block i (Nat.lt_of_lt_of_le hi h.2.2.2.2.1) (fun e => hS (.inr e))).trans (h.2.2.2.2.2 i hi hS)
end
section
variable {P : Program} {md : Region.Mode} {ops : Array Oper} {Q : Exit → Act → World → Prop} {ds : List Nat} {i : Nat} {N : Option Tmp} {oi : Oper} {v : Value} {fuel : Nat} {l : Array Bool} {a a' : Act} {w : World}
/-- A step of a region that reads what is held. -/
theorem tk3 {S1 S2 S3 : World → Prop} (l' : Array Bool) (hS : S1 w ∧ S2 w ∧ S3 w) (h : wpAnyLast P md ops Q (fun w' => S1 w' ∧ S2 w' ∧ S3 w') ds fuel l' a' w) (hi : ops[i]? = some oi := by rfl) (hN : oi.dst = N := by rfl) (hc : takeB md ops ds l l' i = true := by kernel_rfl)
    (hw : Region.wanted oi (yielded ops a.tmps) = true := by rfl) (hv : ∀ w', S1 w' ∧ S2 w' ∧ S3 w' → (execOp a.eval oi).run P w' = .ok (.value v) w' := by (rintro w' ⟨s0, s1, s2⟩; go_simp; with_reducible rfl)) (ha : a.put N v = a' := by simp only [Act.put, List.setIfInBounds_toArray, List.set_cons_zero, List.set_cons_succ, i64_w, i32_w]; rfl)
    (hQ : ∀ c a w, Q (.panic c) (a.put oi.dst v) w → Q (.panic c) a w := by exact (fun _ _ _ h => h)) : wpAnyLast P md ops Q (fun w' => S1 w' ∧ S2 w' ∧ S3 w') ds (fuel + 1) l a w :=
  take_ l' hi hN hc hQ (Or.inl ⟨hw, hv⟩) hS ha h
theorem tk6 {S1 S2 S3 S4 S5 S6 : World → Prop} (l' : Array Bool) (hS : S1 w ∧ S2 w ∧ S3 w ∧ S4 w ∧ S5 w ∧ S6 w) (h : wpAnyLast P md ops Q (fun w' => S1 w' ∧ S2 w' ∧ S3 w' ∧ S4 w' ∧ S5 w' ∧ S6 w') ds fuel l' a' w) (hi : ops[i]? = some oi := by rfl) (hN : oi.dst = N := by rfl) (hc : takeB md ops ds l l' i = true := by kernel_rfl)
    (hw : Region.wanted oi (yielded ops a.tmps) = true := by rfl) (hv : ∀ w', S1 w' ∧ S2 w' ∧ S3 w' ∧ S4 w' ∧ S5 w' ∧ S6 w' → (execOp a.eval oi).run P w' = .ok (.value v) w' := by (rintro w' ⟨s0, s1, s2, s3, s4, s5⟩; go_simp; with_reducible rfl)) (ha : a.put N v = a' := by simp only [Act.put, List.setIfInBounds_toArray, List.set_cons_zero, List.set_cons_succ, i64_w, i32_w]; rfl)
    (hQ : ∀ c a w, Q (.panic c) (a.put oi.dst v) w → Q (.panic c) a w := by exact (fun _ _ _ h => h)) : wpAnyLast P md ops Q (fun w' => S1 w' ∧ S2 w' ∧ S3 w' ∧ S4 w' ∧ S5 w' ∧ S6 w') ds (fuel + 1) l a w :=
  take_ l' hi hN hc hQ (Or.inl ⟨hw, hv⟩) hS ha h
/-- A step of a region that reads nothing. -/
theorem pk {S : World → Prop} (l' : Array Bool) (h : wpAnyLast P md ops Q S ds fuel l' a' w) (hi : ops[i]? = some oi := by rfl) (hN : oi.dst = N := by rfl) (hc : anyB md ops l l' i = true := by kernel_rfl)
    (hw : Region.wanted oi (yielded ops a.tmps) = true := by rfl) (hv : ∀ w', (execOp a.eval oi).run P w' = .ok (.value v) w' := by (intro w'; go_simp; with_reducible rfl)) (ha : a.put N v = a' := by simp only [Act.put, List.setIfInBounds_toArray, List.set_cons_zero, List.set_cons_succ, i64_w, i32_w]; rfl)
    (hQ : ∀ c a w, Q (.panic c) (a.put oi.dst v) w → Q (.panic c) a w := by exact (fun _ _ _ h => h)) : wpAnyLast P md ops Q S ds (fuel + 1) l a w :=
  pure_ l' hi hN hc hQ (Or.inl ⟨hw, hv⟩) ha h
end
section
variable {w0 w w' w1 : World} {L : List (Nat × Array Value × Nat)} {v0 v1 v2 v3 : Value} {l0 l1 : List Bool} {l2 l3 : List Int} {g t : Nat} {cs cs' : Array Value}
/-- A variable's field is written. -/
theorem DX.cell (L1 L2 : List (Nat × Array Value × Nat)) (h : DX w0 w w' (L1 ++ (g, cs, t) :: L2) v0 v1 v2 v3 l0 l1 l2 l3) (j : Nat) (u : Value) (e : cs.setIfInBounds j u = cs' := by rfl) (h0 : 4 ≠ t := by decide) (h1 : 3 ≠ t := by decide) : DX w0 w (w'.setCell ⟨g, j, none⟩ u) (L1 ++ (g, cs', t) :: L2) v0 v1 v2 v3 l0 l1 l2 l3 := by
  subst e
  have hb := h.2.1.blk (g := g) (cs := cs) (t := t) (by simp)
  rw [setCell_eq_setRow w' g j cs t (0, 0) u hb]
  exact DX.row L1 L2 h _ h0 h1
theorem R_cell_ {α : Type} {d : Kd α} {e base : Nat} {ok : Nat → Prop} {v : Value} {xs : List α} (h : d.R e w base ok v xs) (hb : w.heap[g]? = some (.cells cs t (0, 0))) (ht : ∀ q, q ∈ e :: d.E → q ≠ t) (j : Nat) (u : Value) : d.R e (w.setCell ⟨g, j, none⟩ u) base ok v xs := Kd.R_set h hb ht j u
end
section
variable {P : Program} {ops : Array Oper} {Q : Exit → Act → World → Prop} {oi : Oper} {a : Act} {w : World} {g t : Nat} {cs : Array Value}
/-- A whole variable is read. -/
theorem ld_run {T : TypeId} {x : Operand} {d : TypeDesc} (ho : oi.op = .load T x) (hx : a.eval x = .pointer (some ⟨g, 0, none⟩)) (hg : w.heap[g]? = some (.cells cs t (0, 0))) (hu : P.underlying T = some d) (hd : (match d with | .struct _ | .array _ _ => true | _ => false) = true) (hi : (P.info? T).map (·.size) = some cs.size) : (execOp a.eval oi).run P w = .ok (.value (.agg cs)) w := by
  unfold execOp
  simp only [ho, hx, Instr.loadAt, Instr.sureAddr, Sem.run_bind, Sem.run_pure, Result.andThen_ok, run_loadVar_row w g t T cs (0, 0) d hg hu hd hi]
/-- A whole variable is written, as a step of a region. -/
theorem store_ {K : Act → World → Prop} {T : TypeId} {x y : Operand} {cells old : Array Value} (hw : Region.wanted oi (yielded ops a.tmps) = true) (hN : oi.dst = none) (ho : oi.op = .store T x y) (hx : a.eval x = .pointer (some ⟨g, 0, none⟩)) (hy : a.eval y = .agg cells)
    (hg : w.heap[g]? = some (.cells old t (0, 0))) (hi : (P.info? T).map (·.size) = some cells.size) (hold : old.size = cells.size) (h1 : cells.all (·.oneCell') = true) (h : K a (w.setRow g cells)) : if Region.wanted oi (yielded ops a.tmps) = true then Oper.wp P oi a w K Q else K (a.put none undef) w := by
  rw [if_pos hw]
  refine wp_store_row T x y ho g cells hx hy t old hg hi hold h1 ?_
  rw [hN]
  exact h
variable {md : Region.Mode} {ds : List Nat} {i : Nat} {N : Option Tmp} {v : Value} {fuel : Nat} {l : Array Bool} {a' : Act} {S : World → Prop}
/-- A step of a region that reads a whole variable that is held. -/
theorem tkl {T : TypeId} {x : Operand} {d : TypeDesc} (l' : Array Bool) (hS : S w) (hg : ∀ w', S w' → w'.heap[g]? = some (.cells cs t (0, 0))) (hu : P.underlying T = some d) (h : wpAnyLast P md ops Q S ds fuel l' a' w) (hi : ops[i]? = some oi := by rfl) (hN : oi.dst = N := by rfl) (ho : oi.op = .load T x := by rfl) (hx : a.eval x = .pointer (some ⟨g, 0, none⟩) := by rfl)
    (hd : (match d with | .struct _ | .array _ _ => true | _ => false) = true := by rfl) (hz : (P.info? T).map (·.size) = some cs.size := by kernel_rfl) (hc : takeB md ops ds l l' i = true := by kernel_rfl)
    (hw : Region.wanted oi (yielded ops a.tmps) = true := by rfl) (ha : a.put N (.agg cs) = a' := by simp only [Act.put, List.setIfInBounds_toArray, List.set_cons_zero, List.set_cons_succ, i64_w, i32_w]; rfl)
    (hQ : ∀ c a w, Q (.panic c) (a.put oi.dst (.agg cs)) w → Q (.panic c) a w := by exact (fun _ _ _ h => h)) : wpAnyLast P md ops Q S ds (fuel + 1) l a w :=
  take_ l' hi hN hc hQ (Or.inl ⟨hw, fun w' s => ld_run ho hx (hg w' s) hu hd hz⟩) hS ha h
/-- A step of a region that is not wanted. -/
theorem pkn (l' : Array Bool) (h : wpAnyLast P md ops Q S ds fuel l' a' w) (hi : ops[i]? = some oi := by rfl) (hN : oi.dst = N := by rfl) (hc : anyB md ops l l' i = true := by kernel_rfl)
    (hw : Region.wanted oi (yielded ops a.tmps) = false := by rfl) (ha : a.put N undef = a' := by simp only [Act.put, List.setIfInBounds_toArray, List.set_cons_zero, List.set_cons_succ, i64_w, i32_w]; rfl)
    (hQ : ∀ c a w, Q (.panic c) (a.put oi.dst undef) w → Q (.panic c) a w := by exact (fun _ _ _ h => h)) : wpAnyLast P md ops Q S ds (fuel + 1) l a w :=
  pure_ l' hi hN hc hQ (Or.inr ⟨hw, rfl⟩) ha h
end
section
variable {w w' w1 : World} {L : List (Nat × Array Value × Nat)} {u0 u1 u2 u3 v0 v1 v2 v3 : Value} {k0 k1 l0 l1 : List Bool} {k2 k3 l2 l3 : List Int}
theorem DX.nil (w : World) : DX w w w [] (.slice none 0 0) (.slice none 0 0) (.slice none 0 0) (.slice none 0 0) [] [] [] [] :=
  ⟨Nat.le_refl _, Bx.start _ _, ⟨Kd.R_nil _ _ _ _ _, Kd.R_nil _ _ _ _ _, Kd.R_nil _ _ _ _ _, Kd.R_nil _ _ _ _ _⟩, Below.refl _ _, Kept.refl _ _⟩
/-- Other rows, that a call has just made. -/
theorem DX.made (h : DX w w w' L u0 u1 u2 u3 k0 k1 k2 k3) (hr : Rows4 w1 w'.heap.size v0 v1 v2 v3 l0 l1 l2 l3) (hB : Below w'.heap.size w' w1) : DX w w w1 L v0 v1 v2 v3 l0 l1 l2 l3 :=
  have h1 := h.below hB
  ⟨Nat.le_refl _, h1.2.1, hr.lower h.2.2.2.2.1, h1.2.2.2.1, Kept.of_below h1.2.2.2.1 _⟩
/-- What a call that worked on the rows leaves. -/
theorem DX.after (h : DX w w w' L v0 v1 v2 v3 l0 l1 l2 l3) {l0' : List Bool} {l2' : List Int} (hr : Rows4 w1 w.heap.size v0 v1 v2 v3 l0' l1 l2' l3) (hB : Below w.heap.size w w1) (hk : Kept w' w1 (fun k => some k = v0.ownBlock ∨ some k = v2.ownBlock)) (hL : ∀ x ∈ L, 4 ≠ x.2.2 ∧ 3 ≠ x.2.2) : DX w w w1 L v0 v1 v2 v3 l0' l1 l2' l3 :=
  ⟨Nat.le_refl _, h.2.1.kept hk (fun x hx e => by
    rcases e with e | e
    · exact Kd.R_ne h.2.2.1.1 (h.2.1.1 x hx).1 (hL x hx).1 e
    · exact Kd.R_ne h.2.2.1.2.2.1 (h.2.1.1 x hx).1 (hL x hx).2 e), hr, hB, Kept.of_below hB _⟩
theorem DX.lt (h : DX w w w' L v0 v1 v2 v3 l0 l1 l2 l3) : ∀ v, v = v0 ∨ v = v1 ∨ v = v2 ∨ v = v3 → ∀ k, v.ownBlock = some k → k < w'.heap.size := by
  rintro v (rfl | rfl | rfl | rfl)
  · exact Kd.R_lt h.2.2.1.1
  · exact Kd.R_lt h.2.2.1.2.1
  · exact Kd.R_lt h.2.2.1.2.2.1
  · exact Kd.R_lt h.2.2.1.2.2.2
end
section
variable {P : Program} {ops : Array Oper} {rest : List Oper} {Q : Exit → Act → World → Prop} {o : Oper} {a : Act}
variable {w0 w w' : World} {L : List (Nat × Array Value × Nat)} {v0 v1 v2 v3 : Value} {l0 l1 : List Bool} {l2 l3 : List Int}
/-- A variable is made. -/
theorem bxD (N : Tmp) (HD : DX w0 w w' L v0 v1 v2 v3 l0 l1 l2 l3) (cs : Array Value) (t : TypeId)
    (h : ∀ g w1, Aside0 (DX w0 w w1 ((g, cs, t) :: L) v0 v1 v2 v3 l0 l1 l2 l3) → wpList P ops Q rest (a.put (some N) (.pointer (some ⟨g, 0, none⟩))) w1)
    (hN : o.dst = some N := by rfl) (hgd : o.guard = none := by rfl) (hrun : (execOp a.eval o).run P w' = .ok (.value (.pointer (some ⟨w'.heap.size, 0, none⟩))) (w'.alloc (.cells cs t (0, 0))) := by first | (go_simp; done) | (go_simp; rfl)) : wpList P ops Q (o :: rest) a w' :=
  box_event hgd hN hrun (fun g hg w1 hb hB => by rw [hN]; exact h g w1 (aM (HD.box hg hb hB)))
end
end Go.Proofs.Ytiogbjbkfhhdhaa.G
