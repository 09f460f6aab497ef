/- More short forms of steps that the walks take often. No condition. -/
import Derived.Test.YtiogbjbkfhhdhaaK
namespace Go.Proofs.Ytiogbjbkfhhdhaa.K
open Go Go.RowKit Go.Proofs.YtiogbjbkfhhdhaaW.PrintWords Go.Proofs.YtiogbjbkfhhdhaaW.PrintLast Go.Proofs.YtiogbjbkfhhdhaaW.PrintMore
set_option linter.unusedVariables false
theorem aM {p : Prop} (h : p) : Aside0 p := ⟨h⟩
theorem neL {W : World} {g g2 : Nat} {o : Obj} (hg : g2 = W.heap.size) (h : W.heap[g]? = some o) : g ≠ g2 := by rw [hg]; exact Nat.ne_of_lt (blk_lt h)
theorem neG {W : World} {g g2 : Nat} {o : Obj} (hg : g2 = W.heap.size) (h : W.heap[g]? = some o) : g2 ≠ g := by rw [hg]; exact Nat.ne_of_gt (blk_lt h)
theorem leG {w W : World} {g : Nat} (hg : g = W.heap.size) (h : Below w.heap.size w W) : w.heap.size ≤ g := by rw [hg]; exact below_size h
theorem kB {W W' w1 : World} {g : Nat} {o : Obj} (h : W.heap[g]? = some o) (hb : Below W'.heap.size W' w1) (hs : Below W.heap.size W W' := by with_reducible repeat (first | exact Below.refl _ _ | apply below_alloc | apply pw_below_drewN | apply below_drew1)) : w1.heap[g]? = some o := blk_below (blk_below h hs) hb
/-- Block g's cells cs have turned to c, on the way from W to W'. -/
def Put (g : Nat) (cs c : Array Value) (W W' : World) : Prop := ∀ t, W.heap[g]? = some (.cells cs t (0, 0)) → W'.heap[g]? = some (.cells c t (0, 0))
theorem put_refl (g : Nat) (cs : Array Value) (W : World) : Put g cs cs W W := fun _ h => h
theorem put_alloc {g : Nat} {cs c : Array Value} {W W' : World} (h : Put g cs c W W') (o : Obj) : Put g cs c W (W'.alloc o) := fun t k => blk_alloc (h t k) o
theorem put_drewN {g : Nat} {cs c : Array Value} {W W' : World} (h : Put g cs c W W') (n : Nat) : Put g cs c W (W'.drewN n) := fun t k => blk_drewN (h t k) n
theorem put_drew {g : Nat} {cs c : Array Value} {W W' : World} (h : Put g cs c W W') : Put g cs c W W'.drew := fun t k => blk_drew (h t k)
theorem put_far {g g2 i : Nat} {u : Value} {cs c : Array Value} {W W' : World} (h : Put g cs c W W') (hne : g ≠ g2) : Put g cs c W (W'.setCell ⟨g2, i, none⟩ u) := fun t k => blk_far (h t k) hne u
theorem put_set {g i : Nat} {u : Value} {cs c : Array Value} {W W' : World} (h : Put g cs c W W') : Put g cs (c.setIfInBounds i u) W (W'.setCell ⟨g, i, none⟩ u) := fun t k => blk_set (h t k) i u
theorem kX {W W' : World} {g t : Nat} {cs c cs' : Array Value} (h : W.heap[g]? = some (.cells cs t (0, 0))) (hs : Put g cs c W W' := by repeat (first | (with_reducible first | exact put_refl _ _ _ | apply put_set | (apply put_far; case hne => exact Aside0.out (by assumption)) | apply put_alloc | apply put_drewN | apply put_drew) | exact put_refl _ _ _)) (e : c = cs' := by rfl) : W'.heap[g]? = some (.cells cs' t (0, 0)) := e ▸ hs t h
section
variable {α : Type} {d : Kd α} {e : Nat} {W W' w1 : World} {base : Nat} {ok ok' : Nat → Prop} {v : Value} {xs : List α}
theorem rB (h : d.R e W base ok v xs) (hb : Below W'.heap.size W' w1) (hs : Below W.heap.size W W' := by with_reducible repeat (first | exact Below.refl _ _ | apply below_alloc | apply pw_below_drewN | apply below_drew1)) : d.R e w1 base ok v xs := Kd.R_below (Kd.R_below h hs) hb
theorem cR {A : Option Addr} {n c : Nat} (h : d.R e W base ok (.slice A n c) xs) (hs : Below W.heap.size W W' := by with_reducible repeat (first | exact Below.refl _ _ | apply below_alloc | apply pw_below_drewN | apply below_drew1)) : d.C W' A xs.length xs := Kd.C_below (Kd.R_reads' h).2.2 hs
end
end Go.Proofs.Ytiogbjbkfhhdhaa.K
