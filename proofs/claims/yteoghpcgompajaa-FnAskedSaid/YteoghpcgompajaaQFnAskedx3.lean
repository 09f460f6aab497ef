/- Functions and contracts of the law FnAsked: what the Go text computes, step by step. -/
import Derived.Test.YteoghpcgompajaaM
import Derived.Test.YteoghpcgompajaaL
import Derived.Test.YteoghpcgompajaaQFnAskedx0
namespace Go.Proofs.Yteoghpcgompajaa.PFnAsked
open Go.Proofs.Yteoghpcgompajaa.K Go.Proofs.Yteoghpcgompajaa.G Go.RowKit Go.Proofs.YteoghpcgompajaaW.PrintWords Go.Proofs.YteoghpcgompajaaW.PrintLast Go.Proofs.YteoghpcgompajaaW.PrintMore
attribute [local go_sem] max2_int min2_int max_two min_two max_three min_three max_four min_four   -- for this text's walks alone
set_option linter.unusedVariables false
set_option linter.unusedSimpArgs false

/-! ### laws_big: function 22 -/
def laws_big.f (l0 : List Int) : Option (Bool) := some (decide ((l0.length : Int) > 1048576))
set_option maxHeartbeats 8000000 in
set_option maxRecDepth 100000 in
theorem laws_big.calls (A0 : Option Addr) (c0 : Nat) (l0 : List Int) (r : Bool) (w : World) (hr0 : Kd.C (Kd.int .u8) w A0 l0.length l0) (hc0 : l0.length ≤ c0) (h : laws_big.f l0 = some r) :
  Calls Try.prog 22 #[.slice A0 l0.length c0] w fun e w' => e = .returned (.bool r) ∧ Drawn0 w w' := by
 have HR0 := aM hr0
 have HC0 := aM hc0
 clear hr0 hc0
 have H : (some (decide ((l0.length : Int) > 1048576))) = some r := h
 clear h
 obtain rfl := Option.some.inj H
 go_enter Try.func22, Try.ntmps22
 go_wp2
 go_ret
 exact ⟨by first | rfl | (simp; done) | (simp [*]; done), by repeat (first | exact Drawn0.refl _ | apply Drawn0.step)⟩

/-- A state of type 85 at block g of W; what its slices lead to came in by w0. -/
def IsS85 (w0 W : World) (g : Nat) (f0 : List Int) (f1 : Int) (f2 : Int) : Prop := ∃ A0 c0, W.heap[g]? = some (.cells #[.slice A0 f0.length c0, .int .i64 f1, .int .i64 f2] 85 (0, 0)) ∧ w0.heap.size ≤ g ∧ Kd.C (Kd.int .u8) w0 A0 f0.length f0
theorem IsS85.grown {w0 W : World} {g : Nat} {f0 : List Int} {f1 : Int} {f2 : Int} {W1 : World} {row : Option Nat} (h : IsS85 w0 W g f0 f1 f2) (hw : W.grownBy W1 row) (hne : some g ≠ row) : IsS85 w0 W1 g f0 f1 f2 := by
 obtain ⟨A0, c0, hb, hg, hr0⟩ := h
 exact ⟨A0, c0, blk_grown hb hw hne, hg, hr0⟩
theorem IsS85.own_neN {w0 W : World} {g : Nat} {f0 : List Int} {f1 : Int} {f2 : Int} {α : Type} {d : Kd α} {e : Nat} {base : Nat} {ok : Nat → Prop} {v : Value} {xs : List α} (h : IsS85 w0 W g f0 f1 f2) (ho : Kd.N d e W base ok v xs) (ht : e ≠ 85) : some g ≠ v.ownBlock := by
 obtain ⟨A0, c0, hb, hg, hr0⟩ := h
 exact Kd.N_ne ho hb ht
theorem IsS85.fresh {w0 W : World} {g : Nat} {f0 : List Int} {f1 : Int} {f2 : Int} (h : IsS85 w0 W g f0 f1 f2) : ∀ k, W.heap.size ≤ k → k ≠ g := by
 obtain ⟨A0, c0, hb, hg, hr0⟩ := h
 exact Kd.freshB hb
theorem IsS85.kept {w0 W : World} {g : Nat} {f0 : List Int} {f1 : Int} {f2 : Int} {W1 : World} {S : Nat → Prop} (h : IsS85 w0 W g f0 f1 f2) (hk : Kept W W1 S) (hne : ¬ S g) : IsS85 w0 W1 g f0 f1 f2 := by
 obtain ⟨A0, c0, hb, hg, hr0⟩ := h
 exact ⟨A0, c0, blk_kept hb hk hne, hg, hr0⟩
theorem IsS85.below {w0 W : World} {g : Nat} {f0 : List Int} {f1 : Int} {f2 : Int} {W1 : World} (h : IsS85 w0 W g f0 f1 f2) (hw : Below W.heap.size W W1) : IsS85 w0 W1 g f0 f1 f2 := h.grown (grown_of_below hw none) (by simp)
theorem IsS85.alloc {w0 W : World} {g : Nat} {f0 : List Int} {f1 : Int} {f2 : Int} (h : IsS85 w0 W g f0 f1 f2) (o : Obj) : IsS85 w0 (W.alloc o) g f0 f1 f2 := h.below (below_alloc (Below.refl _ _) o)
theorem IsS85.drewN {w0 W : World} {g : Nat} {f0 : List Int} {f1 : Int} {f2 : Int} (h : IsS85 w0 W g f0 f1 f2) (m : Nat) : IsS85 w0 (W.drewN m) g f0 f1 f2 := h
theorem IsS85.drew {w0 W : World} {g : Nat} {f0 : List Int} {f1 : Int} {f2 : Int} (h : IsS85 w0 W g f0 f1 f2) : IsS85 w0 W.drew g f0 f1 f2 := h
theorem IsS85.at_ {w0 W : World} {g : Nat} {f0 : List Int} {f1 : Int} {f2 : Int} {w' : World} {m : Nat} (hq : W.drewN m = w') (h : IsS85 w0 W g f0 f1 f2) : IsS85 w0 w' g f0 f1 f2 := by subst hq; exact IsS85.drewN h m
theorem IsS85.apart {w0 W : World} {g : Nat} {f0 : List Int} {f1 : Int} {f2 : Int} {α : Type} {d : Kd α} {e : Nat} {base : Nat} {ok : Nat → Prop} {v : Value} {xs : List α} (h : IsS85 w0 W g f0 f1 f2) (ho : d.R e W base ok v xs) (ht : ∀ q, q ∈ e :: d.E → q ≠ 85) : d.R e W base (fun k => ok k ∧ k ≠ g) v xs := by
 obtain ⟨A0, c0, hb, hg, hr0⟩ := h
 exact Kd.R_types ho hb ht
theorem IsS85.own_ne {w0 W : World} {g : Nat} {f0 : List Int} {f1 : Int} {f2 : Int} {α : Type} {d : Kd α} {e : Nat} {base : Nat} {ok : Nat → Prop} {v : Value} {xs : List α} (h : IsS85 w0 W g f0 f1 f2) (ho : d.R e W base ok v xs) (ht : e ≠ 85) : some g ≠ v.ownBlock := by
 obtain ⟨A0, c0, hb, hg, hr0⟩ := h
 exact Kd.R_ne ho hb ht
theorem IsS85.apartQ {w0 W : World} {g : Nat} {f0 : List Int} {f1 : Int} {f2 : Int} {α : Type} {d : Kd α} {e : Nat} {base : Nat} {ok : Nat → Prop} {v : Value} {xs : List α} (h : IsS85 w0 W g f0 f1 f2) (ho : d.Q e W base ok v xs) (ht : ∀ q, q ∈ e :: d.E → q ≠ 85) : d.Q e W base (fun k => ok k ∧ k ≠ g) v xs := by
 obtain ⟨A0, c0, hb, hg, hr0⟩ := h
 exact Kd.Q_types ho hb ht
theorem IsS85.own_neQ {w0 W : World} {g : Nat} {f0 : List Int} {f1 : Int} {f2 : Int} {α : Type} {d : Kd α} {e : Nat} {base : Nat} {ok : Nat → Prop} {v : Value} {xs : List α} (h : IsS85 w0 W g f0 f1 f2) (ho : d.Q e W base ok v xs) (ht : e ≠ 85) : some g ≠ v.ownBlock := by
 obtain ⟨A0, c0, hb, hg, hr0⟩ := h
 exact Kd.Q_ne ho hb ht
theorem IsS85.apartS {w0 W : World} {g : Nat} {f0 : List Int} {f1 : Int} {f2 : Int} {α : Type} {d : Kd α} {e : Nat} {base : Nat} {ok : Nat → Prop} {v : Value} {xs : List α} (h : IsS85 w0 W g f0 f1 f2) (ho : d.S e W base ok v xs) (ht : ∀ q, q ∈ e :: d.E → q ≠ 85) : d.S e W base (fun k => ok k ∧ k ≠ g) v xs := by
 obtain ⟨A0, c0, hb, hg, hr0⟩ := h
 exact Kd.S_types ho hb ht
theorem IsS85.own_neS {w0 W : World} {g : Nat} {f0 : List Int} {f1 : Int} {f2 : Int} {α : Type} {d : Kd α} {e : Nat} {base : Nat} {ok : Nat → Prop} {v : Value} {xs : List α} (h : IsS85 w0 W g f0 f1 f2) (ho : d.S e W base ok v xs) (ht : e ≠ 85) : some g ≠ v.ownBlock := by
 obtain ⟨A0, c0, hb, hg, hr0⟩ := h
 exact Kd.S_ne ho hb ht
theorem IsS85.lt {w0 W : World} {g : Nat} {f0 : List Int} {f1 : Int} {f2 : Int} (h : IsS85 w0 W g f0 f1 f2) : g < W.heap.size := by
 obtain ⟨A0, c0, hb, hg, hr0⟩ := h
 exact blk_lt hb
theorem IsS85.ge {w0 W : World} {g : Nat} {f0 : List Int} {f1 : Int} {f2 : Int} (h : IsS85 w0 W g f0 f1 f2) : w0.heap.size ≤ g := by
 obtain ⟨A0, c0, hb, hg, hr0⟩ := h
 exact hg
theorem IsS85.ne_blk {w0 W : World} {g : Nat} {f0 : List Int} {f1 : Int} {f2 : Int} {a : Nat} {cs : Array Value} {t : TypeId} {fr : Nat × Nat} (h : IsS85 w0 W g f0 f1 f2) (hb2 : W.heap[a]? = some (.cells cs t fr)) (ht : t ≠ 85) : g ≠ a := by
 obtain ⟨A0, c0, hb, hg, hr0⟩ := h
 rintro rfl
 rw [hb] at hb2
 injection hb2 with hb2
 injection hb2 with _ ht2
 exact ht ht2.symm
theorem IsS85.far {w0 W : World} {g : Nat} {f0 : List Int} {f1 : Int} {f2 : Int} {p : Addr} (h : IsS85 w0 W g f0 f1 f2) (hne : g ≠ p.block) (u : Value) : IsS85 w0 (W.setCell p u) g f0 f1 f2 := by
 obtain ⟨A0, c0, hb, hg, hr0⟩ := h
 exact ⟨A0, c0, blk_far hb hne u, hg, hr0⟩
theorem cellS85_0 {W : World} {g : Nat} {A0 : Option Addr} {c0 : Nat} {f0 : List Int} {f1 : Int} {f2 : Int} (h : W.heap[g]? = some (.cells #[.slice A0 f0.length c0, .int .i64 f1, .int .i64 f2] 85 (0, 0))) : W.cell? ⟨g, 0, none⟩ = some (.slice A0 f0.length c0) := (blk_cell h 0).trans rfl
theorem cellS85_1 {W : World} {g : Nat} {A0 : Option Addr} {c0 : Nat} {f0 : List Int} {f1 : Int} {f2 : Int} (h : W.heap[g]? = some (.cells #[.slice A0 f0.length c0, .int .i64 f1, .int .i64 f2] 85 (0, 0))) : W.cell? ⟨g, 1, none⟩ = some (.int .i64 f1) := (blk_cell h 1).trans rfl
theorem IsS85.set_1 {w0 W : World} {g : Nat} {f0 : List Int} {f1 : Int} {f2 : Int} (h : IsS85 w0 W g f0 f1 f2) (x : Int) : IsS85 w0 (W.setCell ⟨g, 1, none⟩ (.int .i64 x)) g f0 x f2 := by
 obtain ⟨A0, c0, hb, hg, hr0⟩ := h
 exact ⟨A0, c0, by simpa using blk_set hb 1 (.int .i64 x), hg, hr0⟩
theorem cellS85_2 {W : World} {g : Nat} {A0 : Option Addr} {c0 : Nat} {f0 : List Int} {f1 : Int} {f2 : Int} (h : W.heap[g]? = some (.cells #[.slice A0 f0.length c0, .int .i64 f1, .int .i64 f2] 85 (0, 0))) : W.cell? ⟨g, 2, none⟩ = some (.int .i64 f2) := (blk_cell h 2).trans rfl
theorem IsS85.set_2 {w0 W : World} {g : Nat} {f0 : List Int} {f1 : Int} {f2 : Int} (h : IsS85 w0 W g f0 f1 f2) (x : Int) : IsS85 w0 (W.setCell ⟨g, 2, none⟩ (.int .i64 x)) g f0 f1 x := by
 obtain ⟨A0, c0, hb, hg, hr0⟩ := h
 exact ⟨A0, c0, by simpa using blk_set hb 2 (.int .i64 x), hg, hr0⟩
theorem IsS85.new (w0 W : World) (A0 : Option Addr) (c0 : Nat) (f0 : List Int) (f1 : Int) (f2 : Int) (hB : Below w0.heap.size w0 W) (hr0 : Kd.C (Kd.int .u8) w0 A0 f0.length f0) : IsS85 w0 (W.alloc (.cells #[.slice A0 f0.length c0, .int .i64 f1, .int .i64 f2] 85)) W.heap.size f0 f1 f2 := ⟨A0, c0, by simpa using heap_alloc_new W _, hB.size, hr0⟩

theorem sI85 {w0 W : World} {g : Nat} {f0 : List Int} {f1 : Int} {f2 : Int} (h : IsS85 w0 W g f0 f1 f2 := by repeat (first | (with_reducible first | exact Aside0.out (by assumption) | apply IsS85.alloc | apply IsS85.drewN | apply IsS85.drew | apply IsS85.set_1 | apply IsS85.set_2 | refine IsS85.far ?_ (Aside0.out (by assumption)) _) | exact Aside0.out (by assumption))) : IsS85 w0 W g f0 f1 f2 := h
theorem sB85 {B : Nat} {w0 w : World} (h : Below B w0 w := by repeat (first | (with_reducible first | exact Aside0.out (by assumption) | apply below_alloc | apply pw_below_drewN | apply below_drew1 | refine below_set ?_ (IsS85.ge (Aside0.out (by assumption))) | refine below_set ?_ (Aside0.out (by assumption))) | exact Aside0.out (by assumption))) : Below B w0 w := h
theorem rK85 {w0 W : World} {g : Nat} {f0 : List Int} {f1 : Int} {f2 : Int} {W' w1 : World} {α : Type} {d : Kd α} {e base : Nat} {ok : Nat → Prop} {v : Value} {xs : List α} (ho : d.R e W base ok v xs) (hk : KeepBut W' w1 g none) (hI : IsS85 w0 W' g f0 f1 f2 := by repeat (first | (with_reducible first | exact Aside0.out (by assumption) | apply IsS85.alloc | apply IsS85.drewN | apply IsS85.drew | apply IsS85.set_1 | apply IsS85.set_2 | refine IsS85.far ?_ (Aside0.out (by assumption)) _) | exact Aside0.out (by assumption))) (hs : Below W.heap.size W W' := by with_reducible repeat (first | exact Below.refl _ _ | apply below_alloc | apply pw_below_drewN | apply below_drew1)) (hd : ∀ q, q ∈ e :: d.E → q ≠ 85 := by decide) : d.R e w1 base ok v xs := Kd.R_mono (Kd.R_keep (IsS85.apart hI (Kd.R_below ho hs) hd) hk (fun _ h => h.2)) (fun _ h => h.1)
/-! ### spec_l1New: function 54 -/
def spec_l1New.l0 : Nat → List Int → Int → Int → Option (List Int × Int × Int)
 | 0, _, _, _ => none
 | k + 1, x0, x3, x4 => if x4 < (x0.length : Int) then (if x4 < 4000 then (if 0 ≤ x4 then (spec_l1New.l0 k x0 (Go.bits .and .i64 (wrap64 ((wrap64 ((wrap64 (x3 * 137)) + (wrap64 (rd x0 x4)))) + 11)) 1073741823) (wrap64 (x4 + 1))) else (none)) else (some (x0, 0, x3))) else (some (x0, 0, x3))
def spec_l1New.f (k : Nat) (l0 : List Int) : Option (List Int × Int × Int) := spec_l1New.l0 k l0 (wrap64 (272272 + (l0.length : Int))) 0
theorem spec_l1New.mono_l : ∀ k, (∀ y0 y1 y2, LeO (spec_l1New.l0 k y0 y1 y2) (spec_l1New.l0 (k + 1) y0 y1 y2))
 | 0 => fun _ _ _ r h => by simp [spec_l1New.l0] at h
 | k + 1 => by
  have ih0 := spec_l1New.mono_l k
  ·intro y0 y1 y2
   unfold spec_l1New.l0
   repeat' first
   | (with_reducible exact ih0 _ _ _)
   | (with_reducible exact LeO.refl _)
   | (with_reducible exact LeO.none _)
   | (with_reducible refine LeO.ite ?_ ?_)
   | (with_reducible refine LeO.bind ?_ (fun _ => ?_))
   | exact ih0 _ _ _
   | exact LeO.none _
   | refine LeO.ite ?_ ?_
   | refine LeO.bind ?_ (fun _ => ?_)
theorem spec_l1New.mono : ∀ a0 k, LeO (spec_l1New.f k a0) (spec_l1New.f (k + 1) a0) := by
 intro a0 k
 have ih0 := spec_l1New.mono_l k
 unfold spec_l1New.f
 repeat' first
   | (with_reducible exact ih0 _ _ _)
   | (with_reducible exact LeO.refl _)
   | (with_reducible exact LeO.none _)
   | (with_reducible refine LeO.ite ?_ ?_)
   | (with_reducible refine LeO.bind ?_ (fun _ => ?_))
   | exact ih0 _ _ _
   | exact LeO.none _
   | refine LeO.ite ?_ ?_
   | refine LeO.bind ?_ (fun _ => ?_)
set_option maxHeartbeats 8000000 in
set_option maxRecDepth 100000 in
theorem spec_l1New.calls (k : Nat) (A0 : Option Addr) (c0 : Nat) (l0 : List Int) (r1 : List Int) (r2 : Int) (r3 : Int) (w0 w : World) (hB : Below w0.heap.size w0 w) (hr0 : Kd.C (Kd.int .u8) w0 A0 l0.length l0) (hc0 : l0.length ≤ c0) (h : spec_l1New.f k l0 = some (r1, r2, r3)) :
  Calls Try.prog 54 #[.slice A0 l0.length c0] w fun e w' => ∃ g_ : Nat, e = .returned (.pointer (some ⟨g_, 0, none⟩)) ∧ IsS85 w0 w' g_ r1 r2 r3 ∧ Below w0.heap.size w0 w' ∧ Below w.heap.size w w' := by
 have hu85 := Try.underlying85
 have HR0 := aM hr0
 have HC0 := aM hc0
 clear hr0 hc0
 have HBW := aM (Below.refl w.heap.size w)
 have HW0 := aM hB.size
 have HB := aM hB
 clear hB
 have H : (spec_l1New.l0 k l0 (wrap64 (272272 + (l0.length : Int))) 0) = some (r1, r2, r3) := h
 clear h
 have H' := aM H
 clear H
 go_enter Try.func54, Try.ntmps54
 go_wp2
 go_loopg [3, 4] k (fun kq v3 v4 w' => ∃ (x3_1 : Int) (x4_1 : Int), v3 = .int .i64 x3_1 ∧ v4 = .int .i64 x4_1 ∧ Aside0 (spec_l1New.l0 kq l0 x3_1 x4_1 = some (r1, r2, r3)) ∧ Aside0 (kq ≤ k) ∧ Aside0 (Below w0.heap.size w0 w') ∧ Aside0 (Below w.heap.size w w'))
 case atStart => exact ⟨(wrap64 (272272 + (l0.length : Int))), (0), (by first | rfl | (simp; done) | (simp [*]; done)), (by first | rfl | (simp; done) | (simp [*]; done)), H', ⟨Nat.le_refl _⟩, ⟨bS HB.out⟩, HBW⟩
 case round =>
  clear H'
  clear HBW
  obtain ⟨x3_1, x4_1, rfl, rfl, HA, HK1, HB, HBW⟩ := hrel
  cases gk with
  | zero => exact absurd HA.out (by simp [spec_l1New.l0])
  | succ k1 =>
   have H := HA.out
   clear HA
   simp only [spec_l1New.l0] at H
   by_cases c2 : x4_1 < (l0.length : Int)
   rotate_left
   ·rw [if_neg c2] at H
    have c2b0 : decide (x4_1 < (l0.length : Int)) = false := decide_eq_false c2
    clear c2
    simp only [Option.some.injEq, Prod.mk.injEq] at H
    obtain ⟨rfl, rfl, rfl⟩ := H
    go_wp2_with (first | ((with_reducible refine gate_dst (N := 31) rfl ?_); refine box_event ?hg (N := 31) ?hd (cs := #[.slice A0 l0.length c0, .int .i64 0, .int .i64 x3_1]) (t := 85) ?hr ?_; (case hd => rfl); (case hg => rfl); (case hr => first | (go_simp; done) | (go_simp; rfl)); intro gb176 hg w6 hbox hb; have _ := aM (below_step HBW.out hb); have _ := aM (below_step (bS HB.out) hb); have _ := aM (hbox); have _ := aM (leG hg (bS HBW.out)); have _ := aM ((Nat.le_trans HW0.out (by rw [hg]; exact (below_size (bS HBW.out)) : w.heap.size ≤ gb176) : w0.heap.size ≤ gb176)); clear HBW HB; rename_i HBW HB BK176 GW176 GE176; clear hb hbox hg))
    go_ret
    exact ⟨_, rfl, (show IsS85 w0 _ gb176 l0 0 x3_1 from ⟨_, _, by (with_reducible repeat (first | refine blk_drewN ?_ _ | refine blk_drew ?_ | refine blk_alloc ?_ _)); exact BK176.out, GE176.out, HR0.out⟩), (sB (B := w0.heap.size) (w0 := w0)), bS HBW.out⟩

   rw [if_pos c2] at H
   have c2b0 : decide (x4_1 < (l0.length : Int)) = true := decide_eq_true c2
   clear c2
   by_cases c3 : x4_1 < 4000
   rotate_left
   ·rw [if_neg c3] at H
    have c3b0 : decide (x4_1 < 4000) = false := decide_eq_false c3
    clear c3
    simp only [Option.some.injEq, Prod.mk.injEq] at H
    obtain ⟨rfl, rfl, rfl⟩ := H
    go_wp2_with (first | ((with_reducible refine gate_dst (N := 31) rfl ?_); refine box_event ?hg (N := 31) ?hd (cs := #[.slice A0 l0.length c0, .int .i64 0, .int .i64 x3_1]) (t := 85) ?hr ?_; (case hd => rfl); (case hg => rfl); (case hr => first | (go_simp; done) | (go_simp; rfl)); intro gb175 hg w5 hbox hb; have _ := aM (below_step HBW.out hb); have _ := aM (below_step (bS HB.out) hb); have _ := aM (hbox); have _ := aM (leG hg (bS HBW.out)); have _ := aM ((Nat.le_trans HW0.out (by rw [hg]; exact (below_size (bS HBW.out)) : w.heap.size ≤ gb175) : w0.heap.size ≤ gb175)); clear HBW HB; rename_i HBW HB BK175 GW175 GE175; clear hb hbox hg))
    go_ret
    exact ⟨_, rfl, (show IsS85 w0 _ gb175 l0 0 x3_1 from ⟨_, _, by (with_reducible repeat (first | refine blk_drewN ?_ _ | refine blk_drew ?_ | refine blk_alloc ?_ _)); exact BK175.out, GE175.out, HR0.out⟩), (sB (B := w0.heap.size) (w0 := w0)), bS HBW.out⟩
   rw [if_pos c3] at H
   have c3b0 : decide (x4_1 < 4000) = true := decide_eq_true c3
   clear c3
   by_cases c4 : 0 ≤ x4_1
   rotate_left
   ·rw [if_neg c4] at H
    exact absurd H (by simp)
   rw [if_pos c4] at H
   have c4b0 : decide (0 ≤ x4_1) = true := decide_eq_true c4
   clear c4
   have H' := aM H
   clear H
   have p174 : 0 ≤ (x4_1 : Int) := of_decide_eq_true (by first | (with_reducible assumption) | assumption)
   have q174 : x4_1 < (l0.length : Int) := of_decide_eq_true (by first | (with_reducible assumption) | assumption)
   obtain ⟨ad174, e174, hx174_0⟩ := Kd.at_int HR0.out x4_1 p174 q174
   cases e174
   replace hx174_0 := pw_cell_below HB.out hx174_0
   replace p174 := eq_true p174
   replace q174 := eq_true q174
   go_wp2
   go_roundg k1
   case measure => have := HK1.out; omega
   case rel => exact ⟨(Go.bits .and .i64 (wrap64 ((wrap64 ((wrap64 (x3_1 * 137)) + (wrap64 (rd l0 x4_1)))) + 11)) 1073741823), (wrap64 (x4_1 + 1)), (by first | rfl | (simp; done) | (simp [*]; done)), (by first | rfl | (simp; done) | (simp [*]; done)), H', ⟨by have := HK1.out; omega⟩, ⟨bS HB.out⟩, ⟨bS HBW.out⟩⟩
/-! ### spec_l1Byte: function 86 -/
def spec_l1Byte.f (s0_0 : List Int) (s0_1 : Int) (s0_2 : Int) : Option (Int × Int × Int) := if s0_1 < (s0_0.length : Int) then (if 0 ≤ s0_1 then (some (Go.bits .and .i64 (wrap64 ((Go.bits .and .i64 (Go.bits .xor .i64 ((wrap64 ((wrap64 (s0_2 * 6364136223846793005)) + 1442695040888963407)) / 8589934592) ((wrap64 ((wrap64 (s0_2 * 6364136223846793005)) + 1442695040888963407)) / 140737488355328)) 255) + (wrap64 (rd s0_0 s0_1)))) 255, wrap64 (s0_1 + 1), wrap64 ((wrap64 (s0_2 * 6364136223846793005)) + 1442695040888963407))) else (none)) else (some (Go.bits .and .i64 (Go.bits .xor .i64 ((wrap64 ((wrap64 (s0_2 * 6364136223846793005)) + 1442695040888963407)) / 8589934592) ((wrap64 ((wrap64 (s0_2 * 6364136223846793005)) + 1442695040888963407)) / 140737488355328)) 255, s0_1, wrap64 ((wrap64 (s0_2 * 6364136223846793005)) + 1442695040888963407)))
set_option maxHeartbeats 8000000 in
set_option maxRecDepth 100000 in
theorem spec_l1Byte.calls (g : Nat) (s0_0 : List Int) (s0_1 : Int) (s0_2 : Int) (r1 : Int) (r2 : Int) (r3 : Int) (w0 w : World) (hI : IsS85 w0 w g s0_0 s0_1 s0_2) (hB : Below w0.heap.size w0 w) (h : spec_l1Byte.f s0_0 s0_1 s0_2 = some (r1, r2, r3)) :
  Calls Try.prog 86 #[.pointer (some ⟨g, 0, none⟩)] w fun e w' => e = .returned (.int .i64 r1) ∧ IsS85 w0 w' g s0_0 r2 r3 ∧ Below w0.heap.size w0 w' ∧ KeepBut w w' g none := by
 have HI0 := aM hI
 have HK := aM (KeepBut.refl w g none)
 have HL := aM hB.size
 clear hI
 have HW0 := aM hB.size
 have HB := aM hB
 clear hB
 have H : (if s0_1 < (s0_0.length : Int) then (if 0 ≤ s0_1 then (some (Go.bits .and .i64 (wrap64 ((Go.bits .and .i64 (Go.bits .xor .i64 ((wrap64 ((wrap64 (s0_2 * 6364136223846793005)) + 1442695040888963407)) / 8589934592) ((wrap64 ((wrap64 (s0_2 * 6364136223846793005)) + 1442695040888963407)) / 140737488355328)) 255) + (wrap64 (rd s0_0 s0_1)))) 255, wrap64 (s0_1 + 1), wrap64 ((wrap64 (s0_2 * 6364136223846793005)) + 1442695040888963407))) else (none)) else (some (Go.bits .and .i64 (Go.bits .xor .i64 ((wrap64 ((wrap64 (s0_2 * 6364136223846793005)) + 1442695040888963407)) / 8589934592) ((wrap64 ((wrap64 (s0_2 * 6364136223846793005)) + 1442695040888963407)) / 140737488355328)) 255, s0_1, wrap64 ((wrap64 (s0_2 * 6364136223846793005)) + 1442695040888963407)))) = some (r1, r2, r3) := h
 clear h
 by_cases c2 : s0_1 < (s0_0.length : Int)
 rotate_left
 ·rw [if_neg c2] at H
  have c2b0 : decide (s0_1 < (s0_0.length : Int)) = false := decide_eq_false c2
  clear c2
  simp only [Option.some.injEq, Prod.mk.injEq] at H
  obtain ⟨rfl, rfl, rfl⟩ := H
  obtain ⟨ASz5_0, cSz5_0, HGz5, hgz5, HSz5_0⟩ := HI0.out
  have hcz5_0 := cellS85_0 HGz5
  have hcz5_1 := cellS85_1 HGz5
  have hcz5_2 := cellS85_2 HGz5
  have hfz5_1 := blk_frozen HGz5 1
  have hfz5_2 := blk_frozen HGz5 2
  clear HGz5 hgz5
  go_enter Try.func86, Try.ntmps86
  go_wp2
  repeat (go_quiet (fail); try go_wp2)
  go_ret
  exact ⟨by first | rfl | (simp [errW_none, errW_some] <;> rfl) | (simp [*, errW_none, errW_some] <;> rfl), sI85, (sB85 (B := w0.heap.size) (w0 := w0)), (sG (w := w))⟩

 rw [if_pos c2] at H
 have c2b0 : decide (s0_1 < (s0_0.length : Int)) = true := decide_eq_true c2
 clear c2
 by_cases c3 : 0 ≤ s0_1
 rotate_left
 ·rw [if_neg c3] at H
  exact absurd H (by simp)
 rw [if_pos c3] at H
 have c3b0 : decide (0 ≤ s0_1) = true := decide_eq_true c3
 clear c3
 simp only [Option.some.injEq, Prod.mk.injEq] at H
 obtain ⟨rfl, rfl, rfl⟩ := H
 obtain ⟨ASz4_0, cSz4_0, HGz4, hgz4, HSz4_0⟩ := HI0.out
 have hcz4_0 := cellS85_0 HGz4
 have hcz4_1 := cellS85_1 HGz4
 have hcz4_2 := cellS85_2 HGz4
 have hfz4_1 := blk_frozen HGz4 1
 have hfz4_2 := blk_frozen HGz4 2
 clear HGz4 hgz4
 have p177 : 0 ≤ (s0_1 : Int) := of_decide_eq_true (by first | (with_reducible assumption) | assumption)
 have q177 : s0_1 < (s0_0.length : Int) := of_decide_eq_true (by first | (with_reducible assumption) | assumption)
 obtain ⟨ad177, e177, hx177_0⟩ := Kd.at_int HSz4_0 s0_1 p177 q177
 cases e177
 have hn177_0 : ad177.block ≠ g := Nat.ne_of_lt (Nat.lt_of_lt_of_le (by have := World.block_lt_of_cell? _ _ hx177_0; first | rwa [add_block] at this | exact this) (IsS85.ge HI0.out))
 replace hx177_0 := pw_cell_below HB.out hx177_0
 replace hx177_0 := (cell_far (p := ⟨g, 2, none⟩) (by first | (rw [add_block]; exact hn177_0) | (show (Addr.add _ _).block ≠ _; rw [add_block]; exact hn177_0) | exact hn177_0) (.int .i64 (wrap64 ((wrap64 (s0_2 * 6364136223846793005)) + 1442695040888963407)))).trans hx177_0
 (try have hy177_0 := fun (n_ : Nat) => (show (((w.drewN n_).setCell ⟨g, 2, none⟩ (.int .i64 (wrap64 ((wrap64 (s0_2 * 6364136223846793005)) + 1442695040888963407))))).cell? _ = some _ from hx177_0))
 clear hn177_0
 replace p177 := eq_true p177
 replace q177 := eq_true q177
 go_enter Try.func86, Try.ntmps86
 go_wp2
 repeat (go_quiet (fail); try go_wp2)
 go_ret
 exact ⟨by first | rfl | (simp [errW_none, errW_some] <;> rfl) | (simp [*, errW_none, errW_some] <;> rfl), sI85, (sB85 (B := w0.heap.size) (w0 := w0)), (sG (w := w))⟩
/-! ### spec_l1Below: function 76 -/
def spec_l1Below.f (s0_0 : List Int) (s0_1 : Int) (s0_2 : Int) (a1 : Int) : Option (Int × Int × Int) := if a1 ≤ 0 then (some (0, s0_1, s0_2)) else (if a1 ≤ 256 then ((spec_l1Byte.f s0_0 s0_1 s0_2).bind fun bt178 => (if a1 = 0 then (none) else (some (Int.tmod bt178.1 a1, bt178.2.1, bt178.2.2)))) else ((spec_l1Byte.f s0_0 s0_1 s0_2).bind fun bt181 => ((spec_l1Byte.f s0_0 bt181.2.1 bt181.2.2).bind fun bt184 => ((spec_l1Byte.f s0_0 bt184.2.1 bt184.2.2).bind fun bt187 => (if a1 = 0 then (none) else (some (Int.tmod (wrap64 ((wrap64 ((wrap64 (bt181.1 * 65536)) + (wrap64 (bt184.1 * 256)))) + bt187.1)) a1, bt187.2.1, bt187.2.2)))))))
set_option maxHeartbeats 8000000 in
set_option maxRecDepth 100000 in
theorem spec_l1Below.calls (g : Nat) (s0_0 : List Int) (s0_1 : Int) (s0_2 : Int) (a1 : Int) (r1 : Int) (r2 : Int) (r3 : Int) (w0 w : World) (hI : IsS85 w0 w g s0_0 s0_1 s0_2) (hB : Below w0.heap.size w0 w) (h : spec_l1Below.f s0_0 s0_1 s0_2 a1 = some (r1, r2, r3)) :
  Calls Try.prog 76 #[.pointer (some ⟨g, 0, none⟩), .int .i64 a1] w fun e w' => e = .returned (.int .i64 r1) ∧ IsS85 w0 w' g s0_0 r2 r3 ∧ Below w0.heap.size w0 w' ∧ KeepBut w w' g none := by
 have HI0 := aM hI
 have HK := aM (KeepBut.refl w g none)
 have HL := aM hB.size
 clear hI
 have HW0 := aM hB.size
 have HB := aM hB
 clear hB
 have H : (if a1 ≤ 0 then (some (0, s0_1, s0_2)) else (if a1 ≤ 256 then ((spec_l1Byte.f s0_0 s0_1 s0_2).bind fun bt178 => (if a1 = 0 then (none) else (some (Int.tmod bt178.1 a1, bt178.2.1, bt178.2.2)))) else ((spec_l1Byte.f s0_0 s0_1 s0_2).bind fun bt181 => ((spec_l1Byte.f s0_0 bt181.2.1 bt181.2.2).bind fun bt184 => ((spec_l1Byte.f s0_0 bt184.2.1 bt184.2.2).bind fun bt187 => (if a1 = 0 then (none) else (some (Int.tmod (wrap64 ((wrap64 ((wrap64 (bt181.1 * 65536)) + (wrap64 (bt184.1 * 256)))) + bt187.1)) a1, bt187.2.1, bt187.2.2)))))))) = some (r1, r2, r3) := h
 clear h
 by_cases c3 : a1 ≤ 0
 ·rw [if_pos c3] at H
  have c3b0 : decide (a1 ≤ 0) = true := decide_eq_true c3
  clear c3
  simp only [Option.some.injEq, Prod.mk.injEq] at H
  obtain ⟨rfl, rfl, rfl⟩ := H
  go_enter Try.func76, Try.ntmps76
  go_wp2
  go_ret
  exact ⟨by first | rfl | (simp [errW_none, errW_some] <;> rfl) | (simp [*, errW_none, errW_some] <;> rfl), sI85, (sB85 (B := w0.heap.size) (w0 := w0)), (sG (w := w))⟩
 ·rw [if_neg c3] at H
  have c3b0 : decide (a1 ≤ 0) = false := decide_eq_false c3
  clear c3
  by_cases c4 : a1 ≤ 256
  rotate_left
  ·rw [if_neg c4] at H
   have c4b0 : decide (a1 ≤ 256) = false := decide_eq_false c4
   clear c4
   replace H := Option.bind_eq_some_iff.mp H
   obtain ⟨⟨t181, t182, t183⟩, A80, H⟩ := H
   (try dsimp only at H)
   have A8 := aM A80
   clear A80
   replace H := Option.bind_eq_some_iff.mp H
   obtain ⟨⟨t184, t185, t186⟩, A90, H⟩ := H
   (try dsimp only at H)
   have A9 := aM A90
   clear A90
   replace H := Option.bind_eq_some_iff.mp H
   obtain ⟨⟨t187, t188, t189⟩, A100, H⟩ := H
   (try dsimp only at H)
   have A10 := aM A100
   clear A100
   by_cases c11 : a1 = 0
   ·rw [if_pos c11] at H
    exact absurd H (by simp)
   ·rw [if_neg c11] at H
    have c11b0 : (a1 == 0) = false := beq_eq_false_iff_ne.mpr c11
    have c11b1 : (a1 != 0) = true := bne_iff_ne.mpr c11
    simp only [Option.some.injEq, Prod.mk.injEq] at H
    obtain ⟨rfl, rfl, rfl⟩ := H
    go_enter Try.func76, Try.ntmps76
    go_wp2_with (first | ((with_reducible refine gate_callee (f := 86) rfl ?_); refine gL (some 17) rfl rfl Try.func86 (by kernel_rfl) rfl #[.pointer (some ⟨g, 0, none⟩)] rfl ?_; (with_reducible refine (spec_l1Byte.calls g s0_0 s0_1 s0_2 t181 t182 t183 w0 _ ?side1 ?side2 A8.out).mono ?_); (case side1 => exact sI85); (case side2 => exact (sB85 (B := w0.heap.size) (w0 := w0))); rintro e w12 ⟨rfl, hi, hb, hk⟩; refine ⟨_, rfl, ?_⟩; have _ := aM (KeepBut.trans (sG (w := w)) hk (.inl rfl)); have _ := aM (hb); have _ := aM (hi); clear HK HB HI0; rename_i HK HB HI0; (try clear hb); (try clear hk); (try clear hi)) | ((with_reducible refine gate_callee (f := 86) rfl ?_); refine gL (some 19) rfl rfl Try.func86 (by kernel_rfl) rfl #[.pointer (some ⟨g, 0, none⟩)] rfl ?_; (with_reducible refine (spec_l1Byte.calls g s0_0 t182 t183 t184 t185 t186 w0 _ ?side1 ?side2 A9.out).mono ?_); (case side1 => exact sI85); (case side2 => exact (sB85 (B := w0.heap.size) (w0 := w0))); rintro e w13 ⟨rfl, hi, hb, hk⟩; refine ⟨_, rfl, ?_⟩; have _ := aM (KeepBut.trans (sG (w := w)) hk (.inl rfl)); have _ := aM (hb); have _ := aM (hi); clear HK HB HI0; rename_i HK HB HI0; (try clear hb); (try clear hk); (try clear hi)) | ((with_reducible refine gate_callee (f := 86) rfl ?_); refine gL (some 21) rfl rfl Try.func86 (by kernel_rfl) rfl #[.pointer (some ⟨g, 0, none⟩)] rfl ?_; (with_reducible refine (spec_l1Byte.calls g s0_0 t185 t186 t187 t188 t189 w0 _ ?side1 ?side2 A10.out).mono ?_); (case side1 => exact sI85); (case side2 => exact (sB85 (B := w0.heap.size) (w0 := w0))); rintro e w14 ⟨rfl, hi, hb, hk⟩; refine ⟨_, rfl, ?_⟩; have _ := aM (KeepBut.trans (sG (w := w)) hk (.inl rfl)); have _ := aM (hb); have _ := aM (hi); clear HK HB HI0; rename_i HK HB HI0; (try clear hb); (try clear hk); (try clear hi)))
    go_ret
    exact ⟨by first | rfl | (simp [errW_none, errW_some] <;> rfl) | (simp [*, errW_none, errW_some] <;> rfl), sI85, (sB85 (B := w0.heap.size) (w0 := w0)), (sG (w := w))⟩

  rw [if_pos c4] at H
  have c4b0 : decide (a1 ≤ 256) = true := decide_eq_true c4
  clear c4
  replace H := Option.bind_eq_some_iff.mp H
  obtain ⟨⟨t178, t179, t180⟩, A50, H⟩ := H
  (try dsimp only at H)
  have A5 := aM A50
  clear A50
  by_cases c6 : a1 = 0
  ·rw [if_pos c6] at H
   exact absurd H (by simp)
  ·rw [if_neg c6] at H
   have c6b0 : (a1 == 0) = false := beq_eq_false_iff_ne.mpr c6
   have c6b1 : (a1 != 0) = true := bne_iff_ne.mpr c6
   simp only [Option.some.injEq, Prod.mk.injEq] at H
   obtain ⟨rfl, rfl, rfl⟩ := H
   go_enter Try.func76, Try.ntmps76
   go_wp2_with (first | ((with_reducible refine gate_callee (f := 86) rfl ?_); refine gL (some 13) rfl rfl Try.func86 (by kernel_rfl) rfl #[.pointer (some ⟨g, 0, none⟩)] rfl ?_; (with_reducible refine (spec_l1Byte.calls g s0_0 s0_1 s0_2 t178 t179 t180 w0 _ ?side1 ?side2 A5.out).mono ?_); (case side1 => exact sI85); (case side2 => exact (sB85 (B := w0.heap.size) (w0 := w0))); rintro e w7 ⟨rfl, hi, hb, hk⟩; refine ⟨_, rfl, ?_⟩; have _ := aM (KeepBut.trans (sG (w := w)) hk (.inl rfl)); have _ := aM (hb); have _ := aM (hi); clear HK HB HI0; rename_i HK HB HI0; (try clear hb); (try clear hk); (try clear hi)))
   go_ret
   exact ⟨by first | rfl | (simp [errW_none, errW_some] <;> rfl) | (simp [*, errW_none, errW_some] <;> rfl), sI85, (sB85 (B := w0.heap.size) (w0 := w0)), (sG (w := w))⟩
/-! ### spec_l1Int: function 83 -/
def spec_l1Int.f (s0_0 : List Int) (s0_1 : Int) (s0_2 : Int) (l1 : List Int) : Option (Int × Int × Int) := (spec_l1Below.f s0_0 s0_1 s0_2 (l1.length : Int)).bind fun bt190 => (if 0 ≤ bt190.1 then (if bt190.1 < (l1.length : Int) then (some (rd l1 bt190.1, bt190.2.1, bt190.2.2)) else (none)) else (none))
set_option maxHeartbeats 8000000 in
set_option maxRecDepth 100000 in
theorem spec_l1Int.calls (g : Nat) (s0_0 : List Int) (s0_1 : Int) (s0_2 : Int) (A1 : Option Addr) (c1 : Nat) (l1 : List Int) (r1 : Int) (r2 : Int) (r3 : Int) (w0 w : World) (hI : IsS85 w0 w g s0_0 s0_1 s0_2) (hB : Below w0.heap.size w0 w) (hr1 : Kd.C (Kd.int .i64) w A1 l1.length l1) (hc1 : l1.length ≤ c1) (hf1 : ∀ ad, A1 = some ad → 0 < l1.length → ad.block ≠ g) (h : spec_l1Int.f s0_0 s0_1 s0_2 l1 = some (r1, r2, r3)) :
  Calls Try.prog 83 #[.pointer (some ⟨g, 0, none⟩), .slice A1 l1.length c1] w fun e w' => e = .returned (.int .i64 r1) ∧ IsS85 w0 w' g s0_0 r2 r3 ∧ Below w0.heap.size w0 w' ∧ KeepBut w w' g none := by
 have HR1 := aM hr1
 have HC1 := aM hc1
 clear hr1 hc1
 have HI0 := aM hI
 have HK := aM (KeepBut.refl w g none)
 have HL := aM hB.size
 clear hI
 have HW0 := aM hB.size
 have HB := aM hB
 clear hB
 have H : ((spec_l1Below.f s0_0 s0_1 s0_2 (l1.length : Int)).bind fun bt190 => (if 0 ≤ bt190.1 then (if bt190.1 < (l1.length : Int) then (some (rd l1 bt190.1, bt190.2.1, bt190.2.2)) else (none)) else (none))) = some (r1, r2, r3) := h
 clear h
 replace H := Option.bind_eq_some_iff.mp H
 obtain ⟨⟨t190, t191, t192⟩, A30, H⟩ := H
 (try dsimp only at H)
 have A3 := aM A30
 clear A30
 by_cases c4 : 0 ≤ t190
 rotate_left
 ·rw [if_neg c4] at H
  exact absurd H (by simp)

 rw [if_pos c4] at H
 have c4b0 : decide (0 ≤ t190) = true := decide_eq_true c4
 clear c4
 by_cases c5 : t190 < (l1.length : Int)
 rotate_left
 ·rw [if_neg c5] at H
  exact absurd H (by simp)
 rw [if_pos c5] at H
 have c5b0 : decide (t190 < (l1.length : Int)) = true := decide_eq_true c5
 clear c5
 simp only [Option.some.injEq, Prod.mk.injEq] at H
 obtain ⟨rfl, rfl, rfl⟩ := H
 go_enter Try.func83, Try.ntmps83
 go_wp2_with (first | ((with_reducible refine gate_callee (f := 76) rfl ?_); refine gL (some 9) rfl rfl Try.func76 (by kernel_rfl) rfl #[.pointer (some ⟨g, 0, none⟩), .int .i64 (l1.length : Int)] rfl ?_; (with_reducible refine (spec_l1Below.calls g s0_0 s0_1 s0_2 (l1.length : Int) t190 t191 t192 w0 _ ?side1 ?side2 A3.out).mono ?_); (case side1 => exact sI85); (case side2 => exact (sB85 (B := w0.heap.size) (w0 := w0))); rintro e w6 ⟨rfl, hi, hb, hk⟩; refine ⟨_, rfl, ?_⟩; have _ := aM (KeepBut.trans (sG (w := w)) hk (.inl rfl)); have _ := aM (hb); have _ := aM (hi); clear HK HB HI0; rename_i HK HB HI0; (try clear hb); (try clear hk); (try clear hi); have p193 : 0 ≤ (t190 : Int) := of_decide_eq_true (by first | (with_reducible assumption) | assumption); have q193 : t190 < (l1.length : Int) := of_decide_eq_true (by first | (with_reducible assumption) | assumption); obtain ⟨ad193, e193, hx193_0⟩ := Kd.at_int HR1.out t190 p193 q193; cases e193; replace hx193_0 := keep_cell HK.out hx193_0 (by first | (rw [add_block]; exact hf1 _ rfl (by omega)) | exact hf1 _ rfl (by omega) | exact hf1 ad193 rfl (by omega)); replace p193 := eq_true p193; replace q193 := eq_true q193))
 go_ret
 exact ⟨by first | rfl | (simp [errW_none, errW_some] <;> rfl) | (simp [*, errW_none, errW_some] <;> rfl), sI85, (sB85 (B := w0.heap.size) (w0 := w0)), (sG (w := w))⟩
/-! ### spec_l1Once: function 74 -/
def spec_l1Once.f (s0_0 : List Int) (s0_1 : Int) (s0_2 : Int) (a1 : Int) : Option (Bool × Int × Int) := (spec_l1Below.f s0_0 s0_1 s0_2 a1).bind fun bt194 => (some ((bt194.1 == 0), bt194.2.1, bt194.2.2))
set_option maxHeartbeats 8000000 in
set_option maxRecDepth 100000 in
theorem spec_l1Once.calls (g : Nat) (s0_0 : List Int) (s0_1 : Int) (s0_2 : Int) (a1 : Int) (r1 : Bool) (r2 : Int) (r3 : Int) (w0 w : World) (hI : IsS85 w0 w g s0_0 s0_1 s0_2) (hB : Below w0.heap.size w0 w) (h : spec_l1Once.f s0_0 s0_1 s0_2 a1 = some (r1, r2, r3)) :
  Calls Try.prog 74 #[.pointer (some ⟨g, 0, none⟩), .int .i64 a1] w fun e w' => e = .returned (.bool r1) ∧ IsS85 w0 w' g s0_0 r2 r3 ∧ Below w0.heap.size w0 w' ∧ KeepBut w w' g none := by
 have HI0 := aM hI
 have HK := aM (KeepBut.refl w g none)
 have HL := aM hB.size
 clear hI
 have HW0 := aM hB.size
 have HB := aM hB
 clear hB
 have H : ((spec_l1Below.f s0_0 s0_1 s0_2 a1).bind fun bt194 => (some ((bt194.1 == 0), bt194.2.1, bt194.2.2))) = some (r1, r2, r3) := h
 clear h
 replace H := Option.bind_eq_some_iff.mp H
 obtain ⟨⟨t194, t195, t196⟩, A30, H⟩ := H
 (try dsimp only at H)
 have A3 := aM A30
 clear A30
 simp only [Option.some.injEq, Prod.mk.injEq] at H
 obtain ⟨rfl, rfl, rfl⟩ := H
 go_enter Try.func74, Try.ntmps74
 go_wp2_with (first | ((with_reducible refine gate_callee (f := 76) rfl ?_); refine gL (some 7) rfl rfl Try.func76 (by kernel_rfl) rfl #[.pointer (some ⟨g, 0, none⟩), .int .i64 a1] rfl ?_; (with_reducible refine (spec_l1Below.calls g s0_0 s0_1 s0_2 a1 t194 t195 t196 w0 _ ?side1 ?side2 A3.out).mono ?_); (case side1 => exact sI85); (case side2 => exact (sB85 (B := w0.heap.size) (w0 := w0))); rintro e w4 ⟨rfl, hi, hb, hk⟩; refine ⟨_, rfl, ?_⟩; have _ := aM (KeepBut.trans (sG (w := w)) hk (.inl rfl)); have _ := aM (hb); have _ := aM (hi); clear HK HB HI0; rename_i HK HB HI0; (try clear hb); (try clear hk); (try clear hi)))
 go_ret
 exact ⟨by first | rfl | (simp [errW_none, errW_some] <;> rfl) | (simp [*, errW_none, errW_some] <;> rfl), sI85, (sB85 (B := w0.heap.size) (w0 := w0)), (sG (w := w))⟩

/-! ### spec_l2Bits: function 84 -/
def spec_l2Bits.l0 : Nat → Int → List Bool → Int → List Int → Int → Int → Option (List Bool × Int × Int)
 | 0, _, _, _, _, _, _ => none
 | k + 1, x1, x5, x6, x1000, x1001, x1002 => if x6 < x1 then ((spec_l1Once.f x1000 x1001 x1002 2).bind fun bt200 => (if x5.length < 140737488355328 then (spec_l2Bits.l0 k x1 (x5 ++ [bt200.1]) (wrap64 (x6 + 1)) x1000 bt200.2.1 bt200.2.2) else (none))) else (some (x5, x1001, x1002))
def spec_l2Bits.f (k : Nat) (s0_0 : List Int) (s0_1 : Int) (s0_2 : Int) (a1 : Int) : Option (List Bool × Int × Int) := spec_l2Bits.l0 k a1 (([] : List Bool)) 0 s0_0 s0_1 s0_2
theorem spec_l2Bits.mono_l : ∀ k, (∀ y0 y1 y2 y3 y4 y5, LeO (spec_l2Bits.l0 k y0 y1 y2 y3 y4 y5) (spec_l2Bits.l0 (k + 1) y0 y1 y2 y3 y4 y5))
 | 0 => fun _ _ _ _ _ _ r h => by simp [spec_l2Bits.l0] at h
 | k + 1 => by
  have ih0 := spec_l2Bits.mono_l k
  ·intro y0 y1 y2 y3 y4 y5
   unfold spec_l2Bits.l0
   repeat' first
   | (with_reducible exact ih0 _ _ _ _ _ _)
   | (with_reducible exact LeO.refl _)
   | (with_reducible exact LeO.none _)
   | (with_reducible refine LeO.ite ?_ ?_)
   | (with_reducible refine LeO.bind ?_ (fun _ => ?_))
   | exact ih0 _ _ _ _ _ _
   | exact LeO.none _
   | refine LeO.ite ?_ ?_
   | refine LeO.bind ?_ (fun _ => ?_)
theorem spec_l2Bits.mono : ∀ a0 a1 a2 a3 k, LeO (spec_l2Bits.f k a0 a1 a2 a3) (spec_l2Bits.f (k + 1) a0 a1 a2 a3) := by
 intro a0 a1 a2 a3 k
 have ih0 := spec_l2Bits.mono_l k
 unfold spec_l2Bits.f
 repeat' first
   | (with_reducible exact ih0 _ _ _ _ _ _)
   | (with_reducible exact LeO.refl _)
   | (with_reducible exact LeO.none _)
   | (with_reducible refine LeO.ite ?_ ?_)
   | (with_reducible refine LeO.bind ?_ (fun _ => ?_))
   | exact ih0 _ _ _ _ _ _
   | exact LeO.none _
   | refine LeO.ite ?_ ?_
   | refine LeO.bind ?_ (fun _ => ?_)
set_option maxHeartbeats 8000000 in
set_option maxRecDepth 100000 in
theorem spec_l2Bits.calls (k : Nat) (g : Nat) (s0_0 : List Int) (s0_1 : Int) (s0_2 : Int) (a1 : Int) (r1 : List Bool) (r2 : Int) (r3 : Int) (w0 w : World) (hI : IsS85 w0 w g s0_0 s0_1 s0_2) (hB : Below w0.heap.size w0 w) (h : spec_l2Bits.f k s0_0 s0_1 s0_2 a1 = some (r1, r2, r3)) :
  Calls Try.prog 84 #[.pointer (some ⟨g, 0, none⟩), .int .i64 a1] w fun e w' => ∃ v0_ : Value, e = .returned (v0_) ∧ Kd.R Kd.bool 4 w' w.heap.size (fun _ => True) v0_ r1 ∧ IsS85 w0 w' g s0_0 r2 r3 ∧ Below w0.heap.size w0 w' ∧ KeepBut w w' g none := by
 have HI0 := aM hI
 have HK := aM (KeepBut.refl w g none)
 have HL := aM hB.size
 clear hI
 have HW0 := aM hB.size
 have HB := aM hB
 clear hB
 have H : (spec_l2Bits.l0 k a1 (([] : List Bool)) 0 s0_0 s0_1 s0_2) = some (r1, r2, r3) := h
 clear h
 obtain ⟨y197, hy197⟩ : ∃ y_ : List Bool, y_ = (([] : List Bool)) := ⟨_, rfl⟩
 replace H : (spec_l2Bits.l0 k a1 y197 0 s0_0 s0_1 s0_2) = some (r1, r2, r3) := by first | (rw [hy197]; with_reducible exact H) | (have H2_ := (Option.bind_some _ _).symm.trans H; rw [hy197]; with_reducible exact H2_) | (have H2_ := (Option.bind_some _ _).symm.trans H; with_reducible exact H2_) | with_reducible exact H | (rw [hy197]; exact H) | exact H
 have Ny197 := aM hy197
 clear hy197
 have H' := aM H
 clear H
 go_enter Try.func84, Try.ntmps84
 go_wp2_with (first | ((with_reducible refine gate_dst (N := 7) rfl ?_); refine Kd.R_lit Kd.bool _ 4 ?hg (N := 7) ?hd (xs := ([] : List Bool)) (inner := []) (ok := fun _ => True) (okp := fun _ => True) ?hr ?hp (fun _ hk => hk) trivial (Below.refl _ _) (Nat.le_refl _) (by simp) ?_; (case hd => rfl); (case hg => rfl); (case hr => first | (go_simp; done) | (go_simp; rfl)); (case hp => exact (Reps.none _ _)); intro v198 w3 ho4 hb hg_ hnew_; clear hg_ hnew_; (first | rw [← Ny197.out] at ho4 | (simp only [Int.reduceToNat] at ho4; rw [← Ny197.out] at ho4)); have _ := aM (Kd.R_lower ho4 (keep_size (w := w) (g := g) (row := none) (sG (w := w)))); have _ := aM (IsS85.below sI85 hb); have _ := aM (KeepBut.trans (sG (w := w)) (KeepBut.of_below hb g none) (.inl rfl)); have _ := aM (below_step (sB85 (B := w0.heap.size) (w0 := w0)) hb); clear HI0 HK HB; rename_i HO199 HI0 HK HB; clear hb ho4))
 go_loopg [5, 6] k (fun kq v5 v6 w' => ∃ (x5_1 : List Bool) (x6_1 : Int) (x1001_1 : Int) (x1002_1 : Int), v6 = .int .i64 x6_1 ∧ Aside0 (spec_l2Bits.l0 kq a1 x5_1 x6_1 s0_0 x1001_1 x1002_1 = some (r1, r2, r3)) ∧ Aside0 (kq ≤ k) ∧ Aside0 (Kd.R Kd.bool 4 w' w.heap.size (fun _ => True) v5 x5_1) ∧ Aside0 (IsS85 w0 w' g s0_0 x1001_1 x1002_1) ∧ Aside0 (KeepBut w w' g none) ∧ Aside0 (Below w0.heap.size w0 w'))
 case atStart => exact ⟨(y197), (0), (s0_1), (s0_2), (by first | rfl | (simp; done) | (simp [*]; done)), H', ⟨Nat.le_refl _⟩, ⟨by (with_reducible repeat (first | apply Kd.R_alloc | apply Kd.R_drewN | apply Kd.R_drew)); exact HO199.out⟩, ⟨sI85⟩, ⟨(sG (w := w))⟩, ⟨(sB85 (B := w0.heap.size) (w0 := w0))⟩⟩
 case round =>
  clear H'
  try clear p2
  obtain ⟨x5_1, x6_1, x1001_1, x1002_1, rfl, HA, HK1, HO_5, HI0, HK, HB⟩ := hrel
  cases gk with
  | zero => exact absurd HA.out (by simp [spec_l2Bits.l0])
  | succ k1 =>
   have H := HA.out
   clear HA
   simp only [spec_l2Bits.l0] at H
   by_cases c5 : x6_1 < a1
   rotate_left
   ·rw [if_neg c5] at H
    have c5b0 : decide (x6_1 < a1) = false := decide_eq_false c5
    clear c5
    simp only [Option.some.injEq, Prod.mk.injEq] at H
    obtain ⟨rfl, rfl, rfl⟩ := H
    go_wp2
    go_ret
    exact ⟨_, by first | rfl | (simp [errW_none, errW_some] <;> rfl) | (simp [*, errW_none, errW_some] <;> rfl), by (with_reducible repeat (first | apply Kd.R_alloc | apply Kd.R_drewN | apply Kd.R_drew)); exact HO_5.out, sI85, (sB85 (B := w0.heap.size) (w0 := w0)), (sG (w := w))⟩

   rw [if_pos c5] at H
   have c5b0 : decide (x6_1 < a1) = true := decide_eq_true c5
   clear c5
   replace H := Option.bind_eq_some_iff.mp H
   obtain ⟨⟨t200, t201, t202⟩, A60, H⟩ := H
   (try dsimp only at H)
   have A6 := aM A60
   clear A60
   by_cases c7 : x5_1.length < 140737488355328
   rotate_left
   ·rw [if_neg c7] at H
    exact absurd H (by simp)
   rw [if_pos c7] at H
   have LMc7 := aM c7
   clear c7
   obtain ⟨y203, hy203⟩ : ∃ y_ : List Bool, y_ = (x5_1 ++ [t200]) := ⟨_, rfl⟩
   replace H : (spec_l2Bits.l0 k1 a1 y203 (wrap64 (x6_1 + 1)) s0_0 t201 t202) = some (r1, r2, r3) := by first | (rw [hy203]; with_reducible exact H) | (have H2_ := (Option.bind_some _ _).symm.trans H; rw [hy203]; with_reducible exact H2_) | (have H2_ := (Option.bind_some _ _).symm.trans H; with_reducible exact H2_) | with_reducible exact H | (rw [hy203]; exact H) | exact H
   have Ny203 := aM hy203
   clear hy203
   have H' := aM H
   clear H
   go_wp2_with (first | ((with_reducible refine gate_callee (f := 74) rfl ?_); refine gL (some 15) rfl rfl Try.func74 (by kernel_rfl) rfl #[.pointer (some ⟨g, 0, none⟩), .int .i64 2] rfl ?_; (with_reducible refine (spec_l1Once.calls g s0_0 x1001_1 x1002_1 2 t200 t201 t202 w0 _ ?side1 ?side2 A6.out).mono ?_); (case side1 => exact sI85); (case side2 => exact (sB85 (B := w0.heap.size) (w0 := w0))); rintro e w8 ⟨rfl, hi, hb, hk⟩; refine ⟨_, rfl, ?_⟩; have _ := aM (rK85 HO_5.out hk); have _ := aM (KeepBut.trans (sG (w := w)) hk (.inl rfl)); have _ := aM (hb); have _ := aM (hi); clear HO_5 HK HB HI0; rename_i HO_5 HK HB HI0; (try clear hb); (try clear hk); (try clear hi)) | ((with_reducible refine gate_builtin (b := .append) (xs := #[.tmp 13, .tmp 16]) rfl ?_); at_builtin; refine Kd.R_append Kd.bool w.heap.size rfl (.tmp 13) (.tmp 16) 23 4 (.bool false) 1 rfl Try.underlying23 info4 rfl (by decide) (by omega) u5 x5_1 t200 [.bool t200] (fun _ => True) (fun _ => False) rfl rfl ?aP (fun _ hk => hk.elim) ?aF ?aO (Below.refl _ _) ?aS ?aL ?_; (case aP => exact rfl); (case aF => exact (fun _ _ => trivial)); (case aO => exact (rA HO_5.out)); (case aS => exact (keep_size (w := w) (g := g) (row := none) (sG (w := w)))); (case aL => have := LMc7.out; omega); intro v204 w9 ho hb hg hat; rw [← Ny203.out] at ho; have _ := aM (IsS85.grown sI85 hg (IsS85.own_ne HI0.out HO_5.out (by decide))); have _ := aM (below_weaken (sB85 (B := w0.heap.size) (w0 := w0)) HL.out hb); have _ := aM (KeepBut.trans (sG (w := w)) (KeepBut.of_grown hg g) (Kd.R_base2 HO_5.out)); have _ := aM (ho); clear HI0 HB HK HO_5; rename_i HI0 HB HK HO205; clear ho hb hg hat))
   go_roundg k1
   case measure => have := HK1.out; omega
   case rel => exact ⟨(y203), (wrap64 (x6_1 + 1)), (t201), (t202), (by first | rfl | (simp; done) | (simp [*]; done)), H', ⟨by have := HK1.out; omega⟩, ⟨by (with_reducible repeat (first | apply Kd.R_alloc | apply Kd.R_drewN | apply Kd.R_drew)); exact HO205.out⟩, ⟨sI85⟩, ⟨(sG (w := w))⟩, ⟨(sB85 (B := w0.heap.size) (w0 := w0))⟩⟩
/-! ### spec_l3List: function 85 -/
def spec_l3List.l0 : Nat → Int → List Int → Int → List Int → Int → Int → Option (List Int × Int × Int)
 | 0, _, _, _, _, _, _ => none
 | k + 1, x1, x5, x6, x1000, x1001, x1002 => if x6 < x1 then ((spec_l1Below.f x1000 x1001 x1002 65536).bind fun bt209 => ((spec_l1Int.f x1000 bt209.2.1 bt209.2.2 (([0, 1, 65535, 256, bt209.1] : List Int))).bind fun bt215 => (if x5.length < 17592186044416 then (spec_l3List.l0 k x1 (x5 ++ [bt215.1]) (wrap64 (x6 + 1)) x1000 bt215.2.1 bt215.2.2) else (none)))) else (some (x5, x1001, x1002))
def spec_l3List.f (k : Nat) (s0_0 : List Int) (s0_1 : Int) (s0_2 : Int) (a1 : Int) : Option (List Int × Int × Int) := spec_l3List.l0 k a1 (([] : List Int)) 0 s0_0 s0_1 s0_2
theorem spec_l3List.mono_l : ∀ k, (∀ y0 y1 y2 y3 y4 y5, LeO (spec_l3List.l0 k y0 y1 y2 y3 y4 y5) (spec_l3List.l0 (k + 1) y0 y1 y2 y3 y4 y5))
 | 0 => fun _ _ _ _ _ _ r h => by simp [spec_l3List.l0] at h
 | k + 1 => by
  have ih0 := spec_l3List.mono_l k
  ·intro y0 y1 y2 y3 y4 y5
   unfold spec_l3List.l0
   repeat' first
   | (with_reducible exact ih0 _ _ _ _ _ _)
   | (with_reducible exact LeO.refl _)
   | (with_reducible exact LeO.none _)
   | (with_reducible refine LeO.ite ?_ ?_)
   | (with_reducible refine LeO.bind ?_ (fun _ => ?_))
   | exact ih0 _ _ _ _ _ _
   | exact LeO.none _
   | refine LeO.ite ?_ ?_
   | refine LeO.bind ?_ (fun _ => ?_)
theorem spec_l3List.mono : ∀ a0 a1 a2 a3 k, LeO (spec_l3List.f k a0 a1 a2 a3) (spec_l3List.f (k + 1) a0 a1 a2 a3) := by
 intro a0 a1 a2 a3 k
 have ih0 := spec_l3List.mono_l k
 unfold spec_l3List.f
 repeat' first
   | (with_reducible exact ih0 _ _ _ _ _ _)
   | (with_reducible exact LeO.refl _)
   | (with_reducible exact LeO.none _)
   | (with_reducible refine LeO.ite ?_ ?_)
   | (with_reducible refine LeO.bind ?_ (fun _ => ?_))
   | exact ih0 _ _ _ _ _ _
   | exact LeO.none _
   | refine LeO.ite ?_ ?_
   | refine LeO.bind ?_ (fun _ => ?_)
set_option maxHeartbeats 8000000 in
set_option maxRecDepth 100000 in
theorem spec_l3List.calls (k : Nat) (g : Nat) (s0_0 : List Int) (s0_1 : Int) (s0_2 : Int) (a1 : Int) (r1 : List Int) (r2 : Int) (r3 : Int) (w0 w : World) (hI : IsS85 w0 w g s0_0 s0_1 s0_2) (hB : Below w0.heap.size w0 w) (h : spec_l3List.f k s0_0 s0_1 s0_2 a1 = some (r1, r2, r3)) :
  Calls Try.prog 85 #[.pointer (some ⟨g, 0, none⟩), .int .i64 a1] w fun e w' => ∃ v0_ : Value, e = .returned (v0_) ∧ Kd.R (Kd.int .i64) 3 w' w.heap.size (fun _ => True) v0_ r1 ∧ IsS85 w0 w' g s0_0 r2 r3 ∧ Below w0.heap.size w0 w' ∧ KeepBut w w' g none := by
 have HI0 := aM hI
 have HK := aM (KeepBut.refl w g none)
 have HL := aM hB.size
 clear hI
 have HW0 := aM hB.size
 have HB := aM hB
 clear hB
 have H : (spec_l3List.l0 k a1 (([] : List Int)) 0 s0_0 s0_1 s0_2) = some (r1, r2, r3) := h
 clear h
 obtain ⟨y206, hy206⟩ : ∃ y_ : List Int, y_ = (([] : List Int)) := ⟨_, rfl⟩
 replace H : (spec_l3List.l0 k a1 y206 0 s0_0 s0_1 s0_2) = some (r1, r2, r3) := by first | (rw [hy206]; with_reducible exact H) | (have H2_ := (Option.bind_some _ _).symm.trans H; rw [hy206]; with_reducible exact H2_) | (have H2_ := (Option.bind_some _ _).symm.trans H; with_reducible exact H2_) | with_reducible exact H | (rw [hy206]; exact H) | exact H
 have Ny206 := aM hy206
 clear hy206
 have H' := aM H
 clear H
 go_enter Try.func85, Try.ntmps85
 go_wp2_with (first | ((with_reducible refine gate_dst (N := 7) rfl ?_); refine Kd.R_lit (Kd.int .i64) _ 3 ?hg (N := 7) ?hd (xs := ([] : List Int)) (inner := []) (ok := fun _ => True) (okp := fun _ => True) ?hr ?hp (fun _ hk => hk) trivial (Below.refl _ _) (Nat.le_refl _) (by simp) ?_; (case hd => rfl); (case hg => rfl); (case hr => first | (go_simp; done) | (go_simp; rfl)); (case hp => exact (Reps.none _ _)); intro v207 w3 ho4 hb hg_ hnew_; clear hg_ hnew_; (first | rw [← Ny206.out] at ho4 | (simp only [Int.reduceToNat] at ho4; rw [← Ny206.out] at ho4)); have _ := aM (Kd.R_lower ho4 (keep_size (w := w) (g := g) (row := none) (sG (w := w)))); have _ := aM (IsS85.below sI85 hb); have _ := aM (KeepBut.trans (sG (w := w)) (KeepBut.of_below hb g none) (.inl rfl)); have _ := aM (below_step (sB85 (B := w0.heap.size) (w0 := w0)) hb); clear HI0 HK HB; rename_i HO208 HI0 HK HB; clear hb ho4))
 go_loopg [5, 6] k (fun kq v5 v6 w' => ∃ (x5_1 : List Int) (x6_1 : Int) (x1001_1 : Int) (x1002_1 : Int), v6 = .int .i64 x6_1 ∧ Aside0 (spec_l3List.l0 kq a1 x5_1 x6_1 s0_0 x1001_1 x1002_1 = some (r1, r2, r3)) ∧ Aside0 (kq ≤ k) ∧ Aside0 (Kd.R (Kd.int .i64) 3 w' w.heap.size (fun _ => True) v5 x5_1) ∧ Aside0 (IsS85 w0 w' g s0_0 x1001_1 x1002_1) ∧ Aside0 (KeepBut w w' g none) ∧ Aside0 (Below w0.heap.size w0 w'))
 case atStart => exact ⟨(y206), (0), (s0_1), (s0_2), (by first | rfl | (simp; done) | (simp [*]; done)), H', ⟨Nat.le_refl _⟩, ⟨by (with_reducible repeat (first | apply Kd.R_alloc | apply Kd.R_drewN | apply Kd.R_drew)); exact HO208.out⟩, ⟨sI85⟩, ⟨(sG (w := w))⟩, ⟨(sB85 (B := w0.heap.size) (w0 := w0))⟩⟩
 case round =>
  clear H'
  try clear p2
  obtain ⟨x5_1, x6_1, x1001_1, x1002_1, rfl, HA, HK1, HO_5, HI0, HK, HB⟩ := hrel
  cases gk with
  | zero => exact absurd HA.out (by simp [spec_l3List.l0])
  | succ k1 =>
   have H := HA.out
   clear HA
   simp only [spec_l3List.l0] at H
   by_cases c5 : x6_1 < a1
   rotate_left
   ·rw [if_neg c5] at H
    have c5b0 : decide (x6_1 < a1) = false := decide_eq_false c5
    clear c5
    simp only [Option.some.injEq, Prod.mk.injEq] at H
    obtain ⟨rfl, rfl, rfl⟩ := H
    go_wp2
    go_ret
    exact ⟨_, by first | rfl | (simp [errW_none, errW_some] <;> rfl) | (simp [*, errW_none, errW_some] <;> rfl), by (with_reducible repeat (first | apply Kd.R_alloc | apply Kd.R_drewN | apply Kd.R_drew)); exact HO_5.out, sI85, (sB85 (B := w0.heap.size) (w0 := w0)), (sG (w := w))⟩

   rw [if_pos c5] at H
   have c5b0 : decide (x6_1 < a1) = true := decide_eq_true c5
   clear c5
   replace H := Option.bind_eq_some_iff.mp H
   obtain ⟨⟨t209, t210, t211⟩, A60, H⟩ := H
   (try dsimp only at H)
   have A6 := aM A60
   clear A60
   obtain ⟨y212, hy212⟩ : ∃ y_ : List Int, y_ = (([0, 1, 65535, 256, t209] : List Int)) := ⟨_, rfl⟩
   replace H : ((spec_l1Int.f s0_0 t210 t211 y212).bind fun bt215 => (if x5_1.length < 17592186044416 then (spec_l3List.l0 k1 a1 (x5_1 ++ [bt215.1]) (wrap64 (x6_1 + 1)) s0_0 bt215.2.1 bt215.2.2) else (none))) = some (r1, r2, r3) := by first | (rw [hy212]; with_reducible exact H) | (have H2_ := (Option.bind_some _ _).symm.trans H; rw [hy212]; with_reducible exact H2_) | (have H2_ := (Option.bind_some _ _).symm.trans H; with_reducible exact H2_) | with_reducible exact H | (rw [hy212]; exact H) | exact H
   have Ny212 := aM hy212
   clear hy212
   replace H := Option.bind_eq_some_iff.mp H
   obtain ⟨⟨t215, t216, t217⟩, A70, H⟩ := H
   (try dsimp only at H)
   have A7 := aM A70
   clear A70
   by_cases c8 : x5_1.length < 17592186044416
   rotate_left
   ·rw [if_neg c8] at H
    exact absurd H (by simp)
   rw [if_pos c8] at H
   have LMc8 := aM c8
   clear c8
   obtain ⟨y218, hy218⟩ : ∃ y_ : List Int, y_ = (x5_1 ++ [t215]) := ⟨_, rfl⟩
   replace H : (spec_l3List.l0 k1 a1 y218 (wrap64 (x6_1 + 1)) s0_0 t216 t217) = some (r1, r2, r3) := by first | (rw [hy218]; with_reducible exact H) | (have H2_ := (Option.bind_some _ _).symm.trans H; rw [hy218]; with_reducible exact H2_) | (have H2_ := (Option.bind_some _ _).symm.trans H; with_reducible exact H2_) | with_reducible exact H | (rw [hy218]; exact H) | exact H
   have Ny218 := aM hy218
   clear hy218
   have H' := aM H
   clear H
   go_wp2_with (first | ((with_reducible refine gate_callee (f := 76) rfl ?_); refine gL (some 16) rfl rfl Try.func76 (by kernel_rfl) rfl #[.pointer (some ⟨g, 0, none⟩), .int .i64 65536] rfl ?_; (with_reducible refine (spec_l1Below.calls g s0_0 x1001_1 x1002_1 65536 t209 t210 t211 w0 _ ?side1 ?side2 A6.out).mono ?_); (case side1 => exact sI85); (case side2 => exact (sB85 (B := w0.heap.size) (w0 := w0))); rintro e w9 ⟨rfl, hi, hb, hk⟩; refine ⟨_, rfl, ?_⟩; have _ := aM (rK85 HO_5.out hk); have _ := aM (KeepBut.trans (sG (w := w)) hk (.inl rfl)); have _ := aM (hb); have _ := aM (hi); clear HO_5 HK HB HI0; rename_i HO_5 HK HB HI0; (try clear hb); (try clear hk); (try clear hi)) | ((with_reducible refine gate_dst (N := 17) rfl ?_); refine Kd.R_lit (Kd.int .i64) _ 3 ?hg (N := 17) ?hd (xs := ([0, 1, 65535, 256, t209] : List Int)) (inner := [.int .i64 0, .int .i64 1, .int .i64 65535, .int .i64 256, .int .i64 t209]) (ok := fun _ => True) (okp := fun _ => True) ?hr ?hp (fun _ hk => hk) trivial (Below.refl _ _) (Nat.le_refl _) (by simp) ?_; (case hd => rfl); (case hg => rfl); (case hr => first | (go_simp; done) | (go_simp; rfl)); (case hp => exact (Reps.one (show Kd.M (Kd.int .i64) _ _ _ 0 [.int .i64 0] from rfl) (Reps.one (show Kd.M (Kd.int .i64) _ _ _ 1 [.int .i64 1] from rfl) (Reps.one (show Kd.M (Kd.int .i64) _ _ _ 65535 [.int .i64 65535] from rfl) (Reps.one (show Kd.M (Kd.int .i64) _ _ _ 256 [.int .i64 256] from rfl) (Reps.one (show Kd.M (Kd.int .i64) _ _ _ t209 [.int .i64 t209] from rfl) (Reps.none _ _))))))); intro v213 w10 ho11 hb hg_ hnew_; clear hg_ hnew_; (first | rw [← Ny212.out] at ho11 | (simp only [Int.reduceToNat] at ho11; rw [← Ny212.out] at ho11)); have _ := aM (Kd.R_elder' (rA HO_5.out) (Kd.R_base ho11) hb); have _ := aM (Kd.R_lower (Kd.R_new' ho11 (Kd.R_lt (rA HO_5.out))) (keep_size (w := w) (g := g) (row := none) (sG (w := w)))); have _ := aM (IsS85.below sI85 hb); have _ := aM (KeepBut.trans (sG (w := w)) (KeepBut.of_below hb g none) (.inl rfl)); have _ := aM (below_step (sB85 (B := w0.heap.size) (w0 := w0)) hb); clear HO_5 HI0 HK HB; rename_i HO_5 HO214 HI0 HK HB; clear hb ho11; obtain ⟨Ao12, co12, eo12⟩ := Kd.R_slice HO214.out; subst eo12) | ((with_reducible refine gate_callee (f := 83) rfl ?_); refine gL (some 18) rfl rfl Try.func83 (by kernel_rfl) rfl #[.pointer (some ⟨g, 0, none⟩), .slice Ao12 y212.length co12] rfl ?_; (with_reducible refine (spec_l1Int.calls g s0_0 t210 t211 _ _ y212 t215 t216 t217 w0 _ ?side1 ?side2 ?side3 ?side4 ?side5 A7.out).mono ?_); (case side1 => exact sI85); (case side2 => exact (sB85 (B := w0.heap.size) (w0 := w0))); (case side3 => exact cR HO214.out); (case side4 => exact (Kd.R_reads' HO214.out).2.1); (case side5 => exact far_slice (IsS85.own_ne HI0.out HO214.out (by decide))); rintro e w13 ⟨rfl, hi, hb, hk⟩; refine ⟨_, rfl, ?_⟩; have _ := aM (rK85 HO_5.out hk); have _ := aM (rK85 HO214.out hk); have _ := aM (KeepBut.trans (sG (w := w)) hk (.inl rfl)); have _ := aM (hb); have _ := aM (hi); clear HO_5 HO214 HK HB HI0; rename_i HO_5 HO214 HK HB HI0; (try clear hb); (try clear hk); (try clear hi)) | ((with_reducible refine gate_builtin (b := .append) (xs := #[.tmp 13, .tmp 19]) rfl ?_); at_builtin; refine Kd.R_append (Kd.int .i64) w.heap.size rfl (.tmp 13) (.tmp 19) 22 3 (.int .i64 0) 8 rfl Try.underlying22 info3 rfl (by decide) (by omega) u5 x5_1 t215 [.int .i64 t215] (fun k_ => some k_ ≠ (.slice Ao12 y212.length co12 : Value).ownBlock) (fun _ => False) rfl rfl ?aP (fun _ hk => hk.elim) ?aF ?aO (Below.refl _ _) ?aS ?aL ?_; (case aP => exact rfl); (case aF => exact (fun k_ hk => Kd.fresh' (Kd.R_lt (rA HO214.out)) k_ hk)); (case aO => exact (by (with_reducible repeat (first | apply Kd.R_alloc | apply Kd.R_drewN | apply Kd.R_drew)); exact Kd.R_mono HO_5.out (fun _ hk => hk.2))); (case aS => exact (keep_size (w := w) (g := g) (row := none) (sG (w := w)))); (case aL => have := LMc8.out; omega); intro v219 w14 ho hb hg hat; rw [← Ny218.out] at ho; have _ := aM (IsS85.grown sI85 hg (IsS85.own_ne HI0.out HO_5.out (by decide))); have _ := aM (Kd.R_after (ok := (fun _ => True)) (rA HO214.out) hg hat); have _ := aM (below_weaken (sB85 (B := w0.heap.size) (w0 := w0)) HL.out hb); have _ := aM (KeepBut.trans (sG (w := w)) (KeepBut.of_grown hg g) (Kd.R_base2 HO_5.out)); have _ := aM (ho); clear HI0 HO214 HB HK HO_5; rename_i HI0 HO214 HB HK HO220; clear ho hb hg hat))
   go_roundg k1
   case measure => have := HK1.out; omega
   case rel => exact ⟨(y218), (wrap64 (x6_1 + 1)), (t216), (t217), (by first | rfl | (simp; done) | (simp [*]; done)), H', ⟨by have := HK1.out; omega⟩, ⟨by (with_reducible repeat (first | apply Kd.R_alloc | apply Kd.R_drewN | apply Kd.R_drew)); exact Kd.R_mono HO220.out (fun _ hk => trivial)⟩, ⟨sI85⟩, ⟨(sG (w := w))⟩, ⟨(sB85 (B := w0.heap.size) (w0 := w0))⟩⟩
/-! ### spec_l3Draw: function 73 -/
def spec_l3Draw.f (k : Nat) (s0_0 : List Int) (s0_1 : Int) (s0_2 : Int) (a1 : Int) : Option (Int × Int × Int × List Int × List Bool × Int × Int × Int) := (spec_l1Int.f s0_0 s0_1 s0_2 (([1, 2, 3, 4, 5, 6, 15, 16, 22, 23, 3, 16] : List Int))).bind fun bt225 => ((spec_l1Below.f s0_0 bt225.2.1 bt225.2.2 12).bind fun bt228 => ((spec_l1Below.f s0_0 bt228.2.1 bt228.2.2 6).bind fun bt232 => (if bt225.1 = 5 then ((spec_l2Bits.f k s0_0 bt232.2.1 bt232.2.2 1).bind fun bt235 => (some (bt225.1, wrap64 (a1 + bt228.1), 0, ([] : List Int), bt235.1, 0, bt235.2.1, bt235.2.2))) else (if bt225.1 = 6 then ((spec_l3List.f k s0_0 bt232.2.1 bt232.2.2 1).bind fun bt240 => (some (bt225.1, wrap64 (a1 + bt228.1), 0, bt240.1, ([] : List Bool), 0, bt240.2.1, bt240.2.2))) else (if bt225.1 = 22 then ((spec_l3List.f k s0_0 bt232.2.1 bt232.2.2 2).bind fun bt245 => (some (bt225.1, wrap64 (a1 + bt228.1), 0, bt245.1, ([] : List Bool), 0, bt245.2.1, bt245.2.2))) else (if bt225.1 = 15 then ((spec_l1Below.f s0_0 bt232.2.1 bt232.2.2 8).bind fun bt250 => ((spec_l2Bits.f k s0_0 bt250.2.1 bt250.2.2 (wrap64 ((wrap64 (1 + bt232.1)) + bt250.1))).bind fun bt253 => (some (bt225.1, wrap64 (a1 + bt228.1), 0, ([] : List Int), bt253.1, 0, bt253.2.1, bt253.2.2)))) else (if bt225.1 = 16 then ((spec_l3List.f k s0_0 bt232.2.1 bt232.2.2 (wrap64 (1 + bt232.1))).bind fun bt258 => (some (bt225.1, wrap64 (a1 + bt228.1), 0, bt258.1, ([] : List Bool), 0, bt258.2.1, bt258.2.2))) else (if bt225.1 = 23 then ((spec_l1Below.f s0_0 bt232.2.1 bt232.2.2 12).bind fun bt263 => ((spec_l1Below.f s0_0 bt263.2.1 bt263.2.2 4).bind fun bt266 => ((spec_l3List.f k s0_0 bt266.2.1 bt266.2.2 (wrap64 (1 + bt266.1))).bind fun bt269 => (some (bt225.1, wrap64 (a1 + bt228.1), wrap64 (1 + bt232.1), bt269.1, ([] : List Bool), wrap64 (a1 + bt263.1), bt269.2.1, bt269.2.2))))) else (some (bt225.1, wrap64 (a1 + bt228.1), wrap64 (1 + bt232.1), ([] : List Int), ([] : List Bool), 0, bt232.2.1, bt232.2.2))))))))))
theorem spec_l3Draw.mono : ∀ a0 a1 a2 a3 k, LeO (spec_l3Draw.f k a0 a1 a2 a3) (spec_l3Draw.f (k + 1) a0 a1 a2 a3) := by
 intro a0 a1 a2 a3 k
 unfold spec_l3Draw.f
 repeat' first
   | (with_reducible exact spec_l2Bits.mono _ _ _ _ _)
   | (with_reducible exact spec_l3List.mono _ _ _ _ _)
   | (with_reducible exact LeO.refl _)
   | (with_reducible exact LeO.none _)
   | (with_reducible refine LeO.ite ?_ ?_)
   | (with_reducible refine LeO.bind ?_ (fun _ => ?_))
   | exact spec_l2Bits.mono _ _ _ _ _
   | exact spec_l3List.mono _ _ _ _ _
   | exact LeO.none _
   | refine LeO.ite ?_ ?_
   | refine LeO.bind ?_ (fun _ => ?_)
set_option maxHeartbeats 8000000 in
set_option maxRecDepth 100000 in
theorem spec_l3Draw.calls (k : Nat) (g : Nat) (s0_0 : List Int) (s0_1 : Int) (s0_2 : Int) (a1 : Int) (r1 : Int) (r2 : Int) (r3 : Int) (r4 : List Int) (r5 : List Bool) (r6 : Int) (r7 : Int) (r8 : Int) (w0 w : World) (hI : IsS85 w0 w g s0_0 s0_1 s0_2) (hB : Below w0.heap.size w0 w) (h : spec_l3Draw.f k s0_0 s0_1 s0_2 a1 = some (r1, r2, r3, r4, r5, r6, r7, r8)) :
  Calls Try.prog 73 #[.pointer (some ⟨g, 0, none⟩), .int .i64 a1] w fun e w' => ∃ v3_ v4_ : Value, e = .returned (.agg #[.int .i64 r1, .int .i64 r2, .int .i64 r3, v3_, v4_, .int .i64 r6]) ∧ Kd.R (Kd.int .i64) 3 w' w.heap.size (fun _ => True) v3_ r4 ∧ Kd.R Kd.bool 4 w' w.heap.size (fun _ => True) v4_ r5 ∧ IsS85 w0 w' g s0_0 r7 r8 ∧ Below w0.heap.size w0 w' ∧ KeepBut w w' g none := by
 have hu29 := Try.underlying29
 have HI0 := aM hI
 have HK := aM (KeepBut.refl w g none)
 have HL := aM hB.size
 clear hI
 have HW0 := aM hB.size
 have HB := aM hB
 clear hB
 have H : ((spec_l1Int.f s0_0 s0_1 s0_2 (([1, 2, 3, 4, 5, 6, 15, 16, 22, 23, 3, 16] : List Int))).bind fun bt225 => ((spec_l1Below.f s0_0 bt225.2.1 bt225.2.2 12).bind fun bt228 => ((spec_l1Below.f s0_0 bt228.2.1 bt228.2.2 6).bind fun bt232 => (if bt225.1 = 5 then ((spec_l2Bits.f k s0_0 bt232.2.1 bt232.2.2 1).bind fun bt235 => (some (bt225.1, wrap64 (a1 + bt228.1), 0, ([] : List Int), bt235.1, 0, bt235.2.1, bt235.2.2))) else (if bt225.1 = 6 then ((spec_l3List.f k s0_0 bt232.2.1 bt232.2.2 1).bind fun bt240 => (some (bt225.1, wrap64 (a1 + bt228.1), 0, bt240.1, ([] : List Bool), 0, bt240.2.1, bt240.2.2))) else (if bt225.1 = 22 then ((spec_l3List.f k s0_0 bt232.2.1 bt232.2.2 2).bind fun bt245 => (some (bt225.1, wrap64 (a1 + bt228.1), 0, bt245.1, ([] : List Bool), 0, bt245.2.1, bt245.2.2))) else (if bt225.1 = 15 then ((spec_l1Below.f s0_0 bt232.2.1 bt232.2.2 8).bind fun bt250 => ((spec_l2Bits.f k s0_0 bt250.2.1 bt250.2.2 (wrap64 ((wrap64 (1 + bt232.1)) + bt250.1))).bind fun bt253 => (some (bt225.1, wrap64 (a1 + bt228.1), 0, ([] : List Int), bt253.1, 0, bt253.2.1, bt253.2.2)))) else (if bt225.1 = 16 then ((spec_l3List.f k s0_0 bt232.2.1 bt232.2.2 (wrap64 (1 + bt232.1))).bind fun bt258 => (some (bt225.1, wrap64 (a1 + bt228.1), 0, bt258.1, ([] : List Bool), 0, bt258.2.1, bt258.2.2))) else (if bt225.1 = 23 then ((spec_l1Below.f s0_0 bt232.2.1 bt232.2.2 12).bind fun bt263 => ((spec_l1Below.f s0_0 bt263.2.1 bt263.2.2 4).bind fun bt266 => ((spec_l3List.f k s0_0 bt266.2.1 bt266.2.2 (wrap64 (1 + bt266.1))).bind fun bt269 => (some (bt225.1, wrap64 (a1 + bt228.1), wrap64 (1 + bt232.1), bt269.1, ([] : List Bool), wrap64 (a1 + bt263.1), bt269.2.1, bt269.2.2))))) else (some (bt225.1, wrap64 (a1 + bt228.1), wrap64 (1 + bt232.1), ([] : List Int), ([] : List Bool), 0, bt232.2.1, bt232.2.2))))))))))) = some (r1, r2, r3, r4, r5, r6, r7, r8) := h
 clear h
 obtain ⟨y222, hy222⟩ : ∃ y_ : List Int, y_ = (([1, 2, 3, 4, 5, 6, 15, 16, 22, 23, 3, 16] : List Int)) := ⟨_, rfl⟩
 replace H : ((spec_l1Int.f s0_0 s0_1 s0_2 y222).bind fun bt225 => ((spec_l1Below.f s0_0 bt225.2.1 bt225.2.2 12).bind fun bt228 => ((spec_l1Below.f s0_0 bt228.2.1 bt228.2.2 6).bind fun bt232 => (if bt225.1 = 5 then ((spec_l2Bits.f k s0_0 bt232.2.1 bt232.2.2 1).bind fun bt235 => (some (bt225.1, wrap64 (a1 + bt228.1), 0, ([] : List Int), bt235.1, 0, bt235.2.1, bt235.2.2))) else (if bt225.1 = 6 then ((spec_l3List.f k s0_0 bt232.2.1 bt232.2.2 1).bind fun bt240 => (some (bt225.1, wrap64 (a1 + bt228.1), 0, bt240.1, ([] : List Bool), 0, bt240.2.1, bt240.2.2))) else (if bt225.1 = 22 then ((spec_l3List.f k s0_0 bt232.2.1 bt232.2.2 2).bind fun bt245 => (some (bt225.1, wrap64 (a1 + bt228.1), 0, bt245.1, ([] : List Bool), 0, bt245.2.1, bt245.2.2))) else (if bt225.1 = 15 then ((spec_l1Below.f s0_0 bt232.2.1 bt232.2.2 8).bind fun bt250 => ((spec_l2Bits.f k s0_0 bt250.2.1 bt250.2.2 (wrap64 ((wrap64 (1 + bt232.1)) + bt250.1))).bind fun bt253 => (some (bt225.1, wrap64 (a1 + bt228.1), 0, ([] : List Int), bt253.1, 0, bt253.2.1, bt253.2.2)))) else (if bt225.1 = 16 then ((spec_l3List.f k s0_0 bt232.2.1 bt232.2.2 (wrap64 (1 + bt232.1))).bind fun bt258 => (some (bt225.1, wrap64 (a1 + bt228.1), 0, bt258.1, ([] : List Bool), 0, bt258.2.1, bt258.2.2))) else (if bt225.1 = 23 then ((spec_l1Below.f s0_0 bt232.2.1 bt232.2.2 12).bind fun bt263 => ((spec_l1Below.f s0_0 bt263.2.1 bt263.2.2 4).bind fun bt266 => ((spec_l3List.f k s0_0 bt266.2.1 bt266.2.2 (wrap64 (1 + bt266.1))).bind fun bt269 => (some (bt225.1, wrap64 (a1 + bt228.1), wrap64 (1 + bt232.1), bt269.1, ([] : List Bool), wrap64 (a1 + bt263.1), bt269.2.1, bt269.2.2))))) else (some (bt225.1, wrap64 (a1 + bt228.1), wrap64 (1 + bt232.1), ([] : List Int), ([] : List Bool), 0, bt232.2.1, bt232.2.2))))))))))) = some (r1, r2, r3, r4, r5, r6, r7, r8) := by first | (rw [hy222]; with_reducible exact H) | (have H2_ := (Option.bind_some _ _).symm.trans H; rw [hy222]; with_reducible exact H2_) | (have H2_ := (Option.bind_some _ _).symm.trans H; with_reducible exact H2_) | with_reducible exact H | (rw [hy222]; exact H) | exact H
 have Ny222 := aM hy222
 clear hy222
 replace H := Option.bind_eq_some_iff.mp H
 obtain ⟨⟨t225, t226, t227⟩, A30, H⟩ := H
 (try dsimp only at H)
 have A3 := aM A30
 clear A30
 replace H := Option.bind_eq_some_iff.mp H
 obtain ⟨⟨t228, t229, t230⟩, A40, H⟩ := H
 (try dsimp only at H)
 have A4 := aM A40
 clear A40
 replace H := Option.bind_eq_some_iff.mp H
 obtain ⟨⟨t232, t233, t234⟩, A50, H⟩ := H
 (try dsimp only at H)
 have A5 := aM A50
 clear A50
 by_cases c6 : t225 = 5
 ·rw [if_pos c6] at H
  have c6b0 : (t225 == 5) = true := beq_iff_eq.mpr c6
  have c6b1 : (t225 != 5) = false := bne_eq_false_iff_eq.mpr c6
  clear c6
  replace H := Option.bind_eq_some_iff.mp H
  obtain ⟨⟨t235, t238, t239⟩, A70, H⟩ := H
  (try dsimp only at H)
  have A7 := aM A70
  clear A70
  simp only [Option.some.injEq, Prod.mk.injEq] at H
  obtain ⟨rfl, rfl, rfl, rfl, rfl, rfl, rfl, rfl⟩ := H
  go_enter Try.func73, Try.ntmps73
  go_wp2_with (first | ((with_reducible refine gate_dst (N := 4) rfl ?_); refine box_event ?hg (N := 4) ?hd (cs := #[.int .i64 0, .int .i64 0, .int .i64 0, .slice none 0 0, .slice none 0 0, .int .i64 0]) (t := 29) ?hr ?_; (case hd => rfl); (case hg => rfl); (case hr => first | (go_simp; done) | (go_simp; rfl)); intro gb221 hg w8 hbox hb; have _ := aM (IsS85.below sI85 hb); have _ := aM (KeepBut.trans (sG (w := w)) (KeepBut.of_below hb g none) (.inl rfl)); have _ := aM (below_step (sB85 (B := w0.heap.size) (w0 := w0)) hb); have _ := aM (hbox); have _ := aM ((by rw [hg]; exact (keep_size (w := w) (g := g) (row := none) (sG (w := w))) : w.heap.size ≤ gb221)); have _ := aM ((Nat.le_trans HW0.out (by rw [hg]; exact (keep_size (w := w) (g := g) (row := none) (sG (w := w))) : w.heap.size ≤ gb221) : w0.heap.size ≤ gb221)); have _ := aM ((by rw [hg]; exact Nat.ne_of_lt (IsS85.lt (show IsS85 w0 _ g s0_0 s0_1 s0_2 from sI85)) : g ≠ gb221)); have _ := aM ((by rw [hg]; exact Nat.ne_of_gt (IsS85.lt (show IsS85 w0 _ g s0_0 s0_1 s0_2 from sI85)) : gb221 ≠ g)); clear HI0 HK HB; rename_i HI0 HK HB BK221 GW221 GE221 NB0_221 NB221_0; clear hb hbox hg) | ((with_reducible refine gate_dst (N := 8) rfl ?_); refine Kd.R_lit (Kd.int .i64) _ 3 ?hg (N := 8) ?hd (xs := ([1, 2, 3, 4, 5, 6, 15, 16, 22, 23, 3, 16] : List Int)) (inner := [.int .i64 1, .int .i64 2, .int .i64 3, .int .i64 4, .int .i64 5, .int .i64 6, .int .i64 15, .int .i64 16, .int .i64 22, .int .i64 23, .int .i64 3, .int .i64 16]) (ok := fun _ => True) (okp := fun _ => True) ?hr ?hp (fun _ hk => hk) trivial (Below.refl _ _) (Nat.le_refl _) (by simp) ?_; (case hd => rfl); (case hg => rfl); (case hr => first | (go_simp; done) | (go_simp; rfl)); (case hp => exact (Reps.one (show Kd.M (Kd.int .i64) _ _ _ 1 [.int .i64 1] from rfl) (Reps.one (show Kd.M (Kd.int .i64) _ _ _ 2 [.int .i64 2] from rfl) (Reps.one (show Kd.M (Kd.int .i64) _ _ _ 3 [.int .i64 3] from rfl) (Reps.one (show Kd.M (Kd.int .i64) _ _ _ 4 [.int .i64 4] from rfl) (Reps.one (show Kd.M (Kd.int .i64) _ _ _ 5 [.int .i64 5] from rfl) (Reps.one (show Kd.M (Kd.int .i64) _ _ _ 6 [.int .i64 6] from rfl) (Reps.one (show Kd.M (Kd.int .i64) _ _ _ 15 [.int .i64 15] from rfl) (Reps.one (show Kd.M (Kd.int .i64) _ _ _ 16 [.int .i64 16] from rfl) (Reps.one (show Kd.M (Kd.int .i64) _ _ _ 22 [.int .i64 22] from rfl) (Reps.one (show Kd.M (Kd.int .i64) _ _ _ 23 [.int .i64 23] from rfl) (Reps.one (show Kd.M (Kd.int .i64) _ _ _ 3 [.int .i64 3] from rfl) (Reps.one (show Kd.M (Kd.int .i64) _ _ _ 16 [.int .i64 16] from rfl) (Reps.none _ _)))))))))))))); intro v223 w9 ho10 hb hg_ hnew_; clear hg_ hnew_; (first | rw [← Ny222.out] at ho10 | (simp only [Int.reduceToNat] at ho10; rw [← Ny222.out] at ho10)); have _ := aM (Kd.R_lower ho10 (keep_size (w := w) (g := g) (row := none) (sG (w := w)))); have _ := aM (IsS85.below sI85 hb); have _ := aM (kB BK221.out hb); have _ := aM (KeepBut.trans (sG (w := w)) (KeepBut.of_below hb g none) (.inl rfl)); have _ := aM (below_step (sB85 (B := w0.heap.size) (w0 := w0)) hb); clear HI0 BK221 HK HB; rename_i HO224 HI0 BK221 HK HB; clear hb ho10; obtain ⟨Ao11, co11, eo11⟩ := Kd.R_slice HO224.out; subst eo11) | ((with_reducible refine gate_callee (f := 83) rfl ?_); refine gL (some 9) rfl rfl Try.func83 (by kernel_rfl) rfl #[.pointer (some ⟨g, 0, none⟩), .slice Ao11 y222.length co11] rfl ?_; (with_reducible refine (spec_l1Int.calls g s0_0 s0_1 s0_2 _ _ y222 t225 t226 t227 w0 _ ?side1 ?side2 ?side3 ?side4 ?side5 A3.out).mono ?_); (case side1 => exact sI85); (case side2 => exact (sB85 (B := w0.heap.size) (w0 := w0))); (case side3 => exact cR HO224.out); (case side4 => exact (Kd.R_reads' HO224.out).2.1); (case side5 => exact far_slice (IsS85.own_ne HI0.out HO224.out (by decide))); rintro e w12 ⟨rfl, hi, hb, hk⟩; refine ⟨_, rfl, ?_⟩; have _ := aM (KeepBut.blk hk (g' := gb221) (o := .cells #[.int .i64 0, .int .i64 0, .int .i64 0, .slice none 0 0, .slice none 0 0, .int .i64 0] 29 (0, 0)) (kA BK221.out) NB221_0.out (by simp)); have _ := aM (rK85 HO224.out hk); have _ := aM (KeepBut.trans (sG (w := w)) hk (.inl rfl)); have _ := aM (hb); have _ := aM (hi); clear BK221 HO224 HK HB HI0; rename_i BK221 HO224 HK HB HI0; (try clear hb); (try clear hk); (try clear hi)) | ((with_reducible refine gate_callee (f := 76) rfl ?_); refine gL (some 12) rfl rfl Try.func76 (by kernel_rfl) rfl #[.pointer (some ⟨g, 0, none⟩), .int .i64 12] rfl ?_; (with_reducible refine (spec_l1Below.calls g s0_0 t226 t227 12 t228 t229 t230 w0 _ ?side1 ?side2 A4.out).mono ?_); (case side1 => exact sI85); (case side2 => exact (sB85 (B := w0.heap.size) (w0 := w0))); rintro e w13 ⟨rfl, hi, hb, hk⟩; refine ⟨_, rfl, ?_⟩; have _ := aM (KeepBut.blk hk (g' := gb221) (o := .cells #[.int .i64 0, .int .i64 0, .int .i64 0, .slice none 0 0, .slice none 0 0, .int .i64 0] 29 (0, 0)) (kA BK221.out) NB221_0.out (by simp)); have _ := aM (rK85 HO224.out hk); have _ := aM (KeepBut.trans (sG (w := w)) hk (.inl rfl)); have _ := aM (hb); have _ := aM (hi); clear BK221 HO224 HK HB HI0; rename_i BK221 HO224 HK HB HI0; (try clear hb); (try clear hk); (try clear hi)) | ((with_reducible refine gate_dst (N := 5) rfl ?_); refine box_event ?hg (N := 5) ?hd (cs := #[.int .i64 0, .int .i64 0, .int .i64 0, .slice none 0 0, .slice none 0 0, .int .i64 0]) (t := 29) ?hr ?_; (case hd => rfl); (case hg => rfl); (case hr => first | (go_simp; done) | (go_simp; rfl)); intro gb231 hg w14 hbox hb; have _ := aM (rB HO224.out hb); have _ := aM (IsS85.below sI85 hb); have _ := aM (kB BK221.out hb); have _ := aM (KeepBut.trans (sG (w := w)) (KeepBut.of_below hb g none) (.inl rfl)); have _ := aM (below_step (sB85 (B := w0.heap.size) (w0 := w0)) hb); have _ := aM (hbox); have _ := aM ((by rw [hg]; exact (keep_size (w := w) (g := g) (row := none) (sG (w := w))) : w.heap.size ≤ gb231)); have _ := aM ((Nat.le_trans HW0.out (by rw [hg]; exact (keep_size (w := w) (g := g) (row := none) (sG (w := w))) : w.heap.size ≤ gb231) : w0.heap.size ≤ gb231)); have _ := aM (neL hg (kA BK221.out)); have _ := aM (neG hg (kA BK221.out)); have _ := aM ((by rw [hg]; exact Nat.ne_of_lt (IsS85.lt (show IsS85 w0 _ g s0_0 t229 t230 from sI85)) : g ≠ gb231)); have _ := aM ((by rw [hg]; exact Nat.ne_of_gt (IsS85.lt (show IsS85 w0 _ g s0_0 t229 t230 from sI85)) : gb231 ≠ g)); clear HO224 HI0 BK221 HK HB; rename_i HO224 HI0 BK221 HK HB BK231 GW231 GE231 NB221_231 NB231_221 NB0_231 NB231_0; clear hb hbox hg; have hnb15 := NB231_221.out; have hnc15 := NB221_231.out; have hnb16 := NB231_0.out; have hnc16 := NB0_231.out; obtain ⟨hcz17_0, hfz17_0, hcz17_1, hfz17_1, hcz17_2, hfz17_2, hcz17_3, hfz17_3, hcz17_4, hfz17_4, hcz17_5, hfz17_5⟩ := bk6 BK231.out) | ((with_reducible refine gate_callee (f := 76) rfl ?_); refine gL (some 16) rfl rfl Try.func76 (by kernel_rfl) rfl #[.pointer (some ⟨g, 0, none⟩), .int .i64 6] rfl ?_; (with_reducible refine (spec_l1Below.calls g s0_0 t229 t230 6 t232 t233 t234 w0 _ ?side1 ?side2 A5.out).mono ?_); (case side1 => exact sI85); (case side2 => exact (sB85 (B := w0.heap.size) (w0 := w0))); rintro e w18 ⟨rfl, hi, hb, hk⟩; refine ⟨_, rfl, ?_⟩; have _ := aM (KeepBut.blk hk (g' := gb221) (o := .cells #[.int .i64 0, .int .i64 0, .int .i64 0, .slice none 0 0, .slice none 0 0, .int .i64 0] 29 (0, 0)) (kF6 BK221.out NB221_231.out) NB221_0.out (by simp)); have _ := aM (Kd.R_mono (Kd.R_keep (IsS85.apart (show IsS85 w0 _ g s0_0 t229 t230 from sI85) (rF6 HO224.out BK231.out) (by decide)) hk (fun _ h => h.2)) (fun _ h => h.1)); have _ := aM (KeepBut.blk hk (g' := gb231) (o := .cells #[.int .i64 t225, .int .i64 (wrap64 (a1 + t228)), .int .i64 0, .slice none 0 0, .slice none 0 0, .int .i64 0] 29 (0, 0)) (kP6 BK231.out) NB231_0.out (by simp)); have _ := aM (KeepBut.trans (sG (w := w)) hk (.inl rfl)); have _ := aM (hb); have _ := aM (hi); clear BK221 HO224 BK231 HK HB HI0; rename_i BK221 HO224 BK231 HK HB HI0; (try clear hb); (try clear hk); (try clear hi); obtain ⟨hcz19_0, hfz19_0, hcz19_1, hfz19_1, hcz19_2, hfz19_2, hcz19_3, hfz19_3, hcz19_4, hfz19_4, hcz19_5, hfz19_5⟩ := bk6 BK231.out) | ((with_reducible refine gate_callee (f := 84) rfl ?_); refine gL (some 25) rfl rfl Try.func84 (by kernel_rfl) rfl #[.pointer (some ⟨g, 0, none⟩), .int .i64 1] rfl ?_; (with_reducible refine (spec_l2Bits.calls k g s0_0 t233 t234 1 t235 t238 t239 w0 _ ?side1 ?side2 A7.out).mono ?_); (case side1 => exact sI85); (case side2 => exact (sB85 (B := w0.heap.size) (w0 := w0))); rintro e w20 ⟨v236, rfl, ho0, hi, hb, hk⟩; refine ⟨_, rfl, ?_⟩; have _ := aM (KeepBut.blk hk (g' := gb221) (o := .cells #[.int .i64 0, .int .i64 0, .int .i64 0, .slice none 0 0, .slice none 0 0, .int .i64 0] 29 (0, 0)) (kA BK221.out) NB221_0.out (by simp)); have _ := aM (rK85 HO224.out hk); have _ := aM (KeepBut.blk hk (g' := gb231) (o := .cells #[.int .i64 t225, .int .i64 (wrap64 (a1 + t228)), .int .i64 0, .slice none 0 0, .slice none 0 0, .int .i64 0] 29 (0, 0)) (kA BK231.out) NB231_0.out (by simp)); have _ := aM (Kd.R_lower ho0 (keep_size (w := w) (g := g) (row := none) (sG (w := w)))); have _ := aM (KeepBut.trans (sG (w := w)) hk (.inl rfl)); have _ := aM (hb); have _ := aM (hi); clear BK221 HO224 BK231 HK HB HI0; rename_i BK221 HO224 BK231 HO237 HK HB HI0; (try clear hb); (try clear hk); (try clear hi); (try clear ho0); obtain ⟨Ao21, co21, eo21⟩ := Kd.R_slice HO237.out; subst eo21; obtain ⟨hcz22_0, hfz22_0, hcz22_1, hfz22_1, hcz22_2, hfz22_2, hcz22_3, hfz22_3, hcz22_4, hfz22_4, hcz22_5, hfz22_5⟩ := bk6 BK231.out; have hnb23 := NB221_0.out; have hnc23 := NB0_221.out; obtain ⟨hcz24_0, hfz24_0, hcz24_1, hfz24_1, hcz24_2, hfz24_2, hcz24_3, hfz24_3, hcz24_4, hfz24_4, hcz24_5, hfz24_5⟩ := bk6 BK221.out))
  refine bodyPost_ret (results_cell_row rfl _ _ gb221 29 #[.int .i64 t225, .int .i64 (wrap64 (a1 + t228)), .int .i64 0, .slice none 0 0, .slice Ao21 t235.length co21, .int .i64 0] (0, 0) _ rfl (kX BK221.out) Try.underlying29 rfl (by kernel_rfl)) rfl ?_
  exact ⟨_, _, by first | rfl | (simp [errW_none, errW_some] <;> rfl) | (simp [*, errW_none, errW_some] <;> rfl), by first | exact Kd.R_nil _ _ _ _ _ | exact Kd.N_nil _ _ _ _ _ | exact Kd.V_nil _ _ _ _ _ | exact Kd.Q_nil _ _ _ _ _ | exact Kd.S_nil _ _ _ _ _, by (with_reducible repeat (first | apply Kd.R_alloc | apply Kd.R_drewN | apply Kd.R_drew)); exact Kd.R_mono (Kd.R_far (p := ⟨gb221, 5, none⟩) (Kd.R_far (p := ⟨gb221, 4, none⟩) (Kd.R_far (p := ⟨gb221, 3, none⟩) (Kd.R_far (p := ⟨gb221, 2, none⟩) (Kd.R_far (p := ⟨gb221, 1, none⟩) (Kd.R_far (p := ⟨gb221, 0, none⟩) (Kd.R_far (p := ⟨gb231, 4, none⟩) (Kd.R_types (Kd.R_types HO237.out BK231.out (by decide)) BK221.out (by decide)) (fun _ hk => hk.1.2) (.slice Ao21 t235.length co21)) (fun _ hk => hk.2) (.int .i64 t225)) (fun _ hk => hk.2) (.int .i64 (wrap64 (a1 + t228)))) (fun _ hk => hk.2) (.int .i64 0)) (fun _ hk => hk.2) (.slice none 0 0)) (fun _ hk => hk.2) (.slice Ao21 t235.length co21)) (fun _ hk => hk.2) (.int .i64 0)) (fun _ hk => trivial), sI85, (sB85 (B := w0.heap.size) (w0 := w0)), (sG (w := w))⟩
 ·rw [if_neg c6] at H
  have c6b0 : (t225 == 5) = false := beq_eq_false_iff_ne.mpr c6
  have c6b1 : (t225 != 5) = true := bne_iff_ne.mpr c6
  by_cases c25 : t225 = 6
  ·rw [if_pos c25] at H
   have c25b0 : (t225 == 6) = true := beq_iff_eq.mpr c25
   have c25b1 : (t225 != 6) = false := bne_eq_false_iff_eq.mpr c25
   clear c25
   replace H := Option.bind_eq_some_iff.mp H
   obtain ⟨⟨t240, t243, t244⟩, A260, H⟩ := H
   (try dsimp only at H)
   have A26 := aM A260
   clear A260
   simp only [Option.some.injEq, Prod.mk.injEq] at H
   obtain ⟨rfl, rfl, rfl, rfl, rfl, rfl, rfl, rfl⟩ := H
   go_enter Try.func73, Try.ntmps73
   go_wp2_with (first | ((with_reducible refine gate_dst (N := 4) rfl ?_); refine box_event ?hg (N := 4) ?hd (cs := #[.int .i64 0, .int .i64 0, .int .i64 0, .slice none 0 0, .slice none 0 0, .int .i64 0]) (t := 29) ?hr ?_; (case hd => rfl); (case hg => rfl); (case hr => first | (go_simp; done) | (go_simp; rfl)); intro gb221 hg w27 hbox hb; have _ := aM (IsS85.below sI85 hb); have _ := aM (KeepBut.trans (sG (w := w)) (KeepBut.of_below hb g none) (.inl rfl)); have _ := aM (below_step (sB85 (B := w0.heap.size) (w0 := w0)) hb); have _ := aM (hbox); have _ := aM ((by rw [hg]; exact (keep_size (w := w) (g := g) (row := none) (sG (w := w))) : w.heap.size ≤ gb221)); have _ := aM ((Nat.le_trans HW0.out (by rw [hg]; exact (keep_size (w := w) (g := g) (row := none) (sG (w := w))) : w.heap.size ≤ gb221) : w0.heap.size ≤ gb221)); have _ := aM ((by rw [hg]; exact Nat.ne_of_lt (IsS85.lt (show IsS85 w0 _ g s0_0 s0_1 s0_2 from sI85)) : g ≠ gb221)); have _ := aM ((by rw [hg]; exact Nat.ne_of_gt (IsS85.lt (show IsS85 w0 _ g s0_0 s0_1 s0_2 from sI85)) : gb221 ≠ g)); clear HI0 HK HB; rename_i HI0 HK HB BK221 GW221 GE221 NB0_221 NB221_0; clear hb hbox hg) | ((with_reducible refine gate_dst (N := 8) rfl ?_); refine Kd.R_lit (Kd.int .i64) _ 3 ?hg (N := 8) ?hd (xs := ([1, 2, 3, 4, 5, 6, 15, 16, 22, 23, 3, 16] : List Int)) (inner := [.int .i64 1, .int .i64 2, .int .i64 3, .int .i64 4, .int .i64 5, .int .i64 6, .int .i64 15, .int .i64 16, .int .i64 22, .int .i64 23, .int .i64 3, .int .i64 16]) (ok := fun _ => True) (okp := fun _ => True) ?hr ?hp (fun _ hk => hk) trivial (Below.refl _ _) (Nat.le_refl _) (by simp) ?_; (case hd => rfl); (case hg => rfl); (case hr => first | (go_simp; done) | (go_simp; rfl)); (case hp => exact (Reps.one (show Kd.M (Kd.int .i64) _ _ _ 1 [.int .i64 1] from rfl) (Reps.one (show Kd.M (Kd.int .i64) _ _ _ 2 [.int .i64 2] from rfl) (Reps.one (show Kd.M (Kd.int .i64) _ _ _ 3 [.int .i64 3] from rfl) (Reps.one (show Kd.M (Kd.int .i64) _ _ _ 4 [.int .i64 4] from rfl) (Reps.one (show Kd.M (Kd.int .i64) _ _ _ 5 [.int .i64 5] from rfl) (Reps.one (show Kd.M (Kd.int .i64) _ _ _ 6 [.int .i64 6] from rfl) (Reps.one (show Kd.M (Kd.int .i64) _ _ _ 15 [.int .i64 15] from rfl) (Reps.one (show Kd.M (Kd.int .i64) _ _ _ 16 [.int .i64 16] from rfl) (Reps.one (show Kd.M (Kd.int .i64) _ _ _ 22 [.int .i64 22] from rfl) (Reps.one (show Kd.M (Kd.int .i64) _ _ _ 23 [.int .i64 23] from rfl) (Reps.one (show Kd.M (Kd.int .i64) _ _ _ 3 [.int .i64 3] from rfl) (Reps.one (show Kd.M (Kd.int .i64) _ _ _ 16 [.int .i64 16] from rfl) (Reps.none _ _)))))))))))))); intro v223 w28 ho29 hb hg_ hnew_; clear hg_ hnew_; (first | rw [← Ny222.out] at ho29 | (simp only [Int.reduceToNat] at ho29; rw [← Ny222.out] at ho29)); have _ := aM (Kd.R_lower ho29 (keep_size (w := w) (g := g) (row := none) (sG (w := w)))); have _ := aM (IsS85.below sI85 hb); have _ := aM (kB BK221.out hb); have _ := aM (KeepBut.trans (sG (w := w)) (KeepBut.of_below hb g none) (.inl rfl)); have _ := aM (below_step (sB85 (B := w0.heap.size) (w0 := w0)) hb); clear HI0 BK221 HK HB; rename_i HO224 HI0 BK221 HK HB; clear hb ho29; obtain ⟨Ao30, co30, eo30⟩ := Kd.R_slice HO224.out; subst eo30) | ((with_reducible refine gate_callee (f := 83) rfl ?_); refine gL (some 9) rfl rfl Try.func83 (by kernel_rfl) rfl #[.pointer (some ⟨g, 0, none⟩), .slice Ao30 y222.length co30] rfl ?_; (with_reducible refine (spec_l1Int.calls g s0_0 s0_1 s0_2 _ _ y222 t225 t226 t227 w0 _ ?side1 ?side2 ?side3 ?side4 ?side5 A3.out).mono ?_); (case side1 => exact sI85); (case side2 => exact (sB85 (B := w0.heap.size) (w0 := w0))); (case side3 => exact cR HO224.out); (case side4 => exact (Kd.R_reads' HO224.out).2.1); (case side5 => exact far_slice (IsS85.own_ne HI0.out HO224.out (by decide))); rintro e w31 ⟨rfl, hi, hb, hk⟩; refine ⟨_, rfl, ?_⟩; have _ := aM (KeepBut.blk hk (g' := gb221) (o := .cells #[.int .i64 0, .int .i64 0, .int .i64 0, .slice none 0 0, .slice none 0 0, .int .i64 0] 29 (0, 0)) (kA BK221.out) NB221_0.out (by simp)); have _ := aM (rK85 HO224.out hk); have _ := aM (KeepBut.trans (sG (w := w)) hk (.inl rfl)); have _ := aM (hb); have _ := aM (hi); clear BK221 HO224 HK HB HI0; rename_i BK221 HO224 HK HB HI0; (try clear hb); (try clear hk); (try clear hi)) | ((with_reducible refine gate_callee (f := 76) rfl ?_); refine gL (some 12) rfl rfl Try.func76 (by kernel_rfl) rfl #[.pointer (some ⟨g, 0, none⟩), .int .i64 12] rfl ?_; (with_reducible refine (spec_l1Below.calls g s0_0 t226 t227 12 t228 t229 t230 w0 _ ?side1 ?side2 A4.out).mono ?_); (case side1 => exact sI85); (case side2 => exact (sB85 (B := w0.heap.size) (w0 := w0))); rintro e w32 ⟨rfl, hi, hb, hk⟩; refine ⟨_, rfl, ?_⟩; have _ := aM (KeepBut.blk hk (g' := gb221) (o := .cells #[.int .i64 0, .int .i64 0, .int .i64 0, .slice none 0 0, .slice none 0 0, .int .i64 0] 29 (0, 0)) (kA BK221.out) NB221_0.out (by simp)); have _ := aM (rK85 HO224.out hk); have _ := aM (KeepBut.trans (sG (w := w)) hk (.inl rfl)); have _ := aM (hb); have _ := aM (hi); clear BK221 HO224 HK HB HI0; rename_i BK221 HO224 HK HB HI0; (try clear hb); (try clear hk); (try clear hi)) | ((with_reducible refine gate_dst (N := 5) rfl ?_); refine box_event ?hg (N := 5) ?hd (cs := #[.int .i64 0, .int .i64 0, .int .i64 0, .slice none 0 0, .slice none 0 0, .int .i64 0]) (t := 29) ?hr ?_; (case hd => rfl); (case hg => rfl); (case hr => first | (go_simp; done) | (go_simp; rfl)); intro gb231 hg w33 hbox hb; have _ := aM (rB HO224.out hb); have _ := aM (IsS85.below sI85 hb); have _ := aM (kB BK221.out hb); have _ := aM (KeepBut.trans (sG (w := w)) (KeepBut.of_below hb g none) (.inl rfl)); have _ := aM (below_step (sB85 (B := w0.heap.size) (w0 := w0)) hb); have _ := aM (hbox); have _ := aM ((by rw [hg]; exact (keep_size (w := w) (g := g) (row := none) (sG (w := w))) : w.heap.size ≤ gb231)); have _ := aM ((Nat.le_trans HW0.out (by rw [hg]; exact (keep_size (w := w) (g := g) (row := none) (sG (w := w))) : w.heap.size ≤ gb231) : w0.heap.size ≤ gb231)); have _ := aM (neL hg (kA BK221.out)); have _ := aM (neG hg (kA BK221.out)); have _ := aM ((by rw [hg]; exact Nat.ne_of_lt (IsS85.lt (show IsS85 w0 _ g s0_0 t229 t230 from sI85)) : g ≠ gb231)); have _ := aM ((by rw [hg]; exact Nat.ne_of_gt (IsS85.lt (show IsS85 w0 _ g s0_0 t229 t230 from sI85)) : gb231 ≠ g)); clear HO224 HI0 BK221 HK HB; rename_i HO224 HI0 BK221 HK HB BK231 GW231 GE231 NB221_231 NB231_221 NB0_231 NB231_0; clear hb hbox hg; have hnb34 := NB231_221.out; have hnc34 := NB221_231.out; have hnb35 := NB231_0.out; have hnc35 := NB0_231.out; obtain ⟨hcz36_0, hfz36_0, hcz36_1, hfz36_1, hcz36_2, hfz36_2, hcz36_3, hfz36_3, hcz36_4, hfz36_4, hcz36_5, hfz36_5⟩ := bk6 BK231.out) | ((with_reducible refine gate_callee (f := 76) rfl ?_); refine gL (some 16) rfl rfl Try.func76 (by kernel_rfl) rfl #[.pointer (some ⟨g, 0, none⟩), .int .i64 6] rfl ?_; (with_reducible refine (spec_l1Below.calls g s0_0 t229 t230 6 t232 t233 t234 w0 _ ?side1 ?side2 A5.out).mono ?_); (case side1 => exact sI85); (case side2 => exact (sB85 (B := w0.heap.size) (w0 := w0))); rintro e w37 ⟨rfl, hi, hb, hk⟩; refine ⟨_, rfl, ?_⟩; have _ := aM (KeepBut.blk hk (g' := gb221) (o := .cells #[.int .i64 0, .int .i64 0, .int .i64 0, .slice none 0 0, .slice none 0 0, .int .i64 0] 29 (0, 0)) (kF6 BK221.out NB221_231.out) NB221_0.out (by simp)); have _ := aM (Kd.R_mono (Kd.R_keep (IsS85.apart (show IsS85 w0 _ g s0_0 t229 t230 from sI85) (rF6 HO224.out BK231.out) (by decide)) hk (fun _ h => h.2)) (fun _ h => h.1)); have _ := aM (KeepBut.blk hk (g' := gb231) (o := .cells #[.int .i64 t225, .int .i64 (wrap64 (a1 + t228)), .int .i64 0, .slice none 0 0, .slice none 0 0, .int .i64 0] 29 (0, 0)) (kP6 BK231.out) NB231_0.out (by simp)); have _ := aM (KeepBut.trans (sG (w := w)) hk (.inl rfl)); have _ := aM (hb); have _ := aM (hi); clear BK221 HO224 BK231 HK HB HI0; rename_i BK221 HO224 BK231 HK HB HI0; (try clear hb); (try clear hk); (try clear hi); obtain ⟨hcz38_0, hfz38_0, hcz38_1, hfz38_1, hcz38_2, hfz38_2, hcz38_3, hfz38_3, hcz38_4, hfz38_4, hcz38_5, hfz38_5⟩ := bk6 BK231.out) | ((with_reducible refine gate_callee (f := 85) rfl ?_); refine gL (some 30) rfl rfl Try.func85 (by kernel_rfl) rfl #[.pointer (some ⟨g, 0, none⟩), .int .i64 1] rfl ?_; (with_reducible refine (spec_l3List.calls k g s0_0 t233 t234 1 t240 t243 t244 w0 _ ?side1 ?side2 A26.out).mono ?_); (case side1 => exact sI85); (case side2 => exact (sB85 (B := w0.heap.size) (w0 := w0))); rintro e w39 ⟨v241, rfl, ho0, hi, hb, hk⟩; refine ⟨_, rfl, ?_⟩; have _ := aM (KeepBut.blk hk (g' := gb221) (o := .cells #[.int .i64 0, .int .i64 0, .int .i64 0, .slice none 0 0, .slice none 0 0, .int .i64 0] 29 (0, 0)) (kA BK221.out) NB221_0.out (by simp)); have _ := aM (rM (Kd.R_told (Kd.R_oldK (IsS85.apart (show IsS85 w0 _ g s0_0 t233 t234 from sI85) (rA HO224.out) (by decide)) hk) (Kd.R_base ho0))); have _ := aM (KeepBut.blk hk (g' := gb231) (o := .cells #[.int .i64 t225, .int .i64 (wrap64 (a1 + t228)), .int .i64 0, .slice none 0 0, .slice none 0 0, .int .i64 0] 29 (0, 0)) (kA BK231.out) NB231_0.out (by simp)); have _ := aM (Kd.R_lower (Kd.R_new' ho0 (Kd.R_lt (rA HO224.out))) (keep_size (w := w) (g := g) (row := none) (sG (w := w)))); have _ := aM (KeepBut.trans (sG (w := w)) hk (.inl rfl)); have _ := aM (hb); have _ := aM (hi); clear BK221 HO224 BK231 HK HB HI0; rename_i BK221 HO224 BK231 HO242 HK HB HI0; (try clear hb); (try clear hk); (try clear hi); (try clear ho0); obtain ⟨Ao40, co40, eo40⟩ := Kd.R_slice HO242.out; subst eo40; obtain ⟨hcz41_0, hfz41_0, hcz41_1, hfz41_1, hcz41_2, hfz41_2, hcz41_3, hfz41_3, hcz41_4, hfz41_4, hcz41_5, hfz41_5⟩ := bk6 BK231.out; have hnb42 := NB221_0.out; have hnc42 := NB0_221.out; obtain ⟨hcz43_0, hfz43_0, hcz43_1, hfz43_1, hcz43_2, hfz43_2, hcz43_3, hfz43_3, hcz43_4, hfz43_4, hcz43_5, hfz43_5⟩ := bk6 BK221.out))
   refine bodyPost_ret (results_cell_row rfl _ _ gb221 29 #[.int .i64 t225, .int .i64 (wrap64 (a1 + t228)), .int .i64 0, .slice Ao40 t240.length co40, .slice none 0 0, .int .i64 0] (0, 0) _ rfl (kX BK221.out) Try.underlying29 rfl (by kernel_rfl)) rfl ?_
   exact ⟨_, _, by first | rfl | (simp [errW_none, errW_some] <;> rfl) | (simp [*, errW_none, errW_some] <;> rfl), by (with_reducible repeat (first | apply Kd.R_alloc | apply Kd.R_drewN | apply Kd.R_drew)); exact Kd.R_mono (Kd.R_far (p := ⟨gb221, 5, none⟩) (Kd.R_far (p := ⟨gb221, 4, none⟩) (Kd.R_far (p := ⟨gb221, 3, none⟩) (Kd.R_far (p := ⟨gb221, 2, none⟩) (Kd.R_far (p := ⟨gb221, 1, none⟩) (Kd.R_far (p := ⟨gb221, 0, none⟩) (Kd.R_far (p := ⟨gb231, 3, none⟩) (Kd.R_types (Kd.R_types HO242.out BK231.out (by decide)) BK221.out (by decide)) (fun _ hk => hk.1.2) (.slice Ao40 t240.length co40)) (fun _ hk => hk.2) (.int .i64 t225)) (fun _ hk => hk.2) (.int .i64 (wrap64 (a1 + t228)))) (fun _ hk => hk.2) (.int .i64 0)) (fun _ hk => hk.2) (.slice Ao40 t240.length co40)) (fun _ hk => hk.2) (.slice none 0 0)) (fun _ hk => hk.2) (.int .i64 0)) (fun _ hk => trivial), by first | exact Kd.R_nil _ _ _ _ _ | exact Kd.N_nil _ _ _ _ _ | exact Kd.V_nil _ _ _ _ _ | exact Kd.Q_nil _ _ _ _ _ | exact Kd.S_nil _ _ _ _ _, sI85, (sB85 (B := w0.heap.size) (w0 := w0)), (sG (w := w))⟩
  ·rw [if_neg c25] at H
   have c25b0 : (t225 == 6) = false := beq_eq_false_iff_ne.mpr c25
   have c25b1 : (t225 != 6) = true := bne_iff_ne.mpr c25
   by_cases c44 : t225 = 22
   ·rw [if_pos c44] at H
    have c44b0 : (t225 == 22) = true := beq_iff_eq.mpr c44
    have c44b1 : (t225 != 22) = false := bne_eq_false_iff_eq.mpr c44
    clear c44
    replace H := Option.bind_eq_some_iff.mp H
    obtain ⟨⟨t245, t248, t249⟩, A450, H⟩ := H
    (try dsimp only at H)
    have A45 := aM A450
    clear A450
    simp only [Option.some.injEq, Prod.mk.injEq] at H
    obtain ⟨rfl, rfl, rfl, rfl, rfl, rfl, rfl, rfl⟩ := H
    go_enter Try.func73, Try.ntmps73
    go_wp2_with (first | ((with_reducible refine gate_dst (N := 4) rfl ?_); refine box_event ?hg (N := 4) ?hd (cs := #[.int .i64 0, .int .i64 0, .int .i64 0, .slice none 0 0, .slice none 0 0, .int .i64 0]) (t := 29) ?hr ?_; (case hd => rfl); (case hg => rfl); (case hr => first | (go_simp; done) | (go_simp; rfl)); intro gb221 hg w46 hbox hb; have _ := aM (IsS85.below sI85 hb); have _ := aM (KeepBut.trans (sG (w := w)) (KeepBut.of_below hb g none) (.inl rfl)); have _ := aM (below_step (sB85 (B := w0.heap.size) (w0 := w0)) hb); have _ := aM (hbox); have _ := aM ((by rw [hg]; exact (keep_size (w := w) (g := g) (row := none) (sG (w := w))) : w.heap.size ≤ gb221)); have _ := aM ((Nat.le_trans HW0.out (by rw [hg]; exact (keep_size (w := w) (g := g) (row := none) (sG (w := w))) : w.heap.size ≤ gb221) : w0.heap.size ≤ gb221)); have _ := aM ((by rw [hg]; exact Nat.ne_of_lt (IsS85.lt (show IsS85 w0 _ g s0_0 s0_1 s0_2 from sI85)) : g ≠ gb221)); have _ := aM ((by rw [hg]; exact Nat.ne_of_gt (IsS85.lt (show IsS85 w0 _ g s0_0 s0_1 s0_2 from sI85)) : gb221 ≠ g)); clear HI0 HK HB; rename_i HI0 HK HB BK221 GW221 GE221 NB0_221 NB221_0; clear hb hbox hg) | ((with_reducible refine gate_dst (N := 8) rfl ?_); refine Kd.R_lit (Kd.int .i64) _ 3 ?hg (N := 8) ?hd (xs := ([1, 2, 3, 4, 5, 6, 15, 16, 22, 23, 3, 16] : List Int)) (inner := [.int .i64 1, .int .i64 2, .int .i64 3, .int .i64 4, .int .i64 5, .int .i64 6, .int .i64 15, .int .i64 16, .int .i64 22, .int .i64 23, .int .i64 3, .int .i64 16]) (ok := fun _ => True) (okp := fun _ => True) ?hr ?hp (fun _ hk => hk) trivial (Below.refl _ _) (Nat.le_refl _) (by simp) ?_; (case hd => rfl); (case hg => rfl); (case hr => first | (go_simp; done) | (go_simp; rfl)); (case hp => exact (Reps.one (show Kd.M (Kd.int .i64) _ _ _ 1 [.int .i64 1] from rfl) (Reps.one (show Kd.M (Kd.int .i64) _ _ _ 2 [.int .i64 2] from rfl) (Reps.one (show Kd.M (Kd.int .i64) _ _ _ 3 [.int .i64 3] from rfl) (Reps.one (show Kd.M (Kd.int .i64) _ _ _ 4 [.int .i64 4] from rfl) (Reps.one (show Kd.M (Kd.int .i64) _ _ _ 5 [.int .i64 5] from rfl) (Reps.one (show Kd.M (Kd.int .i64) _ _ _ 6 [.int .i64 6] from rfl) (Reps.one (show Kd.M (Kd.int .i64) _ _ _ 15 [.int .i64 15] from rfl) (Reps.one (show Kd.M (Kd.int .i64) _ _ _ 16 [.int .i64 16] from rfl) (Reps.one (show Kd.M (Kd.int .i64) _ _ _ 22 [.int .i64 22] from rfl) (Reps.one (show Kd.M (Kd.int .i64) _ _ _ 23 [.int .i64 23] from rfl) (Reps.one (show Kd.M (Kd.int .i64) _ _ _ 3 [.int .i64 3] from rfl) (Reps.one (show Kd.M (Kd.int .i64) _ _ _ 16 [.int .i64 16] from rfl) (Reps.none _ _)))))))))))))); intro v223 w47 ho48 hb hg_ hnew_; clear hg_ hnew_; (first | rw [← Ny222.out] at ho48 | (simp only [Int.reduceToNat] at ho48; rw [← Ny222.out] at ho48)); have _ := aM (Kd.R_lower ho48 (keep_size (w := w) (g := g) (row := none) (sG (w := w)))); have _ := aM (IsS85.below sI85 hb); have _ := aM (kB BK221.out hb); have _ := aM (KeepBut.trans (sG (w := w)) (KeepBut.of_below hb g none) (.inl rfl)); have _ := aM (below_step (sB85 (B := w0.heap.size) (w0 := w0)) hb); clear HI0 BK221 HK HB; rename_i HO224 HI0 BK221 HK HB; clear hb ho48; obtain ⟨Ao49, co49, eo49⟩ := Kd.R_slice HO224.out; subst eo49) | ((with_reducible refine gate_callee (f := 83) rfl ?_); refine gL (some 9) rfl rfl Try.func83 (by kernel_rfl) rfl #[.pointer (some ⟨g, 0, none⟩), .slice Ao49 y222.length co49] rfl ?_; (with_reducible refine (spec_l1Int.calls g s0_0 s0_1 s0_2 _ _ y222 t225 t226 t227 w0 _ ?side1 ?side2 ?side3 ?side4 ?side5 A3.out).mono ?_); (case side1 => exact sI85); (case side2 => exact (sB85 (B := w0.heap.size) (w0 := w0))); (case side3 => exact cR HO224.out); (case side4 => exact (Kd.R_reads' HO224.out).2.1); (case side5 => exact far_slice (IsS85.own_ne HI0.out HO224.out (by decide))); rintro e w50 ⟨rfl, hi, hb, hk⟩; refine ⟨_, rfl, ?_⟩; have _ := aM (KeepBut.blk hk (g' := gb221) (o := .cells #[.int .i64 0, .int .i64 0, .int .i64 0, .slice none 0 0, .slice none 0 0, .int .i64 0] 29 (0, 0)) (kA BK221.out) NB221_0.out (by simp)); have _ := aM (rK85 HO224.out hk); have _ := aM (KeepBut.trans (sG (w := w)) hk (.inl rfl)); have _ := aM (hb); have _ := aM (hi); clear BK221 HO224 HK HB HI0; rename_i BK221 HO224 HK HB HI0; (try clear hb); (try clear hk); (try clear hi)) | ((with_reducible refine gate_callee (f := 76) rfl ?_); refine gL (some 12) rfl rfl Try.func76 (by kernel_rfl) rfl #[.pointer (some ⟨g, 0, none⟩), .int .i64 12] rfl ?_; (with_reducible refine (spec_l1Below.calls g s0_0 t226 t227 12 t228 t229 t230 w0 _ ?side1 ?side2 A4.out).mono ?_); (case side1 => exact sI85); (case side2 => exact (sB85 (B := w0.heap.size) (w0 := w0))); rintro e w51 ⟨rfl, hi, hb, hk⟩; refine ⟨_, rfl, ?_⟩; have _ := aM (KeepBut.blk hk (g' := gb221) (o := .cells #[.int .i64 0, .int .i64 0, .int .i64 0, .slice none 0 0, .slice none 0 0, .int .i64 0] 29 (0, 0)) (kA BK221.out) NB221_0.out (by simp)); have _ := aM (rK85 HO224.out hk); have _ := aM (KeepBut.trans (sG (w := w)) hk (.inl rfl)); have _ := aM (hb); have _ := aM (hi); clear BK221 HO224 HK HB HI0; rename_i BK221 HO224 HK HB HI0; (try clear hb); (try clear hk); (try clear hi)) | ((with_reducible refine gate_dst (N := 5) rfl ?_); refine box_event ?hg (N := 5) ?hd (cs := #[.int .i64 0, .int .i64 0, .int .i64 0, .slice none 0 0, .slice none 0 0, .int .i64 0]) (t := 29) ?hr ?_; (case hd => rfl); (case hg => rfl); (case hr => first | (go_simp; done) | (go_simp; rfl)); intro gb231 hg w52 hbox hb; have _ := aM (rB HO224.out hb); have _ := aM (IsS85.below sI85 hb); have _ := aM (kB BK221.out hb); have _ := aM (KeepBut.trans (sG (w := w)) (KeepBut.of_below hb g none) (.inl rfl)); have _ := aM (below_step (sB85 (B := w0.heap.size) (w0 := w0)) hb); have _ := aM (hbox); have _ := aM ((by rw [hg]; exact (keep_size (w := w) (g := g) (row := none) (sG (w := w))) : w.heap.size ≤ gb231)); have _ := aM ((Nat.le_trans HW0.out (by rw [hg]; exact (keep_size (w := w) (g := g) (row := none) (sG (w := w))) : w.heap.size ≤ gb231) : w0.heap.size ≤ gb231)); have _ := aM (neL hg (kA BK221.out)); have _ := aM (neG hg (kA BK221.out)); have _ := aM ((by rw [hg]; exact Nat.ne_of_lt (IsS85.lt (show IsS85 w0 _ g s0_0 t229 t230 from sI85)) : g ≠ gb231)); have _ := aM ((by rw [hg]; exact Nat.ne_of_gt (IsS85.lt (show IsS85 w0 _ g s0_0 t229 t230 from sI85)) : gb231 ≠ g)); clear HO224 HI0 BK221 HK HB; rename_i HO224 HI0 BK221 HK HB BK231 GW231 GE231 NB221_231 NB231_221 NB0_231 NB231_0; clear hb hbox hg; have hnb53 := NB231_221.out; have hnc53 := NB221_231.out; have hnb54 := NB231_0.out; have hnc54 := NB0_231.out; obtain ⟨hcz55_0, hfz55_0, hcz55_1, hfz55_1, hcz55_2, hfz55_2, hcz55_3, hfz55_3, hcz55_4, hfz55_4, hcz55_5, hfz55_5⟩ := bk6 BK231.out) | ((with_reducible refine gate_callee (f := 76) rfl ?_); refine gL (some 16) rfl rfl Try.func76 (by kernel_rfl) rfl #[.pointer (some ⟨g, 0, none⟩), .int .i64 6] rfl ?_; (with_reducible refine (spec_l1Below.calls g s0_0 t229 t230 6 t232 t233 t234 w0 _ ?side1 ?side2 A5.out).mono ?_); (case side1 => exact sI85); (case side2 => exact (sB85 (B := w0.heap.size) (w0 := w0))); rintro e w56 ⟨rfl, hi, hb, hk⟩; refine ⟨_, rfl, ?_⟩; have _ := aM (KeepBut.blk hk (g' := gb221) (o := .cells #[.int .i64 0, .int .i64 0, .int .i64 0, .slice none 0 0, .slice none 0 0, .int .i64 0] 29 (0, 0)) (kF6 BK221.out NB221_231.out) NB221_0.out (by simp)); have _ := aM (Kd.R_mono (Kd.R_keep (IsS85.apart (show IsS85 w0 _ g s0_0 t229 t230 from sI85) (rF6 HO224.out BK231.out) (by decide)) hk (fun _ h => h.2)) (fun _ h => h.1)); have _ := aM (KeepBut.blk hk (g' := gb231) (o := .cells #[.int .i64 t225, .int .i64 (wrap64 (a1 + t228)), .int .i64 0, .slice none 0 0, .slice none 0 0, .int .i64 0] 29 (0, 0)) (kP6 BK231.out) NB231_0.out (by simp)); have _ := aM (KeepBut.trans (sG (w := w)) hk (.inl rfl)); have _ := aM (hb); have _ := aM (hi); clear BK221 HO224 BK231 HK HB HI0; rename_i BK221 HO224 BK231 HK HB HI0; (try clear hb); (try clear hk); (try clear hi); obtain ⟨hcz57_0, hfz57_0, hcz57_1, hfz57_1, hcz57_2, hfz57_2, hcz57_3, hfz57_3, hcz57_4, hfz57_4, hcz57_5, hfz57_5⟩ := bk6 BK231.out) | ((with_reducible refine gate_callee (f := 85) rfl ?_); refine gL (some 35) rfl rfl Try.func85 (by kernel_rfl) rfl #[.pointer (some ⟨g, 0, none⟩), .int .i64 2] rfl ?_; (with_reducible refine (spec_l3List.calls k g s0_0 t233 t234 2 t245 t248 t249 w0 _ ?side1 ?side2 A45.out).mono ?_); (case side1 => exact sI85); (case side2 => exact (sB85 (B := w0.heap.size) (w0 := w0))); rintro e w58 ⟨v246, rfl, ho0, hi, hb, hk⟩; refine ⟨_, rfl, ?_⟩; have _ := aM (KeepBut.blk hk (g' := gb221) (o := .cells #[.int .i64 0, .int .i64 0, .int .i64 0, .slice none 0 0, .slice none 0 0, .int .i64 0] 29 (0, 0)) (kA BK221.out) NB221_0.out (by simp)); have _ := aM (rM (Kd.R_told (Kd.R_oldK (IsS85.apart (show IsS85 w0 _ g s0_0 t233 t234 from sI85) (rA HO224.out) (by decide)) hk) (Kd.R_base ho0))); have _ := aM (KeepBut.blk hk (g' := gb231) (o := .cells #[.int .i64 t225, .int .i64 (wrap64 (a1 + t228)), .int .i64 0, .slice none 0 0, .slice none 0 0, .int .i64 0] 29 (0, 0)) (kA BK231.out) NB231_0.out (by simp)); have _ := aM (Kd.R_lower (Kd.R_new' ho0 (Kd.R_lt (rA HO224.out))) (keep_size (w := w) (g := g) (row := none) (sG (w := w)))); have _ := aM (KeepBut.trans (sG (w := w)) hk (.inl rfl)); have _ := aM (hb); have _ := aM (hi); clear BK221 HO224 BK231 HK HB HI0; rename_i BK221 HO224 BK231 HO247 HK HB HI0; (try clear hb); (try clear hk); (try clear hi); (try clear ho0); obtain ⟨Ao59, co59, eo59⟩ := Kd.R_slice HO247.out; subst eo59; obtain ⟨hcz60_0, hfz60_0, hcz60_1, hfz60_1, hcz60_2, hfz60_2, hcz60_3, hfz60_3, hcz60_4, hfz60_4, hcz60_5, hfz60_5⟩ := bk6 BK231.out; have hnb61 := NB221_0.out; have hnc61 := NB0_221.out; obtain ⟨hcz62_0, hfz62_0, hcz62_1, hfz62_1, hcz62_2, hfz62_2, hcz62_3, hfz62_3, hcz62_4, hfz62_4, hcz62_5, hfz62_5⟩ := bk6 BK221.out))
    refine bodyPost_ret (results_cell_row rfl _ _ gb221 29 #[.int .i64 t225, .int .i64 (wrap64 (a1 + t228)), .int .i64 0, .slice Ao59 t245.length co59, .slice none 0 0, .int .i64 0] (0, 0) _ rfl (kX BK221.out) Try.underlying29 rfl (by kernel_rfl)) rfl ?_
    exact ⟨_, _, by first | rfl | (simp [errW_none, errW_some] <;> rfl) | (simp [*, errW_none, errW_some] <;> rfl), by (with_reducible repeat (first | apply Kd.R_alloc | apply Kd.R_drewN | apply Kd.R_drew)); exact Kd.R_mono (Kd.R_far (p := ⟨gb221, 5, none⟩) (Kd.R_far (p := ⟨gb221, 4, none⟩) (Kd.R_far (p := ⟨gb221, 3, none⟩) (Kd.R_far (p := ⟨gb221, 2, none⟩) (Kd.R_far (p := ⟨gb221, 1, none⟩) (Kd.R_far (p := ⟨gb221, 0, none⟩) (Kd.R_far (p := ⟨gb231, 3, none⟩) (Kd.R_types (Kd.R_types HO247.out BK231.out (by decide)) BK221.out (by decide)) (fun _ hk => hk.1.2) (.slice Ao59 t245.length co59)) (fun _ hk => hk.2) (.int .i64 t225)) (fun _ hk => hk.2) (.int .i64 (wrap64 (a1 + t228)))) (fun _ hk => hk.2) (.int .i64 0)) (fun _ hk => hk.2) (.slice Ao59 t245.length co59)) (fun _ hk => hk.2) (.slice none 0 0)) (fun _ hk => hk.2) (.int .i64 0)) (fun _ hk => trivial), by first | exact Kd.R_nil _ _ _ _ _ | exact Kd.N_nil _ _ _ _ _ | exact Kd.V_nil _ _ _ _ _ | exact Kd.Q_nil _ _ _ _ _ | exact Kd.S_nil _ _ _ _ _, sI85, (sB85 (B := w0.heap.size) (w0 := w0)), (sG (w := w))⟩
   ·rw [if_neg c44] at H
    have c44b0 : (t225 == 22) = false := beq_eq_false_iff_ne.mpr c44
    have c44b1 : (t225 != 22) = true := bne_iff_ne.mpr c44
    by_cases c63 : t225 = 15
    ·rw [if_pos c63] at H
     have c63b0 : (t225 == 15) = true := beq_iff_eq.mpr c63
     have c63b1 : (t225 != 15) = false := bne_eq_false_iff_eq.mpr c63
     clear c63
     replace H := Option.bind_eq_some_iff.mp H
     obtain ⟨⟨t250, t251, t252⟩, A640, H⟩ := H
     (try dsimp only at H)
     have A64 := aM A640
     clear A640
     replace H := Option.bind_eq_some_iff.mp H
     obtain ⟨⟨t253, t256, t257⟩, A650, H⟩ := H
     (try dsimp only at H)
     have A65 := aM A650
     clear A650
     simp only [Option.some.injEq, Prod.mk.injEq] at H
     obtain ⟨rfl, rfl, rfl, rfl, rfl, rfl, rfl, rfl⟩ := H
     go_enter Try.func73, Try.ntmps73
     go_wp2_with (first | ((with_reducible refine gate_dst (N := 4) rfl ?_); refine box_event ?hg (N := 4) ?hd (cs := #[.int .i64 0, .int .i64 0, .int .i64 0, .slice none 0 0, .slice none 0 0, .int .i64 0]) (t := 29) ?hr ?_; (case hd => rfl); (case hg => rfl); (case hr => first | (go_simp; done) | (go_simp; rfl)); intro gb221 hg w66 hbox hb; have _ := aM (IsS85.below sI85 hb); have _ := aM (KeepBut.trans (sG (w := w)) (KeepBut.of_below hb g none) (.inl rfl)); have _ := aM (below_step (sB85 (B := w0.heap.size) (w0 := w0)) hb); have _ := aM (hbox); have _ := aM ((by rw [hg]; exact (keep_size (w := w) (g := g) (row := none) (sG (w := w))) : w.heap.size ≤ gb221)); have _ := aM ((Nat.le_trans HW0.out (by rw [hg]; exact (keep_size (w := w) (g := g) (row := none) (sG (w := w))) : w.heap.size ≤ gb221) : w0.heap.size ≤ gb221)); have _ := aM ((by rw [hg]; exact Nat.ne_of_lt (IsS85.lt (show IsS85 w0 _ g s0_0 s0_1 s0_2 from sI85)) : g ≠ gb221)); have _ := aM ((by rw [hg]; exact Nat.ne_of_gt (IsS85.lt (show IsS85 w0 _ g s0_0 s0_1 s0_2 from sI85)) : gb221 ≠ g)); clear HI0 HK HB; rename_i HI0 HK HB BK221 GW221 GE221 NB0_221 NB221_0; clear hb hbox hg) | ((with_reducible refine gate_dst (N := 8) rfl ?_); refine Kd.R_lit (Kd.int .i64) _ 3 ?hg (N := 8) ?hd (xs := ([1, 2, 3, 4, 5, 6, 15, 16, 22, 23, 3, 16] : List Int)) (inner := [.int .i64 1, .int .i64 2, .int .i64 3, .int .i64 4, .int .i64 5, .int .i64 6, .int .i64 15, .int .i64 16, .int .i64 22, .int .i64 23, .int .i64 3, .int .i64 16]) (ok := fun _ => True) (okp := fun _ => True) ?hr ?hp (fun _ hk => hk) trivial (Below.refl _ _) (Nat.le_refl _) (by simp) ?_; (case hd => rfl); (case hg => rfl); (case hr => first | (go_simp; done) | (go_simp; rfl)); (case hp => exact (Reps.one (show Kd.M (Kd.int .i64) _ _ _ 1 [.int .i64 1] from rfl) (Reps.one (show Kd.M (Kd.int .i64) _ _ _ 2 [.int .i64 2] from rfl) (Reps.one (show Kd.M (Kd.int .i64) _ _ _ 3 [.int .i64 3] from rfl) (Reps.one (show Kd.M (Kd.int .i64) _ _ _ 4 [.int .i64 4] from rfl) (Reps.one (show Kd.M (Kd.int .i64) _ _ _ 5 [.int .i64 5] from rfl) (Reps.one (show Kd.M (Kd.int .i64) _ _ _ 6 [.int .i64 6] from rfl) (Reps.one (show Kd.M (Kd.int .i64) _ _ _ 15 [.int .i64 15] from rfl) (Reps.one (show Kd.M (Kd.int .i64) _ _ _ 16 [.int .i64 16] from rfl) (Reps.one (show Kd.M (Kd.int .i64) _ _ _ 22 [.int .i64 22] from rfl) (Reps.one (show Kd.M (Kd.int .i64) _ _ _ 23 [.int .i64 23] from rfl) (Reps.one (show Kd.M (Kd.int .i64) _ _ _ 3 [.int .i64 3] from rfl) (Reps.one (show Kd.M (Kd.int .i64) _ _ _ 16 [.int .i64 16] from rfl) (Reps.none _ _)))))))))))))); intro v223 w67 ho68 hb hg_ hnew_; clear hg_ hnew_; (first | rw [← Ny222.out] at ho68 | (simp only [Int.reduceToNat] at ho68; rw [← Ny222.out] at ho68)); have _ := aM (Kd.R_lower ho68 (keep_size (w := w) (g := g) (row := none) (sG (w := w)))); have _ := aM (IsS85.below sI85 hb); have _ := aM (kB BK221.out hb); have _ := aM (KeepBut.trans (sG (w := w)) (KeepBut.of_below hb g none) (.inl rfl)); have _ := aM (below_step (sB85 (B := w0.heap.size) (w0 := w0)) hb); clear HI0 BK221 HK HB; rename_i HO224 HI0 BK221 HK HB; clear hb ho68; obtain ⟨Ao69, co69, eo69⟩ := Kd.R_slice HO224.out; subst eo69) | ((with_reducible refine gate_callee (f := 83) rfl ?_); refine gL (some 9) rfl rfl Try.func83 (by kernel_rfl) rfl #[.pointer (some ⟨g, 0, none⟩), .slice Ao69 y222.length co69] rfl ?_; (with_reducible refine (spec_l1Int.calls g s0_0 s0_1 s0_2 _ _ y222 t225 t226 t227 w0 _ ?side1 ?side2 ?side3 ?side4 ?side5 A3.out).mono ?_); (case side1 => exact sI85); (case side2 => exact (sB85 (B := w0.heap.size) (w0 := w0))); (case side3 => exact cR HO224.out); (case side4 => exact (Kd.R_reads' HO224.out).2.1); (case side5 => exact far_slice (IsS85.own_ne HI0.out HO224.out (by decide))); rintro e w70 ⟨rfl, hi, hb, hk⟩; refine ⟨_, rfl, ?_⟩; have _ := aM (KeepBut.blk hk (g' := gb221) (o := .cells #[.int .i64 0, .int .i64 0, .int .i64 0, .slice none 0 0, .slice none 0 0, .int .i64 0] 29 (0, 0)) (kA BK221.out) NB221_0.out (by simp)); have _ := aM (rK85 HO224.out hk); have _ := aM (KeepBut.trans (sG (w := w)) hk (.inl rfl)); have _ := aM (hb); have _ := aM (hi); clear BK221 HO224 HK HB HI0; rename_i BK221 HO224 HK HB HI0; (try clear hb); (try clear hk); (try clear hi)) | ((with_reducible refine gate_callee (f := 76) rfl ?_); refine gL (some 12) rfl rfl Try.func76 (by kernel_rfl) rfl #[.pointer (some ⟨g, 0, none⟩), .int .i64 12] rfl ?_; (with_reducible refine (spec_l1Below.calls g s0_0 t226 t227 12 t228 t229 t230 w0 _ ?side1 ?side2 A4.out).mono ?_); (case side1 => exact sI85); (case side2 => exact (sB85 (B := w0.heap.size) (w0 := w0))); rintro e w71 ⟨rfl, hi, hb, hk⟩; refine ⟨_, rfl, ?_⟩; have _ := aM (KeepBut.blk hk (g' := gb221) (o := .cells #[.int .i64 0, .int .i64 0, .int .i64 0, .slice none 0 0, .slice none 0 0, .int .i64 0] 29 (0, 0)) (kA BK221.out) NB221_0.out (by simp)); have _ := aM (rK85 HO224.out hk); have _ := aM (KeepBut.trans (sG (w := w)) hk (.inl rfl)); have _ := aM (hb); have _ := aM (hi); clear BK221 HO224 HK HB HI0; rename_i BK221 HO224 HK HB HI0; (try clear hb); (try clear hk); (try clear hi)) | ((with_reducible refine gate_dst (N := 5) rfl ?_); refine box_event ?hg (N := 5) ?hd (cs := #[.int .i64 0, .int .i64 0, .int .i64 0, .slice none 0 0, .slice none 0 0, .int .i64 0]) (t := 29) ?hr ?_; (case hd => rfl); (case hg => rfl); (case hr => first | (go_simp; done) | (go_simp; rfl)); intro gb231 hg w72 hbox hb; have _ := aM (rB HO224.out hb); have _ := aM (IsS85.below sI85 hb); have _ := aM (kB BK221.out hb); have _ := aM (KeepBut.trans (sG (w := w)) (KeepBut.of_below hb g none) (.inl rfl)); have _ := aM (below_step (sB85 (B := w0.heap.size) (w0 := w0)) hb); have _ := aM (hbox); have _ := aM ((by rw [hg]; exact (keep_size (w := w) (g := g) (row := none) (sG (w := w))) : w.heap.size ≤ gb231)); have _ := aM ((Nat.le_trans HW0.out (by rw [hg]; exact (keep_size (w := w) (g := g) (row := none) (sG (w := w))) : w.heap.size ≤ gb231) : w0.heap.size ≤ gb231)); have _ := aM (neL hg (kA BK221.out)); have _ := aM (neG hg (kA BK221.out)); have _ := aM ((by rw [hg]; exact Nat.ne_of_lt (IsS85.lt (show IsS85 w0 _ g s0_0 t229 t230 from sI85)) : g ≠ gb231)); have _ := aM ((by rw [hg]; exact Nat.ne_of_gt (IsS85.lt (show IsS85 w0 _ g s0_0 t229 t230 from sI85)) : gb231 ≠ g)); clear HO224 HI0 BK221 HK HB; rename_i HO224 HI0 BK221 HK HB BK231 GW231 GE231 NB221_231 NB231_221 NB0_231 NB231_0; clear hb hbox hg; have hnb73 := NB231_221.out; have hnc73 := NB221_231.out; have hnb74 := NB231_0.out; have hnc74 := NB0_231.out; obtain ⟨hcz75_0, hfz75_0, hcz75_1, hfz75_1, hcz75_2, hfz75_2, hcz75_3, hfz75_3, hcz75_4, hfz75_4, hcz75_5, hfz75_5⟩ := bk6 BK231.out) | ((with_reducible refine gate_callee (f := 76) rfl ?_); refine gL (some 16) rfl rfl Try.func76 (by kernel_rfl) rfl #[.pointer (some ⟨g, 0, none⟩), .int .i64 6] rfl ?_; (with_reducible refine (spec_l1Below.calls g s0_0 t229 t230 6 t232 t233 t234 w0 _ ?side1 ?side2 A5.out).mono ?_); (case side1 => exact sI85); (case side2 => exact (sB85 (B := w0.heap.size) (w0 := w0))); rintro e w76 ⟨rfl, hi, hb, hk⟩; refine ⟨_, rfl, ?_⟩; have _ := aM (KeepBut.blk hk (g' := gb221) (o := .cells #[.int .i64 0, .int .i64 0, .int .i64 0, .slice none 0 0, .slice none 0 0, .int .i64 0] 29 (0, 0)) (kF6 BK221.out NB221_231.out) NB221_0.out (by simp)); have _ := aM (Kd.R_mono (Kd.R_keep (IsS85.apart (show IsS85 w0 _ g s0_0 t229 t230 from sI85) (rF6 HO224.out BK231.out) (by decide)) hk (fun _ h => h.2)) (fun _ h => h.1)); have _ := aM (KeepBut.blk hk (g' := gb231) (o := .cells #[.int .i64 t225, .int .i64 (wrap64 (a1 + t228)), .int .i64 0, .slice none 0 0, .slice none 0 0, .int .i64 0] 29 (0, 0)) (kP6 BK231.out) NB231_0.out (by simp)); have _ := aM (KeepBut.trans (sG (w := w)) hk (.inl rfl)); have _ := aM (hb); have _ := aM (hi); clear BK221 HO224 BK231 HK HB HI0; rename_i BK221 HO224 BK231 HK HB HI0; (try clear hb); (try clear hk); (try clear hi); obtain ⟨hcz77_0, hfz77_0, hcz77_1, hfz77_1, hcz77_2, hfz77_2, hcz77_3, hfz77_3, hcz77_4, hfz77_4, hcz77_5, hfz77_5⟩ := bk6 BK231.out) | ((with_reducible refine gate_callee (f := 76) rfl ?_); refine gL (some 42) rfl rfl Try.func76 (by kernel_rfl) rfl #[.pointer (some ⟨g, 0, none⟩), .int .i64 8] rfl ?_; (with_reducible refine (spec_l1Below.calls g s0_0 t233 t234 8 t250 t251 t252 w0 _ ?side1 ?side2 A64.out).mono ?_); (case side1 => exact sI85); (case side2 => exact (sB85 (B := w0.heap.size) (w0 := w0))); rintro e w78 ⟨rfl, hi, hb, hk⟩; refine ⟨_, rfl, ?_⟩; have _ := aM (KeepBut.blk hk (g' := gb221) (o := .cells #[.int .i64 0, .int .i64 0, .int .i64 0, .slice none 0 0, .slice none 0 0, .int .i64 0] 29 (0, 0)) (kA BK221.out) NB221_0.out (by simp)); have _ := aM (rK85 HO224.out hk); have _ := aM (KeepBut.blk hk (g' := gb231) (o := .cells #[.int .i64 t225, .int .i64 (wrap64 (a1 + t228)), .int .i64 0, .slice none 0 0, .slice none 0 0, .int .i64 0] 29 (0, 0)) (kA BK231.out) NB231_0.out (by simp)); have _ := aM (KeepBut.trans (sG (w := w)) hk (.inl rfl)); have _ := aM (hb); have _ := aM (hi); clear BK221 HO224 BK231 HK HB HI0; rename_i BK221 HO224 BK231 HK HB HI0; (try clear hb); (try clear hk); (try clear hi)) | ((with_reducible refine gate_callee (f := 84) rfl ?_); refine gL (some 44) rfl rfl Try.func84 (by kernel_rfl) rfl #[.pointer (some ⟨g, 0, none⟩), .int .i64 (wrap64 ((wrap64 (1 + t232)) + t250))] rfl ?_; (with_reducible refine (spec_l2Bits.calls k g s0_0 t251 t252 (wrap64 ((wrap64 (1 + t232)) + t250)) t253 t256 t257 w0 _ ?side1 ?side2 A65.out).mono ?_); (case side1 => exact sI85); (case side2 => exact (sB85 (B := w0.heap.size) (w0 := w0))); rintro e w79 ⟨v254, rfl, ho0, hi, hb, hk⟩; refine ⟨_, rfl, ?_⟩; have _ := aM (KeepBut.blk hk (g' := gb221) (o := .cells #[.int .i64 0, .int .i64 0, .int .i64 0, .slice none 0 0, .slice none 0 0, .int .i64 0] 29 (0, 0)) (kA BK221.out) NB221_0.out (by simp)); have _ := aM (rK85 HO224.out hk); have _ := aM (KeepBut.blk hk (g' := gb231) (o := .cells #[.int .i64 t225, .int .i64 (wrap64 (a1 + t228)), .int .i64 0, .slice none 0 0, .slice none 0 0, .int .i64 0] 29 (0, 0)) (kA BK231.out) NB231_0.out (by simp)); have _ := aM (Kd.R_lower ho0 (keep_size (w := w) (g := g) (row := none) (sG (w := w)))); have _ := aM (KeepBut.trans (sG (w := w)) hk (.inl rfl)); have _ := aM (hb); have _ := aM (hi); clear BK221 HO224 BK231 HK HB HI0; rename_i BK221 HO224 BK231 HO255 HK HB HI0; (try clear hb); (try clear hk); (try clear hi); (try clear ho0); obtain ⟨Ao80, co80, eo80⟩ := Kd.R_slice HO255.out; subst eo80; obtain ⟨hcz81_0, hfz81_0, hcz81_1, hfz81_1, hcz81_2, hfz81_2, hcz81_3, hfz81_3, hcz81_4, hfz81_4, hcz81_5, hfz81_5⟩ := bk6 BK231.out; have hnb82 := NB221_0.out; have hnc82 := NB0_221.out; obtain ⟨hcz83_0, hfz83_0, hcz83_1, hfz83_1, hcz83_2, hfz83_2, hcz83_3, hfz83_3, hcz83_4, hfz83_4, hcz83_5, hfz83_5⟩ := bk6 BK221.out))
     refine bodyPost_ret (results_cell_row rfl _ _ gb221 29 #[.int .i64 t225, .int .i64 (wrap64 (a1 + t228)), .int .i64 0, .slice none 0 0, .slice Ao80 t253.length co80, .int .i64 0] (0, 0) _ rfl (kX BK221.out) Try.underlying29 rfl (by kernel_rfl)) rfl ?_
     exact ⟨_, _, by first | rfl | (simp [errW_none, errW_some] <;> rfl) | (simp [*, errW_none, errW_some] <;> rfl), by first | exact Kd.R_nil _ _ _ _ _ | exact Kd.N_nil _ _ _ _ _ | exact Kd.V_nil _ _ _ _ _ | exact Kd.Q_nil _ _ _ _ _ | exact Kd.S_nil _ _ _ _ _, by (with_reducible repeat (first | apply Kd.R_alloc | apply Kd.R_drewN | apply Kd.R_drew)); exact Kd.R_mono (Kd.R_far (p := ⟨gb221, 5, none⟩) (Kd.R_far (p := ⟨gb221, 4, none⟩) (Kd.R_far (p := ⟨gb221, 3, none⟩) (Kd.R_far (p := ⟨gb221, 2, none⟩) (Kd.R_far (p := ⟨gb221, 1, none⟩) (Kd.R_far (p := ⟨gb221, 0, none⟩) (Kd.R_far (p := ⟨gb231, 4, none⟩) (Kd.R_types (Kd.R_types HO255.out BK231.out (by decide)) BK221.out (by decide)) (fun _ hk => hk.1.2) (.slice Ao80 t253.length co80)) (fun _ hk => hk.2) (.int .i64 t225)) (fun _ hk => hk.2) (.int .i64 (wrap64 (a1 + t228)))) (fun _ hk => hk.2) (.int .i64 0)) (fun _ hk => hk.2) (.slice none 0 0)) (fun _ hk => hk.2) (.slice Ao80 t253.length co80)) (fun _ hk => hk.2) (.int .i64 0)) (fun _ hk => trivial), sI85, (sB85 (B := w0.heap.size) (w0 := w0)), (sG (w := w))⟩
    ·rw [if_neg c63] at H
     have c63b0 : (t225 == 15) = false := beq_eq_false_iff_ne.mpr c63
     have c63b1 : (t225 != 15) = true := bne_iff_ne.mpr c63
     by_cases c84 : t225 = 16
     ·rw [if_pos c84] at H
      have c84b0 : (t225 == 16) = true := beq_iff_eq.mpr c84
      have c84b1 : (t225 != 16) = false := bne_eq_false_iff_eq.mpr c84
      clear c84
      replace H := Option.bind_eq_some_iff.mp H
      obtain ⟨⟨t258, t261, t262⟩, A850, H⟩ := H
      (try dsimp only at H)
      have A85 := aM A850
      clear A850
      simp only [Option.some.injEq, Prod.mk.injEq] at H
      obtain ⟨rfl, rfl, rfl, rfl, rfl, rfl, rfl, rfl⟩ := H
      go_enter Try.func73, Try.ntmps73
      go_wp2_with (first | ((with_reducible refine gate_dst (N := 4) rfl ?_); refine box_event ?hg (N := 4) ?hd (cs := #[.int .i64 0, .int .i64 0, .int .i64 0, .slice none 0 0, .slice none 0 0, .int .i64 0]) (t := 29) ?hr ?_; (case hd => rfl); (case hg => rfl); (case hr => first | (go_simp; done) | (go_simp; rfl)); intro gb221 hg w86 hbox hb; have _ := aM (IsS85.below sI85 hb); have _ := aM (KeepBut.trans (sG (w := w)) (KeepBut.of_below hb g none) (.inl rfl)); have _ := aM (below_step (sB85 (B := w0.heap.size) (w0 := w0)) hb); have _ := aM (hbox); have _ := aM ((by rw [hg]; exact (keep_size (w := w) (g := g) (row := none) (sG (w := w))) : w.heap.size ≤ gb221)); have _ := aM ((Nat.le_trans HW0.out (by rw [hg]; exact (keep_size (w := w) (g := g) (row := none) (sG (w := w))) : w.heap.size ≤ gb221) : w0.heap.size ≤ gb221)); have _ := aM ((by rw [hg]; exact Nat.ne_of_lt (IsS85.lt (show IsS85 w0 _ g s0_0 s0_1 s0_2 from sI85)) : g ≠ gb221)); have _ := aM ((by rw [hg]; exact Nat.ne_of_gt (IsS85.lt (show IsS85 w0 _ g s0_0 s0_1 s0_2 from sI85)) : gb221 ≠ g)); clear HI0 HK HB; rename_i HI0 HK HB BK221 GW221 GE221 NB0_221 NB221_0; clear hb hbox hg) | ((with_reducible refine gate_dst (N := 8) rfl ?_); refine Kd.R_lit (Kd.int .i64) _ 3 ?hg (N := 8) ?hd (xs := ([1, 2, 3, 4, 5, 6, 15, 16, 22, 23, 3, 16] : List Int)) (inner := [.int .i64 1, .int .i64 2, .int .i64 3, .int .i64 4, .int .i64 5, .int .i64 6, .int .i64 15, .int .i64 16, .int .i64 22, .int .i64 23, .int .i64 3, .int .i64 16]) (ok := fun _ => True) (okp := fun _ => True) ?hr ?hp (fun _ hk => hk) trivial (Below.refl _ _) (Nat.le_refl _) (by simp) ?_; (case hd => rfl); (case hg => rfl); (case hr => first | (go_simp; done) | (go_simp; rfl)); (case hp => exact (Reps.one (show Kd.M (Kd.int .i64) _ _ _ 1 [.int .i64 1] from rfl) (Reps.one (show Kd.M (Kd.int .i64) _ _ _ 2 [.int .i64 2] from rfl) (Reps.one (show Kd.M (Kd.int .i64) _ _ _ 3 [.int .i64 3] from rfl) (Reps.one (show Kd.M (Kd.int .i64) _ _ _ 4 [.int .i64 4] from rfl) (Reps.one (show Kd.M (Kd.int .i64) _ _ _ 5 [.int .i64 5] from rfl) (Reps.one (show Kd.M (Kd.int .i64) _ _ _ 6 [.int .i64 6] from rfl) (Reps.one (show Kd.M (Kd.int .i64) _ _ _ 15 [.int .i64 15] from rfl) (Reps.one (show Kd.M (Kd.int .i64) _ _ _ 16 [.int .i64 16] from rfl) (Reps.one (show Kd.M (Kd.int .i64) _ _ _ 22 [.int .i64 22] from rfl) (Reps.one (show Kd.M (Kd.int .i64) _ _ _ 23 [.int .i64 23] from rfl) (Reps.one (show Kd.M (Kd.int .i64) _ _ _ 3 [.int .i64 3] from rfl) (Reps.one (show Kd.M (Kd.int .i64) _ _ _ 16 [.int .i64 16] from rfl) (Reps.none _ _)))))))))))))); intro v223 w87 ho88 hb hg_ hnew_; clear hg_ hnew_; (first | rw [← Ny222.out] at ho88 | (simp only [Int.reduceToNat] at ho88; rw [← Ny222.out] at ho88)); have _ := aM (Kd.R_lower ho88 (keep_size (w := w) (g := g) (row := none) (sG (w := w)))); have _ := aM (IsS85.below sI85 hb); have _ := aM (kB BK221.out hb); have _ := aM (KeepBut.trans (sG (w := w)) (KeepBut.of_below hb g none) (.inl rfl)); have _ := aM (below_step (sB85 (B := w0.heap.size) (w0 := w0)) hb); clear HI0 BK221 HK HB; rename_i HO224 HI0 BK221 HK HB; clear hb ho88; obtain ⟨Ao89, co89, eo89⟩ := Kd.R_slice HO224.out; subst eo89) | ((with_reducible refine gate_callee (f := 83) rfl ?_); refine gL (some 9) rfl rfl Try.func83 (by kernel_rfl) rfl #[.pointer (some ⟨g, 0, none⟩), .slice Ao89 y222.length co89] rfl ?_; (with_reducible refine (spec_l1Int.calls g s0_0 s0_1 s0_2 _ _ y222 t225 t226 t227 w0 _ ?side1 ?side2 ?side3 ?side4 ?side5 A3.out).mono ?_); (case side1 => exact sI85); (case side2 => exact (sB85 (B := w0.heap.size) (w0 := w0))); (case side3 => exact cR HO224.out); (case side4 => exact (Kd.R_reads' HO224.out).2.1); (case side5 => exact far_slice (IsS85.own_ne HI0.out HO224.out (by decide))); rintro e w90 ⟨rfl, hi, hb, hk⟩; refine ⟨_, rfl, ?_⟩; have _ := aM (KeepBut.blk hk (g' := gb221) (o := .cells #[.int .i64 0, .int .i64 0, .int .i64 0, .slice none 0 0, .slice none 0 0, .int .i64 0] 29 (0, 0)) (kA BK221.out) NB221_0.out (by simp)); have _ := aM (rK85 HO224.out hk); have _ := aM (KeepBut.trans (sG (w := w)) hk (.inl rfl)); have _ := aM (hb); have _ := aM (hi); clear BK221 HO224 HK HB HI0; rename_i BK221 HO224 HK HB HI0; (try clear hb); (try clear hk); (try clear hi)) | ((with_reducible refine gate_callee (f := 76) rfl ?_); refine gL (some 12) rfl rfl Try.func76 (by kernel_rfl) rfl #[.pointer (some ⟨g, 0, none⟩), .int .i64 12] rfl ?_; (with_reducible refine (spec_l1Below.calls g s0_0 t226 t227 12 t228 t229 t230 w0 _ ?side1 ?side2 A4.out).mono ?_); (case side1 => exact sI85); (case side2 => exact (sB85 (B := w0.heap.size) (w0 := w0))); rintro e w91 ⟨rfl, hi, hb, hk⟩; refine ⟨_, rfl, ?_⟩; have _ := aM (KeepBut.blk hk (g' := gb221) (o := .cells #[.int .i64 0, .int .i64 0, .int .i64 0, .slice none 0 0, .slice none 0 0, .int .i64 0] 29 (0, 0)) (kA BK221.out) NB221_0.out (by simp)); have _ := aM (rK85 HO224.out hk); have _ := aM (KeepBut.trans (sG (w := w)) hk (.inl rfl)); have _ := aM (hb); have _ := aM (hi); clear BK221 HO224 HK HB HI0; rename_i BK221 HO224 HK HB HI0; (try clear hb); (try clear hk); (try clear hi)) | ((with_reducible refine gate_dst (N := 5) rfl ?_); refine box_event ?hg (N := 5) ?hd (cs := #[.int .i64 0, .int .i64 0, .int .i64 0, .slice none 0 0, .slice none 0 0, .int .i64 0]) (t := 29) ?hr ?_; (case hd => rfl); (case hg => rfl); (case hr => first | (go_simp; done) | (go_simp; rfl)); intro gb231 hg w92 hbox hb; have _ := aM (rB HO224.out hb); have _ := aM (IsS85.below sI85 hb); have _ := aM (kB BK221.out hb); have _ := aM (KeepBut.trans (sG (w := w)) (KeepBut.of_below hb g none) (.inl rfl)); have _ := aM (below_step (sB85 (B := w0.heap.size) (w0 := w0)) hb); have _ := aM (hbox); have _ := aM ((by rw [hg]; exact (keep_size (w := w) (g := g) (row := none) (sG (w := w))) : w.heap.size ≤ gb231)); have _ := aM ((Nat.le_trans HW0.out (by rw [hg]; exact (keep_size (w := w) (g := g) (row := none) (sG (w := w))) : w.heap.size ≤ gb231) : w0.heap.size ≤ gb231)); have _ := aM (neL hg (kA BK221.out)); have _ := aM (neG hg (kA BK221.out)); have _ := aM ((by rw [hg]; exact Nat.ne_of_lt (IsS85.lt (show IsS85 w0 _ g s0_0 t229 t230 from sI85)) : g ≠ gb231)); have _ := aM ((by rw [hg]; exact Nat.ne_of_gt (IsS85.lt (show IsS85 w0 _ g s0_0 t229 t230 from sI85)) : gb231 ≠ g)); clear HO224 HI0 BK221 HK HB; rename_i HO224 HI0 BK221 HK HB BK231 GW231 GE231 NB221_231 NB231_221 NB0_231 NB231_0; clear hb hbox hg; have hnb93 := NB231_221.out; have hnc93 := NB221_231.out; have hnb94 := NB231_0.out; have hnc94 := NB0_231.out; obtain ⟨hcz95_0, hfz95_0, hcz95_1, hfz95_1, hcz95_2, hfz95_2, hcz95_3, hfz95_3, hcz95_4, hfz95_4, hcz95_5, hfz95_5⟩ := bk6 BK231.out) | ((with_reducible refine gate_callee (f := 76) rfl ?_); refine gL (some 16) rfl rfl Try.func76 (by kernel_rfl) rfl #[.pointer (some ⟨g, 0, none⟩), .int .i64 6] rfl ?_; (with_reducible refine (spec_l1Below.calls g s0_0 t229 t230 6 t232 t233 t234 w0 _ ?side1 ?side2 A5.out).mono ?_); (case side1 => exact sI85); (case side2 => exact (sB85 (B := w0.heap.size) (w0 := w0))); rintro e w96 ⟨rfl, hi, hb, hk⟩; refine ⟨_, rfl, ?_⟩; have _ := aM (KeepBut.blk hk (g' := gb221) (o := .cells #[.int .i64 0, .int .i64 0, .int .i64 0, .slice none 0 0, .slice none 0 0, .int .i64 0] 29 (0, 0)) (kF6 BK221.out NB221_231.out) NB221_0.out (by simp)); have _ := aM (Kd.R_mono (Kd.R_keep (IsS85.apart (show IsS85 w0 _ g s0_0 t229 t230 from sI85) (rF6 HO224.out BK231.out) (by decide)) hk (fun _ h => h.2)) (fun _ h => h.1)); have _ := aM (KeepBut.blk hk (g' := gb231) (o := .cells #[.int .i64 t225, .int .i64 (wrap64 (a1 + t228)), .int .i64 0, .slice none 0 0, .slice none 0 0, .int .i64 0] 29 (0, 0)) (kP6 BK231.out) NB231_0.out (by simp)); have _ := aM (KeepBut.trans (sG (w := w)) hk (.inl rfl)); have _ := aM (hb); have _ := aM (hi); clear BK221 HO224 BK231 HK HB HI0; rename_i BK221 HO224 BK231 HK HB HI0; (try clear hb); (try clear hk); (try clear hi); obtain ⟨hcz97_0, hfz97_0, hcz97_1, hfz97_1, hcz97_2, hfz97_2, hcz97_3, hfz97_3, hcz97_4, hfz97_4, hcz97_5, hfz97_5⟩ := bk6 BK231.out) | ((with_reducible refine gate_callee (f := 85) rfl ?_); refine gL (some 50) rfl rfl Try.func85 (by kernel_rfl) rfl #[.pointer (some ⟨g, 0, none⟩), .int .i64 (wrap64 (1 + t232))] rfl ?_; (with_reducible refine (spec_l3List.calls k g s0_0 t233 t234 (wrap64 (1 + t232)) t258 t261 t262 w0 _ ?side1 ?side2 A85.out).mono ?_); (case side1 => exact sI85); (case side2 => exact (sB85 (B := w0.heap.size) (w0 := w0))); rintro e w98 ⟨v259, rfl, ho0, hi, hb, hk⟩; refine ⟨_, rfl, ?_⟩; have _ := aM (KeepBut.blk hk (g' := gb221) (o := .cells #[.int .i64 0, .int .i64 0, .int .i64 0, .slice none 0 0, .slice none 0 0, .int .i64 0] 29 (0, 0)) (kA BK221.out) NB221_0.out (by simp)); have _ := aM (rM (Kd.R_told (Kd.R_oldK (IsS85.apart (show IsS85 w0 _ g s0_0 t233 t234 from sI85) (rA HO224.out) (by decide)) hk) (Kd.R_base ho0))); have _ := aM (KeepBut.blk hk (g' := gb231) (o := .cells #[.int .i64 t225, .int .i64 (wrap64 (a1 + t228)), .int .i64 0, .slice none 0 0, .slice none 0 0, .int .i64 0] 29 (0, 0)) (kA BK231.out) NB231_0.out (by simp)); have _ := aM (Kd.R_lower (Kd.R_new' ho0 (Kd.R_lt (rA HO224.out))) (keep_size (w := w) (g := g) (row := none) (sG (w := w)))); have _ := aM (KeepBut.trans (sG (w := w)) hk (.inl rfl)); have _ := aM (hb); have _ := aM (hi); clear BK221 HO224 BK231 HK HB HI0; rename_i BK221 HO224 BK231 HO260 HK HB HI0; (try clear hb); (try clear hk); (try clear hi); (try clear ho0); obtain ⟨Ao99, co99, eo99⟩ := Kd.R_slice HO260.out; subst eo99; obtain ⟨hcz100_0, hfz100_0, hcz100_1, hfz100_1, hcz100_2, hfz100_2, hcz100_3, hfz100_3, hcz100_4, hfz100_4, hcz100_5, hfz100_5⟩ := bk6 BK231.out; have hnb101 := NB221_0.out; have hnc101 := NB0_221.out; obtain ⟨hcz102_0, hfz102_0, hcz102_1, hfz102_1, hcz102_2, hfz102_2, hcz102_3, hfz102_3, hcz102_4, hfz102_4, hcz102_5, hfz102_5⟩ := bk6 BK221.out))
      refine bodyPost_ret (results_cell_row rfl _ _ gb221 29 #[.int .i64 t225, .int .i64 (wrap64 (a1 + t228)), .int .i64 0, .slice Ao99 t258.length co99, .slice none 0 0, .int .i64 0] (0, 0) _ rfl (kX BK221.out) Try.underlying29 rfl (by kernel_rfl)) rfl ?_
      exact ⟨_, _, by first | rfl | (simp [errW_none, errW_some] <;> rfl) | (simp [*, errW_none, errW_some] <;> rfl), by (with_reducible repeat (first | apply Kd.R_alloc | apply Kd.R_drewN | apply Kd.R_drew)); exact Kd.R_mono (Kd.R_far (p := ⟨gb221, 5, none⟩) (Kd.R_far (p := ⟨gb221, 4, none⟩) (Kd.R_far (p := ⟨gb221, 3, none⟩) (Kd.R_far (p := ⟨gb221, 2, none⟩) (Kd.R_far (p := ⟨gb221, 1, none⟩) (Kd.R_far (p := ⟨gb221, 0, none⟩) (Kd.R_far (p := ⟨gb231, 3, none⟩) (Kd.R_types (Kd.R_types HO260.out BK231.out (by decide)) BK221.out (by decide)) (fun _ hk => hk.1.2) (.slice Ao99 t258.length co99)) (fun _ hk => hk.2) (.int .i64 t225)) (fun _ hk => hk.2) (.int .i64 (wrap64 (a1 + t228)))) (fun _ hk => hk.2) (.int .i64 0)) (fun _ hk => hk.2) (.slice Ao99 t258.length co99)) (fun _ hk => hk.2) (.slice none 0 0)) (fun _ hk => hk.2) (.int .i64 0)) (fun _ hk => trivial), by first | exact Kd.R_nil _ _ _ _ _ | exact Kd.N_nil _ _ _ _ _ | exact Kd.V_nil _ _ _ _ _ | exact Kd.Q_nil _ _ _ _ _ | exact Kd.S_nil _ _ _ _ _, sI85, (sB85 (B := w0.heap.size) (w0 := w0)), (sG (w := w))⟩
     ·rw [if_neg c84] at H
      have c84b0 : (t225 == 16) = false := beq_eq_false_iff_ne.mpr c84
      have c84b1 : (t225 != 16) = true := bne_iff_ne.mpr c84
      by_cases c103 : t225 = 23
      rotate_left
      ·rw [if_neg c103] at H
       have c103b0 : (t225 == 23) = false := beq_eq_false_iff_ne.mpr c103
       have c103b1 : (t225 != 23) = true := bne_iff_ne.mpr c103
       simp only [Option.some.injEq, Prod.mk.injEq] at H
       obtain ⟨rfl, rfl, rfl, rfl, rfl, rfl, rfl, rfl⟩ := H
       go_enter Try.func73, Try.ntmps73
       go_wp2_with (first | ((with_reducible refine gate_dst (N := 4) rfl ?_); refine box_event ?hg (N := 4) ?hd (cs := #[.int .i64 0, .int .i64 0, .int .i64 0, .slice none 0 0, .slice none 0 0, .int .i64 0]) (t := 29) ?hr ?_; (case hd => rfl); (case hg => rfl); (case hr => first | (go_simp; done) | (go_simp; rfl)); intro gb221 hg w127 hbox hb; have _ := aM (IsS85.below sI85 hb); have _ := aM (KeepBut.trans (sG (w := w)) (KeepBut.of_below hb g none) (.inl rfl)); have _ := aM (below_step (sB85 (B := w0.heap.size) (w0 := w0)) hb); have _ := aM (hbox); have _ := aM ((by rw [hg]; exact (keep_size (w := w) (g := g) (row := none) (sG (w := w))) : w.heap.size ≤ gb221)); have _ := aM ((Nat.le_trans HW0.out (by rw [hg]; exact (keep_size (w := w) (g := g) (row := none) (sG (w := w))) : w.heap.size ≤ gb221) : w0.heap.size ≤ gb221)); have _ := aM ((by rw [hg]; exact Nat.ne_of_lt (IsS85.lt (show IsS85 w0 _ g s0_0 s0_1 s0_2 from sI85)) : g ≠ gb221)); have _ := aM ((by rw [hg]; exact Nat.ne_of_gt (IsS85.lt (show IsS85 w0 _ g s0_0 s0_1 s0_2 from sI85)) : gb221 ≠ g)); clear HI0 HK HB; rename_i HI0 HK HB BK221 GW221 GE221 NB0_221 NB221_0; clear hb hbox hg) | ((with_reducible refine gate_dst (N := 8) rfl ?_); refine Kd.R_lit (Kd.int .i64) _ 3 ?hg (N := 8) ?hd (xs := ([1, 2, 3, 4, 5, 6, 15, 16, 22, 23, 3, 16] : List Int)) (inner := [.int .i64 1, .int .i64 2, .int .i64 3, .int .i64 4, .int .i64 5, .int .i64 6, .int .i64 15, .int .i64 16, .int .i64 22, .int .i64 23, .int .i64 3, .int .i64 16]) (ok := fun _ => True) (okp := fun _ => True) ?hr ?hp (fun _ hk => hk) trivial (Below.refl _ _) (Nat.le_refl _) (by simp) ?_; (case hd => rfl); (case hg => rfl); (case hr => first | (go_simp; done) | (go_simp; rfl)); (case hp => exact (Reps.one (show Kd.M (Kd.int .i64) _ _ _ 1 [.int .i64 1] from rfl) (Reps.one (show Kd.M (Kd.int .i64) _ _ _ 2 [.int .i64 2] from rfl) (Reps.one (show Kd.M (Kd.int .i64) _ _ _ 3 [.int .i64 3] from rfl) (Reps.one (show Kd.M (Kd.int .i64) _ _ _ 4 [.int .i64 4] from rfl) (Reps.one (show Kd.M (Kd.int .i64) _ _ _ 5 [.int .i64 5] from rfl) (Reps.one (show Kd.M (Kd.int .i64) _ _ _ 6 [.int .i64 6] from rfl) (Reps.one (show Kd.M (Kd.int .i64) _ _ _ 15 [.int .i64 15] from rfl) (Reps.one (show Kd.M (Kd.int .i64) _ _ _ 16 [.int .i64 16] from rfl) (Reps.one (show Kd.M (Kd.int .i64) _ _ _ 22 [.int .i64 22] from rfl) (Reps.one (show Kd.M (Kd.int .i64) _ _ _ 23 [.int .i64 23] from rfl) (Reps.one (show Kd.M (Kd.int .i64) _ _ _ 3 [.int .i64 3] from rfl) (Reps.one (show Kd.M (Kd.int .i64) _ _ _ 16 [.int .i64 16] from rfl) (Reps.none _ _)))))))))))))); intro v223 w128 ho129 hb hg_ hnew_; clear hg_ hnew_; (first | rw [← Ny222.out] at ho129 | (simp only [Int.reduceToNat] at ho129; rw [← Ny222.out] at ho129)); have _ := aM (Kd.R_lower ho129 (keep_size (w := w) (g := g) (row := none) (sG (w := w)))); have _ := aM (IsS85.below sI85 hb); have _ := aM (kB BK221.out hb); have _ := aM (KeepBut.trans (sG (w := w)) (KeepBut.of_below hb g none) (.inl rfl)); have _ := aM (below_step (sB85 (B := w0.heap.size) (w0 := w0)) hb); clear HI0 BK221 HK HB; rename_i HO224 HI0 BK221 HK HB; clear hb ho129; obtain ⟨Ao130, co130, eo130⟩ := Kd.R_slice HO224.out; subst eo130) | ((with_reducible refine gate_callee (f := 83) rfl ?_); refine gL (some 9) rfl rfl Try.func83 (by kernel_rfl) rfl #[.pointer (some ⟨g, 0, none⟩), .slice Ao130 y222.length co130] rfl ?_; (with_reducible refine (spec_l1Int.calls g s0_0 s0_1 s0_2 _ _ y222 t225 t226 t227 w0 _ ?side1 ?side2 ?side3 ?side4 ?side5 A3.out).mono ?_); (case side1 => exact sI85); (case side2 => exact (sB85 (B := w0.heap.size) (w0 := w0))); (case side3 => exact cR HO224.out); (case side4 => exact (Kd.R_reads' HO224.out).2.1); (case side5 => exact far_slice (IsS85.own_ne HI0.out HO224.out (by decide))); rintro e w131 ⟨rfl, hi, hb, hk⟩; refine ⟨_, rfl, ?_⟩; have _ := aM (KeepBut.blk hk (g' := gb221) (o := .cells #[.int .i64 0, .int .i64 0, .int .i64 0, .slice none 0 0, .slice none 0 0, .int .i64 0] 29 (0, 0)) (kA BK221.out) NB221_0.out (by simp)); have _ := aM (rK85 HO224.out hk); have _ := aM (KeepBut.trans (sG (w := w)) hk (.inl rfl)); have _ := aM (hb); have _ := aM (hi); clear BK221 HO224 HK HB HI0; rename_i BK221 HO224 HK HB HI0; (try clear hb); (try clear hk); (try clear hi)) | ((with_reducible refine gate_callee (f := 76) rfl ?_); refine gL (some 12) rfl rfl Try.func76 (by kernel_rfl) rfl #[.pointer (some ⟨g, 0, none⟩), .int .i64 12] rfl ?_; (with_reducible refine (spec_l1Below.calls g s0_0 t226 t227 12 t228 t229 t230 w0 _ ?side1 ?side2 A4.out).mono ?_); (case side1 => exact sI85); (case side2 => exact (sB85 (B := w0.heap.size) (w0 := w0))); rintro e w132 ⟨rfl, hi, hb, hk⟩; refine ⟨_, rfl, ?_⟩; have _ := aM (KeepBut.blk hk (g' := gb221) (o := .cells #[.int .i64 0, .int .i64 0, .int .i64 0, .slice none 0 0, .slice none 0 0, .int .i64 0] 29 (0, 0)) (kA BK221.out) NB221_0.out (by simp)); have _ := aM (rK85 HO224.out hk); have _ := aM (KeepBut.trans (sG (w := w)) hk (.inl rfl)); have _ := aM (hb); have _ := aM (hi); clear BK221 HO224 HK HB HI0; rename_i BK221 HO224 HK HB HI0; (try clear hb); (try clear hk); (try clear hi)) | ((with_reducible refine gate_dst (N := 5) rfl ?_); refine box_event ?hg (N := 5) ?hd (cs := #[.int .i64 0, .int .i64 0, .int .i64 0, .slice none 0 0, .slice none 0 0, .int .i64 0]) (t := 29) ?hr ?_; (case hd => rfl); (case hg => rfl); (case hr => first | (go_simp; done) | (go_simp; rfl)); intro gb231 hg w133 hbox hb; have _ := aM (rB HO224.out hb); have _ := aM (IsS85.below sI85 hb); have _ := aM (kB BK221.out hb); have _ := aM (KeepBut.trans (sG (w := w)) (KeepBut.of_below hb g none) (.inl rfl)); have _ := aM (below_step (sB85 (B := w0.heap.size) (w0 := w0)) hb); have _ := aM (hbox); have _ := aM ((by rw [hg]; exact (keep_size (w := w) (g := g) (row := none) (sG (w := w))) : w.heap.size ≤ gb231)); have _ := aM ((Nat.le_trans HW0.out (by rw [hg]; exact (keep_size (w := w) (g := g) (row := none) (sG (w := w))) : w.heap.size ≤ gb231) : w0.heap.size ≤ gb231)); have _ := aM (neL hg (kA BK221.out)); have _ := aM (neG hg (kA BK221.out)); have _ := aM ((by rw [hg]; exact Nat.ne_of_lt (IsS85.lt (show IsS85 w0 _ g s0_0 t229 t230 from sI85)) : g ≠ gb231)); have _ := aM ((by rw [hg]; exact Nat.ne_of_gt (IsS85.lt (show IsS85 w0 _ g s0_0 t229 t230 from sI85)) : gb231 ≠ g)); clear HO224 HI0 BK221 HK HB; rename_i HO224 HI0 BK221 HK HB BK231 GW231 GE231 NB221_231 NB231_221 NB0_231 NB231_0; clear hb hbox hg; have hnb134 := NB231_221.out; have hnc134 := NB221_231.out; have hnb135 := NB231_0.out; have hnc135 := NB0_231.out; obtain ⟨hcz136_0, hfz136_0, hcz136_1, hfz136_1, hcz136_2, hfz136_2, hcz136_3, hfz136_3, hcz136_4, hfz136_4, hcz136_5, hfz136_5⟩ := bk6 BK231.out) | ((with_reducible refine gate_callee (f := 76) rfl ?_); refine gL (some 16) rfl rfl Try.func76 (by kernel_rfl) rfl #[.pointer (some ⟨g, 0, none⟩), .int .i64 6] rfl ?_; (with_reducible refine (spec_l1Below.calls g s0_0 t229 t230 6 t232 t233 t234 w0 _ ?side1 ?side2 A5.out).mono ?_); (case side1 => exact sI85); (case side2 => exact (sB85 (B := w0.heap.size) (w0 := w0))); rintro e w137 ⟨rfl, hi, hb, hk⟩; refine ⟨_, rfl, ?_⟩; have _ := aM (KeepBut.blk hk (g' := gb221) (o := .cells #[.int .i64 0, .int .i64 0, .int .i64 0, .slice none 0 0, .slice none 0 0, .int .i64 0] 29 (0, 0)) (kF6 BK221.out NB221_231.out) NB221_0.out (by simp)); have _ := aM (Kd.R_mono (Kd.R_keep (IsS85.apart (show IsS85 w0 _ g s0_0 t229 t230 from sI85) (rF6 HO224.out BK231.out) (by decide)) hk (fun _ h => h.2)) (fun _ h => h.1)); have _ := aM (KeepBut.blk hk (g' := gb231) (o := .cells #[.int .i64 t225, .int .i64 (wrap64 (a1 + t228)), .int .i64 0, .slice none 0 0, .slice none 0 0, .int .i64 0] 29 (0, 0)) (kP6 BK231.out) NB231_0.out (by simp)); have _ := aM (KeepBut.trans (sG (w := w)) hk (.inl rfl)); have _ := aM (hb); have _ := aM (hi); clear BK221 HO224 BK231 HK HB HI0; rename_i BK221 HO224 BK231 HK HB HI0; (try clear hb); (try clear hk); (try clear hi); obtain ⟨hcz138_0, hfz138_0, hcz138_1, hfz138_1, hcz138_2, hfz138_2, hcz138_3, hfz138_3, hcz138_4, hfz138_4, hcz138_5, hfz138_5⟩ := bk6 BK231.out; have hnb139 := NB221_0.out; have hnc139 := NB0_221.out; obtain ⟨hcz140_0, hfz140_0, hcz140_1, hfz140_1, hcz140_2, hfz140_2, hcz140_3, hfz140_3, hcz140_4, hfz140_4, hcz140_5, hfz140_5⟩ := bk6 BK221.out))
       refine bodyPost_ret (results_cell_row rfl _ _ gb221 29 #[.int .i64 t225, .int .i64 (wrap64 (a1 + t228)), .int .i64 (wrap64 (1 + t232)), .slice none 0 0, .slice none 0 0, .int .i64 0] (0, 0) _ rfl (kX BK221.out) Try.underlying29 rfl (by kernel_rfl)) rfl ?_
       exact ⟨_, _, by first | rfl | (simp [errW_none, errW_some] <;> rfl) | (simp [*, errW_none, errW_some] <;> rfl), by first | exact Kd.R_nil _ _ _ _ _ | exact Kd.N_nil _ _ _ _ _ | exact Kd.V_nil _ _ _ _ _ | exact Kd.Q_nil _ _ _ _ _ | exact Kd.S_nil _ _ _ _ _, by first | exact Kd.R_nil _ _ _ _ _ | exact Kd.N_nil _ _ _ _ _ | exact Kd.V_nil _ _ _ _ _ | exact Kd.Q_nil _ _ _ _ _ | exact Kd.S_nil _ _ _ _ _, sI85, (sB85 (B := w0.heap.size) (w0 := w0)), (sG (w := w))⟩

      rw [if_pos c103] at H
      have c103b0 : (t225 == 23) = true := beq_iff_eq.mpr c103
      have c103b1 : (t225 != 23) = false := bne_eq_false_iff_eq.mpr c103
      clear c103
      replace H := Option.bind_eq_some_iff.mp H
      obtain ⟨⟨t263, t264, t265⟩, A1040, H⟩ := H
      (try dsimp only at H)
      have A104 := aM A1040
      clear A1040
      replace H := Option.bind_eq_some_iff.mp H
      obtain ⟨⟨t266, t267, t268⟩, A1050, H⟩ := H
      (try dsimp only at H)
      have A105 := aM A1050
      clear A1050
      replace H := Option.bind_eq_some_iff.mp H
      obtain ⟨⟨t269, t272, t273⟩, A1060, H⟩ := H
      (try dsimp only at H)
      have A106 := aM A1060
      clear A1060
      simp only [Option.some.injEq, Prod.mk.injEq] at H
      obtain ⟨rfl, rfl, rfl, rfl, rfl, rfl, rfl, rfl⟩ := H
      go_enter Try.func73, Try.ntmps73
      go_wp2_with (first | ((with_reducible refine gate_dst (N := 4) rfl ?_); refine box_event ?hg (N := 4) ?hd (cs := #[.int .i64 0, .int .i64 0, .int .i64 0, .slice none 0 0, .slice none 0 0, .int .i64 0]) (t := 29) ?hr ?_; (case hd => rfl); (case hg => rfl); (case hr => first | (go_simp; done) | (go_simp; rfl)); intro gb221 hg w107 hbox hb; have _ := aM (IsS85.below sI85 hb); have _ := aM (KeepBut.trans (sG (w := w)) (KeepBut.of_below hb g none) (.inl rfl)); have _ := aM (below_step (sB85 (B := w0.heap.size) (w0 := w0)) hb); have _ := aM (hbox); have _ := aM ((by rw [hg]; exact (keep_size (w := w) (g := g) (row := none) (sG (w := w))) : w.heap.size ≤ gb221)); have _ := aM ((Nat.le_trans HW0.out (by rw [hg]; exact (keep_size (w := w) (g := g) (row := none) (sG (w := w))) : w.heap.size ≤ gb221) : w0.heap.size ≤ gb221)); have _ := aM ((by rw [hg]; exact Nat.ne_of_lt (IsS85.lt (show IsS85 w0 _ g s0_0 s0_1 s0_2 from sI85)) : g ≠ gb221)); have _ := aM ((by rw [hg]; exact Nat.ne_of_gt (IsS85.lt (show IsS85 w0 _ g s0_0 s0_1 s0_2 from sI85)) : gb221 ≠ g)); clear HI0 HK HB; rename_i HI0 HK HB BK221 GW221 GE221 NB0_221 NB221_0; clear hb hbox hg) | ((with_reducible refine gate_dst (N := 8) rfl ?_); refine Kd.R_lit (Kd.int .i64) _ 3 ?hg (N := 8) ?hd (xs := ([1, 2, 3, 4, 5, 6, 15, 16, 22, 23, 3, 16] : List Int)) (inner := [.int .i64 1, .int .i64 2, .int .i64 3, .int .i64 4, .int .i64 5, .int .i64 6, .int .i64 15, .int .i64 16, .int .i64 22, .int .i64 23, .int .i64 3, .int .i64 16]) (ok := fun _ => True) (okp := fun _ => True) ?hr ?hp (fun _ hk => hk) trivial (Below.refl _ _) (Nat.le_refl _) (by simp) ?_; (case hd => rfl); (case hg => rfl); (case hr => first | (go_simp; done) | (go_simp; rfl)); (case hp => exact (Reps.one (show Kd.M (Kd.int .i64) _ _ _ 1 [.int .i64 1] from rfl) (Reps.one (show Kd.M (Kd.int .i64) _ _ _ 2 [.int .i64 2] from rfl) (Reps.one (show Kd.M (Kd.int .i64) _ _ _ 3 [.int .i64 3] from rfl) (Reps.one (show Kd.M (Kd.int .i64) _ _ _ 4 [.int .i64 4] from rfl) (Reps.one (show Kd.M (Kd.int .i64) _ _ _ 5 [.int .i64 5] from rfl) (Reps.one (show Kd.M (Kd.int .i64) _ _ _ 6 [.int .i64 6] from rfl) (Reps.one (show Kd.M (Kd.int .i64) _ _ _ 15 [.int .i64 15] from rfl) (Reps.one (show Kd.M (Kd.int .i64) _ _ _ 16 [.int .i64 16] from rfl) (Reps.one (show Kd.M (Kd.int .i64) _ _ _ 22 [.int .i64 22] from rfl) (Reps.one (show Kd.M (Kd.int .i64) _ _ _ 23 [.int .i64 23] from rfl) (Reps.one (show Kd.M (Kd.int .i64) _ _ _ 3 [.int .i64 3] from rfl) (Reps.one (show Kd.M (Kd.int .i64) _ _ _ 16 [.int .i64 16] from rfl) (Reps.none _ _)))))))))))))); intro v223 w108 ho109 hb hg_ hnew_; clear hg_ hnew_; (first | rw [← Ny222.out] at ho109 | (simp only [Int.reduceToNat] at ho109; rw [← Ny222.out] at ho109)); have _ := aM (Kd.R_lower ho109 (keep_size (w := w) (g := g) (row := none) (sG (w := w)))); have _ := aM (IsS85.below sI85 hb); have _ := aM (kB BK221.out hb); have _ := aM (KeepBut.trans (sG (w := w)) (KeepBut.of_below hb g none) (.inl rfl)); have _ := aM (below_step (sB85 (B := w0.heap.size) (w0 := w0)) hb); clear HI0 BK221 HK HB; rename_i HO224 HI0 BK221 HK HB; clear hb ho109; obtain ⟨Ao110, co110, eo110⟩ := Kd.R_slice HO224.out; subst eo110) | ((with_reducible refine gate_callee (f := 83) rfl ?_); refine gL (some 9) rfl rfl Try.func83 (by kernel_rfl) rfl #[.pointer (some ⟨g, 0, none⟩), .slice Ao110 y222.length co110] rfl ?_; (with_reducible refine (spec_l1Int.calls g s0_0 s0_1 s0_2 _ _ y222 t225 t226 t227 w0 _ ?side1 ?side2 ?side3 ?side4 ?side5 A3.out).mono ?_); (case side1 => exact sI85); (case side2 => exact (sB85 (B := w0.heap.size) (w0 := w0))); (case side3 => exact cR HO224.out); (case side4 => exact (Kd.R_reads' HO224.out).2.1); (case side5 => exact far_slice (IsS85.own_ne HI0.out HO224.out (by decide))); rintro e w111 ⟨rfl, hi, hb, hk⟩; refine ⟨_, rfl, ?_⟩; have _ := aM (KeepBut.blk hk (g' := gb221) (o := .cells #[.int .i64 0, .int .i64 0, .int .i64 0, .slice none 0 0, .slice none 0 0, .int .i64 0] 29 (0, 0)) (kA BK221.out) NB221_0.out (by simp)); have _ := aM (rK85 HO224.out hk); have _ := aM (KeepBut.trans (sG (w := w)) hk (.inl rfl)); have _ := aM (hb); have _ := aM (hi); clear BK221 HO224 HK HB HI0; rename_i BK221 HO224 HK HB HI0; (try clear hb); (try clear hk); (try clear hi)) | ((with_reducible refine gate_callee (f := 76) rfl ?_); refine gL (some 12) rfl rfl Try.func76 (by kernel_rfl) rfl #[.pointer (some ⟨g, 0, none⟩), .int .i64 12] rfl ?_; (with_reducible refine (spec_l1Below.calls g s0_0 t226 t227 12 t228 t229 t230 w0 _ ?side1 ?side2 A4.out).mono ?_); (case side1 => exact sI85); (case side2 => exact (sB85 (B := w0.heap.size) (w0 := w0))); rintro e w112 ⟨rfl, hi, hb, hk⟩; refine ⟨_, rfl, ?_⟩; have _ := aM (KeepBut.blk hk (g' := gb221) (o := .cells #[.int .i64 0, .int .i64 0, .int .i64 0, .slice none 0 0, .slice none 0 0, .int .i64 0] 29 (0, 0)) (kA BK221.out) NB221_0.out (by simp)); have _ := aM (rK85 HO224.out hk); have _ := aM (KeepBut.trans (sG (w := w)) hk (.inl rfl)); have _ := aM (hb); have _ := aM (hi); clear BK221 HO224 HK HB HI0; rename_i BK221 HO224 HK HB HI0; (try clear hb); (try clear hk); (try clear hi)) | ((with_reducible refine gate_dst (N := 5) rfl ?_); refine box_event ?hg (N := 5) ?hd (cs := #[.int .i64 0, .int .i64 0, .int .i64 0, .slice none 0 0, .slice none 0 0, .int .i64 0]) (t := 29) ?hr ?_; (case hd => rfl); (case hg => rfl); (case hr => first | (go_simp; done) | (go_simp; rfl)); intro gb231 hg w113 hbox hb; have _ := aM (rB HO224.out hb); have _ := aM (IsS85.below sI85 hb); have _ := aM (kB BK221.out hb); have _ := aM (KeepBut.trans (sG (w := w)) (KeepBut.of_below hb g none) (.inl rfl)); have _ := aM (below_step (sB85 (B := w0.heap.size) (w0 := w0)) hb); have _ := aM (hbox); have _ := aM ((by rw [hg]; exact (keep_size (w := w) (g := g) (row := none) (sG (w := w))) : w.heap.size ≤ gb231)); have _ := aM ((Nat.le_trans HW0.out (by rw [hg]; exact (keep_size (w := w) (g := g) (row := none) (sG (w := w))) : w.heap.size ≤ gb231) : w0.heap.size ≤ gb231)); have _ := aM (neL hg (kA BK221.out)); have _ := aM (neG hg (kA BK221.out)); have _ := aM ((by rw [hg]; exact Nat.ne_of_lt (IsS85.lt (show IsS85 w0 _ g s0_0 t229 t230 from sI85)) : g ≠ gb231)); have _ := aM ((by rw [hg]; exact Nat.ne_of_gt (IsS85.lt (show IsS85 w0 _ g s0_0 t229 t230 from sI85)) : gb231 ≠ g)); clear HO224 HI0 BK221 HK HB; rename_i HO224 HI0 BK221 HK HB BK231 GW231 GE231 NB221_231 NB231_221 NB0_231 NB231_0; clear hb hbox hg; have hnb114 := NB231_221.out; have hnc114 := NB221_231.out; have hnb115 := NB231_0.out; have hnc115 := NB0_231.out; obtain ⟨hcz116_0, hfz116_0, hcz116_1, hfz116_1, hcz116_2, hfz116_2, hcz116_3, hfz116_3, hcz116_4, hfz116_4, hcz116_5, hfz116_5⟩ := bk6 BK231.out) | ((with_reducible refine gate_callee (f := 76) rfl ?_); refine gL (some 16) rfl rfl Try.func76 (by kernel_rfl) rfl #[.pointer (some ⟨g, 0, none⟩), .int .i64 6] rfl ?_; (with_reducible refine (spec_l1Below.calls g s0_0 t229 t230 6 t232 t233 t234 w0 _ ?side1 ?side2 A5.out).mono ?_); (case side1 => exact sI85); (case side2 => exact (sB85 (B := w0.heap.size) (w0 := w0))); rintro e w117 ⟨rfl, hi, hb, hk⟩; refine ⟨_, rfl, ?_⟩; have _ := aM (KeepBut.blk hk (g' := gb221) (o := .cells #[.int .i64 0, .int .i64 0, .int .i64 0, .slice none 0 0, .slice none 0 0, .int .i64 0] 29 (0, 0)) (kF6 BK221.out NB221_231.out) NB221_0.out (by simp)); have _ := aM (Kd.R_mono (Kd.R_keep (IsS85.apart (show IsS85 w0 _ g s0_0 t229 t230 from sI85) (rF6 HO224.out BK231.out) (by decide)) hk (fun _ h => h.2)) (fun _ h => h.1)); have _ := aM (KeepBut.blk hk (g' := gb231) (o := .cells #[.int .i64 t225, .int .i64 (wrap64 (a1 + t228)), .int .i64 0, .slice none 0 0, .slice none 0 0, .int .i64 0] 29 (0, 0)) (kP6 BK231.out) NB231_0.out (by simp)); have _ := aM (KeepBut.trans (sG (w := w)) hk (.inl rfl)); have _ := aM (hb); have _ := aM (hi); clear BK221 HO224 BK231 HK HB HI0; rename_i BK221 HO224 BK231 HK HB HI0; (try clear hb); (try clear hk); (try clear hi); obtain ⟨hcz118_0, hfz118_0, hcz118_1, hfz118_1, hcz118_2, hfz118_2, hcz118_3, hfz118_3, hcz118_4, hfz118_4, hcz118_5, hfz118_5⟩ := bk6 BK231.out) | ((with_reducible refine gate_callee (f := 76) rfl ?_); refine gL (some 58) rfl rfl Try.func76 (by kernel_rfl) rfl #[.pointer (some ⟨g, 0, none⟩), .int .i64 12] rfl ?_; (with_reducible refine (spec_l1Below.calls g s0_0 t233 t234 12 t263 t264 t265 w0 _ ?side1 ?side2 A104.out).mono ?_); (case side1 => exact sI85); (case side2 => exact (sB85 (B := w0.heap.size) (w0 := w0))); rintro e w119 ⟨rfl, hi, hb, hk⟩; refine ⟨_, rfl, ?_⟩; have _ := aM (KeepBut.blk hk (g' := gb221) (o := .cells #[.int .i64 0, .int .i64 0, .int .i64 0, .slice none 0 0, .slice none 0 0, .int .i64 0] 29 (0, 0)) (kF1 BK221.out NB221_231.out) NB221_0.out (by simp)); have _ := aM (Kd.R_mono (Kd.R_keep (IsS85.apart (show IsS85 w0 _ g s0_0 t233 t234 from sI85) (rF1 HO224.out BK231.out) (by decide)) hk (fun _ h => h.2)) (fun _ h => h.1)); have _ := aM (KeepBut.blk hk (g' := gb231) (o := .cells #[.int .i64 t225, .int .i64 (wrap64 (a1 + t228)), .int .i64 (wrap64 (1 + t232)), .slice none 0 0, .slice none 0 0, .int .i64 0] 29 (0, 0)) (kX BK231.out) NB231_0.out (by simp)); have _ := aM (KeepBut.trans (sG (w := w)) hk (.inl rfl)); have _ := aM (hb); have _ := aM (hi); clear BK221 HO224 BK231 HK HB HI0; rename_i BK221 HO224 BK231 HK HB HI0; (try clear hb); (try clear hk); (try clear hi); obtain ⟨hcz120_0, hfz120_0, hcz120_1, hfz120_1, hcz120_2, hfz120_2, hcz120_3, hfz120_3, hcz120_4, hfz120_4, hcz120_5, hfz120_5⟩ := bk6 BK231.out) | ((with_reducible refine gate_callee (f := 76) rfl ?_); refine gL (some 63) rfl rfl Try.func76 (by kernel_rfl) rfl #[.pointer (some ⟨g, 0, none⟩), .int .i64 4] rfl ?_; (with_reducible refine (spec_l1Below.calls g s0_0 t264 t265 4 t266 t267 t268 w0 _ ?side1 ?side2 A105.out).mono ?_); (case side1 => exact sI85); (case side2 => exact (sB85 (B := w0.heap.size) (w0 := w0))); rintro e w121 ⟨rfl, hi, hb, hk⟩; refine ⟨_, rfl, ?_⟩; have _ := aM (KeepBut.blk hk (g' := gb221) (o := .cells #[.int .i64 0, .int .i64 0, .int .i64 0, .slice none 0 0, .slice none 0 0, .int .i64 0] 29 (0, 0)) (kF1 BK221.out NB221_231.out) NB221_0.out (by simp)); have _ := aM (Kd.R_mono (Kd.R_keep (IsS85.apart (show IsS85 w0 _ g s0_0 t264 t265 from sI85) (rF1 HO224.out BK231.out) (by decide)) hk (fun _ h => h.2)) (fun _ h => h.1)); have _ := aM (KeepBut.blk hk (g' := gb231) (o := .cells #[.int .i64 t225, .int .i64 (wrap64 (a1 + t228)), .int .i64 (wrap64 (1 + t232)), .slice none 0 0, .slice none 0 0, .int .i64 (wrap64 (a1 + t263))] 29 (0, 0)) (kX BK231.out) NB231_0.out (by simp)); have _ := aM (KeepBut.trans (sG (w := w)) hk (.inl rfl)); have _ := aM (hb); have _ := aM (hi); clear BK221 HO224 BK231 HK HB HI0; rename_i BK221 HO224 BK231 HK HB HI0; (try clear hb); (try clear hk); (try clear hi)) | ((with_reducible refine gate_callee (f := 85) rfl ?_); refine gL (some 65) rfl rfl Try.func85 (by kernel_rfl) rfl #[.pointer (some ⟨g, 0, none⟩), .int .i64 (wrap64 (1 + t266))] rfl ?_; (with_reducible refine (spec_l3List.calls k g s0_0 t267 t268 (wrap64 (1 + t266)) t269 t272 t273 w0 _ ?side1 ?side2 A106.out).mono ?_); (case side1 => exact sI85); (case side2 => exact (sB85 (B := w0.heap.size) (w0 := w0))); rintro e w122 ⟨v270, rfl, ho0, hi, hb, hk⟩; refine ⟨_, rfl, ?_⟩; have _ := aM (KeepBut.blk hk (g' := gb221) (o := .cells #[.int .i64 0, .int .i64 0, .int .i64 0, .slice none 0 0, .slice none 0 0, .int .i64 0] 29 (0, 0)) (kA BK221.out) NB221_0.out (by simp)); have _ := aM (rM (Kd.R_told (Kd.R_oldK (IsS85.apart (show IsS85 w0 _ g s0_0 t267 t268 from sI85) (rA HO224.out) (by decide)) hk) (Kd.R_base ho0))); have _ := aM (KeepBut.blk hk (g' := gb231) (o := .cells #[.int .i64 t225, .int .i64 (wrap64 (a1 + t228)), .int .i64 (wrap64 (1 + t232)), .slice none 0 0, .slice none 0 0, .int .i64 (wrap64 (a1 + t263))] 29 (0, 0)) (kA BK231.out) NB231_0.out (by simp)); have _ := aM (Kd.R_lower (Kd.R_new' ho0 (Kd.R_lt (rA HO224.out))) (keep_size (w := w) (g := g) (row := none) (sG (w := w)))); have _ := aM (KeepBut.trans (sG (w := w)) hk (.inl rfl)); have _ := aM (hb); have _ := aM (hi); clear BK221 HO224 BK231 HK HB HI0; rename_i BK221 HO224 BK231 HO271 HK HB HI0; (try clear hb); (try clear hk); (try clear hi); (try clear ho0); obtain ⟨Ao123, co123, eo123⟩ := Kd.R_slice HO271.out; subst eo123; obtain ⟨hcz124_0, hfz124_0, hcz124_1, hfz124_1, hcz124_2, hfz124_2, hcz124_3, hfz124_3, hcz124_4, hfz124_4, hcz124_5, hfz124_5⟩ := bk6 BK231.out; have hnb125 := NB221_0.out; have hnc125 := NB0_221.out; obtain ⟨hcz126_0, hfz126_0, hcz126_1, hfz126_1, hcz126_2, hfz126_2, hcz126_3, hfz126_3, hcz126_4, hfz126_4, hcz126_5, hfz126_5⟩ := bk6 BK221.out))
      refine bodyPost_ret (results_cell_row rfl _ _ gb221 29 #[.int .i64 t225, .int .i64 (wrap64 (a1 + t228)), .int .i64 (wrap64 (1 + t232)), .slice Ao123 t269.length co123, .slice none 0 0, .int .i64 (wrap64 (a1 + t263))] (0, 0) _ rfl (kX BK221.out) Try.underlying29 rfl (by kernel_rfl)) rfl ?_
      exact ⟨_, _, by first | rfl | (simp [errW_none, errW_some] <;> rfl) | (simp [*, errW_none, errW_some] <;> rfl), by (with_reducible repeat (first | apply Kd.R_alloc | apply Kd.R_drewN | apply Kd.R_drew)); exact Kd.R_mono (Kd.R_far (p := ⟨gb221, 5, none⟩) (Kd.R_far (p := ⟨gb221, 4, none⟩) (Kd.R_far (p := ⟨gb221, 3, none⟩) (Kd.R_far (p := ⟨gb221, 2, none⟩) (Kd.R_far (p := ⟨gb221, 1, none⟩) (Kd.R_far (p := ⟨gb221, 0, none⟩) (Kd.R_far (p := ⟨gb231, 3, none⟩) (Kd.R_types (Kd.R_types HO271.out BK231.out (by decide)) BK221.out (by decide)) (fun _ hk => hk.1.2) (.slice Ao123 t269.length co123)) (fun _ hk => hk.2) (.int .i64 t225)) (fun _ hk => hk.2) (.int .i64 (wrap64 (a1 + t228)))) (fun _ hk => hk.2) (.int .i64 (wrap64 (1 + t232)))) (fun _ hk => hk.2) (.slice Ao123 t269.length co123)) (fun _ hk => hk.2) (.slice none 0 0)) (fun _ hk => hk.2) (.int .i64 (wrap64 (a1 + t263)))) (fun _ hk => trivial), by first | exact Kd.R_nil _ _ _ _ _ | exact Kd.N_nil _ _ _ _ _ | exact Kd.V_nil _ _ _ _ _ | exact Kd.Q_nil _ _ _ _ _ | exact Kd.S_nil _ _ _ _ _, sI85, (sB85 (B := w0.heap.size) (w0 := w0)), (sG (w := w))⟩
end Go.Proofs.Yteoghpcgompajaa.PFnAsked
