/- What impl.putWords does with a list that is not empty: the bytes and all words behind them, in a row of their own. Condition: fewer than 2^45 elements in all. -/
import Derived.Test.YteoghpcgompajaaGPutWord
import Derived.Test.YteoghpcgompajaaL
namespace Go.Proofs.Yteoghpcgompajaa.G
open Go.Proofs.Yteoghpcgompajaa.K Go Go.RowKit Go.Proofs.YteoghpcgompajaaW.PrintWords Go.Proofs.YteoghpcgompajaaW.PrintLast Go.Proofs.YteoghpcgompajaaW.PrintMore
set_option linter.unusedVariables false
set_option linter.unusedSimpArgs false
/-- Words, high byte first. -/
def encW (l : List Int) : List Int := l.flatMap fun x => [x / 256 % 256, x % 256]
def accW (l0 l1 : List Int) (i : Nat) : List Int := l0 ++ encW (l1.take i)
theorem encW_length (l : List Int) : (encW l).length = 2 * l.length := by
  unfold encW
  induction l with
  | nil => rfl
  | cons a l ih => rw [List.flatMap_cons, List.length_append, ih]; simp; omega
theorem accW_succ {l0 l1 : List Int} {i : Nat} (hi : i < l1.length) : accW l0 l1 (i + 1) = accW l0 l1 i ++ [rd l1 (i : Int) / 256 % 256, rd l1 (i : Int) % 256] := by
  have e : rd l1 (i : Int) = l1[i] := by unfold rd; simp [List.getD, hi]
  unfold accW encW
  rw [List.take_succ_eq_append_getElem hi, List.flatMap_append, e, List.append_assoc]
  simp
theorem accW_length {l0 l1 : List Int} {i : Nat} (hi : i ≤ l1.length) : (accW l0 l1 i).length = l0.length + 2 * i := by
  unfold accW
  rw [List.length_append, encW_length, List.length_take]; omega
theorem putWord_some (l : List Int) (a : Int) (h : l.length < 70368744177664) : impl_PutWord.f l a = some (l ++ [a / 256 % 256, a % 256]) := by
  have h1 : ([] : List Int).length + l.length < 140737488355328 := by simp; omega
  have h2 : l.length + ([(a / 256) % 256, a % 256] : List Int).length < 140737488355328 := by simp; omega
  simp only [impl_PutWord.f, Option.bind_some, if_pos h1, List.nil_append, if_pos h2]
def impl_putWords.f (l0 : List Int) (l1 : List Int) : Option (List Int) := if l1.length = 0 then none else if l0.length + 2 * l1.length < 35184372088832 then some (l0 ++ encW l1) else none

set_option maxHeartbeats 8000000 in
set_option maxRecDepth 100000 in
theorem impl_putWords.calls (A0 : Option Addr) (c0 : Nat) (l0 : List Int) (A1 : Option Addr) (c1 : Nat) (l1 : List Int) (r : List Int) (w : World) (hr0 : Kd.C (Kd.int .u8) w A0 l0.length l0) (hc0 : l0.length ≤ c0) (hr1 : Kd.C (Kd.int .i64) w A1 l1.length l1) (hc1 : l1.length ≤ c1) (h : impl_putWords.f l0 l1 = some r) :
    Calls Try.prog 39 #[.slice A0 l0.length c0, .slice A1 l1.length c1] w fun e w' => ∃ v0_ : Value, e = .returned (v0_) ∧ Kd.R (Kd.int .u8) 5 w' w.heap.size (fun _ => True) v0_ r ∧ Below w.heap.size w w' := by
  have hne : ¬ l1.length = 0 := fun c => by unfold impl_putWords.f at h; rw [if_pos c] at h; exact absurd h (by simp)
  have hlt : l0.length + 2 * l1.length < 35184372088832 := by
    unfold impl_putWords.f at h
    rw [if_neg hne] at h
    by_cases c : l0.length + 2 * l1.length < 35184372088832
    · exact c
    · rw [if_neg c] at h; exact absurd h (by simp)
  obtain rfl : l0 ++ encW l1 = r := by
    unfold impl_putWords.f at h
    rw [if_neg hne, if_pos hlt] at h
    exact Option.some.inj h
  clear h
  have HR1 := Aside0.mk hr1
  have HL := Aside0.mk hlt
  have HNE := Aside0.mk hne
  have e0 : l0 = accW l0 l1 0 := by unfold accW encW; simp
  have HR0 := Aside0.mk hr0
  have HC0 := Aside0.mk hc0
  have HE0 := Aside0.mk e0
  clear hr0 hc0 hr1 hc1 hlt hne e0
  go_enter Try.func39, Try.ntmps39
  go_wp2
  go_loopg [0, 9] l1.length (fun kq v0 v9 w' => ∃ (x9 : Int) (A : Option Addr) (c : Nat), v9 = .int .i64 x9 ∧ v0 = .slice A (accW l0 l1 x9.toNat).length c ∧ Aside0 (0 ≤ x9) ∧ Aside0 (x9 + kq = l1.length) ∧ Aside0 (Kd.C (Kd.int .u8) w' A (accW l0 l1 x9.toNat).length (accW l0 l1 x9.toNat)) ∧ Aside0 ((accW l0 l1 x9.toNat).length ≤ c) ∧ Aside0 (0 < x9 → Kd.R (Kd.int .u8) 5 w' w.heap.size (fun _ => True) (.slice A (accW l0 l1 x9.toNat).length c) (accW l0 l1 x9.toNat)) ∧ Aside0 (Below w.heap.size w w'))
  case atStart =>
    refine ⟨0, A0, c0, rfl, ?_, ⟨by omega⟩, ⟨by omega⟩, ⟨?_⟩, ⟨?_⟩, ⟨fun h => absurd h (by omega)⟩, ⟨Below.refl _ _⟩⟩
    · rw [show ((0 : Int).toNat) = 0 from rfl, ← HE0.out]
    · rw [show ((0 : Int).toNat) = 0 from rfl, ← HE0.out]; exact HR0.out
    · rw [show ((0 : Int).toNat) = 0 from rfl, ← HE0.out]; exact HC0.out
  case round =>
    obtain ⟨x9, A, c, rfl, rfl, HA, HK1, HC, HCC, HOW, HB⟩ := hrel
    cases gk with
    | zero =>
      have c10 : decide (x9 < (l1.length : Int)) = false := decide_eq_false (by have := HK1.out; omega)
      have hx : accW l0 l1 x9.toNat = l0 ++ encW l1 := by unfold accW; rw [List.take_of_length_le (by have := HK1.out; omega)]
      have HO := Aside0.mk (HOW.out (by have := HK1.out; have := HNE.out; omega))
      have HX := Aside0.mk hx
      clear hx
      go_wp2
      go_ret
      exact ⟨_, rfl, HX.out ▸ HO.out, HB.out⟩
    | succ k1 =>
      have c10 : decide (x9 < (l1.length : Int)) = true := decide_eq_true (by have := HK1.out; omega)
      have p11 : 0 ≤ (x9 : Int) := HA.out
      have q11 : x9 < (l1.length : Int) := of_decide_eq_true c10
      obtain ⟨ad11, e11, hx11⟩ := Kd.at_int HR1.out x9 p11 q11
      cases e11
      have hlt : x9.toNat < l1.length := by omega
      have e1 : accW l0 l1 (x9.toNat + 1) = accW l0 l1 x9.toNat ++ [rd l1 x9 / 256 % 256, rd l1 x9 % 256] := by
        have h := accW_succ (l0 := l0) hlt
        rwa [show ((x9.toNat : Nat) : Int) = x9 by omega] at h
      have hlen := accW_length (l0 := l0) (l1 := l1) (i := x9.toNat) (by omega)
      have HPW := Aside0.mk (show impl_PutWord.f (accW l0 l1 x9.toNat) (rd l1 x9) = some (accW l0 l1 (x9.toNat + 1)) by
        rw [e1]; exact putWord_some _ _ (by have := HL.out; omega))
      clear e1 hlen hlt
      replace hx11 := (HB.out.cell (World.block_lt_of_cell? w _ hx11)).trans hx11
      replace p11 := eq_true p11
      replace q11 := eq_true q11
      go_wp2_with ((with_reducible refine gate_callee (f := 66) rfl ?_); refine goesL_ (some 15) rfl rfl Try.func66 (by kernel_rfl) rfl #[.slice A (accW l0 l1 x9.toNat).length c, .int .i64 (rd l1 x9)] rfl (by (try simp only [List.map_toArray, List.map_cons, List.map_nil]); first | done | rfl) ?_; refine (impl_PutWord.calls A c (accW l0 l1 x9.toNat) (rd l1 x9) (accW l0 l1 (x9.toNat + 1)) _ HC.out HCC.out HPW.out).mono ?_; rintro e w8 ⟨v1, rfl, ho, hb⟩; refine ⟨_, rfl, ?_⟩; have HO := Aside0.mk (Kd.R_lower ho (below_size HB.out)); have HB2 := Aside0.mk (below_step HB.out hb); clear ho hb; obtain ⟨Ao, co, eo⟩ := Kd.R_slice HO.out; subst eo)
      go_roundg k1
      case measure => have := HK1.out; omega
      case rel =>
        have ew : wrap64 (x9 + 1) = x9 + 1 := by unfold wrap64; have := HA.out; have := HK1.out; have := HL.out; omega
        have et : (x9 + 1).toNat = x9.toNat + 1 := by have := HA.out; omega
        refine ⟨x9 + 1, Ao, co, by first | rfl | rw [ew] | simp [ew], by rw [et], ⟨by have := HA.out; omega⟩, ⟨by have := HK1.out; omega⟩, ⟨?_⟩, ⟨?_⟩, ⟨fun _ => ?_⟩, ⟨HB2.out⟩⟩
        · rw [et]; exact (Kd.R_reads' HO.out).2.2
        · rw [et]; exact (Kd.R_reads' HO.out).2.1
        · rw [et]; exact HO.out
end Go.Proofs.Yteoghpcgompajaa.G
