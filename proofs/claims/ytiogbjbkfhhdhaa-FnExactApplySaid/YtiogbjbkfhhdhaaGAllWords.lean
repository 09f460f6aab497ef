/- What allWords does: it says whether all numbers of a slice are words. No condition. -/
import Derived.Test.YtiogbjbkfhhdhaaProg
import Derived.Test.YtiogbjbkfhhdhaaWMore
import Derived.WalkSpells
namespace Go.Proofs.Ytiogbjbkfhhdhaa.G
open Go.RowKit Go.Proofs.YtiogbjbkfhhdhaaW.PrintWords Go.Proofs.YtiogbjbkfhhdhaaW.PrintLast Go.Proofs.YtiogbjbkfhhdhaaW.PrintMore
set_option linter.unusedVariables false
set_option linter.unusedSimpArgs false

/-- Is a number a word? -/
def wordB (n : Int) : Bool := decide (0 ≤ n) && decide (n ≤ 65535)
theorem wordB_yes {n : Int} (h1 : 0 ≤ n) (h2 : n ≤ 65535) : wordB n = true := by simp [wordB, h1, h2]
theorem wordB_no {n : Int} (h : ¬ (0 ≤ n ∧ n ≤ 65535)) : wordB n = false := by
  simp only [wordB, Bool.and_eq_false_iff, decide_eq_false_iff_not]
  omega

set_option maxHeartbeats 1000000 in
theorem isWord_any (n : Int) (w : World) : Calls Try.prog 64 #[.int .i64 n] w fun e w' => e = .returned (.bool (wordB n)) ∧ w = w' := by
  by_cases h1 : 0 ≤ n
  · have d1 : decide (0 ≤ n) = true := decide_eq_true h1
    by_cases h2 : n ≤ 65535
    · have d2 : decide (n ≤ 65535) = true := decide_eq_true h2
      rw [wordB_yes h1 h2]
      go_enter Try.func64, Try.ntmps64
      go_wp2
      go_ret
      exact ⟨by first | rfl | (simp [*]; done), rfl⟩
    · have d2 : decide (n ≤ 65535) = false := decide_eq_false h2
      rw [wordB_no (fun h => h2 h.2)]
      go_enter Try.func64, Try.ntmps64
      go_wp2
      go_ret
      exact ⟨by first | rfl | (simp [*]; done), rfl⟩
  · have d1 : decide (0 ≤ n) = false := decide_eq_false h1
    rw [wordB_no (fun h => h1 h.1)]
    go_enter Try.func64, Try.ntmps64
    go_wp2
    go_ret
    exact ⟨by first | rfl | (simp [*]; done), rfl⟩

set_option maxHeartbeats 1000000 in
theorem allWords1_any (n : Int) (w : World) : Calls Try.prog 67 #[.int .i64 n] w fun e w' => e = .returned (.bool (!wordB n)) ∧ w = w' := by
  go_enter Try.func67, Try.ntmps67
  go_wp2_with (go_at_call 64; refine (isWord_any _ _).mono ?_; rintro e w' ⟨rfl, rfl⟩)
  go_ret
  exact ⟨rfl, rfl⟩

def IdxPost (l : List Int) (w : World) (e : Ending) (w' : World) : Prop := ∃ r : Int, e = .returned (.int .i64 r) ∧ decide (0 ≤ r) = !(l.all wordB) ∧ Drawn0 w w'

theorem all_from {l : List Int} {i : Nat} (hi : i ≤ l.length) : (l.drop i).all wordB = (l.drop i).all wordB := rfl

set_option maxHeartbeats 4000000 in
set_option maxRecDepth 100000 in
theorem indexFunc_any (A0 : Option Addr) (c0 : Nat) (l0 : List Int) (w : World) (hr0 : Kd.C (Kd.int .i64) w A0 l0.length l0) :
    Calls Try.prog 68 #[.slice A0 l0.length c0, .func (Fn.func 67) #[] #[]] w (IdxPost l0 w) := by
  have HR0 := Aside0.mk hr0
  have HL := Aside0.mk hr0.2.1
  clear hr0
  go_enter Try.func68, Try.ntmps68
  go_wp2
  go_loopg [8] l0.length (fun kq v8 w' => ∃ (x8 : Int), v8 = .int .i64 x8 ∧ Aside0 (0 ≤ x8) ∧ Aside0 (x8 + kq = l0.length) ∧ Aside0 ((l0.take x8.toNat).all wordB = true) ∧ Drawn0 w w')
  case atStart => exact ⟨0, rfl, ⟨by omega⟩, ⟨by omega⟩, ⟨by simp⟩, Drawn0.refl _⟩
  case round =>
    obtain ⟨x8, rfl, HA, HK1, HT, ⟨m1, rfl⟩⟩ := hrel
    cases gk with
    | zero =>
      have c3b0 : decide (x8 < (l0.length : Int)) = false := decide_eq_false (by have := HK1.out; omega)
      have e1 : l0.all wordB = true := by
        have h := HT.out
        rwa [List.take_of_length_le (by have := HK1.out; omega)] at h
      have HE := Aside0.mk e1
      clear e1
      go_wp2
      go_ret
      exact ⟨-1, rfl, by rw [HE.out]; rfl, Drawn0.step (Drawn0.refl _) _⟩
    | succ k1 =>
      have c3b0 : decide (x8 < (l0.length : Int)) = true := decide_eq_true (by have := HK1.out; omega)
      have p110 : 0 ≤ (x8 : Int) := HA.out
      have q110 : x8 < (l0.length : Int) := of_decide_eq_true c3b0
      obtain ⟨ad110, e110, hx110_0⟩ := Kd.at_int HR0.out x8 p110 q110
      cases e110
      have hlt : x8.toNat < l0.length := by omega
      have eg : rd l0 x8 = l0[x8.toNat] := by unfold rd; simp [List.getD, hlt]
      have e2 : (l0.take (x8.toNat + 1)).all wordB = ((l0.take x8.toNat).all wordB && wordB (rd l0 x8)) := by
        rw [List.take_succ_eq_append_getElem hlt, List.all_append, eg]; simp
      have e3 : wordB (rd l0 x8) = false → l0.all wordB = false := fun h => by
        rw [List.all_eq_false]
        exact ⟨l0[x8.toNat], List.getElem_mem _, by rw [← eg, h]; decide⟩
      have E2 := Aside0.mk e2
      have E3 := Aside0.mk e3
      clear e2 e3 eg hlt
      by_cases hw : wordB (rd l0 x8) = true
      · have HW := Aside0.mk hw
        have hn : (!wordB (rd l0 x8)) = false := by rw [hw]; rfl
        clear hw
        replace p110 := eq_true p110
        replace q110 := eq_true q110
        go_wp2_with (go_at_call 67; refine (allWords1_any _ _).mono ?_; rintro e w' ⟨rfl, rfl⟩)
        go_roundg k1
        case measure => have := HK1.out; omega
        case rel =>
          have hx : x8 + 1 ≤ 9223372036854775807 := by have := HK1.out; have := HL.out; omega
          have ew : wrap64 (x8 + 1) = x8 + 1 := by unfold wrap64; have := HA.out; omega
          refine ⟨x8 + 1, by first | rfl | rw [ew] | simp [ew], ⟨by have := HA.out; omega⟩, ⟨by have := HK1.out; omega⟩, ⟨?_⟩, by repeat (first | exact Drawn0.refl _ | apply Drawn0.step)⟩
          rw [show (x8 + 1).toNat = x8.toNat + 1 from by have := HA.out; omega, E2.out, HT.out, HW.out]; rfl
      · have hw2 : wordB (rd l0 x8) = false := by simpa using hw
        have HW := Aside0.mk hw2
        have hn : (!wordB (rd l0 x8)) = true := by rw [hw2]; rfl
        clear hw hw2
        replace p110 := eq_true p110
        replace q110 := eq_true q110
        go_wp2_with (go_at_call 67; refine (allWords1_any _ _).mono ?_; rintro e w' ⟨rfl, rfl⟩)
        go_ret
        exact ⟨x8, rfl, by rw [E3.out HW.out, decide_eq_true HA.out]; rfl, by repeat (first | exact Drawn0.refl _ | apply Drawn0.step)⟩

set_option maxHeartbeats 1000000 in
theorem containsFunc_any (A0 : Option Addr) (c0 : Nat) (l0 : List Int) (w : World) (hr0 : Kd.C (Kd.int .i64) w A0 l0.length l0) :
    Calls Try.prog 66 #[.slice A0 l0.length c0, .func (Fn.func 67) #[] #[]] w fun e w' => e = .returned (.bool (!(l0.all wordB))) ∧ Drawn0 w w' := by
  have HR0 := Aside0.mk hr0
  clear hr0
  go_enter Try.func66, Try.ntmps66
  go_wp2_with (go_at_call 68; refine (indexFunc_any _ _ l0 _ HR0.out).mono ?_; rintro e w' ⟨r, rfl, hd, hw⟩; have HD := Aside0.mk hd; have HW := Aside0.mk hw; clear hd hw)
  go_ret
  exact ⟨by rw [← HD.out]; rfl, HW.out⟩

def impl_allWords.f (l0 : List Int) : Option (Bool) := some (l0.all wordB)
set_option maxHeartbeats 1000000 in
theorem impl_allWords.calls (A0 : Option Addr) (c0 : Nat) (l0 : List Int) (r : Bool) (w : World) (hr0 : Kd.C (Kd.int .i64) w A0 l0.length l0) (hc0 : l0.length ≤ c0) (h : impl_allWords.f l0 = some r) :
    Calls Try.prog 60 #[.slice A0 l0.length c0] w fun e w' => e = .returned (.bool r) ∧ Drawn0 w w' := by
  obtain rfl := Option.some.inj h
  have HR0 := Aside0.mk hr0
  clear hr0 h
  go_enter Try.func60, Try.ntmps60
  go_wp2_with (go_at_call 66; refine (containsFunc_any _ _ l0 _ HR0.out).mono ?_; rintro e w' ⟨rfl, hw⟩; have HW := Aside0.mk hw; clear hw)
  go_ret
  exact ⟨by first | rfl | simp, HW.out⟩
end Go.Proofs.Ytiogbjbkfhhdhaa.G
