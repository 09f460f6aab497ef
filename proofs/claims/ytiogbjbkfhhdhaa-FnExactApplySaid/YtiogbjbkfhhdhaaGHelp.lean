/- What the exact laws ask their own helpers: sizes, copies, comparisons, marks of rows. No condition. -/
import Derived.Test.YtiogbjbkfhhdhaaGOwn
import Derived.Test.YtiogbjbkfhhdhaaGBox
import Derived.Test.YtiogbjbkfhhdhaaGSpW
import Derived.Test.YtiogbjbkfhhdhaaC
namespace Go.Proofs.Ytiogbjbkfhhdhaa.G
open Go.Proofs.Ytiogbjbkfhhdhaa.K Go Go.RowKit Go.Proofs.YtiogbjbkfhhdhaaW.PrintWords Go.Proofs.YtiogbjbkfhhdhaaW.PrintLast Go.Proofs.YtiogbjbkfhhdhaaW.PrintMore Go.Proofs.Ytiogbjbkfhhdhaa.PlainC
set_option linter.unusedVariables false
set_option linter.unusedSimpArgs false
theorem over_app {α : Type} : ∀ (ys xs pre : List α), xs.length = ys.length → over (pre ++ xs) pre.length ys = pre ++ ys
  | [], [], pre, _ => rfl
  | y :: ys, x :: xs, pre, h => by
    show over ((pre ++ x :: xs).set pre.length y) (pre.length + 1) ys = _
    have e : (pre ++ x :: xs).set pre.length y = (pre ++ [y]) ++ xs := by simp
    have := over_app ys xs (pre ++ [y]) (by simpa using h)
    rw [List.length_append, List.length_singleton] at this
    rw [e, this, List.append_assoc, List.singleton_append]
theorem over_all {α : Type} {ys xs : List α} (h : xs.length = ys.length) : over xs 0 ys = ys := over_app ys xs [] h
def SzPost (n : Nat) (left : Int) (w : World) (e : Ending) (w' : World) : Prop := ∃ r : Int, e = .returned (.int .i64 r) ∧ (0 ≤ r → r = left - n) ∧ r ≤ left ∧ Below w.heap.size w w'
/-- A row is made. -/
theorem mkBW {ops : Array Oper} {Q : Exit → Act → World → Prop} {o : Oper} {a : Act} {w0 w : World} {L : List It} {rest : List Oper} (N : Tmp) (n : Nat) (h9 : n ≤ 2000000) (H : Own w0 w L) (h : ∀ A c w1, Aside0 (Own w0 w1 (rb (.slice A n c) (List.replicate n false) :: L)) → wpList Try.prog ops Q rest (a.put (some N) (.slice A n c)) w1) {x : Operand}
    (hN : o.dst = some N := by rfl) (ho : o.op = .makeSlice 22 x x := by rfl) (hx : a.eval x = .int .i64 (n : Int) := by rfl) (hg : o.guard = none := by rfl) : wpList Try.prog ops Q (o :: rest) a w :=
  wpList_step (fun K hK => by
    have hw : Region.wanted o (yielded ops a.tmps) = true := by simp [Region.wanted, hg]
    refine Kd.R_make_step (w0 := w) Kd.bool w.heap.size 4 hw hN 22 x x ho (n : Int) hx hx Try.underlying22 (.bool false) 1 zinfoB rfl (by decide) (by omega) false (ok := fun _ => True) (okp := fun _ => True) rfl (fun _ hk => hk) trivial (by omega) (by omega) (Below.refl _ _) (Nat.le_refl _) ?_
    intro v1 w1 hr hb hg hat
    rw [Int.toNat_natCast] at hr
    obtain ⟨A, c, rfl⟩ := Kd.R_slice hr
    have e : (List.replicate n false).length = n := List.length_replicate
    have h1 := H.rb hb hr
    rw [e] at h1 ⊢
    rw [hN]
    exact hK _ _ (h A c w1 (aM h1)))
theorem Own.cBn {w0 w : World} {L : List It} (H : Own w0 w L) (i : Nat) {A : Option Addr} {n c : Nat} {xs : List Bool} (hi : L[i]? = some (G.rb (.slice A n c) xs) := by rfl) : Kd.C Kd.bool w A n xs := by
  obtain ⟨e, _, h⟩ := Kd.R_reads' (H.get i hi)
  subst e
  exact h
set_option maxHeartbeats 4000000 in
set_option maxRecDepth 100000 in
theorem szB_own {w : World} {A : Option Addr} {n c : Nat} (hn : n ≤ 9223372036854775807) {left : Int} (h0 : 0 ≤ left) (h1 : left ≤ 1048576) : Calls Try.prog 28 #[.slice A n c, .int .i64 left] w (SzPost n left w) := by
  have hw : IntKind.i64.wrap (left - (n : Int)) = left - (n : Int) := by rw [i64wrap, w64 (by omega) (by omega)]
  go_enter Try.func28, Try.ntmps28
  by_cases hr : left - (n : Int) < 0
  · have d1 : decide (left - (n : Int) < 0) = true := decide_eq_true hr
    go_wp2
    go_ret
    exact ⟨-1, rfl, by omega, by omega, Below.refl _ _⟩
  · have d1 : decide (left - (n : Int) < 0) = false := decide_eq_false hr
    go_wp2
    go_ret
    exact ⟨left - n, rfl, fun _ => rfl, by omega, Below.refl _ _⟩
set_option maxHeartbeats 4000000 in
set_option maxRecDepth 100000 in
theorem toB_own {w : World} {A : Option Addr} {c : Nat} {l : List Bool} (hC : Kd.C Kd.bool w A l.length l) (hm : l.length ≤ 1048576) : Calls Try.prog 37 #[.slice A l.length c] w fun e w' => ∃ A' c', e = .returned (.slice A' l.length c') ∧ Own w w' [rb (.slice A' l.length c') l] := by
  have HC := aM hC
  have HM := aM hm
  have H := aM (Own.nil w)
  clear hC hm
  go_enter Try.func37, Try.ntmps37
  go_wp2_with ((with_reducible refine nD 7 ?_); refine mkBW 7 l.length (by have := HM.out; omega) H.out ?_; clear H; intro A' c' _ H)
  go_loopg [4] (l.length + 1) (fun kq v4 w' => ∃ i : Nat, v4 = .int .i64 (i : Int) ∧ Aside0 (i ≤ l.length ∧ kq + i = l.length + 1) ∧ Aside0 (Own w w' [rb (.slice A' l.length c') (over (List.replicate l.length false) 0 (l.take i))]))
  case atStart => exact ⟨0, rfl, ⟨by omega⟩, aM (by rw [List.take_zero]; exact H.out)⟩
  case round =>
    clear H
    obtain ⟨i, rfl, HI, H⟩ := hrel
    by_cases hlt : i < l.length
    · have d1 : decide ((i : Int) < (l.length : Int)) = true := decide_eq_true (by omega)
      have i0 : 0 ≤ (i : Int) := by omega
      have i1 : (i : Int) < (l.length : Int) := by omega
      have hw : IntKind.i64.wrap ((i : Int) + 1) = ((i + 1 : Nat) : Int) := (by have := HM.out; rw [i64wrap, w64 (by omega) (by omega)]; omega)
      have HL := aM (show (over (List.replicate l.length false) 0 (l.take i)).length = l.length from (over_length _ _ _).trans List.length_replicate)
      obtain ⟨q, rfl⟩ := row0B (show (rb (.slice A' l.length c') _).P _ from H.out.get 0 rfl) (by rw [HL.out]; omega)
      obtain ⟨ad, e, hcell⟩ := Kd.at_bool (H.out.arg HC.out) i i0 i1
      subst e
      rw [Int.toNat_natCast] at hcell
      go_wp2_with (refine seLB 0 i (rdOf false l i) H.out rfl HL.out (by rw [HL.out]; exact hlt) ?_; clear H; intro w1 H)
      go_roundg (gk - 1)
      case measure => have := HI.out; omega
      case rel =>
        refine ⟨i + 1, rfl, ⟨by have := HI.out; omega⟩, aM ?_⟩
        have h := H.out
        rw [List.take_add_one, List.getElem?_eq_getElem hlt, Option.toList_some, over_snoc, List.length_take, Nat.min_eq_left (by omega), Nat.zero_add, ← rdOf_get (d := false) hlt]
        exact h
    · have d1 : decide ((i : Int) < (l.length : Int)) = false := decide_eq_false (by omega)
      go_wp2
      go_ret
      exact ⟨A', c', rfl, by have h := H.out; rw [List.take_of_length_le (by omega), over_all (by simp)] at h; exact h⟩
set_option maxHeartbeats 4000000 in
set_option maxRecDepth 100000 in
theorem eqB_own {w : World} {A B : Option Addr} {n c d : Nat} {l : List Bool} (hA : Kd.C Kd.bool w A n l) (hB : Kd.C Kd.bool w B n l) (hm : n ≤ 1048576) : Calls Try.prog 47 #[.slice A n c, .slice B n d] w fun e w' => e = .returned (.bool true) ∧ Below w.heap.size w w' := by
  have HC := aM (And.intro hA hB)
  have HM := aM hm
  have H := aM (Own.nil w)
  clear hA hB hm
  go_enter Try.func47, Try.ntmps47
  have e0 : decide ((n : Int) = (n : Int)) = true := decide_eq_true rfl
  go_wp2
  go_loopg [5] (n + 1) (fun kq v5 w' => ∃ i : Nat, v5 = .int .i64 (i : Int) ∧ Aside0 (i ≤ n ∧ kq + i = n + 1) ∧ Aside0 (Own w w' []))
  case atStart => exact ⟨0, rfl, ⟨by omega⟩, H⟩
  case round =>
    clear H
    obtain ⟨i, rfl, HI, H⟩ := hrel
    by_cases hlt : i < n
    · have d1 : decide ((i : Int) < (n : Int)) = true := decide_eq_true (by omega)
      have i0 : 0 ≤ (i : Int) := by omega
      have i1 : (i : Int) < (n : Int) := by omega
      have hw : IntKind.i64.wrap ((i : Int) + 1) = ((i + 1 : Nat) : Int) := (by have := HM.out; rw [i64wrap, w64 (by omega) (by omega)]; omega)
      obtain ⟨ad, e, hcell⟩ := Kd.at_bool (H.out.arg HC.out.1) i i0 i1
      subst e
      clear hcell
      obtain ⟨ae, e, hcell⟩ := Kd.at_bool (H.out.arg HC.out.2) i i0 i1
      subst e
      clear hcell
      go_upto_region 6 with fail
      refine rgI [] 9 H.out ?_
      clear H
      intro w_ H
      have HL := aM (H.out.hasI [])
      refine pO 0 17 ?_
      refine pO 1 18 ?_
      refine pO 2 19 ?_
      refine tO 3 20 (fun w' => w'.cell? (ad.add i) = some (.bool (rdOf false l (i : Int)))) (fun w' s => by obtain ⟨ad', e, hc⟩ := Kd.at_bool (s.arg HC.out.1) i i0 i1; cases e; rw [Int.toNat_natCast] at hc; exact hc) HL.out ?_
      refine pO 4 21 ?_
      refine pO 5 22 ?_
      refine pO 6 23 ?_
      refine tO 7 24 (fun w' => w'.cell? (ae.add i) = some (.bool (rdOf false l (i : Int)))) (fun w' s => by obtain ⟨ad', e, hc⟩ := Kd.at_bool (s.arg HC.out.2) i i0 i1; cases e; rw [Int.toNat_natCast] at hc; exact hc) HL.out ?_
      refine pO 8 25 ?_
      clear HL
      refine done_ (by kernel_rfl) ?_
      (try simp only [bne_self_eq_false, ne_eq, not_true_eq_false, decide_false])
      go_wp2
      go_roundg (gk - 1)
      case measure => have := HI.out; omega
      case rel => exact ⟨i + 1, rfl, ⟨by have := HI.out; omega⟩, H⟩
    · have d1 : decide ((i : Int) < (n : Int)) = false := decide_eq_false (by omega)
      go_wp2
      go_ret
      exact ⟨rfl, H.out.below⟩
set_option maxHeartbeats 4000000 in
set_option maxRecDepth 100000 in
theorem markB_own {w0 w : World} {L : List It} (H0 : Own w0 w L) (r : Nat) {A : Option Addr} {n c : Nat} {xs : List Bool} (hr : L[r]? = some (rb (.slice A n c) xs)) {k : Int} (h0 : 0 ≤ k) (hk : k + n ≤ 4611686018427387904) : Calls Try.prog 49 #[.slice A n c, .int .i64 k] w fun e w' => e = .returned (.int .i64 (k + n)) ∧ Own w0 w' (L.set r (rb (.slice A n c) (marks markB k n))) := by
  have HR := aM hr
  have HN := aM (show xs.length = n from (Kd.R_reads' (H0.get r hr)).1.symm)
  have HM := aM (And.intro h0 hk)
  have H := aM H0
  clear hr h0 hk H0
  go_enter Try.func49, Try.ntmps49
  go_wp2
  go_loopg [1, 5] (n + 1) (fun kq v1 v5 w' => ∃ i : Nat, v1 = .int .i64 (k + (i : Int)) ∧ v5 = .int .i64 (i : Int) ∧ Aside0 (i ≤ n ∧ kq + i = n + 1) ∧ Aside0 (Own w0 w' (L.set r (rb (.slice A n c) (over xs 0 (marks markB k i))))))
  case atStart => exact ⟨0, by simp, rfl, ⟨by omega⟩, aM (by show Own w0 w (L.set r (rb _ xs)); rw [set_same_w HR.out]; exact H.out)⟩
  case round =>
    clear H
    obtain ⟨i, rfl, rfl, HI, H⟩ := hrel
    by_cases hlt : i < n
    · have d1 : decide ((i : Int) < (n : Int)) = true := decide_eq_true (by omega)
      have i0 : 0 ≤ (i : Int) := by omega
      have i1 : (i : Int) < (n : Int) := by omega
      have hw : IntKind.i64.wrap ((i : Int) + 1) = ((i + 1 : Nat) : Int) := (by have := HM.out; rw [i64wrap, w64 (by omega) (by omega)]; omega)
      have hw2 : IntKind.i64.wrap (k + (i : Int) + 1) = k + ((i + 1 : Nat) : Int) := (by have := HM.out; rw [i64wrap, w64 (by omega) (by omega)]; omega)
      have HL := aM (show (over xs 0 (marks markB k i)).length = n from (over_length _ _ _).trans HN.out)
      obtain ⟨q, rfl⟩ := row0B (show (rb (.slice A n c) _).P _ from H.out.get r (gS HR.out _)) (by rw [HL.out]; omega)
      go_wp2_with (refine seLB r i _ H.out (gS HR.out _) HL.out (by rw [HL.out]; exact hlt) ?_; clear H; intro w1 H)
      go_roundg (gk - 1)
      case measure => have := HI.out; omega
      case rel =>
        refine ⟨i + 1, rfl, rfl, ⟨by have := HI.out; omega⟩, aM ?_⟩
        have h := H.out
        rw [List.set_set] at h
        rw [marks_succ, over_snoc, marks_length, Nat.zero_add]
        rw [show markB (k + (i : Int)) = (Int.tmod (k + (i : Int)) 3 == 0) from by have := HM.out; unfold markB; rw [tmod_pos (by omega)]]
        exact h
    · have d1 : decide ((i : Int) < (n : Int)) = false := decide_eq_false (by omega)
      go_wp2
      go_ret
      have hi : i = n := by have := HI.out; omega
      subst hi
      exact ⟨rfl, by have h := H.out; rw [over_all (by rw [marks_length]; exact HN.out)] at h; exact h⟩
set_option maxHeartbeats 4000000 in
set_option maxRecDepth 100000 in
theorem heldB_own {w : World} {A : Option Addr} {n c : Nat} {k : Int} (hC : Kd.C Kd.bool w A n (marks markB k n)) (h0 : 0 ≤ k) (hk : k + n ≤ 4611686018427387904) : Calls Try.prog 51 #[.slice A n c, .int .i64 k] w fun e w' => e = .returned (.int .i64 (k + n)) ∧ Below w.heap.size w w' := by
  have HC := aM hC
  have HM := aM (And.intro h0 hk)
  have H := aM (Own.nil w)
  clear hC h0 hk
  go_enter Try.func51, Try.ntmps51
  go_wp2
  go_loopg [1, 5] (n + 1) (fun kq v1 v5 w' => ∃ i : Nat, v1 = .int .i64 (k + (i : Int)) ∧ v5 = .int .i64 (i : Int) ∧ Aside0 (i ≤ n ∧ kq + i = n + 1) ∧ Aside0 (Own w w' []))
  case atStart => exact ⟨0, by simp, rfl, ⟨by omega⟩, H⟩
  case round =>
    clear H
    obtain ⟨i, rfl, rfl, HI, H⟩ := hrel
    by_cases hlt : i < n
    · have d1 : decide ((i : Int) < (n : Int)) = true := decide_eq_true (by omega)
      have i0 : 0 ≤ (i : Int) := by omega
      have i1 : (i : Int) < (n : Int) := by omega
      have hw : IntKind.i64.wrap ((i : Int) + 1) = ((i + 1 : Nat) : Int) := (by have := HM.out; rw [i64wrap, w64 (by omega) (by omega)]; omega)
      have hw2 : IntKind.i64.wrap (k + (i : Int) + 1) = k + ((i + 1 : Nat) : Int) := (by have := HM.out; rw [i64wrap, w64 (by omega) (by omega)]; omega)
      have hg : rdOf false (marks markB k n) (i : Int) = markB (k + (i : Int)) := by rw [rdOf_get (d := false) (by rw [marks_length]; exact hlt), marks_get _ _ _ _ hlt]
      obtain ⟨ad, e, hcell⟩ := Kd.at_bool (H.out.arg HC.out) i i0 i1
      subst e
      rw [Int.toNat_natCast, hg] at hcell
      clear hg
      have hm : (Int.tmod (k + (i : Int)) 3 == 0) = markB (k + (i : Int)) := by have := HM.out; unfold markB; rw [tmod_pos (by omega)]
      have hn : (markB (k + (i : Int)) != markB (k + (i : Int))) = false := bne_self_eq_false _
      go_wp2
      go_roundg (gk - 1)
      case measure => have := HI.out; omega
      case rel => exact ⟨i + 1, rfl, rfl, ⟨by have := HI.out; omega⟩, H⟩
    · have d1 : decide ((i : Int) < (n : Int)) = false := decide_eq_false (by omega)
      go_wp2
      go_ret
      have hi : i = n := by have := HI.out; omega
      subst hi
      exact ⟨rfl, H.out.below⟩
/-- A row is made. -/
theorem mkIW {ops : Array Oper} {Q : Exit → Act → World → Prop} {o : Oper} {a : Act} {w0 w : World} {L : List It} {rest : List Oper} (N : Tmp) (n : Nat) (h9 : n ≤ 2000000) (H : Own w0 w L) (h : ∀ A c w1, Aside0 (Own w0 w1 (ri (.slice A n c) (List.replicate n (0 : Int)) :: L)) → wpList Try.prog ops Q rest (a.put (some N) (.slice A n c)) w1) {x : Operand}
    (hN : o.dst = some N := by rfl) (ho : o.op = .makeSlice 23 x x := by rfl) (hx : a.eval x = .int .i64 (n : Int) := by rfl) (hg : o.guard = none := by rfl) : wpList Try.prog ops Q (o :: rest) a w :=
  wpList_step (fun K hK => by
    have hw : Region.wanted o (yielded ops a.tmps) = true := by simp [Region.wanted, hg]
    refine Kd.R_make_step (w0 := w) (Kd.int .i64) w.heap.size 3 hw hN 23 x x ho (n : Int) hx hx Try.underlying23 (.int .i64 0) 8 zinfoI rfl (by decide) (by omega) (0 : Int) (ok := fun _ => True) (okp := fun _ => True) rfl (fun _ hk => hk) trivial (by omega) (by omega) (Below.refl _ _) (Nat.le_refl _) ?_
    intro v1 w1 hr hb hg hat
    rw [Int.toNat_natCast] at hr
    obtain ⟨A, c, rfl⟩ := Kd.R_slice hr
    have e : (List.replicate n (0 : Int)).length = n := List.length_replicate
    have h1 := H.ri hb hr
    rw [e] at h1 ⊢
    rw [hN]
    exact hK _ _ (h A c w1 (aM h1)))
theorem Own.cIn {w0 w : World} {L : List It} (H : Own w0 w L) (i : Nat) {A : Option Addr} {n c : Nat} {xs : List Int} (hi : L[i]? = some (G.ri (.slice A n c) xs) := by rfl) : Kd.C (Kd.int .i64) w A n xs := by
  obtain ⟨e, _, h⟩ := Kd.R_reads' (H.get i hi)
  subst e
  exact h
set_option maxHeartbeats 4000000 in
set_option maxRecDepth 100000 in
theorem szI_own {w : World} {A : Option Addr} {n c : Nat} (hn : n ≤ 9223372036854775807) {left : Int} (h0 : 0 ≤ left) (h1 : left ≤ 1048576) : Calls Try.prog 29 #[.slice A n c, .int .i64 left] w (SzPost n left w) := by
  have hw : IntKind.i64.wrap (left - (n : Int)) = left - (n : Int) := by rw [i64wrap, w64 (by omega) (by omega)]
  go_enter Try.func29, Try.ntmps29
  by_cases hr : left - (n : Int) < 0
  · have d1 : decide (left - (n : Int) < 0) = true := decide_eq_true hr
    go_wp2
    go_ret
    exact ⟨-1, rfl, by omega, by omega, Below.refl _ _⟩
  · have d1 : decide (left - (n : Int) < 0) = false := decide_eq_false hr
    go_wp2
    go_ret
    exact ⟨left - n, rfl, fun _ => rfl, by omega, Below.refl _ _⟩
set_option maxHeartbeats 4000000 in
set_option maxRecDepth 100000 in
theorem toI_own {w : World} {A : Option Addr} {c : Nat} {l : List Int} (hC : Kd.C (Kd.int .i64) w A l.length l) (hm : l.length ≤ 1048576) : Calls Try.prog 38 #[.slice A l.length c] w fun e w' => ∃ A' c', e = .returned (.slice A' l.length c') ∧ Own w w' [ri (.slice A' l.length c') l] := by
  have HC := aM hC
  have HM := aM hm
  have H := aM (Own.nil w)
  clear hC hm
  go_enter Try.func38, Try.ntmps38
  go_wp2_with ((with_reducible refine nD 7 ?_); refine mkIW 7 l.length (by have := HM.out; omega) H.out ?_; clear H; intro A' c' _ H)
  go_loopg [4] (l.length + 1) (fun kq v4 w' => ∃ i : Nat, v4 = .int .i64 (i : Int) ∧ Aside0 (i ≤ l.length ∧ kq + i = l.length + 1) ∧ Aside0 (Own w w' [ri (.slice A' l.length c') (over (List.replicate l.length (0 : Int)) 0 (l.take i))]))
  case atStart => exact ⟨0, rfl, ⟨by omega⟩, aM (by rw [List.take_zero]; exact H.out)⟩
  case round =>
    clear H
    obtain ⟨i, rfl, HI, H⟩ := hrel
    by_cases hlt : i < l.length
    · have d1 : decide ((i : Int) < (l.length : Int)) = true := decide_eq_true (by omega)
      have i0 : 0 ≤ (i : Int) := by omega
      have i1 : (i : Int) < (l.length : Int) := by omega
      have hw : IntKind.i64.wrap ((i : Int) + 1) = ((i + 1 : Nat) : Int) := (by have := HM.out; rw [i64wrap, w64 (by omega) (by omega)]; omega)
      have HL := aM (show (over (List.replicate l.length (0 : Int)) 0 (l.take i)).length = l.length from (over_length _ _ _).trans List.length_replicate)
      obtain ⟨q, rfl⟩ := row0I (show (ri (.slice A' l.length c') _).P _ from H.out.get 0 rfl) (by rw [HL.out]; omega)
      obtain ⟨ad, e, hcell⟩ := Kd.at_int (H.out.arg HC.out) i i0 i1
      subst e
      rw [Int.toNat_natCast] at hcell
      go_wp2_with (refine seLI 0 i (rd l i) H.out rfl HL.out (by rw [HL.out]; exact hlt) ?_; clear H; intro w1 H)
      go_roundg (gk - 1)
      case measure => have := HI.out; omega
      case rel =>
        refine ⟨i + 1, rfl, ⟨by have := HI.out; omega⟩, aM ?_⟩
        have h := H.out
        rw [List.take_add_one, List.getElem?_eq_getElem hlt, Option.toList_some, over_snoc, List.length_take, Nat.min_eq_left (by omega), Nat.zero_add, ← rd_get hlt]
        exact h
    · have d1 : decide ((i : Int) < (l.length : Int)) = false := decide_eq_false (by omega)
      go_wp2
      go_ret
      exact ⟨A', c', rfl, by have h := H.out; rw [List.take_of_length_le (by omega), over_all (by simp)] at h; exact h⟩
set_option maxHeartbeats 4000000 in
set_option maxRecDepth 100000 in
theorem eqI_own {w : World} {A B : Option Addr} {n c d : Nat} {l : List Int} (hA : Kd.C (Kd.int .i64) w A n l) (hB : Kd.C (Kd.int .i64) w B n l) (hm : n ≤ 1048576) : Calls Try.prog 48 #[.slice A n c, .slice B n d] w fun e w' => e = .returned (.bool true) ∧ Below w.heap.size w w' := by
  have HC := aM (And.intro hA hB)
  have HM := aM hm
  have H := aM (Own.nil w)
  clear hA hB hm
  go_enter Try.func48, Try.ntmps48
  have e0 : decide ((n : Int) = (n : Int)) = true := decide_eq_true rfl
  go_wp2
  go_loopg [5] (n + 1) (fun kq v5 w' => ∃ i : Nat, v5 = .int .i64 (i : Int) ∧ Aside0 (i ≤ n ∧ kq + i = n + 1) ∧ Aside0 (Own w w' []))
  case atStart => exact ⟨0, rfl, ⟨by omega⟩, H⟩
  case round =>
    clear H
    obtain ⟨i, rfl, HI, H⟩ := hrel
    by_cases hlt : i < n
    · have d1 : decide ((i : Int) < (n : Int)) = true := decide_eq_true (by omega)
      have i0 : 0 ≤ (i : Int) := by omega
      have i1 : (i : Int) < (n : Int) := by omega
      have hw : IntKind.i64.wrap ((i : Int) + 1) = ((i + 1 : Nat) : Int) := (by have := HM.out; rw [i64wrap, w64 (by omega) (by omega)]; omega)
      obtain ⟨ad, e, hcell⟩ := Kd.at_int (H.out.arg HC.out.1) i i0 i1
      subst e
      clear hcell
      obtain ⟨ae, e, hcell⟩ := Kd.at_int (H.out.arg HC.out.2) i i0 i1
      subst e
      clear hcell
      go_upto_region 6 with fail
      refine rgI [] 9 H.out ?_
      clear H
      intro w_ H
      have HL := aM (H.out.hasI [])
      refine pO 0 17 ?_
      refine pO 1 18 ?_
      refine pO 2 19 ?_
      refine tO 3 20 (fun w' => w'.cell? (ad.add i) = some (.int .i64 (rd l (i : Int)))) (fun w' s => by obtain ⟨ad', e, hc⟩ := Kd.at_int (s.arg HC.out.1) i i0 i1; cases e; rw [Int.toNat_natCast] at hc; exact hc) HL.out ?_
      refine pO 4 21 ?_
      refine pO 5 22 ?_
      refine pO 6 23 ?_
      refine tO 7 24 (fun w' => w'.cell? (ae.add i) = some (.int .i64 (rd l (i : Int)))) (fun w' s => by obtain ⟨ad', e, hc⟩ := Kd.at_int (s.arg HC.out.2) i i0 i1; cases e; rw [Int.toNat_natCast] at hc; exact hc) HL.out ?_
      refine pO 8 25 ?_
      clear HL
      refine done_ (by kernel_rfl) ?_
      (try simp only [bne_self_eq_false, ne_eq, not_true_eq_false, decide_false])
      go_wp2
      go_roundg (gk - 1)
      case measure => have := HI.out; omega
      case rel => exact ⟨i + 1, rfl, ⟨by have := HI.out; omega⟩, H⟩
    · have d1 : decide ((i : Int) < (n : Int)) = false := decide_eq_false (by omega)
      go_wp2
      go_ret
      exact ⟨rfl, H.out.below⟩
set_option maxHeartbeats 4000000 in
set_option maxRecDepth 100000 in
theorem markI_own {w0 w : World} {L : List It} (H0 : Own w0 w L) (r : Nat) {A : Option Addr} {n c : Nat} {xs : List Int} (hr : L[r]? = some (ri (.slice A n c) xs)) {k : Int} (h0 : 0 ≤ k) (hk : k + n ≤ 4611686018427387904) : Calls Try.prog 50 #[.slice A n c, .int .i64 k] w fun e w' => e = .returned (.int .i64 (k + n)) ∧ Own w0 w' (L.set r (ri (.slice A n c) (marks id k n))) := by
  have HR := aM hr
  have HN := aM (show xs.length = n from (Kd.R_reads' (H0.get r hr)).1.symm)
  have HM := aM (And.intro h0 hk)
  have H := aM H0
  clear hr h0 hk H0
  go_enter Try.func50, Try.ntmps50
  go_wp2
  go_loopg [1, 5] (n + 1) (fun kq v1 v5 w' => ∃ i : Nat, v1 = .int .i64 (k + (i : Int)) ∧ v5 = .int .i64 (i : Int) ∧ Aside0 (i ≤ n ∧ kq + i = n + 1) ∧ Aside0 (Own w0 w' (L.set r (ri (.slice A n c) (over xs 0 (marks id k i))))))
  case atStart => exact ⟨0, by simp, rfl, ⟨by omega⟩, aM (by show Own w0 w (L.set r (ri _ xs)); rw [set_same_w HR.out]; exact H.out)⟩
  case round =>
    clear H
    obtain ⟨i, rfl, rfl, HI, H⟩ := hrel
    by_cases hlt : i < n
    · have d1 : decide ((i : Int) < (n : Int)) = true := decide_eq_true (by omega)
      have i0 : 0 ≤ (i : Int) := by omega
      have i1 : (i : Int) < (n : Int) := by omega
      have hw : IntKind.i64.wrap ((i : Int) + 1) = ((i + 1 : Nat) : Int) := (by have := HM.out; rw [i64wrap, w64 (by omega) (by omega)]; omega)
      have hw2 : IntKind.i64.wrap (k + (i : Int) + 1) = k + ((i + 1 : Nat) : Int) := (by have := HM.out; rw [i64wrap, w64 (by omega) (by omega)]; omega)
      have HL := aM (show (over xs 0 (marks id k i)).length = n from (over_length _ _ _).trans HN.out)
      obtain ⟨q, rfl⟩ := row0I (show (ri (.slice A n c) _).P _ from H.out.get r (gS HR.out _)) (by rw [HL.out]; omega)
      go_wp2_with (refine seLI r i _ H.out (gS HR.out _) HL.out (by rw [HL.out]; exact hlt) ?_; clear H; intro w1 H)
      go_roundg (gk - 1)
      case measure => have := HI.out; omega
      case rel =>
        refine ⟨i + 1, rfl, rfl, ⟨by have := HI.out; omega⟩, aM ?_⟩
        have h := H.out
        rw [List.set_set] at h
        rw [marks_succ, over_snoc, marks_length, Nat.zero_add]
        exact h
    · have d1 : decide ((i : Int) < (n : Int)) = false := decide_eq_false (by omega)
      go_wp2
      go_ret
      have hi : i = n := by have := HI.out; omega
      subst hi
      exact ⟨rfl, by have h := H.out; rw [over_all (by rw [marks_length]; exact HN.out)] at h; exact h⟩
set_option maxHeartbeats 4000000 in
set_option maxRecDepth 100000 in
theorem heldI_own {w : World} {A : Option Addr} {n c : Nat} {k : Int} (hC : Kd.C (Kd.int .i64) w A n (marks id k n)) (h0 : 0 ≤ k) (hk : k + n ≤ 4611686018427387904) : Calls Try.prog 52 #[.slice A n c, .int .i64 k] w fun e w' => e = .returned (.int .i64 (k + n)) ∧ Below w.heap.size w w' := by
  have HC := aM hC
  have HM := aM (And.intro h0 hk)
  have H := aM (Own.nil w)
  clear hC h0 hk
  go_enter Try.func52, Try.ntmps52
  go_wp2
  go_loopg [1, 5] (n + 1) (fun kq v1 v5 w' => ∃ i : Nat, v1 = .int .i64 (k + (i : Int)) ∧ v5 = .int .i64 (i : Int) ∧ Aside0 (i ≤ n ∧ kq + i = n + 1) ∧ Aside0 (Own w w' []))
  case atStart => exact ⟨0, by simp, rfl, ⟨by omega⟩, H⟩
  case round =>
    clear H
    obtain ⟨i, rfl, rfl, HI, H⟩ := hrel
    by_cases hlt : i < n
    · have d1 : decide ((i : Int) < (n : Int)) = true := decide_eq_true (by omega)
      have i0 : 0 ≤ (i : Int) := by omega
      have i1 : (i : Int) < (n : Int) := by omega
      have hw : IntKind.i64.wrap ((i : Int) + 1) = ((i + 1 : Nat) : Int) := (by have := HM.out; rw [i64wrap, w64 (by omega) (by omega)]; omega)
      have hw2 : IntKind.i64.wrap (k + (i : Int) + 1) = k + ((i + 1 : Nat) : Int) := (by have := HM.out; rw [i64wrap, w64 (by omega) (by omega)]; omega)
      have hg : rd (marks id k n) (i : Int) = id (k + (i : Int)) := by rw [rd_get (by rw [marks_length]; exact hlt), marks_get _ _ _ _ hlt]
      obtain ⟨ad, e, hcell⟩ := Kd.at_int (H.out.arg HC.out) i i0 i1
      subst e
      rw [Int.toNat_natCast, hg] at hcell
      clear hg
      have hn : decide (k + (i : Int) = k + (i : Int)) = true := decide_eq_true rfl
      dsimp only [id] at hcell
      go_wp2
      go_roundg (gk - 1)
      case measure => have := HI.out; omega
      case rel => exact ⟨i + 1, rfl, rfl, ⟨by have := HI.out; omega⟩, H⟩
    · have d1 : decide ((i : Int) < (n : Int)) = false := decide_eq_false (by omega)
      go_wp2
      go_ret
      have hi : i = n := by have := HI.out; omega
      subst hi
      exact ⟨rfl, H.out.below⟩
end Go.Proofs.Ytiogbjbkfhhdhaa.G
