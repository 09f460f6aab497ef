/- spec.l5Write: words written into a row. No condition. -/
import Derived.Test.YtiogbjbkfhhdhaaGOwn
import Derived.Test.YtiogbjbkfhhdhaaGBox
import Derived.Test.YtiogbjbkfhhdhaaC
namespace Go.Proofs.Ytiogbjbkfhhdhaa.G
open Go.Proofs.Ytiogbjbkfhhdhaa.K Go Go.RowKit Go.Proofs.YtiogbjbkfhhdhaaW.PrintWords Go.Proofs.YtiogbjbkfhhdhaaW.PrintLast Go.Proofs.YtiogbjbkfhhdhaaW.PrintMore Go.Proofs.Ytiogbjbkfhhdhaa.PlainC
set_option linter.unusedVariables false
set_option linter.unusedSimpArgs false

theorem set_same_w {L : List It} {r : Nat} {x : It} (h : L[r]? = some x) : L.set r x = L := by
  obtain ⟨hl, rfl⟩ := List.getElem?_eq_some_iff.1 h
  exact List.set_getElem_self hl

theorem row0B {w : World} {b : Nat} {ok : Nat → Prop} {A : Option Addr} {n c : Nat} {xs : List Bool} (h : Kd.R Kd.bool 4 w b ok (.slice A n c) xs) (h0 : 0 < xs.length) : ∃ q, A = some ⟨q, 0, none⟩ := by
  obtain ⟨q, cap, he, _⟩ := Kd.R_form h h0
  injection he with h1
  exact ⟨q, h1⟩
theorem row0I {w : World} {b : Nat} {ok : Nat → Prop} {A : Option Addr} {n c : Nat} {xs : List Int} (h : Kd.R (Kd.int .i64) 3 w b ok (.slice A n c) xs) (h0 : 0 < xs.length) : ∃ q, A = some ⟨q, 0, none⟩ := by
  obtain ⟨q, cap, he, _⟩ := Kd.R_form h h0
  injection he with h1
  exact ⟨q, h1⟩

theorem over_snoc {α : Type} (y : α) : ∀ (ys xs : List α) (o : Nat), over xs o (ys ++ [y]) = (over xs o ys).set (o + ys.length) y
  | [], xs, o => rfl
  | z :: ys, xs, o => by
    show over (xs.set o z) (o + 1) (ys ++ [y]) = (over (xs.set o z) (o + 1) ys).set (o + (ys.length + 1)) y
    rw [over_snoc y ys, show o + 1 + ys.length = o + (ys.length + 1) by omega]
def WritePost (w0 : World) (L : List It) (e : Ending) (w' : World) : Prop := e = .returned (.tuple #[]) ∧ Own w0 w' L
set_option maxHeartbeats 8000000 in
set_option maxRecDepth 100000 in
theorem l5Write_own {w0 w : World} {L : List It} (H0 : Own w0 w L) (r : Nat) {q m cap : Nat} {xs : List Int} (hr : L[r]? = some (ri (.slice (some ⟨q, 0, none⟩) m cap) xs)) (hn : xs.length = m) {A4 : Option Addr} {c4 : Nat} {ws : List Int} (hW : Kd.C (Kd.int .i64) w0 A4 ws.length ws) (at_ : Nat) (hb : at_ + ws.length ≤ m) (hm : m ≤ 1048576) :
    Calls Try.prog 36 #[.slice (some ⟨q, 0, none⟩) m cap, .int .i64 (at_ : Int), .slice A4 ws.length c4] w (WritePost w0 (L.set r (ri (.slice (some ⟨q, 0, none⟩) m cap) (over xs at_ ws)))) := by
  have HR := aM hr
  have HW := aM hW
  have HB := aM (And.intro hn (And.intro hb hm))
  have H := aM H0
  clear hr hW hn hb hm H0
  go_enter Try.func36, Try.ntmps36
  go_wp2
  go_loopg [6] (ws.length + 1) (fun kq v6 w' => ∃ i : Nat, v6 = .int .i64 (i : Int) ∧ Aside0 (i ≤ ws.length ∧ kq + i = ws.length + 1) ∧ Aside0 (Own w0 w' (L.set r (ri (.slice (some ⟨q, 0, none⟩) m cap) (over xs at_ (ws.take i))))))
  case atStart => exact ⟨0, rfl, ⟨by omega⟩, aM (by rw [List.take_zero]; show Own w0 w (L.set r _); rw [show over xs at_ [] = xs from rfl, set_same_w HR.out]; exact H.out)⟩
  case round =>
    clear H
    obtain ⟨i, rfl, HI, H⟩ := hrel
    by_cases hlt : i < ws.length
    · have d1 : decide ((i : Int) < (ws.length : Int)) = true := decide_eq_true (by omega)
      have i0 : 0 ≤ (i : Int) := by omega
      have i1 : (i : Int) < (ws.length : Int) := by omega
      have hw : IntKind.i64.wrap ((i : Int) + 1) = ((i + 1 : Nat) : Int) := (by have := HB.out; rw [i64wrap, w64 (by omega) (by omega)]; omega)
      have hw2 : IntKind.i64.wrap ((at_ : Int) + (i : Int)) = ((at_ + i : Nat) : Int) := (by have := HB.out; rw [i64wrap, w64 (by omega) (by omega)]; omega)
      have j0 : 0 ≤ ((at_ + i : Nat) : Int) := by omega
      have j1 : ((at_ + i : Nat) : Int) < (m : Int) := by have := HB.out; omega
      obtain ⟨ad, e, hcell⟩ := Kd.at_int (H.out.arg HW.out) i i0 i1
      subst e
      rw [Int.toNat_natCast] at hcell
      have hl : (over xs at_ (ws.take i)).length = m := (over_length _ _ _).trans HB.out.1
      have HL := aM hl
      clear hl
      go_wp2_with (refine seLI r (at_ + i) (rd ws i) H.out (gS HR.out _) HL.out (by rw [HL.out]; omega) ?_; clear H; intro w1 H)
      go_roundg (gk - 1)
      case measure => have := HI.out; omega
      case rel =>
        refine ⟨i + 1, rfl, ⟨by have := HI.out; omega⟩, aM ?_⟩
        have h := H.out
        rw [List.set_set] at h
        rw [List.take_add_one, List.getElem?_eq_getElem hlt, Option.toList_some, over_snoc, List.length_take, Nat.min_eq_left (by omega), ← rd_get hlt]
        exact h
    · have d1 : decide ((i : Int) < (ws.length : Int)) = false := decide_eq_false (by omega)
      go_wp2
      first | go_end0 | ((try simp only [Exit.inBlock, Exit.then]); refine bodyPost_ret (results_none rfl _ _ _) rfl ?_)
      refine ⟨rfl, ?_⟩
      have h := H.out
      rw [List.take_of_length_le (by omega)] at h
      exact h

end Go.Proofs.Ytiogbjbkfhhdhaa.G
