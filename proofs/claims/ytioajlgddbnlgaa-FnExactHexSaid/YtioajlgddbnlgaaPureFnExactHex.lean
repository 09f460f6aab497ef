/- The law on Hex is true at every slice: both answers are two digits a byte. No condition. -/
import Derived.Test.YtioajlgddbnlgaaPFnExactHexx2
import Derived.Test.YtioajlgddbnlgaaC
namespace Go.Proofs.Ytioajlgddbnlgaa.Pure
open Go Go.RowKit Go.Proofs.Ytioajlgddbnlgaa.PFnExactHex Go.Proofs.YtioajlgddbnlgaaW.PrintWords Go.Proofs.YtioajlgddbnlgaaW.PrintLast Go.Proofs.Ytioajlgddbnlgaa.PlainC
set_option linter.unusedVariables false
set_option linter.unusedSimpArgs false

theorem toByteS_l0 (l : List Int) (hl : l.length ≤ 140737488351232) (d : Nat) : ∀ i : Nat, i ≤ l.length → l.length - i = d →
    Ev (fun k => laws_toByteS.l0 k l (l.take i ++ List.replicate (l.length - i) 0) (i : Int)) l := by
  induction d with
  | zero =>
    intro i hi hd
    obtain rfl : i = l.length := by omega
    refine evUp ?_
    have h1 : ¬ ((l.length : Nat) : Int) < (l.length : Int) := by omega
    simp only [laws_toByteS.l0, h1, if_false]
    rw [List.take_length, Nat.sub_self, List.replicate_zero, List.append_nil]
    exact Ev.now _
  | succ d ih =>
    intro i hi hd
    have hlt : i < l.length := by omega
    refine evUp ?_
    have h1 : (i : Int) < (l.length : Int) := by omega
    have h2 : 0 ≤ (i : Int) := by omega
    have h3 : (i : Int) < ((l.take i ++ List.replicate (l.length - i) (0 : Int)).length : Int) := by
      rw [List.length_append, List.length_take, List.length_replicate]; omega
    simp only [laws_toByteS.l0, h1, h2, h3, if_true]
    rw [rd_get hlt, Int.toNat_natCast, set_copy (0 : Int) l i hlt, w64 (by omega) (by omega)]
    exact ih (i + 1) (by omega) (by omega)

theorem toByteS_ev (l : List Int) (hl : l.length ≤ 140737488351232) : Ev (fun k => laws_toByteS.f k l) l := by
  have h := toByteS_l0 l hl l.length 0 (by omega) (by omega)
  have h1 : 0 ≤ (l.length : Int) := by omega
  have h2 : ((l.length : Int)).toNat ≤ 281474976710656 := by omega
  simp only [laws_toByteS.f, h1, h2, if_true]
  rw [Int.toNat_natCast]
  simpa using h

theorem eqByteS_l0 (a b : List Int) (hl : a.length ≤ 140737488351232) (he : a.length = b.length) (d : Nat) : ∀ i : Nat, i ≤ a.length → a.length - i = d →
    Ev (fun k => laws_eqByteS.l0 k a b (i : Int)) (decide (a.drop i = b.drop i)) := by
  induction d with
  | zero =>
    intro i hi hd
    obtain rfl : i = a.length := by omega
    refine evUp ?_
    have h1 : ¬ ((a.length : Nat) : Int) < (a.length : Int) := by omega
    simp only [laws_eqByteS.l0, h1, if_false]
    have e : decide (a.drop a.length = b.drop a.length) = true := by
      rw [List.drop_length, he, List.drop_length]; rfl
    rw [e]
    exact Ev.now _
  | succ d ih =>
    intro i hi hd
    have ha : i < a.length := by omega
    have hb : i < b.length := by omega
    refine evUp ?_
    have h1 : (i : Int) < (a.length : Int) := by omega
    have h2 : 0 ≤ (i : Int) := by omega
    have h3 : (i : Int) < (b.length : Int) := by omega
    simp only [laws_eqByteS.l0, h1, h2, h3, if_true]
    rw [rd_get ha, rd_get hb, w64 (by omega) (by omega)]
    by_cases e : a[i] = b[i]
    · simp only [e, if_true]
      have e2 : decide (a.drop i = b.drop i) = decide (a.drop (i + 1) = b.drop (i + 1)) := by
        rw [decide_eq_decide, drop_eq_iff ha hb]; simp [e]
      rw [e2]
      exact ih (i + 1) (by omega) (by omega)
    · simp only [e, if_false]
      have e2 : decide (a.drop i = b.drop i) = false := by
        rw [decide_eq_false_iff_not, drop_eq_iff ha hb]; simp [e]
      rw [e2]
      exact Ev.now _

theorem eqByteS_ev (a b : List Int) (hl : a.length ≤ 140737488351232) : Ev (fun k => laws_eqByteS.f k a b) (decide (a = b)) := by
  by_cases he : a.length = b.length
  · have h := eqByteS_l0 a b hl he a.length 0 (by omega) (by omega)
    have h1 : (a.length : Int) = (b.length : Int) := by omega
    simp only [laws_eqByteS.f, h1, if_true]
    exact h
  · have h1 : ¬ (a.length : Int) = (b.length : Int) := by omega
    have e : decide (a = b) = false := by
      rw [decide_eq_false_iff_not]; intro h; exact he (by rw [h])
    simp only [laws_eqByteS.f, h1, if_false]
    rw [e]
    exact Ev.now _

theorem eqByteS_refl (a : List Int) (hl : a.length ≤ 140737488351232) : Ev (fun k => laws_eqByteS.f k a a) true := by
  have h := eqByteS_ev a a hl
  rwa [decide_eq_true rfl] at h

def hexTab : ByteArray := ⟨#[48, 49, 50, 51, 52, 53, 54, 55, 56, 57, 65, 66, 67, 68, 69, 70]⟩
/-- The two digits of a byte. -/
def hex2 (b : Int) : List Int := [bt hexTab (b / 16), bt hexTab (b % 16)]
def hexes (l : List Int) : List Int := (l.map hex2).flatten

theorem hexes_cons (x : Int) (l : List Int) : hexes (x :: l) = hex2 x ++ hexes l := by simp [hexes]
theorem hexes_length (l : List Int) : (hexes l).length = 2 * l.length := by
  induction l with
  | nil => rfl
  | cons x l ih => rw [hexes_cons, List.length_append, ih, List.length_cons]; simp [hex2]; omega

theorem impl_Hex_l0 (l : List Int) (hb : B8 l) (hl : l.length ≤ 1048576) (d : Nat) : ∀ (i : Nat) (acc : List Int), i ≤ l.length → l.length - i = d → acc.length = 2 * i →
    Ev (fun k => impl_Hex.l0 k acc l (l.length : Int) (i : Int)) (strOfNums (acc ++ hexes (l.drop i))) := by
  induction d with
  | zero =>
    intro i acc hi hd ha
    obtain rfl : i = l.length := by omega
    refine evUp ?_
    have h1 : ¬ ((l.length : Nat) : Int) < (l.length : Int) := by omega
    simp only [impl_Hex.l0, h1, if_false]
    rw [List.drop_length, show hexes [] = [] from rfl, List.append_nil]
    exact Ev.now _
  | succ d ih =>
    intro i acc hi hd ha
    have hlt : i < l.length := by omega
    refine evUp ?_
    have h1 : (i : Int) < (l.length : Int) := by omega
    have h2 : 0 ≤ (i : Int) := by omega
    have hx := hb _ (List.getElem_mem hlt)
    have e1 : Go.bits .and .u8 l[i] 15 = l[i] % 16 := u8_and15 _ (by omega) (by omega)
    have h3 : 0 ≤ l[i] / 16 := by omega
    have h4 : l[i] / 16 < 16 := by omega
    have h5 : 0 ≤ l[i] % 16 := by omega
    have h6 : l[i] % 16 < 16 := by omega
    have h7 : acc.length + (hex2 l[i]).length < 140737488355328 := by rw [ha]; simp [hex2]; omega
    have h8 := ih (i + 1) (acc ++ hex2 l[i]) (by omega) (by omega) (by rw [List.length_append, ha]; simp [hex2]; omega)
    rw [List.append_assoc, ← hexes_cons, ← List.drop_eq_getElem_cons hlt] at h8
    simp only [impl_Hex.l0, h1, h2, if_true, rd_get hlt, e1, h3, h4, h5, h6, Option.bind_some]
    rw [w64 (x := (i : Int) + 1) (by omega) (by omega)]
    simp only [hex2, hexTab] at h7 h8
    simp only [h7, if_true]
    exact h8

theorem impl_Hex_ev (l : List Int) (hb : B8 l) (hl : l.length ≤ 1048576) : Ev (fun k => impl_Hex.f k l) (strOfNums (hexes l)) := by
  have h := impl_Hex_l0 l hb hl l.length 0 [] (by omega) (by omega) rfl
  rw [List.drop_zero, List.nil_append] at h
  exact h

theorem spec_Hex_l0 (l : List Int) (hb : B8 l) (hl : l.length ≤ 1048576) (d : Nat) : ∀ (i : Nat) (acc : List Int), i ≤ l.length → l.length - i = d → acc.length = 2 * i →
    Ev (fun k => spec_Hex.l0 k l hexTab acc (i : Int)) (strOfNums (acc ++ hexes (l.drop i))) := by
  have ht : ((hexTab.size : Nat) : Int) = 16 := rfl
  induction d with
  | zero =>
    intro i acc hi hd ha
    obtain rfl : i = l.length := by omega
    refine evUp ?_
    have h1 : ¬ ((l.length : Nat) : Int) < (l.length : Int) := by omega
    simp only [spec_Hex.l0, h1, if_false]
    rw [List.drop_length, show hexes [] = [] from rfl, List.append_nil]
    exact Ev.now _
  | succ d ih =>
    intro i acc hi hd ha
    have hlt : i < l.length := by omega
    refine evUp ?_
    have h1 : (i : Int) < (l.length : Int) := by omega
    have h2 : 0 ≤ (i : Int) := by omega
    have hx := hb _ (List.getElem_mem hlt)
    have e1 : Go.bits .and .u8 l[i] 15 = l[i] % 16 := u8_and15 _ (by omega) (by omega)
    have h3 : 0 ≤ l[i] / 16 := by omega
    have h4 : l[i] / 16 < 16 := by omega
    have h5 : 0 ≤ l[i] % 16 := by omega
    have h6 : l[i] % 16 < 16 := by omega
    have h7 : acc.length + (hex2 l[i]).length < 140737488355328 := by rw [ha]; simp [hex2]; omega
    have h8 := ih (i + 1) (acc ++ hex2 l[i]) (by omega) (by omega) (by rw [List.length_append, ha]; simp [hex2]; omega)
    rw [List.append_assoc, ← hexes_cons, ← List.drop_eq_getElem_cons hlt] at h8
    simp only [spec_Hex.l0, h1, h2, if_true, rd_get hlt, e1, ht, h3, h4, h5, h6, Option.bind_some]
    rw [w64 (x := (i : Int) + 1) (by omega) (by omega)]
    simp only [hex2] at h7 h8
    simp only [h7, if_true]
    exact h8

theorem spec_Hex_ev (l : List Int) (hb : B8 l) (hl : l.length ≤ 1048576) : Ev (fun k => spec_Hex.f k l) (strOfNums (hexes l)) := by
  have h := spec_Hex_l0 l hb hl l.length 0 [] (by omega) (by omega) rfl
  rw [List.drop_zero, List.nil_append] at h
  exact h

theorem FnExactHex : laws_FnExactHex.Pure := by
  intro l h1 h2 h3
  refine Ev.rounds (g := fun k => laws_FnExactHex.f k l) ?_
  by_cases hb : (l.length : Int) > 1048576
  · simp only [laws_FnExactHex.f, hb, if_true]; exact Ev.now _
  · simp only [laws_FnExactHex.f, hb, if_false]
    have ht := toByteS_ev l (by omega)
    refine evBind ht ?_
    refine evBind (spec_Hex_ev l (B8.of h3) (by omega)) ?_
    refine evBind ht ?_
    refine evBind (impl_Hex_ev l (B8.of h3) (by omega)) ?_
    simp only [if_true]
    refine evBind ht ?_
    refine evBind (eqByteS_refl l (by omega)) ?_
    simp only [if_true]
    exact Ev.now _

end Go.Proofs.Ytioajlgddbnlgaa.Pure
