/- The law on Crc is true at every slice: both run the same shifts over the bytes. No condition. -/
import Derived.Test.YtioajlgddbnlgaaPFnExactCrcx1
import Derived.Test.YtioajlgddbnlgaaC
namespace Go.Proofs.Ytioajlgddbnlgaa.Pure
open Go Go.RowKit Go.Proofs.Ytioajlgddbnlgaa.PFnExactCrc Go.Proofs.YtioajlgddbnlgaaW.PrintWords Go.Proofs.YtioajlgddbnlgaaW.PrintLast Go.Proofs.Ytioajlgddbnlgaa.PlainC
set_option linter.unusedVariables false
set_option linter.unusedSimpArgs false

theorem toByteS_l0 (l : List Int) (hl : l.length ≤ 140737488351232) (d : Nat) : ∀ i : Nat, i ≤ l.length → l.length - i = d →
    Ev (fun k => laws_toByteS.l0 k l (l.take i ++ List.replicate (l.length - i) 0) (i : Int)) l := by
  induction d with
  | zero =>
    intro i hi hd
    obtain rfl : i = l.length := by omega
    refine evUp ?_
    have h1 : ¬ ((l.length : Nat) : Int) < (l.length : Int) := by omega
    simp only [laws_toByteS.l0, h1, if_false]
    rw [List.take_length, Nat.sub_self, List.replicate_zero, List.append_nil]
    exact Ev.now _
  | succ d ih =>
    intro i hi hd
    have hlt : i < l.length := by omega
    refine evUp ?_
    have h1 : (i : Int) < (l.length : Int) := by omega
    have h2 : 0 ≤ (i : Int) := by omega
    have h3 : (i : Int) < ((l.take i ++ List.replicate (l.length - i) (0 : Int)).length : Int) := by
      rw [List.length_append, List.length_take, List.length_replicate]; omega
    simp only [laws_toByteS.l0, h1, h2, h3, if_true]
    rw [rd_get hlt, Int.toNat_natCast, set_copy (0 : Int) l i hlt, w64 (by omega) (by omega)]
    exact ih (i + 1) (by omega) (by omega)

theorem toByteS_ev (l : List Int) (hl : l.length ≤ 140737488351232) : Ev (fun k => laws_toByteS.f k l) l := by
  have h := toByteS_l0 l hl l.length 0 (by omega) (by omega)
  have h1 : 0 ≤ (l.length : Int) := by omega
  have h2 : ((l.length : Int)).toNat ≤ 281474976710656 := by omega
  simp only [laws_toByteS.f, h1, h2, if_true]
  rw [Int.toNat_natCast]
  simpa using h

theorem eqByteS_l0 (a b : List Int) (hl : a.length ≤ 140737488351232) (he : a.length = b.length) (d : Nat) : ∀ i : Nat, i ≤ a.length → a.length - i = d →
    Ev (fun k => laws_eqByteS.l0 k a b (i : Int)) (decide (a.drop i = b.drop i)) := by
  induction d with
  | zero =>
    intro i hi hd
    obtain rfl : i = a.length := by omega
    refine evUp ?_
    have h1 : ¬ ((a.length : Nat) : Int) < (a.length : Int) := by omega
    simp only [laws_eqByteS.l0, h1, if_false]
    have e : decide (a.drop a.length = b.drop a.length) = true := by
      rw [List.drop_length, he, List.drop_length]; rfl
    rw [e]
    exact Ev.now _
  | succ d ih =>
    intro i hi hd
    have ha : i < a.length := by omega
    have hb : i < b.length := by omega
    refine evUp ?_
    have h1 : (i : Int) < (a.length : Int) := by omega
    have h2 : 0 ≤ (i : Int) := by omega
    have h3 : (i : Int) < (b.length : Int) := by omega
    simp only [laws_eqByteS.l0, h1, h2, h3, if_true]
    rw [rd_get ha, rd_get hb, w64 (by omega) (by omega)]
    by_cases e : a[i] = b[i]
    · simp only [e, if_true]
      have e2 : decide (a.drop i = b.drop i) = decide (a.drop (i + 1) = b.drop (i + 1)) := by
        rw [decide_eq_decide, drop_eq_iff ha hb]; simp [e]
      rw [e2]
      exact ih (i + 1) (by omega) (by omega)
    · simp only [e, if_false]
      have e2 : decide (a.drop i = b.drop i) = false := by
        rw [decide_eq_false_iff_not, drop_eq_iff ha hb]; simp [e]
      rw [e2]
      exact Ev.now _

theorem eqByteS_ev (a b : List Int) (hl : a.length ≤ 140737488351232) : Ev (fun k => laws_eqByteS.f k a b) (decide (a = b)) := by
  by_cases he : a.length = b.length
  · have h := eqByteS_l0 a b hl he a.length 0 (by omega) (by omega)
    have h1 : (a.length : Int) = (b.length : Int) := by omega
    simp only [laws_eqByteS.f, h1, if_true]
    exact h
  · have h1 : ¬ (a.length : Int) = (b.length : Int) := by omega
    have e : decide (a = b) = false := by
      rw [decide_eq_false_iff_not]; intro h; exact he (by rw [h])
    simp only [laws_eqByteS.f, h1, if_false]
    rw [e]
    exact Ev.now _

theorem eqByteS_refl (a : List Int) (hl : a.length ≤ 140737488351232) : Ev (fun k => laws_eqByteS.f k a a) true := by
  have h := eqByteS_ev a a hl
  rwa [decide_eq_true rfl] at h

/-- One shift of the sum. -/
def crcBit (x : Int) : Int := if x % 2 = 1 then Go.bits .xor .i64 (x / 2) 40961 else x / 2
def crcBits : Nat → Int → Int
  | 0, x => x
  | n + 1, x => crcBits n (crcBit x)
def crcByte (x b : Int) : Int := crcBits 8 (Go.bits .xor .i64 x b)

theorem impl_Crc_l1 (l : List Int) (n : Int) (i : Int) (r : Int) (d : Nat) : ∀ (j : Nat) (x : Int), j ≤ 8 → 8 - j = d →
    Ev (fun k => impl_Crc.l0 k (crcBits d x) l n (wrap64 (i + 1))) r → Ev (fun k => impl_Crc.l1 k x l n i (j : Int)) r := by
  induction d with
  | zero =>
    intro j x hj hd h
    obtain rfl : j = 8 := by omega
    refine evUp ?_
    have h1 : ¬ ((8 : Nat) : Int) < 8 := by omega
    simp only [impl_Crc.l1, h1, if_false]
    exact h
  | succ d ih =>
    intro j x hj hd h
    have h1 : (j : Int) < 8 := by omega
    refine evUp ?_
    simp only [impl_Crc.l1, h1, if_true, and_1]
    rw [w64 (x := (j : Int) + 1) (by omega) (by omega)]
    by_cases e : x % 2 = 1
    · simp only [e, if_true]
      refine ih (j + 1) _ (by omega) (by omega) ?_
      rw [show Go.bits .xor .i64 (x / 2) 40961 = crcBit x from by unfold crcBit; rw [if_pos e]]
      exact h
    · simp only [e, if_false]
      refine ih (j + 1) _ (by omega) (by omega) ?_
      rw [show x / 2 = crcBit x from by unfold crcBit; rw [if_neg e]]
      exact h

theorem impl_Crc_l0 (l : List Int) (hb : B8 l) (hl : l.length ≤ 140737488351232) (d : Nat) : ∀ (i : Nat) (x : Int), i ≤ l.length → l.length - i = d →
    Ev (fun k => impl_Crc.l0 k x l (l.length : Int) (i : Int)) ((l.drop i).foldl crcByte x) := by
  induction d with
  | zero =>
    intro i x hi hd
    obtain rfl : i = l.length := by omega
    refine evUp ?_
    have h1 : ¬ ((l.length : Nat) : Int) < (l.length : Int) := by omega
    simp only [impl_Crc.l0, h1, if_false]
    rw [List.drop_length, List.foldl_nil]
    exact Ev.now _
  | succ d ih =>
    intro i x hi hd
    have hlt : i < l.length := by omega
    refine evUp ?_
    have h1 : (i : Int) < (l.length : Int) := by omega
    have h2 : 0 ≤ (i : Int) := by omega
    have hx := hb _ (List.getElem_mem hlt)
    simp only [impl_Crc.l0, h1, h2, if_true]
    rw [rd_get hlt, w64 (x := l[i]) (by omega) (by omega), List.drop_eq_getElem_cons hlt, List.foldl_cons]
    refine impl_Crc_l1 l _ _ _ 8 0 _ (by omega) (by omega) ?_
    rw [w64 (by omega) (by omega)]
    exact ih (i + 1) _ (by omega) (by omega)

theorem impl_Crc_ev (l : List Int) (hb : B8 l) (hl : l.length ≤ 140737488351232) : Ev (fun k => impl_Crc.f k l) (l.foldl crcByte 65535) := by
  have h := impl_Crc_l0 l hb hl l.length 0 65535 (by omega) (by omega)
  rw [List.drop_zero] at h
  exact h

theorem spec_Crc_l1 (l : List Int) (i : Int) (r : Int) (d : Nat) : ∀ (j : Nat) (x : Int), j ≤ 8 → 8 - j = d →
    Ev (fun k => spec_Crc.l0 k l (crcBits d x) (wrap64 (i + 1))) r → Ev (fun k => spec_Crc.l1 k l x i (j : Int)) r := by
  induction d with
  | zero =>
    intro j x hj hd h
    obtain rfl : j = 8 := by omega
    refine evUp ?_
    have h1 : ¬ ((8 : Nat) : Int) < 8 := by omega
    simp only [spec_Crc.l1, h1, if_false]
    exact h
  | succ d ih =>
    intro j x hj hd h
    have h1 : (j : Int) < 8 := by omega
    refine evUp ?_
    simp only [spec_Crc.l1, h1, if_true, and_1]
    rw [w64 (x := (j : Int) + 1) (by omega) (by omega)]
    by_cases e : x % 2 = 1
    · simp only [e, if_true]
      refine ih (j + 1) _ (by omega) (by omega) ?_
      rw [show Go.bits .xor .i64 (x / 2) 40961 = crcBit x from by unfold crcBit; rw [if_pos e]]
      exact h
    · simp only [e, if_false]
      refine ih (j + 1) _ (by omega) (by omega) ?_
      rw [show x / 2 = crcBit x from by unfold crcBit; rw [if_neg e]]
      exact h

theorem spec_Crc_l0 (l : List Int) (hb : B8 l) (hl : l.length ≤ 140737488351232) (d : Nat) : ∀ (i : Nat) (x : Int), i ≤ l.length → l.length - i = d →
    Ev (fun k => spec_Crc.l0 k l x (i : Int)) ((l.drop i).foldl crcByte x) := by
  induction d with
  | zero =>
    intro i x hi hd
    obtain rfl : i = l.length := by omega
    refine evUp ?_
    have h1 : ¬ ((l.length : Nat) : Int) < (l.length : Int) := by omega
    simp only [spec_Crc.l0, h1, if_false]
    rw [List.drop_length, List.foldl_nil]
    exact Ev.now _
  | succ d ih =>
    intro i x hi hd
    have hlt : i < l.length := by omega
    refine evUp ?_
    have h1 : (i : Int) < (l.length : Int) := by omega
    have h2 : 0 ≤ (i : Int) := by omega
    have hx := hb _ (List.getElem_mem hlt)
    simp only [spec_Crc.l0, h1, h2, if_true]
    rw [rd_get hlt, w64 (x := l[i]) (by omega) (by omega), List.drop_eq_getElem_cons hlt, List.foldl_cons]
    refine spec_Crc_l1 l _ _ 8 0 _ (by omega) (by omega) ?_
    rw [w64 (by omega) (by omega)]
    exact ih (i + 1) _ (by omega) (by omega)

theorem spec_Crc_ev (l : List Int) (hb : B8 l) (hl : l.length ≤ 140737488351232) : Ev (fun k => spec_Crc.f k l) (l.foldl crcByte 65535) := by
  have h := spec_Crc_l0 l hb hl l.length 0 65535 (by omega) (by omega)
  rw [List.drop_zero] at h
  exact h

theorem FnExactCrc : laws_FnExactCrc.Pure := by
  intro l h1 h2 h3
  refine Ev.rounds (g := fun k => laws_FnExactCrc.f k l) ?_
  by_cases hb : (l.length : Int) > 1048576
  · simp only [laws_FnExactCrc.f, hb, if_true]; exact Ev.now _
  · simp only [laws_FnExactCrc.f, hb, if_false]
    have ht := toByteS_ev l (by omega)
    refine evBind ht ?_
    refine evBind (spec_Crc_ev l (B8.of h3) (by omega)) ?_
    refine evBind ht ?_
    refine evBind (impl_Crc_ev l (B8.of h3) (by omega)) ?_
    simp only [if_true]
    refine evBind ht ?_
    refine evBind (eqByteS_refl l (by omega)) ?_
    simp only [if_true]
    exact Ev.now _

end Go.Proofs.Ytioajlgddbnlgaa.Pure
