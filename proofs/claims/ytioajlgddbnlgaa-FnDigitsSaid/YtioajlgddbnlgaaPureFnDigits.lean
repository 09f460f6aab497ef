/- The law on digits is true at every code: drawn bytes come back of their digits, a word comes back of its bytes. No condition. -/
import Derived.Test.YtioajlgddbnlgaaQFnDigitsx3
import Derived.Test.YtioajlgddbnlgaaC
namespace Go.Proofs.Ytioajlgddbnlgaa.Pure
open Go Go.RowKit Go.Proofs.Ytioajlgddbnlgaa.PFnDigits Go.Proofs.YtioajlgddbnlgaaW.PrintWords Go.Proofs.YtioajlgddbnlgaaW.PrintLast Go.Proofs.Ytioajlgddbnlgaa.PlainC
set_option linter.unusedVariables false
set_option linter.unusedSimpArgs false

theorem sameBytes_l0 (a b : List Int) (hl : a.length ≤ 140737488351232) (he : a.length = b.length) (d : Nat) : ∀ i : Nat, i ≤ a.length → a.length - i = d →
    Ev (fun k => laws_sameBytes.l0 k a b (i : Int)) (decide (a.drop i = b.drop i)) := by
  induction d with
  | zero =>
    intro i hi hd
    obtain rfl : i = a.length := by omega
    refine evUp ?_
    have h1 : ¬ ((a.length : Nat) : Int) < (a.length : Int) := by omega
    simp only [laws_sameBytes.l0, h1, if_false]
    have e : decide (a.drop a.length = b.drop a.length) = true := by
      rw [List.drop_length, he, List.drop_length]; rfl
    rw [e]
    exact Ev.now _
  | succ d ih =>
    intro i hi hd
    have ha : i < a.length := by omega
    have hb : i < b.length := by omega
    refine evUp ?_
    have h1 : (i : Int) < (a.length : Int) := by omega
    have h2 : 0 ≤ (i : Int) := by omega
    have h3 : (i : Int) < (b.length : Int) := by omega
    simp only [laws_sameBytes.l0, h1, h2, h3, if_true]
    rw [rd_get ha, rd_get hb, w64 (by omega) (by omega)]
    by_cases e : a[i] = b[i]
    · simp only [e, if_true]
      have e2 : decide (a.drop i = b.drop i) = decide (a.drop (i + 1) = b.drop (i + 1)) := by
        rw [decide_eq_decide, drop_eq_iff ha hb]; simp [e]
      rw [e2]
      exact ih (i + 1) (by omega) (by omega)
    · simp only [e, if_false]
      have e2 : decide (a.drop i = b.drop i) = false := by
        rw [decide_eq_false_iff_not, drop_eq_iff ha hb]; simp [e]
      rw [e2]
      exact Ev.now _

theorem sameBytes_ev (a b : List Int) (hl : a.length ≤ 140737488351232) : Ev (fun k => laws_sameBytes.f k a b) (decide (a = b)) := by
  by_cases he : a.length = b.length
  · have h := sameBytes_l0 a b hl he a.length 0 (by omega) (by omega)
    have h1 : (a.length : Int) = (b.length : Int) := by omega
    simp only [laws_sameBytes.f, h1, if_true]
    exact h
  · have h1 : ¬ (a.length : Int) = (b.length : Int) := by omega
    have e : decide (a = b) = false := by
      rw [decide_eq_false_iff_not]; intro h; exact he (by rw [h])
    simp only [laws_sameBytes.f, h1, if_false]
    rw [e]
    exact Ev.now _

theorem sameBytes_refl (a : List Int) (hl : a.length ≤ 140737488351232) : Ev (fun k => laws_sameBytes.f k a a) true := by
  have h := sameBytes_ev a a hl
  rwa [decide_eq_true rfl] at h

theorem impl_PutWord_eq (l : List Int) (a : Int) (h : l.length ≤ 140737488355000) : impl_PutWord.f l a = some (l ++ [(a / 256) % 256, a % 256]) := by
  have h1 : ([] : List Int).length + l.length < 140737488355328 := by rw [List.length_nil]; omega
  have h2 : l.length + ([(a / 256) % 256, a % 256] : List Int).length < 140737488355328 := by
    rw [List.length_cons, List.length_cons, List.length_nil]; omega
  simp only [impl_PutWord.f, Option.bind_some, h1, h2, if_true, List.nil_append]

/-- The word that lies at a place, where it lies there whole. -/
def wordOf (l : List Int) (a : Int) : Int × Bool := if 0 ≤ a ∧ a + 2 ≤ (l.length : Int) then (rd l a * 256 + rd l (a + 1), true) else (0, false)

theorem impl_WordAt_eq (l : List Int) (a : Int) (hl : l.length ≤ 140737488355328) (hb : B8 l) : impl_WordAt.f l a = some (wordOf l a) := by
  have e0 : wrap64 ((l.length : Int) - 2) = (l.length : Int) - 2 := w64 (by omega) (by omega)
  by_cases h0 : a ≥ 0
  · by_cases h1 : a ≤ (l.length : Int) - 2
    · have h2 : a < (l.length : Int) := by omega
      have e1 : wrap64 (a + 1) = a + 1 := w64 (by omega) (by omega)
      have h3 : 0 ≤ a + 1 := by omega
      have h4 : a + 1 < (l.length : Int) := by omega
      have h5 : 0 ≤ a := h0
      have r1 := hb.rd (i := a) h5 h2
      have r2 := hb.rd (i := a + 1) h3 h4
      have hw : wordOf l a = (rd l a * 256 + rd l (a + 1), true) := by unfold wordOf; rw [if_pos ⟨h5, by omega⟩]
      simp only [impl_WordAt.f, impl_in.f, e0, h0, h1, if_true, decide_true, Option.bind_some, h5, h2, e1, h3, h4, hw]
      rw [w64 (x := rd l a) (by omega) (by omega), w64 (x := rd l (a + 1)) (by omega) (by omega), w64 (x := rd l a * 256) (by omega) (by omega), or_byte r1.1 r1.2 r2.1 r2.2]
    · have hw : wordOf l a = (0, false) := by unfold wordOf; rw [if_neg (by omega)]
      simp only [impl_WordAt.f, impl_in.f, e0, h0, h1, if_true, decide_false, Bool.false_eq_true, if_false, Option.bind_some, hw]
  · have hw : wordOf l a = (0, false) := by unfold wordOf; rw [if_neg (by omega)]
    simp only [impl_WordAt.f, impl_in.f, e0, h0, Bool.false_eq_true, if_false, Option.bind_some, hw]

def hexTab : ByteArray := ⟨#[48, 49, 50, 51, 52, 53, 54, 55, 56, 57, 65, 66, 67, 68, 69, 70]⟩
/-- The two digits of a byte. -/
def hex2 (b : Int) : List Int := [bt hexTab (b / 16), bt hexTab (b % 16)]
def hexes (l : List Int) : List Int := (l.map hex2).flatten

theorem hexes_cons (x : Int) (l : List Int) : hexes (x :: l) = hex2 x ++ hexes l := by simp [hexes]
theorem hexes_length (l : List Int) : (hexes l).length = 2 * l.length := by
  induction l with
  | nil => rfl
  | cons x l ih => rw [hexes_cons, List.length_append, ih, List.length_cons]; simp [hex2]; omega

theorem impl_Hex_l0 (l : List Int) (hb : B8 l) (hl : l.length ≤ 1048576) (d : Nat) : ∀ (i : Nat) (acc : List Int), i ≤ l.length → l.length - i = d → acc.length = 2 * i →
    Ev (fun k => impl_Hex.l0 k acc l (l.length : Int) (i : Int)) (strOfNums (acc ++ hexes (l.drop i))) := by
  induction d with
  | zero =>
    intro i acc hi hd ha
    obtain rfl : i = l.length := by omega
    refine evUp ?_
    have h1 : ¬ ((l.length : Nat) : Int) < (l.length : Int) := by omega
    simp only [impl_Hex.l0, h1, if_false]
    rw [List.drop_length, show hexes [] = [] from rfl, List.append_nil]
    exact Ev.now _
  | succ d ih =>
    intro i acc hi hd ha
    have hlt : i < l.length := by omega
    refine evUp ?_
    have h1 : (i : Int) < (l.length : Int) := by omega
    have h2 : 0 ≤ (i : Int) := by omega
    have hx := hb _ (List.getElem_mem hlt)
    have e1 : Go.bits .and .u8 l[i] 15 = l[i] % 16 := u8_and15 _ (by omega) (by omega)
    have h3 : 0 ≤ l[i] / 16 := by omega
    have h4 : l[i] / 16 < 16 := by omega
    have h5 : 0 ≤ l[i] % 16 := by omega
    have h6 : l[i] % 16 < 16 := by omega
    have h7 : acc.length + (hex2 l[i]).length < 140737488355328 := by rw [ha]; simp [hex2]; omega
    have h8 := ih (i + 1) (acc ++ hex2 l[i]) (by omega) (by omega) (by rw [List.length_append, ha]; simp [hex2]; omega)
    rw [List.append_assoc, ← hexes_cons, ← List.drop_eq_getElem_cons hlt] at h8
    simp only [impl_Hex.l0, h1, h2, if_true, rd_get hlt, e1, h3, h4, h5, h6, Option.bind_some]
    rw [w64 (x := (i : Int) + 1) (by omega) (by omega)]
    simp only [hex2, hexTab] at h7 h8
    simp only [h7, if_true]
    exact h8

theorem impl_Hex_ev (l : List Int) (hb : B8 l) (hl : l.length ≤ 1048576) : Ev (fun k => impl_Hex.f k l) (strOfNums (hexes l)) := by
  have h := impl_Hex_l0 l hb hl l.length 0 [] (by omega) (by omega) rfl
  rw [List.drop_zero, List.nil_append] at h
  exact h

/-- What a digit counts; below nothing where it is none. -/
def digOf (c : Int) : Int := if 48 ≤ c ∧ c ≤ 57 then c - 48 else if 65 ≤ c ∧ c ≤ 70 then c - 55 else -1
theorem digOf_range (c : Int) : -1 ≤ digOf c ∧ digOf c ≤ 15 := by
  unfold digOf; split
  · omega
  · split <;> omega
/-- The bytes of so many pairs of digits, from a place on, behind what there was. -/
def unPairs (s : ByteArray) : Nat → Int → List Int → Option (List Int)
  | 0, _, acc => some acc
  | m + 1, i, acc => if digOf (bt s i) < 0 then none else if digOf (bt s (i + 1)) < 0 then none else unPairs s m (i + 2) (acc ++ [digOf (bt s i) * 16 + digOf (bt s (i + 1))])
def unTold : Option (List Int) → List Int × Bool
  | none => ([], false)
  | some l => (l, true)

theorem impl_hexValue_ev (c : Int) (h0 : 0 ≤ c) (h1 : c ≤ 255) : Ev (fun k => impl_hexValue.f k c) (if digOf c < 0 then (0, false) else (digOf c, true)) := by
  by_cases a : c ≥ 48
  · by_cases b : c ≤ 57
    · have e : digOf c = c - 48 := by unfold digOf; rw [if_pos (by omega)]
      have n : ¬ (c - 48 < 0) := by omega
      have e2 : (c - 48) % 256 = c - 48 := by omega
      simp only [impl_hexValue.f, a, b, if_true, decide_true]
      refine evUp ?_
      simp only [impl_hexValue.j0, if_true, e, n, if_false, e2]
      exact Ev.now _
    · simp only [impl_hexValue.f, a, b, if_true, decide_false]
      refine evUp ?_
      simp only [impl_hexValue.j0, Bool.false_eq_true, if_false]
      by_cases p : c ≥ 65
      · by_cases q : c ≤ 70
        · have e : digOf c = c - 55 := by unfold digOf; rw [if_neg (by omega), if_pos (by omega)]
          have n : ¬ (c - 55 < 0) := by omega
          have e2 : ((c - 65) % 256 + 10) % 256 = c - 55 := by omega
          simp only [p, q, if_true, e, n, if_false, e2]
          exact Ev.now _
        · have e : digOf c = -1 := by unfold digOf; rw [if_neg (by omega), if_neg (by omega)]
          have n : (-1 : Int) < 0 := by omega
          simp only [p, q, if_true, e, n, if_false]
          exact Ev.now _
      · have e : digOf c = -1 := by unfold digOf; rw [if_neg (by omega), if_neg (by omega)]
        have n : (-1 : Int) < 0 := by omega
        simp only [p, if_true, e, n, if_false]
        exact Ev.now _
  · have e : digOf c = -1 := by unfold digOf; rw [if_neg (by omega), if_neg (by omega)]
    have n : (-1 : Int) < 0 := by omega
    have p : ¬ c ≥ 65 := by omega
    simp only [impl_hexValue.f, a, if_false]
    refine evUp ?_
    simp only [impl_hexValue.j0, Bool.false_eq_true, if_false, p, e, n, if_true]
    exact Ev.now _

theorem or_u8_pair {a b : Int} (h0 : 0 ≤ a) (h1 : a ≤ 15) (h2 : 0 ≤ b) (h3 : b ≤ 15) : Go.bits .or .u8 ((a * 16) % 256) b = a * 16 + b := by
  rw [Int.emod_eq_of_lt (by omega) (by omega)]
  exact bits_join .u8 8 (by decide) wraps_u8 4 (a * 16) b (by omega) (by omega) (by omega) h2 (by omega) (by omega)

theorem impl_UnHex_l0 (s : ByteArray) (hs : s.size ≤ 140737488351232) (he : s.size % 2 = 0) (m : Nat) : ∀ (i : Nat) (acc : List Int), i + 2 * m = s.size → acc.length ≤ i →
    Ev (fun k => impl_UnHex.l0 k s acc (i : Int)) (unTold (unPairs s m (i : Int) acc)) := by
  induction m with
  | zero =>
    intro i acc hi ha
    refine evUp ?_
    have h1 : ¬ (i : Int) < (s.size : Int) := by omega
    simp only [impl_UnHex.l0, h1, if_false]
    exact Ev.now _
  | succ m ih =>
    intro i acc hi ha
    refine evUp ?_
    have h1 : (i : Int) < (s.size : Int) := by omega
    have h2 : 0 ≤ (i : Int) := by omega
    have e1 : wrap64 ((i : Int) + 1) = (i : Int) + 1 := w64 (by omega) (by omega)
    have e2 : wrap64 ((i : Int) + 2) = (i : Int) + 2 := w64 (by omega) (by omega)
    have h3 : 0 ≤ (i : Int) + 1 := by omega
    have h4 : (i : Int) + 1 < (s.size : Int) := by omega
    have r1 := bt_range s (i : Int)
    have r2 := bt_range s ((i : Int) + 1)
    have d1 := digOf_range (bt s (i : Int))
    have d2 := digOf_range (bt s ((i : Int) + 1))
    simp only [impl_UnHex.l0, h1, h2, if_true, e1, e2, h3, h4]
    refine evBind (impl_hexValue_ev _ r1.1 r1.2) ?_
    refine evBind (impl_hexValue_ev _ r2.1 r2.2) ?_
    by_cases c1 : digOf (bt s (i : Int)) < 0
    · simp only [c1, if_true, Bool.false_eq_true, if_false, unPairs, unTold]
      exact Ev.now _
    · by_cases c2 : digOf (bt s ((i : Int) + 1)) < 0
      · simp only [c1, c2, if_true, Bool.false_eq_true, if_false, unPairs, unTold]
        exact Ev.now _
      · have h5 : acc.length < 140737488355328 := by omega
        simp only [c1, c2, if_true, if_false, unPairs, h5]
        rw [or_u8_pair (by omega) d1.2 (by omega) d2.2]
        exact ih (i + 2) _ (by omega) (by rw [List.length_append]; simp; omega)

theorem impl_UnHex_ev (s : ByteArray) (hs : s.size ≤ 140737488351232) : Ev (fun k => impl_UnHex.f k s) (if s.size % 2 = 0 then unTold (unPairs s (s.size / 2) 0 []) else ([], false)) := by
  by_cases he : s.size % 2 = 0
  · have h1 : (s.size : Int) % 2 = 0 := by omega
    simp only [impl_UnHex.f, h1, he, if_true]
    exact impl_UnHex_l0 s hs he (s.size / 2) 0 [] (by omega) (by simp)
  · have h1 : ¬ (s.size : Int) % 2 = 0 := by omega
    simp only [impl_UnHex.f, h1, he, if_false]
    exact Ev.now _

/-- A draw tells a number of which P holds, and a cursor that stands right. -/
def Told (o : Option (Int × Int × Int)) (P : Int → Prop) : Prop := ∃ v i h, o = some (v, i, h) ∧ P v ∧ 0 ≤ i

theorem l1New_l0 (l : List Int) (hl : l.length ≤ 140737488351232) (d : Nat) : ∀ (i : Nat) (x : Int), i ≤ l.length → l.length - i = d → ∃ h, Ev (fun k => spec_l1New.l0 k l x (i : Int)) (l, 0, h) := by
  induction d with
  | zero =>
    intro i x hi hd
    obtain rfl : i = l.length := by omega
    refine ⟨x, evUp ?_⟩
    have h1 : ¬ ((l.length : Nat) : Int) < (l.length : Int) := by omega
    simp only [spec_l1New.l0, h1, if_false]
    exact Ev.now _
  | succ d ih =>
    intro i x hi hd
    have h1 : (i : Int) < (l.length : Int) := by omega
    have h2 : 0 ≤ (i : Int) := by omega
    by_cases h3 : (i : Int) < 4000
    · obtain ⟨h, hh⟩ := ih (i + 1) (Go.bits .and .i64 (wrap64 ((wrap64 ((wrap64 (x * 137)) + (wrap64 (rd l i)))) + 11)) 1073741823) (by omega) (by omega)
      refine ⟨h, evUp ?_⟩
      simp only [spec_l1New.l0, h1, h2, h3, if_true]
      rw [w64 (x := (i : Int) + 1) (by omega) (by omega)]
      exact hh
    · refine ⟨x, evUp ?_⟩
      simp only [spec_l1New.l0, h1, h3, if_true, if_false]
      exact Ev.now _

theorem l1New_ev (l : List Int) (hl : l.length ≤ 140737488351232) : ∃ h, Ev (fun k => spec_l1New.f k l) (l, 0, h) :=
  l1New_l0 l hl l.length 0 _ (by omega) (by omega)

theorem l1Byte_told (l : List Int) (hl : l.length ≤ 140737488351232) (i h : Int) (hi : 0 ≤ i) : Told (spec_l1Byte.f l i h) (fun v => 0 ≤ v ∧ v ≤ 255) := by
  by_cases h1 : i < (l.length : Int)
  · refine ⟨_, _, _, by simp only [spec_l1Byte.f, h1, hi, if_true]; rfl, ?_, ?_⟩
    · rw [and_255]; omega
    · rw [w64 (by omega) (by omega)]; omega
  · refine ⟨_, _, _, by simp only [spec_l1Byte.f, h1, if_false]; rfl, ?_, hi⟩
    rw [and_255]; omega

theorem l1Below_told (l : List Int) (hl : l.length ≤ 140737488351232) (i h n : Int) (hi : 0 ≤ i) (hn : 0 < n) : Told (spec_l1Below.f l i h n) (fun v => 0 ≤ v ∧ v < n ∧ v ≤ 16777215) := by
  have n0 : ¬ n ≤ 0 := by omega
  have n1 : ¬ n = 0 := by omega
  obtain ⟨v1, i1, h1, e1, p1, hi1⟩ := l1Byte_told l hl i h hi
  by_cases h2 : n ≤ 256
  · refine ⟨_, _, _, by simp only [spec_l1Below.f, n0, n1, h2, if_false, if_true, e1, Option.bind_some]; rfl, ?_, hi1⟩
    rw [tmod_pos p1.1]
    have a1 := Int.emod_nonneg v1 n1
    have a2 := Int.emod_lt_of_pos v1 hn
    have a3 : v1 % n ≤ v1 := emod_le_self p1.1 hn
    omega
  · obtain ⟨v2, i2, h2', e2, p2, hi2⟩ := l1Byte_told l hl i1 h1 hi1
    obtain ⟨v3, i3, h3, e3, p3, hi3⟩ := l1Byte_told l hl i2 h2' hi2
    refine ⟨_, _, _, by simp only [spec_l1Below.f, n0, n1, h2, if_false, e1, e2, e3, Option.bind_some]; rfl, ?_, hi3⟩
    rw [w64 (x := v1 * 65536) (by omega) (by omega), w64 (x := v2 * 256) (by omega) (by omega), w64 (x := v1 * 65536 + v2 * 256) (by omega) (by omega), w64 (by omega) (by omega), tmod_pos (by omega)]
    have a0 : 0 ≤ v1 * 65536 + v2 * 256 + v3 := by omega
    have a1 := Int.emod_nonneg (v1 * 65536 + v2 * 256 + v3) n1
    have a2 := Int.emod_lt_of_pos (v1 * 65536 + v2 * 256 + v3) hn
    have a3 : (v1 * 65536 + v2 * 256 + v3) % n ≤ v1 * 65536 + v2 * 256 + v3 := emod_le_self a0 hn
    omega

theorem l1Int_told (l : List Int) (hl : l.length ≤ 140737488351232) (i h : Int) (xs : List Int) (hi : 0 ≤ i) (hx : 0 < xs.length) : Told (spec_l1Int.f l i h xs) (fun v => v ∈ xs) := by
  obtain ⟨v, i1, h1, e1, p1, hi1⟩ := l1Below_told l hl i h (xs.length : Int) hi (by omega)
  have a1 : 0 ≤ v := p1.1
  have a2 : v < (xs.length : Int) := p1.2.1
  exact ⟨_, _, _, by simp only [spec_l1Int.f, e1, Option.bind_some, a1, a2, if_true]; rfl, rd_mem a1 a2, hi1⟩

theorem l1Bytes_l0 (l : List Int) (hl : l.length ≤ 140737488351232) (n : Nat) (hn : n ≤ 1000) (d : Nat) : ∀ (j : Nat) (acc : List Int) (i h : Int), j ≤ n → n - j = d → acc.length = j → B8 acc → 0 ≤ i →
    ∃ xs i' h', Ev (fun k => spec_l1Bytes.l0 k (n : Int) acc (j : Int) l i h) (xs, i', h') ∧ B8 xs ∧ xs.length = n ∧ 0 ≤ i' := by
  induction d with
  | zero =>
    intro j acc i h hj hd ha hb hi
    obtain rfl : j = n := by omega
    refine ⟨acc, i, h, evUp ?_, hb, ha, hi⟩
    have h1 : ¬ (j : Int) < (j : Int) := by omega
    simp only [spec_l1Bytes.l0, h1, if_false]
    exact Ev.now _
  | succ d ih =>
    intro j acc i h hj hd ha hb hi
    have h1 : (j : Int) < (n : Int) := by omega
    have h2 : acc.length < 140737488355328 := by omega
    obtain ⟨v, i1, c1, e1, p1, hi1⟩ := l1Byte_told l hl i h hi
    have e2 : v % 256 = v := by omega
    have hb1 : B8 (acc ++ [v]) := hb.append (fun x hx => by simp at hx; subst hx; exact p1)
    obtain ⟨xs, i', h', hev, hb', hlen, hi'⟩ := ih (j + 1) (acc ++ [v]) i1 c1 (by omega) (by omega) (by rw [List.length_append, ha]; rfl) hb1 hi1
    refine ⟨xs, i', h', evUp ?_, hb', hlen, hi'⟩
    simp only [spec_l1Bytes.l0, h1, h2, if_true, e1, Option.bind_some, e2]
    rw [w64 (x := (j : Int) + 1) (by omega) (by omega)]
    exact hev

theorem l1Some_ev (l : List Int) (hl : l.length ≤ 140737488351232) (i h : Int) (hi : 0 ≤ i) :
    ∃ xs i' h', Ev (fun k => spec_l1Some.f k l i h) (xs, i', h') ∧ B8 xs ∧ xs.length ≤ 20 ∧ 0 ≤ i' := by
  obtain ⟨v, i1, c1, e1, p1, hi1⟩ := l1Int_told l hl i h [0, 1, 2, 3, 5, 8, 20] hi (by simp)
  have hv : 0 ≤ v ∧ v ≤ 20 := by simp at p1; omega
  obtain ⟨m, rfl⟩ := Int.eq_ofNat_of_zero_le hv.1
  obtain ⟨xs, i', h', hev, hb, hlen, hi'⟩ := l1Bytes_l0 l hl m (by omega) m 0 [] i1 c1 (by omega) (by omega) rfl B8.nil hi1
  refine ⟨xs, i', h', ?_, hb, by omega, hi'⟩
  simp only [spec_l1Some.f, e1, Option.bind_some]
  exact evBind (g := fun k => spec_l1Bytes.f k l i1 c1 (m : Int)) hev (Ev.now _)

theorem putWord_draw (l : List Int) (hl : l.length ≤ 140737488351232) : ∃ b n, Ev (fun k => spec_DrawPutWord.f k l) (b, n) ∧ B8 b ∧ b.length ≤ 20 := by
  obtain ⟨h, hn⟩ := l1New_ev l hl
  obtain ⟨b, i1, c1, hev, hb, hlen, hi1⟩ := l1Some_ev l hl 0 h (by omega)
  obtain ⟨v, i2, c2, e2, _, hi2⟩ := l1Below_told l hl i1 c1 65536 hi1 (by omega)
  obtain ⟨n, i3, c3, e3, _, hi3⟩ := l1Int_told l hl i2 c2 [0, 1, 255, 256, 65535, 65536, (-1), (-65536), 9223372036854775807, (-9223372036854775808), v] hi2 (by simp)
  refine ⟨b, n, ?_, hb, hlen⟩
  simp only [spec_DrawPutWord.f]
  refine evBind hn ?_
  refine evBind hev ?_
  simp only [e2, e3, Option.bind_some]
  exact Ev.now _

theorem bt_nums (xs : List Int) (hb : B8 xs) (i : Nat) (h : i < xs.length) : bt (strOfNums xs) (i : Int) = xs[i] := by
  have hs : i < (strOfNums xs).size := by rw [strOfNums_size]; exact h
  have e : (strOfNums xs)[i]'hs = UInt8.ofNat xs[i].toNat := by
    simp [strOfNums, ByteArray.getElem_eq_getElem_data]
  unfold bt
  rw [Int.toNat_natCast, dif_pos hs, e]
  have := hb _ (List.getElem_mem h)
  rw [UInt8.toNat_ofNat', Nat.mod_eq_of_lt (by omega)]
  omega

theorem digOf_tab : ∀ v : Fin 16, digOf (bt hexTab (v.val : Int)) = (v.val : Int) := by decide
theorem tab_8 : ∀ v : Fin 16, 0 ≤ bt hexTab (v.val : Int) ∧ bt hexTab (v.val : Int) ≤ 255 := fun v => bt_range _ _
theorem dig_tab {v : Int} (h0 : 0 ≤ v) (h1 : v < 16) : digOf (bt hexTab v) = v := by
  have h := digOf_tab ⟨v.toNat, by omega⟩
  simp only [Int.toNat_of_nonneg h0] at h
  exact h
theorem hexes_8 (l : List Int) : B8 (hexes l) := by
  induction l with
  | nil => exact B8.nil
  | cons x l ih =>
    rw [hexes_cons]
    refine B8.append ?_ ih
    intro y hy
    simp [hex2] at hy
    rcases hy with rfl | rfl <;> exact bt_range _ _
theorem hexes_get (l : List Int) : ∀ (i : Nat) (h : i < l.length), (hexes l)[2 * i]'(by rw [hexes_length]; omega) = bt hexTab (l[i] / 16) ∧ (hexes l)[2 * i + 1]'(by rw [hexes_length]; omega) = bt hexTab (l[i] % 16) := by
  induction l with
  | nil => intro i h; exact absurd h (Nat.not_lt_zero _)
  | cons x l ih =>
    intro i h
    simp only [hexes_cons]
    cases i with
    | zero => simp [hex2]
    | succ i =>
      have := ih i (by simpa using h)
      constructor
      · rw [List.getElem_append_right (by simp [hex2]; omega)]
        simp only [hex2, List.length_cons, List.length_nil, List.getElem_cons_succ]
        have e : 2 * (i + 1) - (0 + 1 + 1) = 2 * i := by omega
        simp only [e]; exact this.1
      · rw [List.getElem_append_right (by simp [hex2]; omega)]
        simp only [hex2, List.length_cons, List.length_nil, List.getElem_cons_succ]
        have e : 2 * (i + 1) + 1 - (0 + 1 + 1) = 2 * i + 1 := by omega
        simp only [e]; exact this.2

theorem unPairs_hexes (l : List Int) (hb : B8 l) (d : Nat) : ∀ (i : Nat) (acc : List Int), i ≤ l.length → l.length - i = d →
    unPairs (strOfNums (hexes l)) d ((2 * i : Nat) : Int) acc = some (acc ++ l.drop i) := by
  induction d with
  | zero =>
    intro i acc hi hd
    obtain rfl : i = l.length := by omega
    simp [unPairs]
  | succ d ih =>
    intro i acc hi hd
    have hlt : i < l.length := by omega
    have hx := hb _ (List.getElem_mem hlt)
    have g := hexes_get l i hlt
    have b1 : bt (strOfNums (hexes l)) ((2 * i : Nat) : Int) = bt hexTab (l[i] / 16) := by
      rw [bt_nums _ (hexes_8 l) _ (by rw [hexes_length]; omega)]; exact g.1
    have b2 : bt (strOfNums (hexes l)) (((2 * i : Nat) : Int) + 1) = bt hexTab (l[i] % 16) := by
      rw [show ((2 * i : Nat) : Int) + 1 = ((2 * i + 1 : Nat) : Int) from by omega, bt_nums _ (hexes_8 l) _ (by rw [hexes_length]; omega)]; exact g.2
    have n1 : ¬ l[i] / 16 < 0 := by omega
    have n2 : ¬ l[i] % 16 < 0 := by omega
    have e : l[i] / 16 * 16 + l[i] % 16 = l[i] := by omega
    simp only [unPairs, b1, b2, dig_tab (v := l[i] / 16) (by omega) (by omega), dig_tab (v := l[i] % 16) (by omega) (by omega), n1, n2, if_false, e]
    rw [show ((2 * i : Nat) : Int) + 2 = ((2 * (i + 1) : Nat) : Int) from by omega, ih (i + 1) _ (by omega) (by omega), List.append_assoc, List.drop_eq_getElem_cons hlt]
    rfl

theorem unHex_hex (l : List Int) (hb : B8 l) (hl : l.length ≤ 1048576) : Ev (fun k => impl_UnHex.f k (strOfNums (hexes l))) (l, true) := by
  have hs : (strOfNums (hexes l)).size = 2 * l.length := by rw [strOfNums_size, hexes_length]
  have h := impl_UnHex_ev (strOfNums (hexes l)) (by omega)
  rw [hs] at h
  have e1 : 2 * l.length % 2 = 0 := by omega
  have e2 : 2 * l.length / 2 = l.length := by omega
  rw [if_pos e1, e2] at h
  have u := unPairs_hexes l hb l.length 0 [] (by omega) (by omega)
  rw [show ((2 * 0 : Nat) : Int) = 0 from rfl] at u
  rw [u] at h
  simpa [unTold] using h

theorem FnDigits : laws_FnDigits.Pure := by
  intro l h1 h2 h3
  refine Ev.rounds (g := fun k => laws_FnDigits.f k l) ?_
  by_cases hb : (l.length : Int) > 1048576
  · simp only [laws_FnDigits.f, laws_big.f, hb, decide_true, if_true, Option.bind_some]; exact Ev.now _
  · simp only [laws_FnDigits.f, laws_big.f, hb, decide_false, Bool.false_eq_true, if_false, Option.bind_some]
    obtain ⟨b, n, hd, hb8, hlen⟩ := putWord_draw l (by omega)
    have hx := impl_Hex_ev b hb8 (by omega)
    have hu := unHex_hex b hb8 (by omega)
    have hp : (b ++ [n / 256 % 256, n % 256]).length = b.length + 2 := by rw [List.length_append]; rfl
    have hp8 : B8 (b ++ [n / 256 % 256, n % 256]) := hb8.append (fun y hy => by simp at hy; rcases hy with rfl | rfl <;> omega)
    have w1 : wordOf (b ++ [n / 256 % 256, n % 256]) (b.length : Int) = (n % 65536, true) := by
      have c1 : 0 ≤ (b.length : Int) ∧ (b.length : Int) + 2 ≤ ((b ++ [n / 256 % 256, n % 256]).length : Int) := by rw [hp]; omega
      have r1 : rd (b ++ [n / 256 % 256, n % 256]) (b.length : Int) = n / 256 % 256 := by
        rw [rd_get (by rw [hp]; omega)]; simp
      have r2 : rd (b ++ [n / 256 % 256, n % 256]) ((b.length : Int) + 1) = n % 256 := by
        rw [show (b.length : Int) + 1 = ((b.length + 1 : Nat) : Int) from by omega, rd_get (by rw [hp]; omega)]; simp
      unfold wordOf
      rw [if_pos c1, r1, r2]
      congr 1
      omega
    have w2 : wordOf (b ++ [n / 256 % 256, n % 256]) ((b.length : Int) + 1) = (0, false) := by
      unfold wordOf; rw [if_neg (by rw [hp]; omega)]
    have e1 : wrap64 ((b.length : Int) + 1) = (b.length : Int) + 1 := w64 (by omega) (by omega)
    have e2 : wrap64 (2 * (b.length : Int)) = ((strOfNums (hexes b)).size : Int) := by
      rw [strOfNums_size, hexes_length, w64 (by omega) (by omega)]; omega
    have e3 : wrap64 ((b.length : Int) + 2) = ((b ++ [n / 256 % 256, n % 256]).length : Int) := by
      rw [hp, w64 (by omega) (by omega)]; omega
    have c1 : 0 ≤ (b.length : Int) := by omega
    have c2 : (b.length : Int) ≤ ((b ++ [n / 256 % 256, n % 256]).length : Int) := by rw [hp]; omega
    refine evBind hd ?_
    refine evBind hx ?_
    refine evBind hu ?_
    simp only [impl_PutWord_eq b n (by omega), Option.bind_some, e1]
    simp only [impl_WordAt_eq _ _ (show (b ++ [n / 256 % 256, n % 256]).length ≤ 140737488355328 by rw [hp]; omega) hp8, Option.bind_some, w1, w2, if_true]
    refine evBind (sameBytes_refl b (by omega)) ?_
    simp only [if_true]
    refine evBind hx ?_
    simp only [e2, e3, if_true, and_65535, Bool.false_eq_true, if_false, c1, c2]
    rw [Int.toNat_natCast, List.take_left]
    refine evBind (sameBytes_refl b (by omega)) ?_
    exact Ev.now _

end Go.Proofs.Ytioajlgddbnlgaa.Pure
