/- The law on RingPut is true at every ring and bytes: both put what there is room for behind. No condition. -/
import Derived.Test.YtnikdfcdddlfbaaSFnExactRingPut
import Derived.Test.YtnikdfcdddlfbaaC
namespace Go.Proofs.Ytnikdfcdddlfbaa.Pure
open Go.Proofs.Ytnikdfcdddlfbaa.G Go Go.RowKit Go.Proofs.Ytnikdfcdddlfbaa.PFnExactRingPut Go.Proofs.YtnikdfcdddlfbaaW.PrintWords Go.Proofs.YtnikdfcdddlfbaaW.PrintLast Go.Proofs.Ytnikdfcdddlfbaa.PlainC
set_option linter.unusedVariables false
set_option linter.unusedSimpArgs false

theorem szByteS_some (l : List Int) (m : Int) (hl : l.length ≤ maxLen) (h0 : 0 ≤ m) (h1 : m ≤ 1048576) : ∃ v, laws_szByteS.f l m = some v ∧ (¬ v < 0 → v = m - l.length ∧ l.length ≤ 1048576) := by
  unfold maxLen at hl
  have e : wrap64 (m - (l.length : Int)) = m - (l.length : Int) := w64 (by omega) (by omega)
  by_cases h : m - (l.length : Int) < 0
  · exact ⟨-1, by simp only [laws_szByteS.f, e, h, if_true], fun hn => absurd (by decide) hn⟩
  · exact ⟨_, by simp only [laws_szByteS.f, e, h, if_false], fun _ => ⟨rfl, by omega⟩⟩

theorem toByteS_l0 (l : List Int) (hl : l.length ≤ 140737488351232) (d : Nat) : ∀ i : Nat, i ≤ l.length → l.length - i = d →
    Ev (fun k => laws_toByteS.l0 k l (l.take i ++ List.replicate (l.length - i) 0) (i : Int)) l := by
  induction d with
  | zero =>
    intro i hi hd
    obtain rfl : i = l.length := by omega
    refine evUp ?_
    have h1 : ¬ ((l.length : Nat) : Int) < (l.length : Int) := by omega
    simp only [laws_toByteS.l0, h1, if_false]
    rw [List.take_length, Nat.sub_self, List.replicate_zero, List.append_nil]
    exact Ev.now _
  | succ d ih =>
    intro i hi hd
    have hlt : i < l.length := by omega
    refine evUp ?_
    have h1 : (i : Int) < (l.length : Int) := by omega
    have h2 : 0 ≤ (i : Int) := by omega
    have h3 : (i : Int) < ((l.take i ++ List.replicate (l.length - i) (0 : Int)).length : Int) := by
      rw [List.length_append, List.length_take, List.length_replicate]; omega
    simp only [laws_toByteS.l0, h1, h2, h3, if_true]
    rw [rd_get hlt, Int.toNat_natCast, set_copy (0 : Int) l i hlt, w64 (by omega) (by omega)]
    exact ih (i + 1) (by omega) (by omega)

theorem toByteS_ev (l : List Int) (hl : l.length ≤ 140737488351232) : Ev (fun k => laws_toByteS.f k l) l := by
  have h := toByteS_l0 l hl l.length 0 (by omega) (by omega)
  have h1 : 0 ≤ (l.length : Int) := by omega
  have h2 : ((l.length : Int)).toNat ≤ 281474976710656 := by omega
  simp only [laws_toByteS.f, h1, h2, if_true]
  rw [Int.toNat_natCast]
  simpa using h

theorem eqByteS_l0 (a b : List Int) (hl : a.length ≤ 140737488351232) (he : a.length = b.length) (d : Nat) : ∀ i : Nat, i ≤ a.length → a.length - i = d →
    Ev (fun k => laws_eqByteS.l0 k a b (i : Int)) (decide (a.drop i = b.drop i)) := by
  induction d with
  | zero =>
    intro i hi hd
    obtain rfl : i = a.length := by omega
    refine evUp ?_
    have h1 : ¬ ((a.length : Nat) : Int) < (a.length : Int) := by omega
    simp only [laws_eqByteS.l0, h1, if_false]
    have e : decide (a.drop a.length = b.drop a.length) = true := by
      rw [List.drop_length, he, List.drop_length]; rfl
    rw [e]
    exact Ev.now _
  | succ d ih =>
    intro i hi hd
    have ha : i < a.length := by omega
    have hb : i < b.length := by omega
    refine evUp ?_
    have h1 : (i : Int) < (a.length : Int) := by omega
    have h2 : 0 ≤ (i : Int) := by omega
    have h3 : (i : Int) < (b.length : Int) := by omega
    simp only [laws_eqByteS.l0, h1, h2, h3, if_true]
    rw [rd_get ha, rd_get hb, w64 (by omega) (by omega)]
    by_cases e : a[i] = b[i]
    · simp only [e, if_true]
      have e2 : decide (a.drop i = b.drop i) = decide (a.drop (i + 1) = b.drop (i + 1)) := by
        rw [decide_eq_decide, drop_eq_iff ha hb]; simp [e]
      rw [e2]
      exact ih (i + 1) (by omega) (by omega)
    · simp only [e, if_false]
      have e2 : decide (a.drop i = b.drop i) = false := by
        rw [decide_eq_false_iff_not, drop_eq_iff ha hb]; simp [e]
      rw [e2]
      exact Ev.now _

theorem eqByteS_ev (a b : List Int) (hl : a.length ≤ 140737488351232) : Ev (fun k => laws_eqByteS.f k a b) (decide (a = b)) := by
  by_cases he : a.length = b.length
  · have h := eqByteS_l0 a b hl he a.length 0 (by omega) (by omega)
    have h1 : (a.length : Int) = (b.length : Int) := by omega
    simp only [laws_eqByteS.f, h1, if_true]
    exact h
  · have h1 : ¬ (a.length : Int) = (b.length : Int) := by omega
    have e : decide (a = b) = false := by
      rw [decide_eq_false_iff_not]; intro h; exact he (by rw [h])
    simp only [laws_eqByteS.f, h1, if_false]
    rw [e]
    exact Ev.now _

theorem eqByteS_refl (a : List Int) (hl : a.length ≤ 140737488351232) : Ev (fun k => laws_eqByteS.f k a a) true := by
  have h := eqByteS_ev a a hl
  rwa [decide_eq_true rfl] at h

theorem szRing_some (l : List Int) (m : Int) (hl : l.length ≤ maxLen) (h0 : 0 ≤ m) (h1 : m ≤ 1048576) : ∃ v, laws_szRing.f l m = some v ∧ (¬ v < 0 → v = m - l.length ∧ l.length ≤ 1048576) := by
  obtain ⟨v, e, h⟩ := szByteS_some l m hl h0 h1
  by_cases c : v < 0
  · exact ⟨-1, by simp only [laws_szRing.f, e, Option.bind_some, c, if_true], fun hn => absurd (by decide) hn⟩
  · exact ⟨v, by simp only [laws_szRing.f, e, Option.bind_some, c, if_false], fun _ => h c⟩
theorem toRing_ev (l : List Int) (hl : l.length ≤ 140737488351232) : Ev (fun k => laws_toRing.f k l) l := by
  simp only [laws_toRing.f]
  exact evBind (toByteS_ev l hl) (Ev.now _)
theorem eqRing_refl (l : List Int) (hl : l.length ≤ 140737488351232) : Ev (fun k => laws_eqRing.f k l l) true := by
  simp only [laws_eqRing.f]
  refine evBind (eqByteS_refl l hl) ?_
  simp only [if_true]
  exact Ev.now _

theorem markByteS_l0 (l : List Int) (k0 : Int) (hk0 : 0 ≤ k0) (hk : k0 + l.length ≤ 4611686018427387904) (hl : l.length ≤ 140737488355328) (d : Nat) : ∀ i : Nat, i ≤ l.length → l.length - i = d →
    Ev (fun k => laws_markByteS.l0 k (marks (· % 256) k0 i ++ l.drop i) (k0 + i) (i : Int)) (k0 + l.length, marks (· % 256) k0 l.length) := by
  induction d with
  | zero =>
    intro i hi hd
    obtain rfl : i = l.length := by omega
    refine evUp ?_
    have h1 : ¬ ((l.length : Nat) : Int) < (((marks (· % 256) k0 l.length ++ l.drop l.length).length : Nat) : Int) := by
      rw [List.length_append, marks_length, List.drop_length, List.length_nil]; omega
    simp only [laws_markByteS.l0, h1, if_false]
    rw [List.drop_length, List.append_nil]
    exact Ev.now _
  | succ d ih =>
    intro i hi hd
    have hlt : i < l.length := by omega
    refine evUp ?_
    have h1 : (i : Int) < (((marks (· % 256) k0 i ++ l.drop i).length : Nat) : Int) := by
      rw [List.length_append, marks_length, List.length_drop]; omega
    have h2 : 0 ≤ (i : Int) := by omega
    simp only [laws_markByteS.l0, h1, h2, if_true]
    rw [Int.toNat_natCast, set_next _ l _ i (marks_length _ _ _) hlt, w64 (x := k0 + i + 1) (by omega) (by omega), w64 (x := (i : Int) + 1) (by omega) (by omega)]
    have h := ih (i + 1) (by omega) (by omega)
    rw [marks_succ] at h
    rw [show k0 + (i : Int) + 1 = k0 + ((i + 1 : Nat) : Int) from by omega]
    exact h

theorem markByteS_ev (l : List Int) (k0 : Int) (hk0 : 0 ≤ k0) (hk : k0 + l.length ≤ 4611686018427387904) (hl : l.length ≤ 140737488355328) :
    Ev (fun k => laws_markByteS.f k l k0) (k0 + l.length, marks (· % 256) k0 l.length) := by
  have h := markByteS_l0 l k0 hk0 hk hl l.length 0 (by omega) (by omega)
  simp only [laws_markByteS.f]
  simpa [marks] using h

theorem heldByteS_l0 (n : Nat) (k0 : Int) (hk0 : 0 ≤ k0) (hk : k0 + n ≤ 4611686018427387904) (hl : n ≤ 140737488355328) (d : Nat) : ∀ i : Nat, i ≤ n → n - i = d →
    Ev (fun k => laws_heldByteS.l0 k (marks (· % 256) k0 n) (k0 + i) (i : Int)) (k0 + n) := by
  induction d with
  | zero =>
    intro i hi hd
    obtain rfl : i = n := by omega
    refine evUp ?_
    have h1 : ¬ ((i : Nat) : Int) < (((marks (· % 256) k0 i).length : Nat) : Int) := by rw [marks_length]; omega
    simp only [laws_heldByteS.l0, h1, if_false]
    exact Ev.now _
  | succ d ih =>
    intro i hi hd
    have hlt : i < n := by omega
    refine evUp ?_
    have h1 : (i : Int) < (((marks (· % 256) k0 n).length : Nat) : Int) := by rw [marks_length]; omega
    have h2 : 0 ≤ (i : Int) := by omega
    have h3 : rd (marks (· % 256) k0 n) (i : Int) = (k0 + i) % 256 := by
      rw [rd_get (by rw [marks_length]; exact hlt), marks_get _ _ _ _ hlt]
    simp only [laws_heldByteS.l0, h1, h2, h3, if_true]
    rw [w64 (x := k0 + i + 1) (by omega) (by omega), w64 (x := (i : Int) + 1) (by omega) (by omega)]
    rw [show k0 + (i : Int) + 1 = k0 + ((i + 1 : Nat) : Int) from by omega]
    exact ih (i + 1) (by omega) (by omega)

theorem heldByteS_ev (n : Nat) (k0 : Int) (hk0 : 0 ≤ k0) (hk : k0 + n ≤ 4611686018427387904) (hl : n ≤ 140737488355328) :
    Ev (fun k => laws_heldByteS.f k (marks (· % 256) k0 n) k0) (k0 + n) := by
  have h := heldByteS_l0 n k0 hk0 hk hl n 0 (by omega) (by omega)
  simp only [laws_heldByteS.f]
  simpa using h

theorem markRing_ev (l : List Int) (k0 : Int) (hk0 : 0 ≤ k0) (hk : k0 + l.length ≤ 4611686018427387904) (hl : l.length ≤ 140737488351232) : Ev (fun k => laws_markRing.f k l k0) (k0 + l.length, marks (· % 256) k0 l.length) := by
  simp only [laws_markRing.f]
  exact evBind (markByteS_ev l k0 hk0 hk (by omega)) (Ev.now _)
theorem heldRing_ev (n : Nat) (k0 : Int) (hk0 : 0 ≤ k0) (hk : k0 + n ≤ 4611686018427387904) (hl : n ≤ 140737488351232) : Ev (fun k => laws_heldRing.f k (marks (· % 256) k0 n) k0) (k0 + n) := by
  simp only [laws_heldRing.f]
  refine evBind (heldByteS_ev n k0 hk0 hk (by omega)) ?_
  have n1 : ¬ (k0 + (n : Int) < 0) := by omega
  simp only [n1, if_false]
  exact Ev.now _

/-- What a ring is once bytes are put into it, and how many there was no room for. -/
def ringPutOf (l b : List Int) : List Int × Int := if l.length ≤ 300 then (l ++ b.take (min b.length (300 - l.length)), (b.length : Int) - ((min b.length (300 - l.length) : Nat) : Int)) else (l, (b.length : Int))
theorem clone_bytes (l : List Int) (h : l.length ≤ 70368744177664) : slices_Clone_byte_byte.f l = some l := by unfold slices_Clone_byte_byte.f; rw [if_pos (by omega)]
theorem concat_bytes (l b : List Int) (h : l.length + b.length ≤ 70368744177664) : slices_Concat_byte_byte.f [l, b] = some (l ++ b) := by
  have e : [l, b].flatten = l ++ b := by simp
  unfold slices_Concat_byte_byte.f
  rw [e, if_pos (by rw [List.length_append]; exact h)]
theorem impl_RingPut_eq (l b : List Int) (hl : l.length ≤ 1048576) (hb : b.length ≤ 1048576) : impl_RingPut.f l b = some (ringPutOf l b) := by
  unfold impl_RingPut.f impl_RingOk.f ringPutOf
  by_cases h : l.length ≤ 300
  · have h1 : (l.length : Int) ≤ 300 := by omega
    have e0 : wrap64 (300 - (l.length : Int)) = 300 - (l.length : Int) := w64 (by omega) (by omega)
    have e : mn (b.length : Int) (300 - (l.length : Int)) = ((min b.length (300 - l.length) : Nat) : Int) := by unfold mn; split <;> omega
    have e2 : wrap64 ((b.length : Int) - ((min b.length (300 - l.length) : Nat) : Int)) = (b.length : Int) - ((min b.length (300 - l.length) : Nat) : Int) := w64 (by omega) (by omega)
    rw [decide_eq_true h1, Option.bind_some, if_pos rfl, e0, e, if_pos (by omega), if_pos (by omega), Int.toNat_natCast, concat_bytes _ _ (by rw [List.length_take]; omega), Option.bind_some, e2, if_pos h]
  · have h1 : ¬ (l.length : Int) ≤ 300 := by omega
    rw [decide_eq_false h1, Option.bind_some, if_neg (by decide), clone_bytes _ (by omega), Option.bind_some, if_neg h]
theorem spec_RingPut_eq (l b : List Int) (hl : l.length ≤ 1048576) (hb : b.length ≤ 1048576) : spec_RingPut.f l b = some (ringPutOf l b) := by
  unfold spec_RingPut.f spec_RingOk.f ringPutOf
  rw [Option.bind_some, if_pos (by rw [List.length_nil]; omega), Option.bind_some, List.nil_append]
  by_cases h : l.length ≤ 300
  · have h1 : (l.length : Int) ≤ 300 := by omega
    have e0 : wrap64 (300 - (l.length : Int)) = 300 - (l.length : Int) := w64 (by omega) (by omega)
    rw [decide_eq_true h1, Option.bind_some, if_pos rfl, e0, if_pos h]
    by_cases c : 300 - (l.length : Int) > (b.length : Int)
    · have em : min b.length (300 - l.length) = b.length := by omega
      rw [if_pos c, if_pos (by omega), if_pos (by omega), Int.toNat_natCast, if_pos (by rw [List.length_take]; omega), em, w64 (by omega) (by omega)]
    · have em : min b.length (300 - l.length) = 300 - l.length := by omega
      have en : (300 - (l.length : Int)).toNat = 300 - l.length := by omega
      have ei : ((300 - l.length : Nat) : Int) = 300 - (l.length : Int) := by omega
      rw [if_neg c, if_pos (by omega), if_pos (by omega), en, if_pos (by rw [List.length_take]; omega), em, ei, w64 (by omega) (by omega)]
  · have h1 : ¬ (l.length : Int) ≤ 300 := by omega
    rw [decide_eq_false h1, Option.bind_some, if_neg (by decide), if_neg h]

theorem putOf_length (l b : List Int) (hl : l.length ≤ 1048576) : (ringPutOf l b).1.length ≤ 1048576 := by
  unfold ringPutOf
  split
  · rw [List.length_append, List.length_take]; omega
  · exact hl

theorem FnExactRingPut : laws_FnExactRingPut.Pure := by
  intro l b h1 _ h2 h3
  refine Ev.rounds (g := fun k => laws_FnExactRingPut.f k l b) ?_
  by_cases hbig : (b.length : Int) > 1048576
  · simp only [laws_FnExactRingPut.f, hbig, if_true]; exact Ev.now _
  have hb : b.length ≤ 1048576 := by omega
  obtain ⟨v, e, h⟩ := szRing_some l 1048576 h1 (by omega) (by omega)
  by_cases c : v < 0
  · simp only [laws_FnExactRingPut.f, hbig, if_false, e, Option.bind_some, c, if_true]; exact Ev.now _
  · have hl := (h c).2
    have ht := toRing_ev l (by omega)
    have htb := toByteS_ev b (by omega)
    have hs := spec_RingPut_eq l b hl hb
    have hi := impl_RingPut_eq l b hl hb
    have z1 := putOf_length l b hl
    generalize ringPutOf l b = R at hs hi z1
    obtain ⟨r, o⟩ := R
    dsimp only at z1
    have n1 : ¬ (1 + (l.length : Int) + (b.length : Int) < 0) := by omega
    have n2 : ¬ (1 + (r.length : Int) < 0) := by omega
    have q1 := eqRing_refl r (by omega)
    have hm := heldRing_ev r.length 1 (by omega) (by omega) (by omega)
    have mk := markRing_ev r 1 (by omega) (by omega) (by omega)
    have j2 : Ev (fun k => laws_FnExactRingPut.j2 k (1 + (r.length : Int)) false (marks (· % 256) 1 r.length)) true := by
      refine evUp ?_
      simp only [laws_FnExactRingPut.j2, Bool.false_eq_true, if_false]
      refine evBind hm ?_
      simp only [n2, if_false, if_true]
      exact Ev.now _
    have j1 : Ev (fun k => laws_FnExactRingPut.j1 k b o false l r r) true := by
      refine evUp ?_
      simp only [laws_FnExactRingPut.j1, Bool.false_eq_true, if_false]
      refine evBind mk ?_
      refine evBind hm ?_
      simp only [n2, if_false, if_true]
      refine evBind ht ?_
      refine evBind htb ?_
      simp only [hi, Option.bind_some]
      refine evBind q1 ?_
      simp only [if_true, bne_self_eq_false]
      exact j2
    have j0 : Ev (fun k => laws_FnExactRingPut.j0 k b o b o false l r l r) true := by
      refine evUp ?_
      simp only [laws_FnExactRingPut.j0, Bool.false_eq_true, if_false]
      refine evBind ht ?_
      refine evBind (eqRing_refl l (by omega)) ?_
      simp only [if_true]
      refine evBind htb ?_
      refine evBind (eqByteS_refl b (by omega)) ?_
      simp only [if_true]
      refine evBind (markRing_ev l 1 (by omega) (by omega) (by omega)) ?_
      refine evBind (markByteS_ev b (1 + (l.length : Int)) (by omega) (by omega) (by omega)) ?_
      simp only [n1, if_false]
      refine evBind q1 ?_
      simp only [if_true, bne_self_eq_false]
      exact j1
    simp only [laws_FnExactRingPut.f, hbig, if_false, e, Option.bind_some, c]
    refine evBind ht ?_
    refine evBind htb ?_
    simp only [hs, Option.bind_some]
    refine evBind ht ?_
    refine evBind htb ?_
    simp only [hi, Option.bind_some]
    refine evBind q1 ?_
    simp only [if_true, bne_self_eq_false]
    exact j0

end Go.Proofs.Ytnikdfcdddlfbaa.Pure
