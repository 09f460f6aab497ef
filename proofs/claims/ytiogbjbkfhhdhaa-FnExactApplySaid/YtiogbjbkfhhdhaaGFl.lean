/- Rows of questions and answers as one's own, the row's block and the rows within told apart: read, marked, held; made of questions that came in. Condition: no row is longer than a machine's memory. -/
import Derived.Test.YtiogbjbkfhhdhaaGHelpS
import Derived.Test.YtiogbjbkfhhdhaaGHelpM
namespace Go.Proofs.Ytiogbjbkfhhdhaa.G
open Go.Proofs.Ytiogbjbkfhhdhaa.K Go Go.RowKit Go.Proofs.YtiogbjbkfhhdhaaW.PrintWords Go.Proofs.YtiogbjbkfhhdhaaW.PrintLast Go.Proofs.YtiogbjbkfhhdhaaW.PrintMore Go.Proofs.Ytiogbjbkfhhdhaa.PlainC
set_option linter.unusedVariables false
set_option linter.unusedSimpArgs false
/-- The rows within elements, two each. -/
def two {α : Type} (f : α → It × It) : List α → List It
  | [] => []
  | x :: xs => (f x).1 :: (f x).2 :: two f xs
theorem two_len {α : Type} (f : α → It × It) : ∀ xs, (two f xs).length = 2 * xs.length
  | [] => rfl
  | x :: xs => by simp only [two, List.length_cons, two_len f xs]; omega
theorem two_snoc {α : Type} (f : α → It × It) : ∀ xs x, two f (xs ++ [x]) = two f xs ++ [(f x).1, (f x).2]
  | [], x => rfl
  | y :: xs, x => by simp only [List.cons_append, two, two_snoc f xs]
theorem two_get {α : Type} (f : α → It × It) (z : α) : ∀ xs (j : Nat), j < xs.length → (two f xs)[2 * j]? = some (f (xs.getD j z)).1 ∧ (two f xs)[2 * j + 1]? = some (f (xs.getD j z)).2
  | [], j, h => absurd h (Nat.not_lt_zero _)
  | x :: xs, 0, _ => ⟨rfl, rfl⟩
  | x :: xs, j + 1, h => two_get f z xs j (by simpa using h)
/-- Two things are put to things told as one. -/
theorem Own.growG {w0 w : World} {A B N : List It} {x y : It} (H : Own w0 w (A ++ x :: y :: B)) (p : Nat) (hN : Apart N) (hp : (A ++ B)[p]? = some (grp N) := by rfl) : Own w0 w ((A ++ B).set p (grp (N ++ [x, y]))) ∧ Apart (N ++ [x, y]) := by
  have h1 : Own w0 w (x :: y :: (A ++ B)) := H.perm (List.perm_middle.trans (List.perm_middle.cons x))
  have h2 := (h1.takeOut (p + 2) (by simpa using hp)).ungroup hN
  have h3 : Own w0 w ((N ++ [x, y]) ++ (A ++ B).set p (grp [])) := by simpa using h2
  have h4 := h3.group.swap p
  rw [List.set_set] at h4
  exact ⟨h4, h3.apartL⟩
def cQ (x : S36 × Ad) : List Value := [.int .i64 x.1.f0, .int .i64 x.1.f1, .int .i64 x.1.f2, .slice x.2.1 x.1.f3.length x.2.2.1, .slice x.2.2.2.1 x.1.f4.length x.2.2.2.2, .int .i64 x.1.f5]
def zzQ : S36 × Ad := (z36, (none, 0, none, 0))
def kdQ : Kd (S36 × Ad) := kc cQ (fun _ => rfl) (fun x u hu => by
  unfold cQ at hu
  simp only [List.mem_cons, List.not_mem_nil, or_false] at hu
  rcases hu with rfl | rfl | rfl | rfl | rfl | rfl <;> rfl)
def vQ (ts : List S36) (ad : Nat → Ad) (j m : Nat) : Value := ((cQ (ts.getD j z36, ad j))[m]?).getD undef
def itQ (x : S36 × Ad) : It × It := (ri (.slice x.2.1 x.1.f3.length x.2.2.1) x.1.f3, rb (.slice x.2.2.2.1 x.1.f4.length x.2.2.2.2) x.1.f4)
def FlQ (A : Option Addr) (ts : List S36) (hp : Nat → Option Obj) (F : Nat → Prop) (N : List It) : Prop := Apart N ∧ ∃ ad, NL N ts.length ad (fun j => (ts.getD j z36).f3.length) (fun j => (ts.getD j z36).f4.length) (fun j => (ts.getD j z36).f3) (fun j => (ts.getD j z36).f4) ∧ (ts.length = 0 ∨ ∃ q, A = some ⟨q, 0, none⟩ ∧ PB hp F q 36 ts.length (vQ ts ad))
theorem FlQ.C {w : World} {A : Option Addr} {ts : List S36} {hp : Nat → Option Obj} {F : Nat → Prop} {N : List It} (h : FlQ A ts hp F N) (h1 : (pf hp F).P w) (h2 : (grp N).P w) (hm : ts.length ≤ 1048576) : Kd.C k36 w A ts.length ts := by
  obtain ⟨_, ad, hN, hP⟩ := h
  refine ⟨rfl, by omega, fun h0 => ?_⟩
  obtain ⟨q, rfl, hF, cs, hc, hfl⟩ := hP.resolve_left (by omega)
  refine ⟨_, rfl, fun j p hp_ => ?_⟩
  have hj : j < ts.length := (List.getElem?_eq_some_iff.1 hp_).1
  have e : ts.getD j z36 = p := by rw [List.getD_eq_getElem?_getD, hp_, Option.getD_some]
  have hn := hN.2 j hj
  have r1 := h2 _ (List.mem_of_getElem? hn.1)
  have r2 := h2 _ (List.mem_of_getElem? hn.2)
  obtain ⟨_, l1, g1⟩ := Kd.R_reads' r1
  obtain ⟨_, l2, g2⟩ := Kd.R_reads' r2
  have hb := (h1 q hF).trans hc
  refine ⟨cQ (ts.getD j z36, ad j), rfl, ?_, fun m u hu => ?_⟩
  · rw [← e]
    exact k36_mk w _ l1 g1 l2 g2
  · have hm6 : m < 6 := (List.getElem?_eq_some_iff.1 hu).1
    have := hfl j hj m hm6
    rw [add0]
    refine (blk_cell hb _).trans (this.trans ?_)
    unfold vQ
    rw [hu, Option.getD_some]
theorem flQ {A : Option Addr} {hp : Nat → Option Obj} {F : Nat → Prop} {xs : List (S36 × Ad)} {f : Nat → Nat → Value} (hA : Apart (two itQ xs)) (hP : RowAt A xs.length 36 hp F f) (hf : ∀ j, j < xs.length → ∀ m, m < 6 → f j m = ((cQ (xs.getD j zzQ))[m]?).getD undef) : FlQ A (xs.map Prod.fst) hp F (two itQ xs) := by
  have e : ∀ j, j < xs.length → (xs.map Prod.fst).getD j z36 = (xs.getD j zzQ).1 := fun j hj => by
    rw [List.getD_eq_getElem?_getD, List.getD_eq_getElem?_getD, List.getElem?_map, List.getElem?_eq_getElem hj]
    rfl
  refine ⟨hA, fun j => (xs.getD j zzQ).2, ⟨by rw [two_len, List.length_map], fun j hj => ?_⟩, ?_⟩
  · rw [List.length_map] at hj
    show _ = some (ri (.slice _ ((xs.map Prod.fst).getD j z36).f3.length _) ((xs.map Prod.fst).getD j z36).f3) ∧ _ = some (rb (.slice _ ((xs.map Prod.fst).getD j z36).f4.length _) ((xs.map Prod.fst).getD j z36).f4)
    rw [e j hj]
    exact two_get itQ zzQ xs j hj
  · rcases hP with h | ⟨q, cs, hA, hF, hc, hfl⟩
    · exact .inl (by rw [List.length_map]; exact h)
    · refine .inr ⟨q, hA, hF, cs, hc, fun j hj m hm => ?_⟩
      rw [List.length_map] at hj
      rw [hfl j hj m hm, hf j hj m hm]
      unfold vQ
      rw [e j hj]
def cR (x : S32 × Ad) : List Value := [.int .i64 x.1.f0, .int .i64 x.1.f1, .int .i64 x.1.f2, .int .i64 x.1.f3, .slice x.2.1 x.1.f4.length x.2.2.1, .slice x.2.2.2.1 x.1.f5.length x.2.2.2.2]
def zzR : S32 × Ad := (z32, (none, 0, none, 0))
def kdR : Kd (S32 × Ad) := kc cR (fun _ => rfl) (fun x u hu => by
  unfold cR at hu
  simp only [List.mem_cons, List.not_mem_nil, or_false] at hu
  rcases hu with rfl | rfl | rfl | rfl | rfl | rfl <;> rfl)
def vR (ts : List S32) (ad : Nat → Ad) (j m : Nat) : Value := ((cR (ts.getD j z32, ad j))[m]?).getD undef
def itR (x : S32 × Ad) : It × It := (ri (.slice x.2.1 x.1.f4.length x.2.2.1) x.1.f4, rb (.slice x.2.2.2.1 x.1.f5.length x.2.2.2.2) x.1.f5)
def FlR (A : Option Addr) (ts : List S32) (hp : Nat → Option Obj) (F : Nat → Prop) (N : List It) : Prop := Apart N ∧ ∃ ad, NL N ts.length ad (fun j => (ts.getD j z32).f4.length) (fun j => (ts.getD j z32).f5.length) (fun j => (ts.getD j z32).f4) (fun j => (ts.getD j z32).f5) ∧ (ts.length = 0 ∨ ∃ q, A = some ⟨q, 0, none⟩ ∧ PB hp F q 32 ts.length (vR ts ad))
theorem FlR.C {w : World} {A : Option Addr} {ts : List S32} {hp : Nat → Option Obj} {F : Nat → Prop} {N : List It} (h : FlR A ts hp F N) (h1 : (pf hp F).P w) (h2 : (grp N).P w) (hm : ts.length ≤ 1048576) : Kd.C k32 w A ts.length ts := by
  obtain ⟨_, ad, hN, hP⟩ := h
  refine ⟨rfl, by omega, fun h0 => ?_⟩
  obtain ⟨q, rfl, hF, cs, hc, hfl⟩ := hP.resolve_left (by omega)
  refine ⟨_, rfl, fun j p hp_ => ?_⟩
  have hj : j < ts.length := (List.getElem?_eq_some_iff.1 hp_).1
  have e : ts.getD j z32 = p := by rw [List.getD_eq_getElem?_getD, hp_, Option.getD_some]
  have hn := hN.2 j hj
  have r1 := h2 _ (List.mem_of_getElem? hn.1)
  have r2 := h2 _ (List.mem_of_getElem? hn.2)
  obtain ⟨_, l1, g1⟩ := Kd.R_reads' r1
  obtain ⟨_, l2, g2⟩ := Kd.R_reads' r2
  have hb := (h1 q hF).trans hc
  refine ⟨cR (ts.getD j z32, ad j), rfl, ?_, fun m u hu => ?_⟩
  · rw [← e]
    exact k32_mk w _ l1 g1 l2 g2
  · have hm6 : m < 6 := (List.getElem?_eq_some_iff.1 hu).1
    have := hfl j hj m hm6
    rw [add0]
    refine (blk_cell hb _).trans (this.trans ?_)
    unfold vR
    rw [hu, Option.getD_some]
theorem flR {A : Option Addr} {hp : Nat → Option Obj} {F : Nat → Prop} {xs : List (S32 × Ad)} {f : Nat → Nat → Value} (hA : Apart (two itR xs)) (hP : RowAt A xs.length 32 hp F f) (hf : ∀ j, j < xs.length → ∀ m, m < 6 → f j m = ((cR (xs.getD j zzR))[m]?).getD undef) : FlR A (xs.map Prod.fst) hp F (two itR xs) := by
  have e : ∀ j, j < xs.length → (xs.map Prod.fst).getD j z32 = (xs.getD j zzR).1 := fun j hj => by
    rw [List.getD_eq_getElem?_getD, List.getD_eq_getElem?_getD, List.getElem?_map, List.getElem?_eq_getElem hj]
    rfl
  refine ⟨hA, fun j => (xs.getD j zzR).2, ⟨by rw [two_len, List.length_map], fun j hj => ?_⟩, ?_⟩
  · rw [List.length_map] at hj
    show _ = some (ri (.slice _ ((xs.map Prod.fst).getD j z32).f4.length _) ((xs.map Prod.fst).getD j z32).f4) ∧ _ = some (rb (.slice _ ((xs.map Prod.fst).getD j z32).f5.length _) ((xs.map Prod.fst).getD j z32).f5)
    rw [e j hj]
    exact two_get itR zzR xs j hj
  · rcases hP with h | ⟨q, cs, hA, hF, hc, hfl⟩
    · exact .inl (by rw [List.length_map]; exact h)
    · refine .inr ⟨q, hA, hF, cs, hc, fun j hj m hm => ?_⟩
      rw [List.length_map] at hj
      rw [hfl j hj m hm, hf j hj m hm]
      unfold vR
      rw [e j hj]
theorem markQ_own {w0 w : World} {L : List It} (H0 : Own w0 w L) (r s : Nat) {A : Option Addr} {c : Nat} {ts : List S36} {hp : Nat → Option Obj} {F : Nat → Prop} {N : List It} (h : FlQ A ts hp F N) {k : Int} (k0 : 0 ≤ k) (k9 : kS k (fun j => (ts.getD j z36).f3.length) (fun j => (ts.getD j z36).f4.length) ts.length ≤ 4611686018427387904) (n9 : ts.length ≤ 1048576) (hr : L[r]? = some (pf hp F) := by rfl) (hs : L[s]? = some (grp N) := by rfl) (hrs : r ≠ s := by decide) :
    Calls Try.prog 25 #[.slice A ts.length c, .int .i64 k] w fun e w' => e = .returned (.int .i64 (kS k (fun j => (ts.getD j z36).f3.length) (fun j => (ts.getD j z36).f4.length) ts.length)) ∧ ∃ hp' N', Own w0 w' ((L.set r (pf hp' F)).set s (grp N')) := by
  obtain ⟨hA, ad, hN, hP⟩ := h
  refine (markReqS_own H0 r s hr hs hrs hA hN hP (fun _ _ => rfl) (fun _ _ => rfl) k0 k9 n9).mono ?_
  rintro e w' ⟨he, hp', N', ho, _⟩
  exact ⟨he, hp', N', ho⟩
/-- The answers behind the marks. -/
def mkd (k : Int) (ts : List S32) : List S32 := (List.range ts.length).map (fun j => let K := kS k (fun j => (ts.getD j z32).f4.length) (fun j => (ts.getD j z32).f5.length) j; ⟨K, K + 1, K + 2, K + 3, marks id (K + 4) (ts.getD j z32).f4.length, marks markB (K + 4 + ((ts.getD j z32).f4.length : Int)) (ts.getD j z32).f5.length⟩)
theorem mkd_len (k : Int) (ts : List S32) : (mkd k ts).length = ts.length := by simp [mkd]
theorem mkd_get (k : Int) (ts : List S32) (j : Nat) (hj : j < ts.length) : (mkd k ts).getD j z32 = (let K := kS k (fun j => (ts.getD j z32).f4.length) (fun j => (ts.getD j z32).f5.length) j; ⟨K, K + 1, K + 2, K + 3, marks id (K + 4) (ts.getD j z32).f4.length, marks markB (K + 4 + ((ts.getD j z32).f4.length : Int)) (ts.getD j z32).f5.length⟩) := by
  rw [List.getD_eq_getElem?_getD]
  unfold mkd
  rw [List.getElem?_map, List.getElem?_range hj]
  rfl
theorem markR_own {w0 w : World} {L : List It} (H0 : Own w0 w L) (r s : Nat) {A : Option Addr} {c : Nat} {ts : List S32} {hp : Nat → Option Obj} {F : Nat → Prop} {N : List It} (h : FlR A ts hp F N) {k : Int} (k0 : 0 ≤ k) (k9 : kS k (fun j => (ts.getD j z32).f4.length) (fun j => (ts.getD j z32).f5.length) ts.length ≤ 4611686018427387904) (n9 : ts.length ≤ 1048576) (hr : L[r]? = some (pf hp F) := by rfl) (hs : L[s]? = some (grp N) := by rfl) (hrs : r ≠ s := by decide) :
    Calls Try.prog 26 #[.slice A ts.length c, .int .i64 k] w fun e w' => e = .returned (.int .i64 (kS k (fun j => (ts.getD j z32).f4.length) (fun j => (ts.getD j z32).f5.length) ts.length)) ∧ ∃ hp' N', Own w0 w' ((L.set r (pf hp' F)).set s (grp N')) ∧ FlR A (mkd k ts) hp' F N' := by
  obtain ⟨hA, ad, hN, hP⟩ := h
  refine (markRespS_own H0 r s hr hs hrs hA hN hP (fun _ _ => rfl) (fun _ _ => rfl) k0 k9 n9).mono ?_
  rintro e w' ⟨he, hp', N', ho, hA', hN', hP'⟩
  refine ⟨he, hp', N', ho, hA', ad, ⟨by rw [mkd_len]; exact hN'.1, fun j hj => ?_⟩, ?_⟩
  · rw [mkd_len] at hj
    have h1 := hN'.2 j hj
    show _ = some (ri (.slice _ ((mkd k ts).getD j z32).f4.length _) ((mkd k ts).getD j z32).f4) ∧ _ = some (rb (.slice _ ((mkd k ts).getD j z32).f5.length _) ((mkd k ts).getD j z32).f5)
    rw [mkd_get k ts j hj]
    dsimp only
    rw [marks_length, marks_length]
    exact h1
  · rw [mkd_len]
    rcases hP' with h | ⟨q, h1, h2⟩
    · exact .inl h
    · refine .inr ⟨q, h1, h2.mono fun j hj m hm => ?_⟩
      unfold vR
      rw [mkd_get k ts j hj]
      rcases (show m = 0 ∨ m = 1 ∨ m = 2 ∨ m = 3 ∨ m = 4 ∨ m = 5 by omega) with rfl | rfl | rfl | rfl | rfl | rfl <;> simp [mkResp, cR, vR, marks_length]
set_option maxHeartbeats 8000000 in
set_option maxRecDepth 100000 in
theorem heldRespS_own {w : World} {A : Option Addr} {c : Nat} {ts : List S32} (hq : Kd.C k32 w A ts.length ts) {nI nB : Nat → Nat} {k : Int} (k0 : 0 ≤ k) (k9 : kS k nI nB ts.length ≤ 4611686018427387904) (n9 : ts.length ≤ 1048576) (ht : ∀ (j : Nat) (h : j < ts.length), ts[j] = ⟨kS k nI nB j, kS k nI nB j + 1, kS k nI nB j + 2, kS k nI nB j + 3, marks id (kS k nI nB j + 4) (nI j), marks markB (kS k nI nB j + 4 + (nI j : Int)) (nB j)⟩) :
    Calls Try.prog 27 #[.slice A ts.length c, .int .i64 k] w fun e w' => e = .returned (.int .i64 (kS k nI nB ts.length)) ∧ Below w.heap.size w w' := by
  have hu := Try.underlying32
  have HQ := aM hq
  have HK := aM (And.intro k0 (And.intro k9 n9))
  have HT := aM ht
  have H := aM (Own.nil w)
  clear hq k0 k9 n9 ht
  go_enter Try.func27, Try.ntmps27
  go_wp2
  go_loopg [1, 5] (ts.length + 1) (fun kq v1 v5 w' => ∃ i : Nat, v1 = .int .i64 (kS k nI nB i) ∧ v5 = .int .i64 (i : Int) ∧ Aside0 (i ≤ ts.length ∧ kq + i = ts.length + 1) ∧ Aside0 (Own w w' []))
  case atStart => exact ⟨0, rfl, rfl, ⟨by omega⟩, H⟩
  case round =>
    clear H
    obtain ⟨i, rfl, rfl, HI, H⟩ := hrel
    by_cases hlt : i < ts.length
    · have d1 : decide ((i : Int) < (ts.length : Int)) = true := decide_eq_true (by omega)
      have i0 : 0 ≤ (i : Int) := by omega
      have i1 : (i : Int) < (ts.length : Int) := by omega
      have hw : IntKind.i64.wrap ((i : Int) + 1) = ((i + 1 : Nat) : Int) := (by have := HK.out; rw [i64wrap, w64 (by omega) (by omega)]; omega)
      have hk1 := kS_le k nI nB 0 i
      have hk2 := kS_le k nI nB (i + 1) (ts.length - (i + 1))
      rw [Nat.zero_add] at hk1
      rw [show i + 1 + (ts.length - (i + 1)) = ts.length by omega] at hk2
      have hk3 : kS k nI nB (i + 1) = kS k nI nB i + 4 + (nI i : Int) + (nB i : Int) := rfl
      obtain ⟨ad, A4, c4, A5, c5, eA, x6, l4, h4, l5, h5⟩ := el32 HQ.out i hlt hlt
      subst eA
      have ht := HT.out i hlt
      obtain ⟨K, hK⟩ : ∃ K, kS k nI nB i = K := ⟨_, rfl⟩
      have hk4 : k ≤ K := by rw [← hK]; exact hk1
      rw [hK] at hk3 ht
      have HKK := aM (And.intro hk2 (And.intro hk3 hk4))
      clear hk1 hk2 hk3 hk4
      rw [hK]
      clear hK
      have b0 : 0 ≤ K ∧ K + 4 + (nI i : Int) + (nB i : Int) ≤ 4611686018427387904 := by have h1 := HKK.out; have h2 := HK.out; omega
      have HBD := aM b0
      clear b0
      rw [ht] at x6 h4 h5
      (try dsimp only at h4 h5)
      unfold Six32 at x6
      (try dsimp only at x6)
      rw [marks_length] at h4 h5
      rw [marks_length, marks_length] at x6
      have HX := aM (show Six32 w (ad.add (i * 6)) (⟨K, K + 1, K + 2, K + 3, marks id (K + 4) (nI i), marks markB (K + 4 + (nI i : Int)) (nB i)⟩ : S32) A4 c4 A5 c5 from by unfold Six32; (try dsimp only); rw [marks_length, marks_length]; exact x6)
      have HC := aM (And.intro h4 h5)
      have hB := H.out.below
      obtain ⟨x0, x1, x2, x3, x4, x5⟩ := x6
      replace x0 := (hB.cell (World.block_lt_of_cell? w _ x0)).trans x0
      replace x1 := (hB.cell (World.block_lt_of_cell? w _ x1)).trans x1
      replace x2 := (hB.cell (World.block_lt_of_cell? w _ x2)).trans x2
      replace x3 := (hB.cell (World.block_lt_of_cell? w _ x3)).trans x3
      replace x4 := (hB.cell (World.block_lt_of_cell? w _ x4)).trans x4
      replace x5 := (hB.cell (World.block_lt_of_cell? w _ x5)).trans x5
      clear hB ht h4 h5 l4 l5
      have hw0 : IntKind.i64.wrap (K + 1) = K + 1 := (by have := HBD.out; rw [i64wrap, w64 (by omega) (by omega)])
      have hw1 : IntKind.i64.wrap (K + 1 + 1) = K + 2 := (by have := HBD.out; rw [i64wrap, w64 (by omega) (by omega)]; omega)
      have hw2 : IntKind.i64.wrap (K + 2 + 1) = K + 3 := (by have := HBD.out; rw [i64wrap, w64 (by omega) (by omega)]; omega)
      have hw3 : IntKind.i64.wrap (K + 3 + 1) = K + 4 := (by have := HBD.out; rw [i64wrap, w64 (by omega) (by omega)]; omega)
      have e1 : decide (K + 4 + (nI i : Int) < 0) = false := decide_eq_false (by have := HBD.out; omega)
      have e2 : decide (K + 4 + (nI i : Int) + (nB i : Int) < 0) = false := decide_eq_false (by have := HBD.out; omega)
      go_wp2_with (first | ((with_reducible refine nD 54 ?_); refine gC 54 Try.func52 (heldI_own (k := K + 4) (H.out.arg HC.out.1) (by have := HBD.out; omega) (by have := HBD.out; omega)) ?_; rintro e w_ ⟨rfl, hO⟩; refine ⟨_, rfl, ?_⟩; replace H := aM (H.out.step hO); clear hO; obtain ⟨x0, x1, x2, x3, x4, x5⟩ := (show _ ∧ _ ∧ _ ∧ _ ∧ _ ∧ _ from HX.out.old H.out.below); (try dsimp only at x0 x1 x2 x3 x4 x5); simp only [marks_length] at x4 x5; (try refine nmL ?_)) | ((with_reducible refine nD 63 ?_); refine gC 63 Try.func51 (heldB_own (k := K + 4 + (nI i : Int)) (H.out.arg HC.out.2) (by have := HBD.out; omega) (by have := HBD.out; omega)) ?_; rintro e w_ ⟨rfl, hO⟩; refine ⟨_, rfl, ?_⟩; replace H := aM (H.out.step hO); clear hO; (try refine nmL ?_)))
      go_roundg (gk - 1)
      case measure => have := HI.out; omega
      case rel => exact ⟨i + 1, congrArg (Value.int .i64) HKK.out.2.1.symm, rfl, ⟨by have := HI.out; omega⟩, H⟩
    · have d1 : decide ((i : Int) < (ts.length : Int)) = false := decide_eq_false (by omega)
      have hi : i = ts.length := by have := HI.out; omega
      subst hi
      go_wp2
      go_ret
      exact ⟨rfl, H.out.below⟩
end Go.Proofs.Ytiogbjbkfhhdhaa.G
