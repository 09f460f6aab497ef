/- The exact laws' marks in rows of questions and answers. Condition: no row is longer than a machine's memory. -/
import Derived.Test.YtiogbjbkfhhdhaaGHelpS
import Derived.Test.YtiogbjbkfhhdhaaGStP
namespace Go.Proofs.Ytiogbjbkfhhdhaa.G
open Go.Proofs.Ytiogbjbkfhhdhaa.K Go Go.RowKit Go.Proofs.YtiogbjbkfhhdhaaW.PrintWords Go.Proofs.YtiogbjbkfhhdhaaW.PrintLast Go.Proofs.YtiogbjbkfhhdhaaW.PrintMore Go.Proofs.Ytiogbjbkfhhdhaa.PlainC
set_option linter.unusedVariables false
set_option linter.unusedSimpArgs false
abbrev Ad := Option Addr × Nat × Option Addr × Nat
/-- The inner rows of n elements, two each. -/
def NL (N : List It) (n : Nat) (ad : Nat → Ad) (nI nB : Nat → Nat) (I : Nat → List Int) (B : Nat → List Bool) : Prop := N.length = 2 * n ∧ ∀ j, j < n → N[2 * j]? = some (ri (.slice (ad j).1 (nI j) (ad j).2.1) (I j)) ∧ N[2 * j + 1]? = some (rb (.slice (ad j).2.2.1 (nB j) (ad j).2.2.2) (B j))
/-- The mark ahead of element j. -/
def kS (k : Int) (nI nB : Nat → Nat) : Nat → Int
  | 0 => k
  | j + 1 => kS k nI nB j + 4 + (nI j : Int) + (nB j : Int)
theorem kS_le (k : Int) (nI nB : Nat → Nat) : ∀ i d : Nat, kS k nI nB i ≤ kS k nI nB (i + d)
  | i, 0 => Int.le_refl _
  | i, d + 1 => by
    have := kS_le k nI nB i d
    show kS k nI nB i ≤ kS k nI nB (i + d) + 4 + (nI (i + d) : Int) + (nB (i + d) : Int)
    omega
theorem PB.mono {hp : Nat → Option Obj} {F : Nat → Prop} {q e n : Nat} {f g : Nat → Nat → Value} (h : PB hp F q e n f) (hg : ∀ j, j < n → ∀ m, m < 6 → f j m = g j m) : PB hp F q e n g := by
  obtain ⟨h1, cs, h2, h3⟩ := h
  exact ⟨h1, cs, h2, h3.mono hg⟩
theorem set_l {N L : List It} {i : Nat} {x : It} (h : i < N.length) : (N ++ L).set i x = N.set i x ++ L := List.set_append_left i x h
theorem set_r {N L : List It} {i : Nat} {x : It} : (N ++ L).set (N.length + i) x = N ++ L.set i x := by
  rw [List.set_append_right _ _ (by omega)]
  congr 2
  omega
theorem get_r {N L : List It} {i : Nat} : (N ++ L)[N.length + i]? = L[i]? := by
  rw [List.getElem?_append_right (by omega)]
  congr 1
  omega
theorem get_l {N L : List It} {i : Nat} (h : i < N.length) : (N ++ L)[i]? = N[i]? := List.getElem?_append_left h
theorem own_r {w0 w : World} {N L1 : List It} {r : Nat} {x y : It} (H : Own w0 w ((N ++ L1.set r x).set (N.length + r) y)) : Own w0 w (N ++ L1.set r y) := by
  rw [set_r, List.set_set] at H
  exact H
theorem pos_r {N L1 : List It} {r : Nat} {x z : It} (h : L1[r]? = some z) : (N ++ L1.set r x)[N.length + r]? = some x := get_r.trans (gS h x)
theorem NL.mono {N : List It} {n : Nat} {ad : Nat → Ad} {nI nB : Nat → Nat} {I I' : Nat → List Int} {B B' : Nat → List Bool} (h : NL N n ad nI nB I B) (h1 : ∀ j, j < n → I j = I' j) (h2 : ∀ j, j < n → B j = B' j) : NL N n ad nI nB I' B' := ⟨h.1, fun j hj => by rw [← h1 j hj, ← h2 j hj]; exact h.2 j hj⟩
theorem nl_set {K K' : Int} {N N3 : List It} {n i : Nat} {ad : Nat → Ad} {nI nB : Nat → Nat} {I I' : Nat → List Int} {B B' : Nat → List Bool} {x : List Int} {y : List Bool} (_hk : K = K') (h : NL N n ad nI nB I B) (hi : i < n) (e3 : N3 = (N.set (2 * i) (ri (.slice (ad i).1 (nI i) (ad i).2.1) x)).set (2 * i + 1) (rb (.slice (ad i).2.2.1 (nB i) (ad i).2.2.2) y)) (h1 : ∀ j, I' j = if j = i then x else I j) (h2 : ∀ j, B' j = if j = i then y else B j) : NL N3 n ad nI nB I' B' := by
  subst e3
  have hl := h.1
  refine ⟨by simp [hl], fun j hj => ?_⟩
  rw [h1 j, h2 j]
  by_cases e : j = i
  · subst e
    rw [if_pos rfl, if_pos rfl]
    refine ⟨?_, ?_⟩
    · rw [List.getElem?_set_ne (by omega), List.getElem?_set_self (by omega)]
    · rw [List.getElem?_set_self (by rw [List.length_set]; omega)]
  · rw [if_neg e, if_neg e, List.getElem?_set_ne (by omega), List.getElem?_set_ne (by omega), List.getElem?_set_ne (by omega), List.getElem?_set_ne (by omega)]
    exact h.2 j hj
/-- The cells of element j behind the marks. -/
def mkReq (k : Int) (nI nB : Nat → Nat) (f : Nat → Nat → Value) (j m : Nat) : Value := if m = 0 then .int .i64 (kS k nI nB j) else if m = 1 then .int .i64 (kS k nI nB j + 1) else if m = 2 then .int .i64 (kS k nI nB j + 2) else if m = 5 then .int .i64 (kS k nI nB j + 3 + (nI j : Int) + (nB j : Int)) else f j m
set_option maxHeartbeats 8000000 in
set_option maxRecDepth 100000 in
theorem markReqS_own {w0 w : World} {L : List It} (H0 : Own w0 w L) (r s : Nat) {A : Option Addr} {n c : Nat} {hp : Nat → Option Obj} {F : Nat → Prop} {N : List It} {ad : Nat → Ad} {nI nB : Nat → Nat} {I : Nat → List Int} {B : Nat → List Bool} {f : Nat → Nat → Value} (hr : L[r]? = some (pf hp F)) (hs : L[s]? = some (grp N)) (hrs : r ≠ s) (hA : Apart N) (hN : NL N n ad nI nB I B) (hP : n = 0 ∨ ∃ q, A = some ⟨q, 0, none⟩ ∧ PB hp F q 36 n f)
    (hI : ∀ j, j < n → f j 3 = .slice (ad j).1 (nI j) (ad j).2.1) (hB : ∀ j, j < n → f j 4 = .slice (ad j).2.2.1 (nB j) (ad j).2.2.2) {k : Int} (k0 : 0 ≤ k) (k9 : kS k nI nB n ≤ 4611686018427387904) (n9 : n ≤ 1048576) :
    Calls Try.prog 25 #[.slice A n c, .int .i64 k] w fun e w' => e = .returned (.int .i64 (kS k nI nB n)) ∧ ∃ hp' N', Own w0 w' ((L.set r (pf hp' F)).set s (grp N')) ∧ Apart N' ∧ NL N' n ad nI nB (fun j => marks id (kS k nI nB j + 3) (nI j)) (fun j => marks markB (kS k nI nB j + 3 + (nI j : Int)) (nB j)) ∧ (n = 0 ∨ ∃ q, A = some ⟨q, 0, none⟩ ∧ PB hp' F q 36 n (mkReq k nI nB f)) := by
  have hu := Try.underlying36
  have HU := (H0.takeOut s hs).ungroup hA
  have HS := aM hs
  obtain ⟨L1, hL1⟩ : ∃ L1, L.set s (grp []) = L1 := ⟨_, rfl⟩
  have hr1 : L1[r]? = some (pf hp F) := by rw [← hL1, List.getElem?_set_ne (fun e => hrs e.symm)]; exact hr
  rw [hL1] at HU
  have H := aM HU
  have HL1 := aM hL1
  have HR1 := aM hr1
  have HN := aM hN
  have HIB := aM (And.intro hI hB)
  have HK := aM (And.intro k0 (And.intro k9 n9))
  have HP := aM hP
  clear HU hr1 hN hI hB k0 k9 n9 hA hP H0 hL1 hs hr
  go_enter Try.func25, Try.ntmps25
  go_wp2
  go_loopg [1, 5] (n + 1) (fun kq v1 v5 w' => ∃ (i : Nat) (hp' : Nat → Option Obj) (N' : List It), v1 = .int .i64 (kS k nI nB i) ∧ v5 = .int .i64 (i : Int) ∧ Aside0 (i ≤ n ∧ kq + i = n + 1) ∧ Aside0 (Own w0 w' (N' ++ L1.set r (pf hp' F))) ∧ Aside0 (NL N' n ad nI nB (fun j => if j < i then marks id (kS k nI nB j + 3) (nI j) else I j) (fun j => if j < i then marks markB (kS k nI nB j + 3 + (nI j : Int)) (nB j) else B j)) ∧ Aside0 (n = 0 ∨ ∃ q, A = some ⟨q, 0, none⟩ ∧ PB hp' F q 36 n (fun j m => if j < i then mkReq k nI nB f j m else f j m)))
  case atStart => exact ⟨0, hp, N, rfl, rfl, ⟨by omega⟩, aM (by rw [set_same_w HR1.out]; exact H.out), aM (by simpa using HN.out), aM (by simpa using HP.out)⟩
  case round =>
    clear H
    obtain ⟨i, hp_, N', rfl, rfl, HI, H, HN', HQ⟩ := hrel
    by_cases hlt : i < n
    · have d1 : decide ((i : Int) < (n : Int)) = true := decide_eq_true (by omega)
      have i0 : 0 ≤ (i : Int) := by omega
      have i1 : (i : Int) < (n : Int) := by omega
      have hw : IntKind.i64.wrap ((i : Int) + 1) = ((i + 1 : Nat) : Int) := (by have := HK.out; rw [i64wrap, w64 (by omega) (by omega)]; omega)
      have hk1 := kS_le k nI nB 0 i
      have hk2 := kS_le k nI nB (i + 1) (n - (i + 1))
      rw [Nat.zero_add] at hk1
      rw [show i + 1 + (n - (i + 1)) = n by omega] at hk2
      have hk3 : kS k nI nB (i + 1) = kS k nI nB i + 4 + (nI i : Int) + (nB i : Int) := rfl
      obtain ⟨K, hK⟩ : ∃ K, kS k nI nB i = K := ⟨_, rfl⟩
      have hk4 : k ≤ K := by rw [← hK]; exact hk1
      rw [hK] at hk3
      have HKK := aM (And.intro hk2 (And.intro hk3 hk4))
      clear hk1 hk2 hk3 hk4
      rw [hK]
      have HKe := aM hK
      clear hK
      have b0 : 0 ≤ K ∧ K + 4 + (nI i : Int) + (nB i : Int) ≤ 4611686018427387904 := by have h1 := HKK.out; have h2 := HK.out; omega
      have HBD := aM b0
      clear b0
      have hw0 : IntKind.i64.wrap (K + 1) = K + 1 := (by have := HBD.out; rw [i64wrap, w64 (by omega) (by omega)])
      have hw1 : IntKind.i64.wrap (K + 1 + 1) = K + 2 := (by have := HBD.out; rw [i64wrap, w64 (by omega) (by omega)]; omega)
      have hw2 : IntKind.i64.wrap (K + 2 + 1) = K + 3 := (by have := HBD.out; rw [i64wrap, w64 (by omega) (by omega)]; omega)
      have hw9 : IntKind.i64.wrap (K + 3 + (nI i : Int) + (nB i : Int) + 1) = kS k nI nB (i + 1) := (by have h1 := HKK.out.2.1; have := HBD.out; rw [i64wrap, w64 (by omega) (by omega)]; omega)
      obtain ⟨q, hAq, hPB⟩ := HQ.out.resolve_left (by omega)
      subst hAq
      have HPB := aM hPB
      clear hPB
      have HNi := aM (HN'.out.2 i hlt)
      have HNl := aM HN'.out.1
      have HPO := aM (pos_r HR1.out : (N' ++ L1.set r (pf hp_ F))[N'.length + r]? = some (pf hp_ F))
      go_wp2_with (first | ((with_reducible refine nS 16 ?_); refine stP1 (N'.length + r) i 0 (.int .i64 (K)) H.out HPO.out HPB.out hlt (by decide) ?_; clear H HPB HPO; intro w_ hp_ H_ HPB; have H := aM (own_r H_.out); clear H_; have HPO := aM (pos_r HR1.out : (N' ++ L1.set r (pf hp_ F))[N'.length + r]? = some (pf hp_ F)); (try refine nmL ?_)) | ((with_reducible refine nS 23 ?_); refine stP1 (N'.length + r) i 1 (.int .i64 (K + 1)) H.out HPO.out HPB.out hlt (by decide) ?_; clear H HPB HPO; intro w_ hp_ H_ HPB; have H := aM (own_r H_.out); clear H_; have HPO := aM (pos_r HR1.out : (N' ++ L1.set r (pf hp_ F))[N'.length + r]? = some (pf hp_ F)); (try refine nmL ?_)) | ((with_reducible refine nS 30 ?_); refine stP1 (N'.length + r) i 2 (.int .i64 (K + 2)) H.out HPO.out HPB.out hlt (by decide) ?_; clear H HPB HPO; intro w_ hp_ H_ HPB; have H := aM (own_r H_.out); clear H_; have HPO := aM (pos_r HR1.out : (N' ++ L1.set r (pf hp_ F))[N'.length + r]? = some (pf hp_ F)); have z3 : w_.cell? ⟨q, i * 6 + 3, none⟩ = some (.slice (ad i).1 (nI i) (ad i).2.1) := (HPB.out.cell H.out HPO.out hlt (by decide)).1.trans (congrArg some (by simpa using HIB.out.1 i hlt)); (try refine nmL ?_)) | ((with_reducible refine nD 39 ?_); refine gC 39 Try.func50 (markI_own (k := K + 3) H.out (2 * i) ((get_l (by have := HNl.out; omega)).trans HNi.out.1) (by have := HBD.out; omega) (by have := HBD.out; omega)) ?_; rintro e w_ ⟨rfl, hO⟩; refine ⟨_, rfl, ?_⟩; clear H; rw [set_l (by have := HNl.out; omega)] at hO; obtain ⟨N2, hN2⟩ : ∃ N2, N'.set (2 * i) (ri (.slice (ad i).1 (nI i) (ad i).2.1) (marks id (K + 3) (nI i))) = N2 := ⟨_, rfl⟩; rw [hN2] at hO; have H := aM hO; clear hO; have HN2 := aM hN2; clear hN2; clear HPO; have HPO := aM (pos_r HR1.out : (N2 ++ L1.set r (pf hp_ F))[N2.length + r]? = some (pf hp_ F)); have z4 : w_.cell? ⟨q, i * 6 + 4, none⟩ = some (.slice (ad i).2.2.1 (nB i) (ad i).2.2.2) := (HPB.out.cell H.out HPO.out hlt (by decide)).1.trans (congrArg some (by simpa using HIB.out.2 i hlt)); (try refine nmL ?_)) | ((with_reducible refine nD 46 ?_); refine gC 46 Try.func49 (markB_own (k := K + 3 + (nI i : Int)) H.out (2 * i + 1) ((get_l (by rw [← HN2.out, List.length_set]; have := HNl.out; omega)).trans (by rw [← HN2.out, List.getElem?_set_ne (by omega)]; exact HNi.out.2)) (by have := HBD.out; omega) (by have := HBD.out; omega)) ?_; rintro e w_ ⟨rfl, hO⟩; refine ⟨_, rfl, ?_⟩; clear H; rw [set_l (by rw [← HN2.out, List.length_set]; have := HNl.out; omega)] at hO; obtain ⟨N3, hN3⟩ : ∃ N3, N2.set (2 * i + 1) (rb (.slice (ad i).2.2.1 (nB i) (ad i).2.2.2) (marks markB (K + 3 + (nI i : Int)) (nB i))) = N3 := ⟨_, rfl⟩; rw [hN3] at hO; have H := aM hO; clear hO; have HN3 := aM hN3; clear hN3; clear HPO; have HPO := aM (pos_r HR1.out : (N3 ++ L1.set r (pf hp_ F))[N3.length + r]? = some (pf hp_ F)); (try refine nmL ?_)) | ((with_reducible refine nS 51 ?_); refine stP1 (N3.length + r) i 5 (.int .i64 (K + 3 + (nI i : Int) + (nB i : Int))) H.out HPO.out HPB.out hlt (by decide) ?_; clear H HPB HPO; intro w_ hp_ H_ HPB; have H := aM (own_r H_.out); clear H_; have HPO := aM (pos_r HR1.out : (N3 ++ L1.set r (pf hp_ F))[N3.length + r]? = some (pf hp_ F)); (try refine nmL ?_)))
      go_roundg (gk - 1)
      case measure => have := HI.out; omega
      case rel =>
        refine ⟨i + 1, hp_, N3, rfl, rfl, ⟨by have := HI.out; omega⟩, H, aM ?_, aM (.inr ⟨q, rfl, HPB.out.mono ?_⟩)⟩
        · have hk := HKe.out
          have hl := HNl.out
          refine nl_set hk HN'.out hlt (HN3.out.symm.trans (congrArg (fun l : List It => l.set (2 * i + 1) (rb (.slice (ad i).2.2.1 (nB i) (ad i).2.2.2) (marks markB (K + 3 + (nI i : Int)) (nB i)))) HN2.out.symm)) (fun j => ?_) (fun j => ?_)
          · by_cases h : j = i
            · subst h; simp [hk]
            · simp [h, show (j < i + 1) = (j < i) from propext (by omega)]
          · by_cases h : j = i
            · subst h; simp [hk]
            · simp [h, show (j < i + 1) = (j < i) from propext (by omega)]
        · intro j hj m hm
          have hk := HKe.out
          by_cases h : j = i
          · subst h
            rcases (show m = 0 ∨ m = 1 ∨ m = 2 ∨ m = 3 ∨ m = 4 ∨ m = 5 by omega) with rfl | rfl | rfl | rfl | rfl | rfl <;> simp [mkReq, hk]
          · simp [h, show (j < i + 1) = (j < i) from propext (by omega)]
    · have d1 : decide ((i : Int) < (n : Int)) = false := decide_eq_false (by omega)
      have hi : i = n := by have := HI.out; omega
      subst hi
      go_wp2
      go_ret
      have hG := H.out.group
      have hb := hG.swap s
      rw [← HL1.out, List.set_comm _ _ hrs.symm, List.set_set] at hb
      refine ⟨rfl, hp_, N', hb, H.out.apartL, ?_, ?_⟩
      · exact HN'.out.mono (fun j hj => by simp [hj]) (fun j hj => by simp [hj])
      · rcases HQ.out with h | ⟨q, h1, h2⟩
        · exact .inl h
        · exact .inr ⟨q, h1, h2.mono (fun j hj m hm => by simp [hj])⟩
/-- The cells of element j behind the marks. -/
def mkResp (k : Int) (nI nB : Nat → Nat) (f : Nat → Nat → Value) (j m : Nat) : Value := if m = 0 then .int .i64 (kS k nI nB j) else if m = 1 then .int .i64 (kS k nI nB j + 1) else if m = 2 then .int .i64 (kS k nI nB j + 2) else if m = 3 then .int .i64 (kS k nI nB j + 3) else f j m
set_option maxHeartbeats 8000000 in
set_option maxRecDepth 100000 in
theorem markRespS_own {w0 w : World} {L : List It} (H0 : Own w0 w L) (r s : Nat) {A : Option Addr} {n c : Nat} {hp : Nat → Option Obj} {F : Nat → Prop} {N : List It} {ad : Nat → Ad} {nI nB : Nat → Nat} {I : Nat → List Int} {B : Nat → List Bool} {f : Nat → Nat → Value} (hr : L[r]? = some (pf hp F)) (hs : L[s]? = some (grp N)) (hrs : r ≠ s) (hA : Apart N) (hN : NL N n ad nI nB I B) (hP : n = 0 ∨ ∃ q, A = some ⟨q, 0, none⟩ ∧ PB hp F q 32 n f)
    (hI : ∀ j, j < n → f j 4 = .slice (ad j).1 (nI j) (ad j).2.1) (hB : ∀ j, j < n → f j 5 = .slice (ad j).2.2.1 (nB j) (ad j).2.2.2) {k : Int} (k0 : 0 ≤ k) (k9 : kS k nI nB n ≤ 4611686018427387904) (n9 : n ≤ 1048576) :
    Calls Try.prog 26 #[.slice A n c, .int .i64 k] w fun e w' => e = .returned (.int .i64 (kS k nI nB n)) ∧ ∃ hp' N', Own w0 w' ((L.set r (pf hp' F)).set s (grp N')) ∧ Apart N' ∧ NL N' n ad nI nB (fun j => marks id (kS k nI nB j + 4) (nI j)) (fun j => marks markB (kS k nI nB j + 4 + (nI j : Int)) (nB j)) ∧ (n = 0 ∨ ∃ q, A = some ⟨q, 0, none⟩ ∧ PB hp' F q 32 n (mkResp k nI nB f)) := by
  have hu := Try.underlying32
  have HU := (H0.takeOut s hs).ungroup hA
  have HS := aM hs
  obtain ⟨L1, hL1⟩ : ∃ L1, L.set s (grp []) = L1 := ⟨_, rfl⟩
  have hr1 : L1[r]? = some (pf hp F) := by rw [← hL1, List.getElem?_set_ne (fun e => hrs e.symm)]; exact hr
  rw [hL1] at HU
  have H := aM HU
  have HL1 := aM hL1
  have HR1 := aM hr1
  have HN := aM hN
  have HIB := aM (And.intro hI hB)
  have HK := aM (And.intro k0 (And.intro k9 n9))
  have HP := aM hP
  clear HU hr1 hN hI hB k0 k9 n9 hA hP H0 hL1 hs hr
  go_enter Try.func26, Try.ntmps26
  go_wp2
  go_loopg [1, 5] (n + 1) (fun kq v1 v5 w' => ∃ (i : Nat) (hp' : Nat → Option Obj) (N' : List It), v1 = .int .i64 (kS k nI nB i) ∧ v5 = .int .i64 (i : Int) ∧ Aside0 (i ≤ n ∧ kq + i = n + 1) ∧ Aside0 (Own w0 w' (N' ++ L1.set r (pf hp' F))) ∧ Aside0 (NL N' n ad nI nB (fun j => if j < i then marks id (kS k nI nB j + 4) (nI j) else I j) (fun j => if j < i then marks markB (kS k nI nB j + 4 + (nI j : Int)) (nB j) else B j)) ∧ Aside0 (n = 0 ∨ ∃ q, A = some ⟨q, 0, none⟩ ∧ PB hp' F q 32 n (fun j m => if j < i then mkResp k nI nB f j m else f j m)))
  case atStart => exact ⟨0, hp, N, rfl, rfl, ⟨by omega⟩, aM (by rw [set_same_w HR1.out]; exact H.out), aM (by simpa using HN.out), aM (by simpa using HP.out)⟩
  case round =>
    clear H
    obtain ⟨i, hp_, N', rfl, rfl, HI, H, HN', HQ⟩ := hrel
    by_cases hlt : i < n
    · have d1 : decide ((i : Int) < (n : Int)) = true := decide_eq_true (by omega)
      have i0 : 0 ≤ (i : Int) := by omega
      have i1 : (i : Int) < (n : Int) := by omega
      have hw : IntKind.i64.wrap ((i : Int) + 1) = ((i + 1 : Nat) : Int) := (by have := HK.out; rw [i64wrap, w64 (by omega) (by omega)]; omega)
      have hk1 := kS_le k nI nB 0 i
      have hk2 := kS_le k nI nB (i + 1) (n - (i + 1))
      rw [Nat.zero_add] at hk1
      rw [show i + 1 + (n - (i + 1)) = n by omega] at hk2
      have hk3 : kS k nI nB (i + 1) = kS k nI nB i + 4 + (nI i : Int) + (nB i : Int) := rfl
      obtain ⟨K, hK⟩ : ∃ K, kS k nI nB i = K := ⟨_, rfl⟩
      have hk4 : k ≤ K := by rw [← hK]; exact hk1
      rw [hK] at hk3
      have HKK := aM (And.intro hk2 (And.intro hk3 hk4))
      clear hk1 hk2 hk3 hk4
      rw [hK]
      have HKe := aM hK
      clear hK
      have b0 : 0 ≤ K ∧ K + 4 + (nI i : Int) + (nB i : Int) ≤ 4611686018427387904 := by have h1 := HKK.out; have h2 := HK.out; omega
      have HBD := aM b0
      clear b0
      have hw0 : IntKind.i64.wrap (K + 1) = K + 1 := (by have := HBD.out; rw [i64wrap, w64 (by omega) (by omega)])
      have hw1 : IntKind.i64.wrap (K + 1 + 1) = K + 2 := (by have := HBD.out; rw [i64wrap, w64 (by omega) (by omega)]; omega)
      have hw2 : IntKind.i64.wrap (K + 2 + 1) = K + 3 := (by have := HBD.out; rw [i64wrap, w64 (by omega) (by omega)]; omega)
      have hw3 : IntKind.i64.wrap (K + 3 + 1) = K + 4 := (by have := HBD.out; rw [i64wrap, w64 (by omega) (by omega)]; omega)
      obtain ⟨q, hAq, hPB⟩ := HQ.out.resolve_left (by omega)
      subst hAq
      have HPB := aM hPB
      clear hPB
      have HNi := aM (HN'.out.2 i hlt)
      have HNl := aM HN'.out.1
      have HPO := aM (pos_r HR1.out : (N' ++ L1.set r (pf hp_ F))[N'.length + r]? = some (pf hp_ F))
      go_wp2_with (first | ((with_reducible refine nS 16 ?_); refine stP1 (N'.length + r) i 0 (.int .i64 (K)) H.out HPO.out HPB.out hlt (by decide) ?_; clear H HPB HPO; intro w_ hp_ H_ HPB; have H := aM (own_r H_.out); clear H_; have HPO := aM (pos_r HR1.out : (N' ++ L1.set r (pf hp_ F))[N'.length + r]? = some (pf hp_ F)); (try refine nmL ?_)) | ((with_reducible refine nS 23 ?_); refine stP1 (N'.length + r) i 1 (.int .i64 (K + 1)) H.out HPO.out HPB.out hlt (by decide) ?_; clear H HPB HPO; intro w_ hp_ H_ HPB; have H := aM (own_r H_.out); clear H_; have HPO := aM (pos_r HR1.out : (N' ++ L1.set r (pf hp_ F))[N'.length + r]? = some (pf hp_ F)); (try refine nmL ?_)) | ((with_reducible refine nS 30 ?_); refine stP1 (N'.length + r) i 2 (.int .i64 (K + 2)) H.out HPO.out HPB.out hlt (by decide) ?_; clear H HPB HPO; intro w_ hp_ H_ HPB; have H := aM (own_r H_.out); clear H_; have HPO := aM (pos_r HR1.out : (N' ++ L1.set r (pf hp_ F))[N'.length + r]? = some (pf hp_ F)); (try refine nmL ?_)) | ((with_reducible refine nS 37 ?_); refine stP1 (N'.length + r) i 3 (.int .i64 (K + 3)) H.out HPO.out HPB.out hlt (by decide) ?_; clear H HPB HPO; intro w_ hp_ H_ HPB; have H := aM (own_r H_.out); clear H_; have HPO := aM (pos_r HR1.out : (N' ++ L1.set r (pf hp_ F))[N'.length + r]? = some (pf hp_ F)); have z4 : w_.cell? ⟨q, i * 6 + 4, none⟩ = some (.slice (ad i).1 (nI i) (ad i).2.1) := (HPB.out.cell H.out HPO.out hlt (by decide)).1.trans (congrArg some (by simpa using HIB.out.1 i hlt)); (try refine nmL ?_)) | ((with_reducible refine nD 46 ?_); refine gC 46 Try.func50 (markI_own (k := K + 4) H.out (2 * i) ((get_l (by have := HNl.out; omega)).trans HNi.out.1) (by have := HBD.out; omega) (by have := HBD.out; omega)) ?_; rintro e w_ ⟨rfl, hO⟩; refine ⟨_, rfl, ?_⟩; clear H; rw [set_l (by have := HNl.out; omega)] at hO; obtain ⟨N2, hN2⟩ : ∃ N2, N'.set (2 * i) (ri (.slice (ad i).1 (nI i) (ad i).2.1) (marks id (K + 4) (nI i))) = N2 := ⟨_, rfl⟩; rw [hN2] at hO; have H := aM hO; clear hO; have HN2 := aM hN2; clear hN2; clear HPO; have HPO := aM (pos_r HR1.out : (N2 ++ L1.set r (pf hp_ F))[N2.length + r]? = some (pf hp_ F)); have z5 : w_.cell? ⟨q, i * 6 + 5, none⟩ = some (.slice (ad i).2.2.1 (nB i) (ad i).2.2.2) := (HPB.out.cell H.out HPO.out hlt (by decide)).1.trans (congrArg some (by simpa using HIB.out.2 i hlt)); (try refine nmL ?_)) | ((with_reducible refine nD 53 ?_); refine gC 53 Try.func49 (markB_own (k := K + 4 + (nI i : Int)) H.out (2 * i + 1) ((get_l (by rw [← HN2.out, List.length_set]; have := HNl.out; omega)).trans (by rw [← HN2.out, List.getElem?_set_ne (by omega)]; exact HNi.out.2)) (by have := HBD.out; omega) (by have := HBD.out; omega)) ?_; rintro e w_ ⟨rfl, hO⟩; refine ⟨_, rfl, ?_⟩; clear H; rw [set_l (by rw [← HN2.out, List.length_set]; have := HNl.out; omega)] at hO; obtain ⟨N3, hN3⟩ : ∃ N3, N2.set (2 * i + 1) (rb (.slice (ad i).2.2.1 (nB i) (ad i).2.2.2) (marks markB (K + 4 + (nI i : Int)) (nB i))) = N3 := ⟨_, rfl⟩; rw [hN3] at hO; have H := aM hO; clear hO; have HN3 := aM hN3; clear hN3; clear HPO; have HPO := aM (pos_r HR1.out : (N3 ++ L1.set r (pf hp_ F))[N3.length + r]? = some (pf hp_ F)); (try refine nmL ?_)))
      go_roundg (gk - 1)
      case measure => have := HI.out; omega
      case rel =>
        refine ⟨i + 1, hp_, N3, congrArg (Value.int .i64) HKK.out.2.1.symm, rfl, ⟨by have := HI.out; omega⟩, H, aM ?_, aM (.inr ⟨q, rfl, HPB.out.mono ?_⟩)⟩
        · have hk := HKe.out
          have hl := HNl.out
          refine nl_set hk HN'.out hlt (HN3.out.symm.trans (congrArg (fun l : List It => l.set (2 * i + 1) (rb (.slice (ad i).2.2.1 (nB i) (ad i).2.2.2) (marks markB (K + 4 + (nI i : Int)) (nB i)))) HN2.out.symm)) (fun j => ?_) (fun j => ?_)
          · by_cases h : j = i
            · subst h; simp [hk]
            · simp [h, show (j < i + 1) = (j < i) from propext (by omega)]
          · by_cases h : j = i
            · subst h; simp [hk]
            · simp [h, show (j < i + 1) = (j < i) from propext (by omega)]
        · intro j hj m hm
          have hk := HKe.out
          by_cases h : j = i
          · subst h
            rcases (show m = 0 ∨ m = 1 ∨ m = 2 ∨ m = 3 ∨ m = 4 ∨ m = 5 by omega) with rfl | rfl | rfl | rfl | rfl | rfl <;> simp [mkResp, hk]
          · simp [h, show (j < i + 1) = (j < i) from propext (by omega)]
    · have d1 : decide ((i : Int) < (n : Int)) = false := decide_eq_false (by omega)
      have hi : i = n := by have := HI.out; omega
      subst hi
      go_wp2
      go_ret
      have hG := H.out.group
      have hb := hG.swap s
      rw [← HL1.out, List.set_comm _ _ hrs.symm, List.set_set] at hb
      refine ⟨rfl, hp_, N', hb, H.out.apartL, ?_, ?_⟩
      · exact HN'.out.mono (fun j hj => by simp [hj]) (fun j hj => by simp [hj])
      · rcases HQ.out with h | ⟨q, h1, h2⟩
        · exact .inl h
        · exact .inr ⟨q, h1, h2.mono (fun j hj m hm => by simp [hj])⟩
end Go.Proofs.Ytiogbjbkfhhdhaa.G
