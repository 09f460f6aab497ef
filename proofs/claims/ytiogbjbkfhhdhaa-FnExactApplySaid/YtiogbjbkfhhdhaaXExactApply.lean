/- The law that Apply answers as the reference's is true of all inputs, walked over what both compute. No condition. -/
import Derived.Test.YtiogbjbkfhhdhaaGAppS
import Derived.Test.YtiogbjbkfhhdhaaGRowIn
import Derived.Test.YtiogbjbkfhhdhaaR
namespace Go.Proofs.Ytiogbjbkfhhdhaa.XExactApply
open Go.Proofs.Ytiogbjbkfhhdhaa.G Go.Proofs.Ytiogbjbkfhhdhaa.K Go Go.RowKit Go.Proofs.YtiogbjbkfhhdhaaW.PrintWords Go.Proofs.YtiogbjbkfhhdhaaW.PrintLast Go.Proofs.YtiogbjbkfhhdhaaW.PrintMore Go.Proofs.Ytiogbjbkfhhdhaa.PlainC Go.Proofs.Ytiogbjbkfhhdhaa.RowC
set_option linter.unusedVariables false
set_option linter.unusedSimpArgs false
theorem _root_.Go.Proofs.Ytiogbjbkfhhdhaa.G.Own.keep6 {w0 w : World} {L : List It} {x1 x2 x3 x4 x5 x6 : It} (H : Own w0 w (x1 :: x2 :: x3 :: x4 :: x5 :: x6 :: L)) (m : Nat) {L' : List It} (h : L.drop m = L' := by rfl) : Own w0 w (x1 :: x2 :: x3 :: x4 :: x5 :: x6 :: L') := H.sub (h ▸ ((((((List.drop_sublist m L).cons_cons x6).cons_cons x5).cons_cons x4).cons_cons x3).cons_cons x2).cons_cons x1)
theorem filled_len (l : List Bool) : (filledOf l).length ≤ l.length + 8 := by
  unfold filledOf
  rw [List.length_append, List.length_replicate]
  omega
theorem served_len {l0 l1 : List Bool} {l2 l3 : List Int} {k a n wat : Int} {ws : List Int} {bs : List Bool} {r1 r2 : List Bool} {r3 r4 : List Int} {r5 r6 r7 r8 : Int} {r9 : List Int} {r10 : List Bool} (h : servedOf l0 l1 l2 l3 k a n ws bs wat = (r1, r2, r3, r4, r5, r6, r7, r8, r9, r10))
    (m0 : l0.length ≤ 1048576) (m1 : l1.length ≤ 1048576) (m2 : l2.length ≤ 1048576) (m3 : l3.length ≤ 1048576) (m4 : ws.length ≤ 1048576) (m5 : bs.length ≤ 1048576) : r1.length ≤ 1048576 ∧ r2.length ≤ 1048576 ∧ r3.length ≤ 1048576 ∧ r4.length ≤ 1048576 ∧ r9.length ≤ 1048576 ∧ r10.length ≤ 1048576 := by
  unfold servedOf at h
  split at h
  · rename_i hd
    have hd := deviceOkB_len hd.1
    split at h
    · unfold doneOf at h
      repeat' split at h
      all_goals
        simp only [Prod.mk.injEq] at h
        obtain ⟨rfl, rfl, rfl, rfl, rfl, rfl, rfl, rfl, rfl, rfl⟩ := h
        have f0 := filled_len ((l0.take (a + n).toNat).drop a.toNat)
        have f1 := filled_len ((l1.take (a + n).toNat).drop a.toNat)
        simp only [List.length_drop, List.length_take] at f0 f1
        (try simp only [over_length, List.length_drop, List.length_take, List.length_set, List.length_nil])
        omega
    · simp only [Prod.mk.injEq] at h
      obtain ⟨rfl, rfl, rfl, rfl, rfl, rfl, rfl, rfl, rfl, rfl⟩ := h
      (try simp only [List.length_nil])
      omega
  · split at h
    all_goals
      simp only [Prod.mk.injEq] at h
      obtain ⟨rfl, rfl, rfl, rfl, rfl, rfl, rfl, rfl, rfl, rfl⟩ := h
      (try simp only [List.length_nil])
      omega
theorem applied_len : ∀ (qs : List S36) (l0 l1 : List Bool) (l2 l3 : List Int), l0.length ≤ 1048576 → l1.length ≤ 1048576 → l2.length ≤ 1048576 → l3.length ≤ 1048576 → (∀ q ∈ qs, q.f3.length ≤ 1048576 ∧ q.f4.length ≤ 1048576) → ∀ (r1 r2 : List Bool) (r3 r4 : List Int) (ts : List S32), appliedOf (l0, l1, l2, l3) qs = ((r1, r2, r3, r4), ts) → (r1.length ≤ 1048576 ∧ r2.length ≤ 1048576 ∧ r3.length ≤ 1048576 ∧ r4.length ≤ 1048576) ∧ ∀ t ∈ ts, t.f4.length ≤ 1048576 ∧ t.f5.length ≤ 1048576
  | [], l0, l1, l2, l3, m0, m1, m2, m3, _, r1, r2, r3, r4, ts, h => by
    simp only [appliedOf, Prod.mk.injEq] at h
    obtain ⟨⟨rfl, rfl, rfl, rfl⟩, rfl⟩ := h
    exact ⟨⟨m0, m1, m2, m3⟩, fun t ht => by cases ht⟩
  | q :: qs, l0, l1, l2, l3, m0, m1, m2, m3, mq, r1, r2, r3, r4, ts, h => by
    obtain ⟨s1, s2, s3, s4, s5, s6, s7, s8, s9, s10, hS⟩ : ∃ s1 s2 s3 s4 s5 s6 s7 s8 s9 s10, servedOf l0 l1 l2 l3 q.f0 q.f1 q.f2 q.f3 q.f4 q.f5 = (s1, s2, s3, s4, s5, s6, s7, s8, s9, s10) := ⟨_, _, _, _, _, _, _, _, _, _, rfl⟩
    have hq := mq q (List.mem_cons_self ..)
    have hl := served_len hS m0 m1 m2 m3 hq.1 hq.2
    obtain ⟨q1, q2, q3, q4, us, hU⟩ : ∃ q1 q2 q3 q4 us, appliedOf (s1, s2, s3, s4) qs = ((q1, q2, q3, q4), us) := ⟨_, _, _, _, _, rfl⟩
    simp only [appliedOf, hS, hU, Prod.mk.injEq] at h
    obtain ⟨⟨rfl, rfl, rfl, rfl⟩, rfl⟩ := h
    have hr := applied_len qs s1 s2 s3 s4 hl.1 hl.2.1 hl.2.2.1 hl.2.2.2.1 (fun q hq => mq q (List.mem_cons_of_mem _ hq)) _ _ _ _ _ hU
    refine ⟨hr.1, fun t ht => ?_⟩
    rcases List.mem_cons.1 ht with rfl | ht
    · exact ⟨hl.2.2.2.2.1, hl.2.2.2.2.2⟩
    · exact hr.2 t ht
theorem kS_max (k : Int) (nI nB : Nat → Nat) (h : ∀ j, nI j ≤ 1048576 ∧ nB j ≤ 1048576) : ∀ n : Nat, kS k nI nB n ≤ k + (n : Int) * 2097156
  | 0 => by
    show k ≤ _
    omega
  | n + 1 => by
    have h1 := kS_max k nI nB h n
    have h2 := h n
    show kS k nI nB n + 4 + (nI n : Int) + (nB n : Int) ≤ _
    omega
theorem getD_all {α : Type} {p : α → Prop} {xs : List α} {z : α} (h : ∀ x ∈ xs, p x) (hz : p z) (j : Nat) : p (xs.getD j z) := by
  rw [List.getD_eq_getElem?_getD]
  cases e : xs[j]? with
  | none => exact hz
  | some x => exact h x (List.mem_of_getElem? e)
theorem heldR_own {w : World} {A : Option Addr} {c : Nat} {ts : List S32} {hp : Nat → Option Obj} {F : Nat → Prop} {N : List It} {k : Int} (h : FlR A (mkd k ts) hp F N) (h1 : (pf hp F).P w) (h2 : (grp N).P w) (k0 : 0 ≤ k) (k9 : kS k (fun j => (ts.getD j z32).f4.length) (fun j => (ts.getD j z32).f5.length) ts.length ≤ 4611686018427387904) (n9 : ts.length ≤ 1048576) :
    Calls Try.prog 27 #[.slice A ts.length c, .int .i64 k] w fun e w' => e = .returned (.int .i64 (kS k (fun j => (ts.getD j z32).f4.length) (fun j => (ts.getD j z32).f5.length) ts.length)) ∧ Below w.heap.size w w' := by
  have hl := mkd_len k ts
  have := heldRespS_own (c := c) (h.C h1 h2 (by rw [hl]; exact n9)) (k := k) (nI := fun j => (ts.getD j z32).f4.length) (nB := fun j => (ts.getD j z32).f5.length) k0 (by rw [hl]; exact k9) (by rw [hl]; exact n9) (fun j hj => by
    rw [hl] at hj
    have hg := mkd_get k ts j hj
    rw [List.getD_eq_getElem?_getD, List.getElem?_eq_getElem (by rw [hl]; exact hj), Option.getD_some] at hg
    exact hg)
  rw [hl] at this
  exact this
set_option maxHeartbeats 16000000 in
set_option maxRecDepth 100000 in
theorem walk (v0 : Value) (l0 : List Bool) (v1 : Value) (l1 : List Bool) (v2 : Value) (l2 : List Int) (v3 : Value) (l3 : List Int) (v4 : Value) (qs : List S27) (w : World) (i0 : InBools w v0 l0) (i1 : InBools w v1 l1) (i2 : InInts .i64 w v2 l2) (i3 : InInts .i64 w v3 l3) (i4 : InRows27 w v4 qs) :
    Calls Try.prog 4 #[.agg #[v0, v1, v2, v3], v4] w fun e w' => e = .returned (.bool true) ∧ Below w.heap.size w w' := by
  obtain ⟨A0, c0, rfl, _, h0, _⟩ := i0
  obtain ⟨A1, c1, rfl, _, h1, _⟩ := i1
  obtain ⟨A2, c2, rfl, _, h2, _, _⟩ := i2
  obtain ⟨A3, c3, rfl, _, h3, _, _⟩ := i3
  obtain ⟨A4, c4, rfl, _, h4, _⟩ := i4
  have HN := aM (And.intro (Kd.C_max h0) (And.intro (Kd.C_max h1) (And.intro (Kd.C_max h2) ((Kd.C_max h3)))))
  have HC := aM (And.intro h0 (And.intro h1 (And.intro h2 h3)))
  have HQ := aM h4
  clear h0 h1 h2 h3 h4
  have hu := Try.underlying30
  have hl := Try.underlying25
  have H := aM (Own.nil w)
  go_enter Try.func4, Try.ntmps4
  go_upto_region 3 with (first | ((with_reducible refine nD 2 ?_); refine bxO 2 H.out #[.slice A0 l0.length c0, .slice A1 l1.length c1, .slice A2 l2.length c2, .slice A3 l3.length c3] 25 ?_; clear H; intro g2 _ H; (try refine nmL ?_)) | ((with_reducible refine nD 17 ?_); refine ldO 17 0 H.out hl ?_; (try refine nmL ?_)) | ((with_reducible refine nD 19 ?_); refine gC 19 Try.func5 (szDevice_own (left := 1048576) HN.out.1 HN.out.2.1 HN.out.2.2.1 HN.out.2.2.2 (by decide) (by decide)) ?_; rintro e w_ ⟨x, rfl, ra, rb_, hO⟩; refine ⟨_, rfl, ?_⟩; replace H := aM (H.out.step hO); clear hO; have hx := And.intro ra rb_; clear ra rb_; (try refine nmL ?_)))
  by_cases hx0 : x < 0
  · have d1 : decide (x < 0) = true := decide_eq_true hx0
    go_wp2
    go_ret
    exact ⟨rfl, H.out.below⟩
  have d1 : decide (x < 0) = false := decide_eq_false hx0
  have HX := aM (show x = 1048576 - (l0.length + l1.length + l2.length + l3.length : Nat) ∧ x ≤ 1048576 ∧ 0 ≤ x from ⟨hx.1 (by omega), by have := hx.2; omega, by omega⟩)
  clear hx hx0
  go_upto_region 6 with (first | ((with_reducible refine nD 24 ?_); refine gC 24 Try.func19 (szReqS_own (left := x) (H.out.arg HQ.out) HX.out.2.2 HX.out.2.1) ?_; rintro e w_ ⟨y, rfl, ra, rb_, hO⟩; refine ⟨_, rfl, ?_⟩; replace H := aM (H.out.step hO); clear hO; have hy := And.intro ra rb_; clear ra rb_; (try refine nmL ?_)))
  by_cases hy0 : y < 0
  · have d2 : decide (y < 0) = true := decide_eq_true hy0
    go_wp2
    go_ret
    exact ⟨rfl, H.out.below⟩
  have d2 : decide (y < 0) = false := decide_eq_false hy0
  have HMQ := aM (hy.2 (by omega))
  have hx1 := HX.out
  have HM := aM (show l0.length ≤ 1048576 ∧ l1.length ≤ 1048576 ∧ l2.length ≤ 1048576 ∧ l3.length ≤ 1048576 from by omega)
  clear hy hy0 hx1
  obtain ⟨us, hus⟩ : ∃ us, qs.map to36 = us := ⟨_, rfl⟩
  have HU := aM hus
  have HUL := aM (show us.length ≤ 1048576 ∧ ∀ q ∈ us, q.f3.length ≤ 1048576 ∧ q.f4.length ≤ 1048576 from by
    rw [← hus, List.length_map]
    refine ⟨HMQ.out.1, fun q hq => ?_⟩
    obtain ⟨p, hp, rfl⟩ := List.mem_map.1 hq
    exact HMQ.out.2 p hp)
  clear hus
  obtain ⟨r1, r2, r3, r4, ts, hS⟩ : ∃ r1 r2 r3 r4 ts, appliedOf (l0, l1, l2, l3) us = ((r1, r2, r3, r4), ts) := ⟨_, _, _, _, _, rfl⟩
  have ha := applied_len us l0 l1 l2 l3 HM.out.1 HM.out.2.1 HM.out.2.2.1 HM.out.2.2.2 HUL.out.2 r1 r2 r3 r4 ts hS
  have hb := applied_told (l0, l1, l2, l3) us
  rw [hS] at hb
  have HR := aM ha.1
  have HT := aM (show ts.length ≤ 1048576 ∧ ∀ t ∈ ts, t.f4.length ≤ 1048576 ∧ t.f5.length ≤ 1048576 from ⟨by have := HUL.out.1; dsimp only at hb; omega, ha.2⟩)
  have HS := aM hS
  clear hS ha hb
  obtain ⟨KQ, hKQ⟩ : ∃ KQ, kS (1 + (l0.length : Int) + (l1.length : Int) + (l2.length : Int) + (l3.length : Int)) (fun j => (us.getD j z36).f3.length) (fun j => (us.getD j z36).f4.length) us.length = KQ := ⟨_, rfl⟩
  have HKQ := aM (show kS (1 + (l0.length : Int) + (l1.length : Int) + (l2.length : Int) + (l3.length : Int)) (fun j => (us.getD j z36).f3.length) (fun j => (us.getD j z36).f4.length) us.length = KQ ∧ 0 ≤ KQ ∧ KQ ≤ 4611686018427387904 from by
    refine ⟨hKQ, ?_, ?_⟩
    · have := kS_le (1 + (l0.length : Int) + (l1.length : Int) + (l2.length : Int) + (l3.length : Int)) (fun j => (us.getD j z36).f3.length) (fun j => (us.getD j z36).f4.length) 0 us.length
      rw [Nat.zero_add, hKQ] at this
      have h2 : kS (1 + (l0.length : Int) + (l1.length : Int) + (l2.length : Int) + (l3.length : Int)) (fun j => (us.getD j z36).f3.length) (fun j => (us.getD j z36).f4.length) 0 = 1 + (l0.length : Int) + (l1.length : Int) + (l2.length : Int) + (l3.length : Int) := rfl
      omega
    · have h1 := kS_max (1 + (l0.length : Int) + (l1.length : Int) + (l2.length : Int) + (l3.length : Int)) (fun j => (us.getD j z36).f3.length) (fun j => (us.getD j z36).f4.length) (fun j => getD_all (p := fun q : S36 => q.f3.length ≤ 1048576 ∧ q.f4.length ≤ 1048576) HUL.out.2 ⟨by decide, by decide⟩ j) us.length
      rw [hKQ] at h1
      have := HUL.out.1
      have := HM.out
      omega)
  clear hKQ
  obtain ⟨KR, hKR⟩ : ∃ KR, kS (1 + (r1.length : Int) + (r2.length : Int) + (r3.length : Int) + (r4.length : Int)) (fun j => (ts.getD j z32).f4.length) (fun j => (ts.getD j z32).f5.length) ts.length = KR := ⟨_, rfl⟩
  have HKR := aM (show kS (1 + (r1.length : Int) + (r2.length : Int) + (r3.length : Int) + (r4.length : Int)) (fun j => (ts.getD j z32).f4.length) (fun j => (ts.getD j z32).f5.length) ts.length = KR ∧ 0 ≤ KR ∧ KR ≤ 4611686018427387904 from by
    refine ⟨hKR, ?_, ?_⟩
    · have := kS_le (1 + (r1.length : Int) + (r2.length : Int) + (r3.length : Int) + (r4.length : Int)) (fun j => (ts.getD j z32).f4.length) (fun j => (ts.getD j z32).f5.length) 0 ts.length
      rw [Nat.zero_add, hKR] at this
      have h2 : kS (1 + (r1.length : Int) + (r2.length : Int) + (r3.length : Int) + (r4.length : Int)) (fun j => (ts.getD j z32).f4.length) (fun j => (ts.getD j z32).f5.length) 0 = 1 + (r1.length : Int) + (r2.length : Int) + (r3.length : Int) + (r4.length : Int) := rfl
      omega
    · have h1 := kS_max (1 + (r1.length : Int) + (r2.length : Int) + (r3.length : Int) + (r4.length : Int)) (fun j => (ts.getD j z32).f4.length) (fun j => (ts.getD j z32).f5.length) (fun j => getD_all (p := fun t : S32 => t.f4.length ≤ 1048576 ∧ t.f5.length ≤ 1048576) HT.out.2 ⟨by decide, by decide⟩ j) ts.length
      rw [hKR] at h1
      have := HT.out.1
      have := HR.out
      omega)
  clear hKR
  go_upto_region 14 with (first | ((with_reducible refine nD 28 ?_); refine ldO 28 0 H.out hl ?_; (try refine nmL ?_)) | ((with_reducible refine nD 29 ?_); refine gC 29 Try.func8 (toDevice_own (H.out.arg HC.out.1) (H.out.arg HC.out.2.1) (H.out.arg HC.out.2.2.1) (H.out.arg HC.out.2.2.2) HM.out.1 HM.out.2.1 HM.out.2.2.1 HM.out.2.2.2) ?_; rintro e w_ ⟨aD0, aD1, aD2, aD3, ad0, ad1, ad2, ad3, rfl, hO⟩; refine ⟨_, rfl, ?_⟩; replace H := aM (H.out.app hO); clear hO; (try refine nmL ?_)) | ((with_reducible refine nD 31 ?_); refine gC 31 Try.func21 (toReqS_own HU.out (H.out.arg HQ.out) HMQ.out.1 HMQ.out.2) ?_; rintro e w_ ⟨aQ, aq, aqh, aqF, aqN, rfl, ahQ_, hO⟩; refine ⟨_, rfl, ?_⟩; replace H := aM (H.out.app hO); clear hO; have ahQ := aM ahQ_; clear ahQ_; (try refine nmL ?_)) | ((with_reducible refine nD 32 ?_); refine gC 32 Try.func20 (specApply_own HS.out (H.out.cb 2) (H.out.lb 2) (H.out.cb 3) (H.out.lb 3) (H.out.ci 4) (H.out.li 4) (H.out.ci 5) (H.out.li 5) (ahQ.out.C (H.out.get 0) (H.out.get 1) HUL.out.1) HM.out.1 HM.out.2.1 HM.out.2.2.1 HM.out.2.2.2 HUL.out.1 HUL.out.2) ?_; rintro e w_ ⟨aS0, aS1, aS2, aS3, aS4, as0, as1, as2, as3, as4, ash, asF, asN, rfl, ahR_, hO⟩; refine ⟨_, rfl, ?_⟩; replace H := aM (H.out.app hO); clear hO; have ahR := aM ahR_; clear ahR_; have h_ := H.out.keep6 6; (try simp only [List.cons_append, List.nil_append, List.set_cons_zero, List.set_cons_succ, List.drop_succ_cons, List.drop_zero] at h_); replace H := aM h_; clear h_; (try refine nmL ?_)) | ((with_reducible refine nD 6 ?_); refine bxO 6 H.out #[.slice none 0 0, .slice none 0 0, .slice none 0 0, .slice none 0 0] 30 ?_; clear H; intro g6 _ H; (try refine nmL ?_)) | ((with_reducible refine nS 6 ?_); refine stO 0 H.out ?_; clear H; intro _ H; (try refine nmL ?_)) | ((with_reducible refine nD 35 ?_); refine ldO 35 7 H.out hl ?_; (try refine nmL ?_)) | ((with_reducible refine nD 36 ?_); refine gC 36 Try.func8 (toDevice_own (H.out.arg HC.out.1) (H.out.arg HC.out.2.1) (H.out.arg HC.out.2.2.1) (H.out.arg HC.out.2.2.2) HM.out.1 HM.out.2.1 HM.out.2.2.1 HM.out.2.2.2) ?_; rintro e w_ ⟨xD0, xD1, xD2, xD3, xd0, xd1, xd2, xd3, rfl, hO⟩; refine ⟨_, rfl, ?_⟩; replace H := aM (H.out.app hO); clear hO; (try refine nmL ?_)) | ((with_reducible refine nD 8 ?_); refine bxO 8 H.out #[.slice none 0 0, .slice none 0 0, .slice none 0 0, .slice none 0 0] 30 ?_; clear H; intro g8 _ H; (try refine nmL ?_)) | ((with_reducible refine nS 8 ?_); refine stO 0 H.out ?_; clear H; intro _ H; (try refine nmL ?_)) | ((with_reducible refine nD 38 ?_); refine gC 38 Try.func21 (toReqS_own HU.out (H.out.arg HQ.out) HMQ.out.1 HMQ.out.2) ?_; rintro e w_ ⟨xQ, xq, xqh, xqF, xqN, rfl, xhQ_, hO⟩; refine ⟨_, rfl, ?_⟩; replace H := aM (H.out.app hO); clear hO; have xhQ := aM xhQ_; clear xhQ_; (try refine nmL ?_)) | ((with_reducible refine nD 40 ?_); refine ldO 40 2 H.out hu ?_; (try refine nmL ?_)) | ((with_reducible refine nD 42 ?_); refine gC 42 Try.func22 (apply_own HS.out (H.out.cb 3) (H.out.lb 3) (H.out.cb 4) (H.out.lb 4) (H.out.ci 5) (H.out.li 5) (H.out.ci 6) (H.out.li 6) (xhQ.out.C (H.out.get 0) (H.out.get 1) HUL.out.1) HM.out.1 HM.out.2.1 HM.out.2.2.1 HM.out.2.2.2 HUL.out.1 HUL.out.2) ?_; rintro e w_ ⟨xS0, xS1, xS2, xS3, xS4, xs0, xs1, xs2, xs3, xs4, xsh, xsF, xsN, rfl, xhR_, hO⟩; refine ⟨_, rfl, ?_⟩; replace H := aM (H.out.app hO); clear hO; have xhR := aM xhR_; clear xhR_; (try refine nmL ?_)) | ((with_reducible refine nD 10 ?_); refine bxO 10 H.out #[.slice none 0 0, .slice none 0 0, .slice none 0 0, .slice none 0 0] 30 ?_; clear H; intro g10 _ H; (try refine nmL ?_)) | ((with_reducible refine nS 10 ?_); refine stO 0 H.out ?_; clear H; intro _ H; (try refine nmL ?_)) | ((with_reducible refine nD 45 ?_); refine ldO 45 0 H.out hu ?_; (try refine nmL ?_)) | ((with_reducible refine nD 46 ?_); refine ldO 46 14 H.out hu ?_; (try refine nmL ?_)) | ((with_reducible refine nD 47 ?_); refine gC 47 Try.func11 (eqDevice_own (H.out.cBn 1) (H.out.cBn 15) HR.out.1 (H.out.cBn 2) (H.out.cBn 16) HR.out.2.1 (H.out.cIn 3) (H.out.cIn 17) HR.out.2.2.1 (H.out.cIn 4) (H.out.cIn 18) HR.out.2.2.2) ?_; rintro e w_ ⟨rfl, hO⟩; refine ⟨_, rfl, ?_⟩; replace H := aM (H.out.step hO); clear hO; (try refine nmL ?_)) | ((with_reducible refine nD 52 ?_); (try (refine gate_guard (by rfl) ?_; dsimp only)); refine gC 52 Try.func23 (eqRespS_own (xhR.out.C (H.out.get 6) (H.out.get 5) HT.out.1) (ahR.out.C (H.out.get 20) (H.out.get 19) HT.out.1) HT.out.1 HT.out.2) ?_; rintro e w_ ⟨rfl, hO⟩; refine ⟨_, rfl, ?_⟩; replace H := aM (H.out.step hO); clear hO; (try refine nmL ?_)))
  refine rgI [9, 21] 5 H.out ?_
  clear H
  intro w_ H
  have HL_ := aM (H.out.hasI [9, 21])
  refine lO 0 55 0 hu HL_.out ?_
  refine lO 1 56 1 hl HL_.out ?_
  clear HL_
  refine clS 2 57 Try.func8 (toDevice_own (H.out.arg HC.out.1) (H.out.arg HC.out.2.1) (H.out.arg HC.out.2.2.1) (H.out.arg HC.out.2.2.2) HM.out.1 HM.out.2.1 HM.out.2.2.1 HM.out.2.2.2) ?_
  rintro e w_2 ⟨zA0, zA1, zA2, zA3, zc0, zc1, zc2, zc3, rfl, hO⟩
  refine ⟨_, rfl, (H.out.app hO).hasI [13, 25], nm ?_⟩
  replace H := aM (H.out.app hO)
  clear hO
  refine clS 3 58 Try.func11 (eqDevice_own (H.out.cBn 14) (H.out.cBn 0) HM.out.1 (H.out.cBn 15) (H.out.cBn 1) HM.out.2.1 (H.out.cIn 16) (H.out.cIn 2) HM.out.2.2.1 (H.out.cIn 17) (H.out.cIn 3) HM.out.2.2.2) ?_
  rintro e w_3 ⟨rfl, hO⟩
  refine ⟨_, rfl, (H.out.step hO).hasI [13, 25], nm ?_⟩
  have h_ := (H.out.step hO).tail 4
  (try simp only [List.cons_append, List.nil_append, List.set_cons_zero, List.set_cons_succ, List.drop_succ_cons, List.drop_zero] at h_)
  replace H := aM h_
  clear h_ hO
  refine pO 4 59 ?_
  refine done_ (by kernel_rfl) ?_
  have dk : decide (KQ < 0) = false := decide_eq_false (by have := HKQ.out.2.1; omega)
  have dh : decide (1 + (r1.length : Int) + (r2.length : Int) + (r3.length : Int) + (r4.length : Int) < 0) = false := decide_eq_false (by omega)
  have dr : decide (KR < 0) = false := decide_eq_false (by have := HKR.out.2.1; omega)
  go_upto_region 35 with (first | ((with_reducible refine nD 62 ?_); refine gC 62 Try.func21 (toReqS_own HU.out (H.out.arg HQ.out) HMQ.out.1 HMQ.out.2) ?_; rintro e w_ ⟨zQ, zq, zqh, zqF, zqN, rfl, zhQ_, hO⟩; refine ⟨_, rfl, ?_⟩; replace H := aM (H.out.app hO); clear hO; have zhQ := aM zhQ_; clear zhQ_; (try refine nmL ?_)) | ((with_reducible refine nD 63 ?_); refine gC 63 Try.func24 (eqReqS_own (xhQ.out.C (H.out.get 9) (H.out.get 10) HUL.out.1) (zhQ.out.C (H.out.get 0) (H.out.get 1) HUL.out.1) HUL.out.1 HUL.out.2) ?_; rintro e w_ ⟨rfl, hO⟩; refine ⟨_, rfl, ?_⟩; replace H := aM (H.out.step hO); clear hO; (try refine nmL ?_)) | ((with_reducible refine nD 65 ?_); refine ldO 65 11 H.out hu ?_; (try refine nmL ?_)) | ((with_reducible refine nD 67 ?_); refine gC 67 Try.func14 (markDevice_own (k_ := 1) (n0 := l0.length) (n1 := l1.length) (n2 := l2.length) (n3 := l3.length) H.out 12 13 14 15 (by have := HM.out; have := HR.out; omega) (by have := HM.out; have := HR.out; omega)) ?_; rintro e w_ ⟨rfl, hO⟩; refine ⟨_, rfl, ?_⟩; clear H; (try simp only [List.cons_append, List.nil_append, List.set_cons_zero, List.set_cons_succ, List.drop_succ_cons, List.drop_zero] at hO); have H := aM hO; clear hO; (try refine nmL ?_)) | ((with_reducible refine nD 70 ?_); refine gC 70 Try.func25 (markQ_own (k := 1 + (l0.length : Int) + (l1.length : Int) + (l2.length : Int) + (l3.length : Int)) H.out 9 10 xhQ.out (by have := HM.out; have := HR.out; omega) (by rw [HKQ.out.1]; exact HKQ.out.2.2) HUL.out.1) ?_; rintro e w_ ⟨he, yhp, yN, hO⟩; rw [HKQ.out.1] at he; subst he; refine ⟨_, rfl, ?_⟩; clear H; (try simp only [List.cons_append, List.nil_append, List.set_cons_zero, List.set_cons_succ, List.drop_succ_cons, List.drop_zero] at hO); have H := aM hO; clear hO; (try refine nmL ?_)) | ((with_reducible refine nD 74 ?_); (try (refine gate_guard (by rfl) ?_; dsimp only)); refine ldO 74 2 H.out hu ?_; (try refine nmL ?_)) | ((with_reducible refine nD 75 ?_); (try (refine gate_guard (by rfl) ?_; dsimp only)); refine ldO 75 16 H.out hu ?_; (try refine nmL ?_)) | ((with_reducible refine nD 76 ?_); (try (refine gate_guard (by rfl) ?_; dsimp only)); refine gC 76 Try.func11 (eqDevice_own (H.out.cBn 3) (H.out.cBn 17) HR.out.1 (H.out.cBn 4) (H.out.cBn 18) HR.out.2.1 (H.out.cIn 5) (H.out.cIn 19) HR.out.2.2.1 (H.out.cIn 6) (H.out.cIn 20) HR.out.2.2.2) ?_; rintro e w_ ⟨rfl, hO⟩; refine ⟨_, rfl, ?_⟩; replace H := aM (H.out.step hO); clear hO; (try refine nmL ?_)) | ((with_reducible refine nD 82 ?_); (try (refine gate_guard (by rfl) ?_; dsimp only)); refine gC 82 Try.func23 (eqRespS_own (xhR.out.C (H.out.get 8) (H.out.get 7) HT.out.1) (ahR.out.C (H.out.get 22) (H.out.get 21) HT.out.1) HT.out.1 HT.out.2) ?_; rintro e w_ ⟨rfl, hO⟩; refine ⟨_, rfl, ?_⟩; replace H := aM (H.out.step hO); clear hO; (try refine nmL ?_)) | ((with_reducible refine nD 85 ?_); refine ldO 85 2 H.out hu ?_; (try refine nmL ?_)) | ((with_reducible refine nD 87 ?_); refine gC 87 Try.func14 (markDevice_own (k_ := 1) (n0 := r1.length) (n1 := r2.length) (n2 := r3.length) (n3 := r4.length) H.out 3 4 5 6 (by have := HM.out; have := HR.out; omega) (by have := HM.out; have := HR.out; omega)) ?_; rintro e w_ ⟨rfl, hO⟩; refine ⟨_, rfl, ?_⟩; clear H; (try simp only [List.cons_append, List.nil_append, List.set_cons_zero, List.set_cons_succ, List.drop_succ_cons, List.drop_zero] at hO); have H := aM hO; clear hO; (try refine nmL ?_)) | ((with_reducible refine nD 90 ?_); refine gC 90 Try.func26 (markR_own (k := 1 + (r1.length : Int) + (r2.length : Int) + (r3.length : Int) + (r4.length : Int)) H.out 8 7 xhR.out (by have := HM.out; have := HR.out; omega) (by rw [HKR.out.1]; exact HKR.out.2.2) HT.out.1) ?_; rintro e w_ ⟨he, yhp2, yN2, hO, hYR⟩; rw [HKR.out.1] at he; subst he; refine ⟨_, rfl, ?_⟩; clear H; (try simp only [List.cons_append, List.nil_append, List.set_cons_zero, List.set_cons_succ, List.drop_succ_cons, List.drop_zero] at hO); have H := aM hO; clear hO; have HYR := aM hYR; clear hYR; (try refine nmL ?_)) | ((with_reducible refine nD 91 ?_); refine ldO 91 2 H.out hu ?_; (try refine nmL ?_)) | ((with_reducible refine nD 93 ?_); refine gC 93 Try.func17 (heldDevice_own (k_ := 1) (n0 := r1.length) (n1 := r2.length) (n2 := r3.length) (n3 := r4.length) (H.out.cBn 3) (H.out.cBn 4) (H.out.cIn 5) (H.out.cIn 6) (by have := HM.out; have := HR.out; omega) (by have := HM.out; have := HR.out; omega)) ?_; rintro e w_ ⟨rfl, hO⟩; refine ⟨_, rfl, ?_⟩; replace H := aM (H.out.step hO); clear hO; (try refine nmL ?_)) | ((with_reducible refine nD 98 ?_); refine gC 98 Try.func27 (heldR_own (k := 1 + (r1.length : Int) + (r2.length : Int) + (r3.length : Int) + (r4.length : Int)) HYR.out (H.out.get 8) (H.out.get 7) (by have := HM.out; have := HR.out; omega) (by rw [HKR.out.1]; exact HKR.out.2.2) HT.out.1) ?_; rintro e w_ ⟨he, hO⟩; rw [HKR.out.1] at he; subst he; refine ⟨_, rfl, ?_⟩; replace H := aM (H.out.step hO); clear hO; (try refine nmL ?_)))
  go_wp2_with (first | ((with_reducible refine nD 105 ?_); refine ldO 105 23 H.out hl ?_; (try refine nmL ?_)) | ((with_reducible refine nD 106 ?_); refine gC 106 Try.func8 (toDevice_own (H.out.arg HC.out.1) (H.out.arg HC.out.2.1) (H.out.arg HC.out.2.2.1) (H.out.arg HC.out.2.2.2) HM.out.1 HM.out.2.1 HM.out.2.2.1 HM.out.2.2.2) ?_; rintro e w_ ⟨bD0, bD1, bD2, bD3, bd0, bd1, bd2, bd3, rfl, hO⟩; refine ⟨_, rfl, ?_⟩; replace H := aM (H.out.app hO); clear hO; (try refine nmL ?_)) | ((with_reducible refine nD 108 ?_); refine gC 108 Try.func21 (toReqS_own HU.out (H.out.arg HQ.out) HMQ.out.1 HMQ.out.2) ?_; rintro e w_ ⟨bQ, bq, bqh, bqF, bqN, rfl, bhQ_, hO⟩; refine ⟨_, rfl, ?_⟩; replace H := aM (H.out.app hO); clear hO; have bhQ := aM bhQ_; clear bhQ_; (try refine nmL ?_)) | ((with_reducible refine nD 109 ?_); refine gC 109 Try.func22 (apply_own HS.out (H.out.cb 2) (H.out.lb 2) (H.out.cb 3) (H.out.lb 3) (H.out.ci 4) (H.out.li 4) (H.out.ci 5) (H.out.li 5) (bhQ.out.C (H.out.get 0) (H.out.get 1) HUL.out.1) HM.out.1 HM.out.2.1 HM.out.2.2.1 HM.out.2.2.2 HUL.out.1 HUL.out.2) ?_; rintro e w_ ⟨bS0, bS1, bS2, bS3, bS4, bs0, bs1, bs2, bs3, bs4, bsh, bsF, bsN, rfl, bhR_, hO⟩; refine ⟨_, rfl, ?_⟩; replace H := aM (H.out.app hO); clear hO; have bhR := aM bhR_; clear bhR_; have h_ := H.out.keep6 6; (try simp only [List.cons_append, List.nil_append, List.set_cons_zero, List.set_cons_succ, List.drop_succ_cons, List.drop_zero] at h_); replace H := aM h_; clear h_; (try refine nmL ?_)) | ((with_reducible refine nD 15 ?_); refine bxO 15 H.out #[.slice none 0 0, .slice none 0 0, .slice none 0 0, .slice none 0 0] 30 ?_; clear H; intro g15 _ H; (try refine nmL ?_)) | ((with_reducible refine nS 15 ?_); refine stO 0 H.out ?_; clear H; intro _ H; (try refine nmL ?_)) | ((with_reducible refine nD 112 ?_); refine ldO 112 0 H.out hu ?_; (try refine nmL ?_)) | ((with_reducible refine nD 113 ?_); refine ldO 113 23 H.out hu ?_; (try refine nmL ?_)) | ((with_reducible refine nD 114 ?_); refine gC 114 Try.func11 (eqDevice_own (H.out.cBn 1) (H.out.cBn 24) HR.out.1 (H.out.cBn 2) (H.out.cBn 25) HR.out.2.1 (H.out.cIn 3) (H.out.cIn 26) HR.out.2.2.1 (H.out.cIn 4) (H.out.cIn 27) HR.out.2.2.2) ?_; rintro e w_ ⟨rfl, hO⟩; refine ⟨_, rfl, ?_⟩; replace H := aM (H.out.step hO); clear hO; (try refine nmL ?_)) | ((with_reducible refine nD 119 ?_); (try (refine gate_guard (by rfl) ?_; dsimp only)); refine gC 119 Try.func23 (eqRespS_own (bhR.out.C (H.out.get 6) (H.out.get 5) HT.out.1) (ahR.out.C (H.out.get 29) (H.out.get 28) HT.out.1) HT.out.1 HT.out.2) ?_; rintro e w_ ⟨rfl, hO⟩; refine ⟨_, rfl, ?_⟩; replace H := aM (H.out.step hO); clear hO; (try refine nmL ?_)) | ((with_reducible refine nD 122 ?_); refine ldO 122 9 H.out hu ?_; (try refine nmL ?_)) | ((with_reducible refine nD 124 ?_); refine gC 124 Try.func17 (heldDevice_own (k_ := 1) (n0 := r1.length) (n1 := r2.length) (n2 := r3.length) (n3 := r4.length) (H.out.cBn 10) (H.out.cBn 11) (H.out.cIn 12) (H.out.cIn 13) (by have := HM.out; have := HR.out; omega) (by have := HM.out; have := HR.out; omega)) ?_; rintro e w_ ⟨rfl, hO⟩; refine ⟨_, rfl, ?_⟩; replace H := aM (H.out.step hO); clear hO; (try refine nmL ?_)) | ((with_reducible refine nD 129 ?_); refine gC 129 Try.func27 (heldR_own (k := 1 + (r1.length : Int) + (r2.length : Int) + (r3.length : Int) + (r4.length : Int)) HYR.out (H.out.get 15) (H.out.get 14) (by have := HM.out; have := HR.out; omega) (by rw [HKR.out.1]; exact HKR.out.2.2) HT.out.1) ?_; rintro e w_ ⟨he, hO⟩; rw [HKR.out.1] at he; subst he; refine ⟨_, rfl, ?_⟩; replace H := aM (H.out.step hO); clear hO; (try refine nmL ?_)))
  go_ret
  exact ⟨rfl, H.out.below⟩
end Go.Proofs.Ytiogbjbkfhhdhaa.XExactApply
