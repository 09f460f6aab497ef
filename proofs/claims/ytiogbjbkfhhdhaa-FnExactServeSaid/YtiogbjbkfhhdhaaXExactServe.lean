/- The law that Serve answers as the reference's is true of all inputs, walked over what both compute. No condition. -/
import Derived.Test.YtiogbjbkfhhdhaaGSSrv
import Derived.Test.YtiogbjbkfhhdhaaGHelpD
import Derived.Test.YtiogbjbkfhhdhaaGLat
import Derived.Test.YtiogbjbkfhhdhaaR
namespace Go.Proofs.Ytiogbjbkfhhdhaa.XExactServe
open Go.Proofs.Ytiogbjbkfhhdhaa.G Go.Proofs.Ytiogbjbkfhhdhaa.K Go Go.RowKit Go.Proofs.YtiogbjbkfhhdhaaW.PrintWords Go.Proofs.YtiogbjbkfhhdhaaW.PrintLast Go.Proofs.YtiogbjbkfhhdhaaW.PrintMore Go.Proofs.Ytiogbjbkfhhdhaa.PlainC Go.Proofs.Ytiogbjbkfhhdhaa.RowC
set_option linter.unusedVariables false
set_option linter.unusedSimpArgs false
theorem _root_.Go.Proofs.Ytiogbjbkfhhdhaa.G.Own.keep6 {w0 w : World} {L : List It} {x1 x2 x3 x4 x5 x6 : It} (H : Own w0 w (x1 :: x2 :: x3 :: x4 :: x5 :: x6 :: L)) (m : Nat) {L' : List It} (h : L.drop m = L' := by rfl) : Own w0 w (x1 :: x2 :: x3 :: x4 :: x5 :: x6 :: L') := H.sub (h ▸ ((((((List.drop_sublist m L).cons_cons x6).cons_cons x5).cons_cons x4).cons_cons x3).cons_cons x2).cons_cons x1)
theorem filled_len (l : List Bool) : (filledOf l).length ≤ l.length + 8 := by
  unfold filledOf
  rw [List.length_append, List.length_replicate]
  omega
theorem served_len {l0 l1 : List Bool} {l2 l3 : List Int} {k a n wat : Int} {ws : List Int} {bs : List Bool} {r1 r2 : List Bool} {r3 r4 : List Int} {r5 r6 r7 r8 : Int} {r9 : List Int} {r10 : List Bool} (h : servedOf l0 l1 l2 l3 k a n ws bs wat = (r1, r2, r3, r4, r5, r6, r7, r8, r9, r10))
    (m0 : l0.length ≤ 1048576) (m1 : l1.length ≤ 1048576) (m2 : l2.length ≤ 1048576) (m3 : l3.length ≤ 1048576) (m4 : ws.length ≤ 1048576) (m5 : bs.length ≤ 1048576) : r1.length ≤ 1048576 ∧ r2.length ≤ 1048576 ∧ r3.length ≤ 1048576 ∧ r4.length ≤ 1048576 ∧ r9.length ≤ 1048576 ∧ r10.length ≤ 1048576 := by
  unfold servedOf at h
  split at h
  · rename_i hd
    have hd := deviceOkB_len hd.1
    split at h
    · unfold doneOf at h
      repeat' split at h
      all_goals
        simp only [Prod.mk.injEq] at h
        obtain ⟨rfl, rfl, rfl, rfl, rfl, rfl, rfl, rfl, rfl, rfl⟩ := h
        have f0 := filled_len ((l0.take (a + n).toNat).drop a.toNat)
        have f1 := filled_len ((l1.take (a + n).toNat).drop a.toNat)
        simp only [List.length_drop, List.length_take] at f0 f1
        (try simp only [over_length, List.length_drop, List.length_take, List.length_set, List.length_nil])
        omega
    · simp only [Prod.mk.injEq] at h
      obtain ⟨rfl, rfl, rfl, rfl, rfl, rfl, rfl, rfl, rfl, rfl⟩ := h
      (try simp only [List.length_nil])
      omega
  · split at h
    all_goals
      simp only [Prod.mk.injEq] at h
      obtain ⟨rfl, rfl, rfl, rfl, rfl, rfl, rfl, rfl, rfl, rfl⟩ := h
      (try simp only [List.length_nil])
      omega
set_option maxHeartbeats 16000000 in
set_option maxRecDepth 100000 in
theorem walk (v0 : Value) (l0 : List Bool) (v1 : Value) (l1 : List Bool) (v2 : Value) (l2 : List Int) (v3 : Value) (l3 : List Int) (k a n : Int) (v4 : Value) (ws : List Int) (v5 : Value) (bs : List Bool) (wat : Int) (w : World) (i0 : InBools w v0 l0) (i1 : InBools w v1 l1) (i2 : InInts .i64 w v2 l2) (i3 : InInts .i64 w v3 l3) (_ : (Lit.int .i64 k).wf = true) (_ : (Lit.int .i64 a).wf = true) (_ : (Lit.int .i64 n).wf = true) (i4 : InInts .i64 w v4 ws) (i5 : InBools w v5 bs) (_ : (Lit.int .i64 wat).wf = true) :
    Calls Try.prog 3 #[.agg #[v0, v1, v2, v3], .agg #[.int .i64 k, .int .i64 a, .int .i64 n, v4, v5, .int .i64 wat]] w fun e w' => e = .returned (.bool true) ∧ Below w.heap.size w w' := by
  obtain ⟨A0, c0, rfl, _, h0, _⟩ := i0
  obtain ⟨A1, c1, rfl, _, h1, _⟩ := i1
  obtain ⟨A2, c2, rfl, _, h2, _, _⟩ := i2
  obtain ⟨A3, c3, rfl, _, h3, _, _⟩ := i3
  obtain ⟨A4, c4, rfl, _, h4, _, _⟩ := i4
  obtain ⟨A5, c5, rfl, _, h5, _⟩ := i5
  have HN := aM (And.intro (Kd.C_max h0) (And.intro (Kd.C_max h1) (And.intro (Kd.C_max h2) (And.intro (Kd.C_max h3) (And.intro (Kd.C_max h4) ((Kd.C_max h5)))))))
  have HC := aM (And.intro h0 (And.intro h1 (And.intro h2 (And.intro h3 (And.intro h4 (h5))))))
  clear h0 h1 h2 h3 h4 h5
  have hu := Try.underlying30
  have hq := Try.underlying36
  have hR := Try.underlying32
  have hl := Try.underlying25
  have hlq := Try.underlying27
  have H := aM (Own.nil w)
  go_enter Try.func3, Try.ntmps3
  go_upto_region 3 with (first | ((with_reducible refine nD 2 ?_); refine bxO 2 H.out #[.slice A0 l0.length c0, .slice A1 l1.length c1, .slice A2 l2.length c2, .slice A3 l3.length c3] 25 ?_; clear H; intro g2 _ H; (try refine nmL ?_)) | ((with_reducible refine nD 3 ?_); refine bxO 3 H.out #[.int .i64 k, .int .i64 a, .int .i64 n, .slice A4 ws.length c4, .slice A5 bs.length c5, .int .i64 wat] 27 ?_; clear H; intro g3 _ H; (try refine nmL ?_)) | ((with_reducible refine nD 17 ?_); refine ldO 17 1 H.out hl ?_; (try refine nmL ?_)) | ((with_reducible refine nD 19 ?_); refine gC 19 Try.func5 (szDevice_own (left := 1048576) HN.out.1 HN.out.2.1 HN.out.2.2.1 HN.out.2.2.2.1 (by decide) (by decide)) ?_; rintro e w_ ⟨x, rfl, ra, rb_, hO⟩; refine ⟨_, rfl, ?_⟩; replace H := aM (H.out.step hO); clear hO; have hx := And.intro ra rb_; clear ra rb_; (try refine nmL ?_)))
  by_cases hx0 : x < 0
  · have d1 : decide (x < 0) = true := decide_eq_true hx0
    go_wp2
    go_ret
    exact ⟨rfl, H.out.below⟩
  have d1 : decide (x < 0) = false := decide_eq_false hx0
  have HX := aM (show x = 1048576 - (l0.length + l1.length + l2.length + l3.length : Nat) ∧ x ≤ 1048576 ∧ 0 ≤ x from ⟨hx.1 (by omega), by have := hx.2; omega, by omega⟩)
  clear hx hx0
  go_upto_region 6 with (first | ((with_reducible refine nD 22 ?_); refine ldO 22 0 H.out hlq ?_; (try refine nmL ?_)) | ((with_reducible refine nD 24 ?_); refine gC 24 Try.func6 (szReq_own (left := x) (k := k) (a := a) (n := n) (wat := wat) HN.out.2.2.2.2.1 HN.out.2.2.2.2.2 HX.out.2.2 HX.out.2.1) ?_; rintro e w_ ⟨y, rfl, ra, rb_, hO⟩; refine ⟨_, rfl, ?_⟩; replace H := aM (H.out.step hO); clear hO; have hy := And.intro ra rb_; clear ra rb_; (try refine nmL ?_)))
  by_cases hy0 : y < 0
  · have d2 : decide (y < 0) = true := decide_eq_true hy0
    go_wp2
    go_ret
    exact ⟨rfl, H.out.below⟩
  have d2 : decide (y < 0) = false := decide_eq_false hy0
  have hy1 := hy.1 (by omega)
  have hx1 := HX.out
  have HM := aM (show l0.length ≤ 1048576 ∧ l1.length ≤ 1048576 ∧ l2.length ≤ 1048576 ∧ l3.length ≤ 1048576 ∧ ws.length ≤ 1048576 ∧ bs.length ≤ 1048576 from by omega)
  clear hy hy0 hy1 hx1
  obtain ⟨r1, r2, r3, r4, r5, r6, r7, r8, r9, r10, hS⟩ : ∃ r1 r2 r3 r4 r5 r6 r7 r8 r9 r10, servedOf l0 l1 l2 l3 k a n ws bs wat = (r1, r2, r3, r4, r5, r6, r7, r8, r9, r10) := ⟨_, _, _, _, _, _, _, _, _, _, rfl⟩
  have HR := aM (served_len hS HM.out.1 HM.out.2.1 HM.out.2.2.1 HM.out.2.2.2.1 HM.out.2.2.2.2.1 HM.out.2.2.2.2.2)
  have HS := aM hS
  clear hS
  go_upto_region 8 with fail
  refine rgI [1, 0] 12 H.out ?_
  clear H
  intro w_ H
  have HL_ := aM (H.out.hasI [1, 0])
  refine lO 0 28 0 hl HL_.out ?_
  refine lO 2 30 1 hlq HL_.out ?_
  clear HL_
  refine genL_ H (fun Lb hLb H => ?_)
  refine gen2_ (fun G a0 hA hG => ?_)
  obtain ⟨f, hf⟩ : ∃ f : Value → Value → Value → Value → Value → Value → Value → Value → Act, f = fun x29 x31 x32 x27 x33 x34 x6 x7 => ((((((((a0.put (some 29) x29).put (some 31) x31).put (some 32) x32).put (some 27) x27).put (some 33) x33).put (some 34) x34).put (some 6) x6).put (some 7) x7) := ⟨_, rfl⟩
  have sap_01 : ∀ (aD0 aD1 aD2 aD3 : Option Addr) (ad0 ad1 ad2 ad3 : Nat) (aD4 aD5 : Option Addr) (ad4 ad5 : Nat) (aS0 aS1 aS2 aS3 aS4 aS5 : Option Addr) (as0 as1 as2 as3 as4 as5 : Nat) (g6 : Nat) (g7 : Nat) (w1 : World), Aside0 (Own w w1 (rb (.slice aS0 r1.length as0) r1 :: rb (.slice aS1 r2.length as1) r2 :: ri (.slice aS2 r3.length as2) r3 :: ri (.slice aS3 r4.length as3) r4 :: ri (.slice aS4 r9.length as4) r9 :: rb (.slice aS5 r10.length as5) r10 :: ri (.slice aD4 ws.length ad4) ws :: rb (.slice aD5 bs.length ad5) bs :: rb (.slice aD0 l0.length ad0) l0 :: rb (.slice aD1 l1.length ad1) l1 :: ri (.slice aD2 l2.length ad2) l2 :: ri (.slice aD3 l3.length ad3) l3 :: bx g6 #[.slice none 0 0, .slice none 0 0, .slice none 0 0, .slice none 0 0] 30 :: bx g7 #[.int .i64 0, .int .i64 0, .int .i64 0, .int .i64 0, .slice none 0 0, .slice none 0 0] 32 :: Lb)) → G 2 #[true, true, true, true, true, true, true, true, true, true, false, false] (f (.agg #[.slice aD0 l0.length ad0, .slice aD1 l1.length ad1, .slice aD2 l2.length ad2, .slice aD3 l3.length ad3]) (.agg #[.int .i64 k, .int .i64 a, .int .i64 n, .slice aD4 ws.length ad4, .slice aD5 bs.length ad5, .int .i64 wat]) (.tuple #[.agg #[.slice aS0 r1.length as0, .slice aS1 r2.length as1, .slice aS2 r3.length as2, .slice aS3 r4.length as3], .agg #[.int .i64 r5, .int .i64 r6, .int .i64 r7, .int .i64 r8, .slice aS4 r9.length as4, .slice aS5 r10.length as5]]) (.tuple #[.agg #[.slice aS0 r1.length as0, .slice aS1 r2.length as1, .slice aS2 r3.length as2, .slice aS3 r4.length as3], .agg #[.int .i64 r5, .int .i64 r6, .int .i64 r7, .int .i64 r8, .slice aS4 r9.length as4, .slice aS5 r10.length as5]]) (.agg #[.slice aS0 r1.length as0, .slice aS1 r2.length as1, .slice aS2 r3.length as2, .slice aS3 r4.length as3]) (.agg #[.int .i64 r5, .int .i64 r6, .int .i64 r7, .int .i64 r8, .slice aS4 r9.length as4, .slice aS5 r10.length as5]) (.pointer (some ⟨g6, 0, none⟩)) (.pointer (some ⟨g7, 0, none⟩))) w1 := by
    intro aD0 aD1 aD2 aD3 ad0 ad1 ad2 ad3 aD4 aD5 ad4 ad5 aS0 aS1 aS2 aS3 aS4 aS5 as0 as1 as2 as3 as4 as5 g6 g7 w1 H
    subst hf hG hA hLb
    refine nm ?_
    refine stS 10 12 [15, 14] H.out ?_
    clear H
    intro _ H
    refine stS 11 13 [15, 14] H.out ?_
    clear H
    intro _ H
    refine done_ (by kernel_rfl) ?_
    replace H := aM (H.out.keep6 6)
    go_upto_region 14 with (first | ((with_reducible refine nD 35 ?_); refine ldO 35 9 H.out hl ?_; (try refine nmL ?_)) | ((with_reducible refine nD 36 ?_); refine gC 36 Try.func8 (toDevice_own (H.out.arg HC.out.1) (H.out.arg HC.out.2.1) (H.out.arg HC.out.2.2.1) (H.out.arg HC.out.2.2.2.1) HM.out.1 HM.out.2.1 HM.out.2.2.1 HM.out.2.2.2.1) ?_; rintro e w_ ⟨xD0, xD1, xD2, xD3, xd0, xd1, xd2, xd3, rfl, hO⟩; refine ⟨_, rfl, ?_⟩; replace H := aM (H.out.app hO); clear hO; (try refine nmL ?_)) | ((with_reducible refine nD 8 ?_); refine bxO 8 H.out #[.slice none 0 0, .slice none 0 0, .slice none 0 0, .slice none 0 0] 30 ?_; clear H; intro g8 _ H; (try refine nmL ?_)) | ((with_reducible refine nS 8 ?_); refine stO 0 H.out ?_; clear H; intro _ H; (try refine nmL ?_)) | ((with_reducible refine nD 37 ?_); refine ldO 37 13 H.out hlq ?_; (try refine nmL ?_)) | ((with_reducible refine nD 38 ?_); refine gC 38 Try.func9 (toReq_own (k := k) (a := a) (n := n) (wat := wat) (H.out.arg HC.out.2.2.2.2.1) (H.out.arg HC.out.2.2.2.2.2) HM.out.2.2.2.2.1 HM.out.2.2.2.2.2) ?_; rintro e w_ ⟨xD4, xD5, xd4, xd5, rfl, hO⟩; refine ⟨_, rfl, ?_⟩; replace H := aM (H.out.app hO); clear hO; (try refine nmL ?_)) | ((with_reducible refine nD 9 ?_); refine bxO 9 H.out #[.int .i64 0, .int .i64 0, .int .i64 0, .slice none 0 0, .slice none 0 0, .int .i64 0] 36 ?_; clear H; intro g9 _ H; (try refine nmL ?_)) | ((with_reducible refine nS 9 ?_); refine stO 0 H.out ?_; clear H; intro _ H; (try refine nmL ?_)) | ((with_reducible refine nD 40 ?_); refine ldO 40 3 H.out hu ?_; (try refine nmL ?_)) | ((with_reducible refine nD 41 ?_); refine ldO 41 0 H.out hq ?_; (try refine nmL ?_)) | ((with_reducible refine nD 42 ?_); refine gC 42 Try.func10 (serve_own HS.out (H.out.cb 4) (H.out.lb 4) (H.out.cb 5) (H.out.lb 5) (H.out.ci 6) (H.out.li 6) (H.out.ci 7) (H.out.li 7) (H.out.ci 1) (H.out.li 1) (H.out.cb 2) (H.out.lb 2) HM.out.1 HM.out.2.1 HM.out.2.2.1 HM.out.2.2.2.1 HM.out.2.2.2.2.1 HM.out.2.2.2.2.2) ?_; rintro e w_ ⟨xS0, xS1, xS2, xS3, xS4, xS5, xs0, xs1, xs2, xs3, xs4, xs5, rfl, hO⟩; refine ⟨_, rfl, ?_⟩; replace H := aM (H.out.app hO); clear hO; (try refine nmL ?_)) | ((with_reducible refine nD 10 ?_); refine bxO 10 H.out #[.slice none 0 0, .slice none 0 0, .slice none 0 0, .slice none 0 0] 30 ?_; clear H; intro g10 _ H; (try refine nmL ?_)) | ((with_reducible refine nD 11 ?_); refine bxO 11 H.out #[.int .i64 0, .int .i64 0, .int .i64 0, .int .i64 0, .slice none 0 0, .slice none 0 0] 32 ?_; clear H; intro g11 _ H; (try refine nmL ?_)) | ((with_reducible refine nS 10 ?_); refine stO 1 H.out ?_; clear H; intro _ H; (try refine nmL ?_)) | ((with_reducible refine nS 11 ?_); refine stO 0 H.out ?_; clear H; intro _ H; (try refine nmL ?_)) | ((with_reducible refine nD 45 ?_); refine ldO 45 1 H.out hu ?_; (try refine nmL ?_)) | ((with_reducible refine nD 46 ?_); refine ldO 46 22 H.out hu ?_; (try refine nmL ?_)) | ((with_reducible refine nD 47 ?_); refine gC 47 Try.func11 (eqDevice_own (H.out.cBn 2) (H.out.cBn 16) HR.out.1 (H.out.cBn 3) (H.out.cBn 17) HR.out.2.1 (H.out.cIn 4) (H.out.cIn 18) HR.out.2.2.1 (H.out.cIn 5) (H.out.cIn 19) HR.out.2.2.2.1) ?_; rintro e w_ ⟨rfl, hO⟩; refine ⟨_, rfl, ?_⟩; replace H := aM (H.out.step hO); clear hO; (try refine nmL ?_)) | ((with_reducible refine nD 50 ?_); (try (refine gate_guard (by rfl) ?_; dsimp only)); refine ldO 50 0 H.out hR ?_; (try refine nmL ?_)) | ((with_reducible refine nD 51 ?_); (try (refine gate_guard (by rfl) ?_; dsimp only)); refine ldO 51 23 H.out hR ?_; (try refine nmL ?_)) | ((with_reducible refine nD 52 ?_); (try (refine gate_guard (by rfl) ?_; dsimp only)); refine gC 52 Try.func12 (eqResp_own (H.out.cIn 6) (H.out.cIn 20) HR.out.2.2.2.2.1 (H.out.cBn 7) (H.out.cBn 21) HR.out.2.2.2.2.2) ?_; rintro e w_ ⟨rfl, hO⟩; refine ⟨_, rfl, ?_⟩; replace H := aM (H.out.step hO); clear hO; (try refine nmL ?_)))
    refine rgI [11, 25] 5 H.out ?_
    clear H
    intro w_ H
    have HL_ := aM (H.out.hasI [11, 25])
    refine lO 0 55 0 hu HL_.out ?_
    refine lO 1 56 1 hl HL_.out ?_
    clear HL_
    refine clS 2 57 Try.func8 (toDevice_own (H.out.arg HC.out.1) (H.out.arg HC.out.2.1) (H.out.arg HC.out.2.2.1) (H.out.arg HC.out.2.2.2.1) HM.out.1 HM.out.2.1 HM.out.2.2.1 HM.out.2.2.2.1) ?_
    rintro e w_2 ⟨zA0, zA1, zA2, zA3, zc0, zc1, zc2, zc3, rfl, hO⟩
    refine ⟨_, rfl, (H.out.app hO).hasI [15, 29], nm ?_⟩
    replace H := aM (H.out.app hO)
    clear hO
    refine clS 3 58 Try.func11 (eqDevice_own (H.out.cBn 16) (H.out.cBn 0) HM.out.1 (H.out.cBn 17) (H.out.cBn 1) HM.out.2.1 (H.out.cIn 18) (H.out.cIn 2) HM.out.2.2.1 (H.out.cIn 19) (H.out.cIn 3) HM.out.2.2.2.1) ?_
    rintro e w_3 ⟨rfl, hO⟩
    refine ⟨_, rfl, (H.out.step hO).hasI [15, 29], nm ?_⟩
    have h_ := (H.out.step hO).tail 4
    (try simp only [List.cons_append, List.nil_append, List.set_cons_zero, List.set_cons_succ, List.drop_succ_cons, List.drop_zero] at h_)
    replace H := aM h_
    clear h_ hO
    refine pO 4 59 ?_
    refine done_ (by kernel_rfl) ?_
    go_upto_region 16 with fail
    refine rgI [8, 24] 5 H.out ?_
    clear H
    intro w_ H
    have HL_ := aM (H.out.hasI [8, 24])
    refine lO 0 60 0 hq HL_.out ?_
    refine lO 1 61 1 hlq HL_.out ?_
    clear HL_
    refine clS 2 62 Try.func9 (toReq_own (k := k) (a := a) (n := n) (wat := wat) (H.out.arg HC.out.2.2.2.2.1) (H.out.arg HC.out.2.2.2.2.2) HM.out.2.2.2.2.1 HM.out.2.2.2.2.2) ?_
    rintro e w_2 ⟨zA0, zA1, zc0, zc1, rfl, hO⟩
    refine ⟨_, rfl, (H.out.app hO).hasI [10, 26], nm ?_⟩
    replace H := aM (H.out.app hO)
    clear hO
    refine clS 3 63 Try.func13 (eqReq_own (H.out.cIn 11) (H.out.cIn 0) HM.out.2.2.2.2.1 (H.out.cBn 12) (H.out.cBn 1) HM.out.2.2.2.2.2) ?_
    rintro e w_3 ⟨rfl, hO⟩
    refine ⟨_, rfl, (H.out.step hO).hasI [10, 26], nm ?_⟩
    have h_ := (H.out.step hO).tail 2
    (try simp only [List.cons_append, List.nil_append, List.set_cons_zero, List.set_cons_succ, List.drop_succ_cons, List.drop_zero] at h_)
    replace H := aM h_
    clear h_ hO
    refine pO 4 64 ?_
    refine done_ (by kernel_rfl) ?_
    have dk : decide (1 + (l0.length : Int) + (l1.length : Int) + (l2.length : Int) + (l3.length : Int) + (ws.length : Int) + (bs.length : Int) < 0) = false := decide_eq_false (by omega)
    have dh : decide (1 + (r1.length : Int) + (r2.length : Int) + (r3.length : Int) + (r4.length : Int) < 0) = false := decide_eq_false (by omega)
    have dr : decide (1 + (r1.length : Int) + (r2.length : Int) + (r3.length : Int) + (r4.length : Int) + (r9.length : Int) + (r10.length : Int) < 0) = false := decide_eq_false (by omega)
    go_upto_region 35 with (first | ((with_reducible refine nD 65 ?_); refine ldO 65 11 H.out hu ?_; (try refine nmL ?_)) | ((with_reducible refine nD 67 ?_); refine gC 67 Try.func14 (markDevice_own (k_ := 1) (n0 := l0.length) (n1 := l1.length) (n2 := l2.length) (n3 := l3.length) H.out 12 13 14 15 (by have := HM.out; have := HR.out; omega) (by have := HM.out; have := HR.out; omega)) ?_; rintro e w_ ⟨rfl, hO⟩; refine ⟨_, rfl, ?_⟩; clear H; (try simp only [List.cons_append, List.nil_append, List.set_cons_zero, List.set_cons_succ, List.drop_succ_cons, List.drop_zero] at hO); have H := aM hO; clear hO; (try refine nmL ?_)) | ((with_reducible refine nD 68 ?_); refine ldO 68 8 H.out hq ?_; (try refine nmL ?_)) | ((with_reducible refine nD 70 ?_); refine gC 70 Try.func15 (markReq_own (k_ := 1 + (l0.length : Int) + (l1.length : Int) + (l2.length : Int) + (l3.length : Int)) (n0 := ws.length) (n1 := bs.length) H.out 9 10 (by have := HM.out; have := HR.out; omega) (by have := HM.out; have := HR.out; omega)) ?_; rintro e w_ ⟨rfl, hO⟩; refine ⟨_, rfl, ?_⟩; clear H; (try simp only [List.cons_append, List.nil_append, List.set_cons_zero, List.set_cons_succ, List.drop_succ_cons, List.drop_zero] at hO); have H := aM hO; clear hO; (try refine nmL ?_)) | ((with_reducible refine nD 74 ?_); (try (refine gate_guard (by rfl) ?_; dsimp only)); refine ldO 74 1 H.out hu ?_; (try refine nmL ?_)) | ((with_reducible refine nD 75 ?_); (try (refine gate_guard (by rfl) ?_; dsimp only)); refine ldO 75 22 H.out hu ?_; (try refine nmL ?_)) | ((with_reducible refine nD 76 ?_); (try (refine gate_guard (by rfl) ?_; dsimp only)); refine gC 76 Try.func11 (eqDevice_own (H.out.cBn 2) (H.out.cBn 16) HR.out.1 (H.out.cBn 3) (H.out.cBn 17) HR.out.2.1 (H.out.cIn 4) (H.out.cIn 18) HR.out.2.2.1 (H.out.cIn 5) (H.out.cIn 19) HR.out.2.2.2.1) ?_; rintro e w_ ⟨rfl, hO⟩; refine ⟨_, rfl, ?_⟩; replace H := aM (H.out.step hO); clear hO; (try refine nmL ?_)) | ((with_reducible refine nD 80 ?_); (try (refine gate_guard (by rfl) ?_; dsimp only)); refine ldO 80 0 H.out hR ?_; (try refine nmL ?_)) | ((with_reducible refine nD 81 ?_); (try (refine gate_guard (by rfl) ?_; dsimp only)); refine ldO 81 23 H.out hR ?_; (try refine nmL ?_)) | ((with_reducible refine nD 82 ?_); (try (refine gate_guard (by rfl) ?_; dsimp only)); refine gC 82 Try.func12 (eqResp_own (H.out.cIn 6) (H.out.cIn 20) HR.out.2.2.2.2.1 (H.out.cBn 7) (H.out.cBn 21) HR.out.2.2.2.2.2) ?_; rintro e w_ ⟨rfl, hO⟩; refine ⟨_, rfl, ?_⟩; replace H := aM (H.out.step hO); clear hO; (try refine nmL ?_)) | ((with_reducible refine nD 85 ?_); refine ldO 85 1 H.out hu ?_; (try refine nmL ?_)) | ((with_reducible refine nD 87 ?_); refine gC 87 Try.func14 (markDevice_own (k_ := 1) (n0 := r1.length) (n1 := r2.length) (n2 := r3.length) (n3 := r4.length) H.out 2 3 4 5 (by have := HM.out; have := HR.out; omega) (by have := HM.out; have := HR.out; omega)) ?_; rintro e w_ ⟨rfl, hO⟩; refine ⟨_, rfl, ?_⟩; clear H; (try simp only [List.cons_append, List.nil_append, List.set_cons_zero, List.set_cons_succ, List.drop_succ_cons, List.drop_zero] at hO); have H := aM hO; clear hO; (try refine nmL ?_)) | ((with_reducible refine nD 88 ?_); refine ldO 88 0 H.out hR ?_; (try refine nmL ?_)) | ((with_reducible refine nD 90 ?_); refine gC 90 Try.func16 (markResp_own (k_ := 1 + (r1.length : Int) + (r2.length : Int) + (r3.length : Int) + (r4.length : Int)) (n0 := r9.length) (n1 := r10.length) H.out 6 7 (by have := HM.out; have := HR.out; omega) (by have := HM.out; have := HR.out; omega)) ?_; rintro e w_ ⟨rfl, hO⟩; refine ⟨_, rfl, ?_⟩; clear H; (try simp only [List.cons_append, List.nil_append, List.set_cons_zero, List.set_cons_succ, List.drop_succ_cons, List.drop_zero] at hO); have H := aM hO; clear hO; (try refine nmL ?_)) | ((with_reducible refine nD 91 ?_); refine ldO 91 1 H.out hu ?_; (try refine nmL ?_)) | ((with_reducible refine nD 93 ?_); refine gC 93 Try.func17 (heldDevice_own (k_ := 1) (n0 := r1.length) (n1 := r2.length) (n2 := r3.length) (n3 := r4.length) (H.out.cBn 2) (H.out.cBn 3) (H.out.cIn 4) (H.out.cIn 5) (by have := HM.out; have := HR.out; omega) (by have := HM.out; have := HR.out; omega)) ?_; rintro e w_ ⟨rfl, hO⟩; refine ⟨_, rfl, ?_⟩; replace H := aM (H.out.step hO); clear hO; (try refine nmL ?_)) | ((with_reducible refine nD 96 ?_); refine ldO 96 0 H.out hR ?_; (try refine nmL ?_)) | ((with_reducible refine nD 98 ?_); refine gC 98 Try.func18 (heldResp_own (k_ := 1 + (r1.length : Int) + (r2.length : Int) + (r3.length : Int) + (r4.length : Int)) (n0 := r9.length) (n1 := r10.length) (H.out.cIn 6) (H.out.cBn 7) (by have := HM.out; have := HR.out; omega) (by have := HM.out; have := HR.out; omega)) ?_; rintro e w_ ⟨rfl, hO⟩; refine ⟨_, rfl, ?_⟩; replace H := aM (H.out.step hO); clear hO; (try refine nmL ?_)))
    refine rgI [25, 24] 12 H.out ?_
    clear H
    intro w_ H
    have HL_ := aM (H.out.hasI [25, 24])
    refine lO 0 105 0 hl HL_.out ?_
    refine lO 2 107 1 hlq HL_.out ?_
    clear HL_
    refine genL_ H (fun Lb hLb H => ?_)
    refine gen2_ (fun G a0 hA hG => ?_)
    obtain ⟨f, hf⟩ : ∃ f : Value → Value → Value → Value → Value → Value → Value → Value → Act, f = fun x106 x108 x109 x104 x110 x111 x15 x16 => ((((((((a0.put (some 106) x106).put (some 108) x108).put (some 109) x109).put (some 104) x104).put (some 110) x110).put (some 111) x111).put (some 15) x15).put (some 16) x16) := ⟨_, rfl⟩
    have sbp_01 : ∀ (bD0 bD1 bD2 bD3 : Option Addr) (bd0 bd1 bd2 bd3 : Nat) (bD4 bD5 : Option Addr) (bd4 bd5 : Nat) (bS0 bS1 bS2 bS3 bS4 bS5 : Option Addr) (bs0 bs1 bs2 bs3 bs4 bs5 : Nat) (g15 : Nat) (g16 : Nat) (w1 : World), Aside0 (Own w w1 (rb (.slice bS0 r1.length bs0) r1 :: rb (.slice bS1 r2.length bs1) r2 :: ri (.slice bS2 r3.length bs2) r3 :: ri (.slice bS3 r4.length bs3) r4 :: ri (.slice bS4 r9.length bs4) r9 :: rb (.slice bS5 r10.length bs5) r10 :: ri (.slice bD4 ws.length bd4) ws :: rb (.slice bD5 bs.length bd5) bs :: rb (.slice bD0 l0.length bd0) l0 :: rb (.slice bD1 l1.length bd1) l1 :: ri (.slice bD2 l2.length bd2) l2 :: ri (.slice bD3 l3.length bd3) l3 :: bx g15 #[.slice none 0 0, .slice none 0 0, .slice none 0 0, .slice none 0 0] 30 :: bx g16 #[.int .i64 0, .int .i64 0, .int .i64 0, .int .i64 0, .slice none 0 0, .slice none 0 0] 32 :: Lb)) → G 2 #[true, true, true, true, true, true, true, true, true, true, false, false] (f (.agg #[.slice bD0 l0.length bd0, .slice bD1 l1.length bd1, .slice bD2 l2.length bd2, .slice bD3 l3.length bd3]) (.agg #[.int .i64 k, .int .i64 a, .int .i64 n, .slice bD4 ws.length bd4, .slice bD5 bs.length bd5, .int .i64 wat]) (.tuple #[.agg #[.slice bS0 r1.length bs0, .slice bS1 r2.length bs1, .slice bS2 r3.length bs2, .slice bS3 r4.length bs3], .agg #[.int .i64 r5, .int .i64 r6, .int .i64 r7, .int .i64 r8, .slice bS4 r9.length bs4, .slice bS5 r10.length bs5]]) (.tuple #[.agg #[.slice bS0 r1.length bs0, .slice bS1 r2.length bs1, .slice bS2 r3.length bs2, .slice bS3 r4.length bs3], .agg #[.int .i64 r5, .int .i64 r6, .int .i64 r7, .int .i64 r8, .slice bS4 r9.length bs4, .slice bS5 r10.length bs5]]) (.agg #[.slice bS0 r1.length bs0, .slice bS1 r2.length bs1, .slice bS2 r3.length bs2, .slice bS3 r4.length bs3]) (.agg #[.int .i64 r5, .int .i64 r6, .int .i64 r7, .int .i64 r8, .slice bS4 r9.length bs4, .slice bS5 r10.length bs5]) (.pointer (some ⟨g15, 0, none⟩)) (.pointer (some ⟨g16, 0, none⟩))) w1 := by
      intro bD0 bD1 bD2 bD3 bd0 bd1 bd2 bd3 bD4 bD5 bd4 bd5 bS0 bS1 bS2 bS3 bS4 bS5 bs0 bs1 bs2 bs3 bs4 bs5 g15 g16 w1 H
      subst hf hG hA hLb
      refine nm ?_
      refine stS 10 12 [39, 38] H.out ?_
      clear H
      intro _ H
      refine stS 11 13 [39, 38] H.out ?_
      clear H
      intro _ H
      refine done_ (by kernel_rfl) ?_
      replace H := aM (H.out.keep6 6)
      go_wp2_with (first | ((with_reducible refine nD 112 ?_); refine ldO 112 6 H.out hu ?_; (try refine nmL ?_)) | ((with_reducible refine nD 113 ?_); refine ldO 113 30 H.out hu ?_; (try refine nmL ?_)) | ((with_reducible refine nD 114 ?_); refine gC 114 Try.func11 (eqDevice_own (H.out.cBn 0) (H.out.cBn 24) HR.out.1 (H.out.cBn 1) (H.out.cBn 25) HR.out.2.1 (H.out.cIn 2) (H.out.cIn 26) HR.out.2.2.1 (H.out.cIn 3) (H.out.cIn 27) HR.out.2.2.2.1) ?_; rintro e w_ ⟨rfl, hO⟩; refine ⟨_, rfl, ?_⟩; replace H := aM (H.out.step hO); clear hO; (try refine nmL ?_)) | ((with_reducible refine nD 117 ?_); (try (refine gate_guard (by rfl) ?_; dsimp only)); refine ldO 117 7 H.out hR ?_; (try refine nmL ?_)) | ((with_reducible refine nD 118 ?_); (try (refine gate_guard (by rfl) ?_; dsimp only)); refine ldO 118 31 H.out hR ?_; (try refine nmL ?_)) | ((with_reducible refine nD 119 ?_); (try (refine gate_guard (by rfl) ?_; dsimp only)); refine gC 119 Try.func12 (eqResp_own (H.out.cIn 4) (H.out.cIn 28) HR.out.2.2.2.2.1 (H.out.cBn 5) (H.out.cBn 29) HR.out.2.2.2.2.2) ?_; rintro e w_ ⟨rfl, hO⟩; refine ⟨_, rfl, ?_⟩; replace H := aM (H.out.step hO); clear hO; (try refine nmL ?_)) | ((with_reducible refine nD 122 ?_); refine ldO 122 9 H.out hu ?_; (try refine nmL ?_)) | ((with_reducible refine nD 124 ?_); refine gC 124 Try.func17 (heldDevice_own (k_ := 1) (n0 := r1.length) (n1 := r2.length) (n2 := r3.length) (n3 := r4.length) (H.out.cBn 10) (H.out.cBn 11) (H.out.cIn 12) (H.out.cIn 13) (by have := HM.out; have := HR.out; omega) (by have := HM.out; have := HR.out; omega)) ?_; rintro e w_ ⟨rfl, hO⟩; refine ⟨_, rfl, ?_⟩; replace H := aM (H.out.step hO); clear hO; (try refine nmL ?_)) | ((with_reducible refine nD 127 ?_); refine ldO 127 8 H.out hR ?_; (try refine nmL ?_)) | ((with_reducible refine nD 129 ?_); refine gC 129 Try.func18 (heldResp_own (k_ := 1 + (r1.length : Int) + (r2.length : Int) + (r3.length : Int) + (r4.length : Int)) (n0 := r9.length) (n1 := r10.length) (H.out.cIn 14) (H.out.cBn 15) (by have := HM.out; have := HR.out; omega) (by have := HM.out; have := HR.out; omega)) ?_; rintro e w_ ⟨rfl, hO⟩; refine ⟨_, rfl, ?_⟩; replace H := aM (H.out.step hO); clear hO; (try refine nmL ?_)))
      go_ret
      exact ⟨rfl, H.out.below⟩
    have sbp_0 : ∀ (bD0 bD1 bD2 bD3 : Option Addr) (bd0 bd1 bd2 bd3 : Nat) (bD4 bD5 : Option Addr) (bd4 bd5 : Nat) (bS0 bS1 bS2 bS3 bS4 bS5 : Option Addr) (bs0 bs1 bs2 bs3 bs4 bs5 : Nat) (g15 : Nat) (w1 : World), Aside0 (Own w w1 (rb (.slice bS0 r1.length bs0) r1 :: rb (.slice bS1 r2.length bs1) r2 :: ri (.slice bS2 r3.length bs2) r3 :: ri (.slice bS3 r4.length bs3) r4 :: ri (.slice bS4 r9.length bs4) r9 :: rb (.slice bS5 r10.length bs5) r10 :: ri (.slice bD4 ws.length bd4) ws :: rb (.slice bD5 bs.length bd5) bs :: rb (.slice bD0 l0.length bd0) l0 :: rb (.slice bD1 l1.length bd1) l1 :: ri (.slice bD2 l2.length bd2) l2 :: ri (.slice bD3 l3.length bd3) l3 :: bx g15 #[.slice none 0 0, .slice none 0 0, .slice none 0 0, .slice none 0 0] 30 :: Lb)) → G 3 #[true, true, true, true, true, true, true, true, true, false, false, false] (f (.agg #[.slice bD0 l0.length bd0, .slice bD1 l1.length bd1, .slice bD2 l2.length bd2, .slice bD3 l3.length bd3]) (.agg #[.int .i64 k, .int .i64 a, .int .i64 n, .slice bD4 ws.length bd4, .slice bD5 bs.length bd5, .int .i64 wat]) (.tuple #[.agg #[.slice bS0 r1.length bs0, .slice bS1 r2.length bs1, .slice bS2 r3.length bs2, .slice bS3 r4.length bs3], .agg #[.int .i64 r5, .int .i64 r6, .int .i64 r7, .int .i64 r8, .slice bS4 r9.length bs4, .slice bS5 r10.length bs5]]) (.tuple #[.agg #[.slice bS0 r1.length bs0, .slice bS1 r2.length bs1, .slice bS2 r3.length bs2, .slice bS3 r4.length bs3], .agg #[.int .i64 r5, .int .i64 r6, .int .i64 r7, .int .i64 r8, .slice bS4 r9.length bs4, .slice bS5 r10.length bs5]]) (.agg #[.slice bS0 r1.length bs0, .slice bS1 r2.length bs1, .slice bS2 r3.length bs2, .slice bS3 r4.length bs3]) (.agg #[.int .i64 r5, .int .i64 r6, .int .i64 r7, .int .i64 r8, .slice bS4 r9.length bs4, .slice bS5 r10.length bs5]) (.pointer (some ⟨g15, 0, none⟩)) undef) w1 := by
      intro bD0 bD1 bD2 bD3 bd0 bd1 bd2 bd3 bD4 bD5 bd4 bd5 bS0 bS1 bS2 bS3 bS4 bS5 bs0 bs1 bs2 bs3 bs4 bs5 g15 w1 H
      subst hf hG hA hLb
      refine nm ?_
      refine rdy [9] ?_
      refine AllReadyL.cons rfl (by simp) (fun K hK => alR 16 #[.int .i64 0, .int .i64 0, .int .i64 0, .int .i64 0, .slice none 0 0, .slice none 0 0] 32 H.out (fun g16 w2 H2 => hK.out _ _ (H2.out.hasI [39, 38]) (fun _ => eqA (sbp_01 bD0 bD1 bD2 bD3 bd0 bd1 bd2 bd3 bD4 bD5 bd4 bd5 bS0 bS1 bS2 bS3 bS4 bS5 bs0 bs1 bs2 bs3 bs4 bs5 g15 g16 w2 (aM (H2.out.ins 13)))))) ?_
      exact AllReadyL.nil
    have sbp_1 : ∀ (bD0 bD1 bD2 bD3 : Option Addr) (bd0 bd1 bd2 bd3 : Nat) (bD4 bD5 : Option Addr) (bd4 bd5 : Nat) (bS0 bS1 bS2 bS3 bS4 bS5 : Option Addr) (bs0 bs1 bs2 bs3 bs4 bs5 : Nat) (g16 : Nat) (w1 : World), Aside0 (Own w w1 (rb (.slice bS0 r1.length bs0) r1 :: rb (.slice bS1 r2.length bs1) r2 :: ri (.slice bS2 r3.length bs2) r3 :: ri (.slice bS3 r4.length bs3) r4 :: ri (.slice bS4 r9.length bs4) r9 :: rb (.slice bS5 r10.length bs5) r10 :: ri (.slice bD4 ws.length bd4) ws :: rb (.slice bD5 bs.length bd5) bs :: rb (.slice bD0 l0.length bd0) l0 :: rb (.slice bD1 l1.length bd1) l1 :: ri (.slice bD2 l2.length bd2) l2 :: ri (.slice bD3 l3.length bd3) l3 :: bx g16 #[.int .i64 0, .int .i64 0, .int .i64 0, .int .i64 0, .slice none 0 0, .slice none 0 0] 32 :: Lb)) → G 3 #[true, true, true, true, true, true, true, true, false, true, false, false] (f (.agg #[.slice bD0 l0.length bd0, .slice bD1 l1.length bd1, .slice bD2 l2.length bd2, .slice bD3 l3.length bd3]) (.agg #[.int .i64 k, .int .i64 a, .int .i64 n, .slice bD4 ws.length bd4, .slice bD5 bs.length bd5, .int .i64 wat]) (.tuple #[.agg #[.slice bS0 r1.length bs0, .slice bS1 r2.length bs1, .slice bS2 r3.length bs2, .slice bS3 r4.length bs3], .agg #[.int .i64 r5, .int .i64 r6, .int .i64 r7, .int .i64 r8, .slice bS4 r9.length bs4, .slice bS5 r10.length bs5]]) (.tuple #[.agg #[.slice bS0 r1.length bs0, .slice bS1 r2.length bs1, .slice bS2 r3.length bs2, .slice bS3 r4.length bs3], .agg #[.int .i64 r5, .int .i64 r6, .int .i64 r7, .int .i64 r8, .slice bS4 r9.length bs4, .slice bS5 r10.length bs5]]) (.agg #[.slice bS0 r1.length bs0, .slice bS1 r2.length bs1, .slice bS2 r3.length bs2, .slice bS3 r4.length bs3]) (.agg #[.int .i64 r5, .int .i64 r6, .int .i64 r7, .int .i64 r8, .slice bS4 r9.length bs4, .slice bS5 r10.length bs5]) undef (.pointer (some ⟨g16, 0, none⟩))) w1 := by
      intro bD0 bD1 bD2 bD3 bd0 bd1 bd2 bd3 bD4 bD5 bd4 bd5 bS0 bS1 bS2 bS3 bS4 bS5 bs0 bs1 bs2 bs3 bs4 bs5 g16 w1 H
      subst hf hG hA hLb
      refine nm ?_
      refine rdy [8] ?_
      refine AllReadyL.cons rfl (by simp) (fun K hK => alR 15 #[.slice none 0 0, .slice none 0 0, .slice none 0 0, .slice none 0 0] 30 H.out (fun g15 w2 H2 => hK.out _ _ (H2.out.hasI [39, 38]) (fun _ => eqA (sbp_01 bD0 bD1 bD2 bD3 bd0 bd1 bd2 bd3 bD4 bD5 bd4 bd5 bS0 bS1 bS2 bS3 bS4 bS5 bs0 bs1 bs2 bs3 bs4 bs5 g15 g16 w2 (aM (H2.out.ins 12)))))) ?_
      exact AllReadyL.nil
    have sbp_ : ∀ (bD0 bD1 bD2 bD3 : Option Addr) (bd0 bd1 bd2 bd3 : Nat) (bD4 bD5 : Option Addr) (bd4 bd5 : Nat) (bS0 bS1 bS2 bS3 bS4 bS5 : Option Addr) (bs0 bs1 bs2 bs3 bs4 bs5 : Nat) (w1 : World), Aside0 (Own w w1 (rb (.slice bS0 r1.length bs0) r1 :: rb (.slice bS1 r2.length bs1) r2 :: ri (.slice bS2 r3.length bs2) r3 :: ri (.slice bS3 r4.length bs3) r4 :: ri (.slice bS4 r9.length bs4) r9 :: rb (.slice bS5 r10.length bs5) r10 :: ri (.slice bD4 ws.length bd4) ws :: rb (.slice bD5 bs.length bd5) bs :: rb (.slice bD0 l0.length bd0) l0 :: rb (.slice bD1 l1.length bd1) l1 :: ri (.slice bD2 l2.length bd2) l2 :: ri (.slice bD3 l3.length bd3) l3 :: Lb)) → G 4 #[true, true, true, true, true, true, true, true, false, false, false, false] (f (.agg #[.slice bD0 l0.length bd0, .slice bD1 l1.length bd1, .slice bD2 l2.length bd2, .slice bD3 l3.length bd3]) (.agg #[.int .i64 k, .int .i64 a, .int .i64 n, .slice bD4 ws.length bd4, .slice bD5 bs.length bd5, .int .i64 wat]) (.tuple #[.agg #[.slice bS0 r1.length bs0, .slice bS1 r2.length bs1, .slice bS2 r3.length bs2, .slice bS3 r4.length bs3], .agg #[.int .i64 r5, .int .i64 r6, .int .i64 r7, .int .i64 r8, .slice bS4 r9.length bs4, .slice bS5 r10.length bs5]]) (.tuple #[.agg #[.slice bS0 r1.length bs0, .slice bS1 r2.length bs1, .slice bS2 r3.length bs2, .slice bS3 r4.length bs3], .agg #[.int .i64 r5, .int .i64 r6, .int .i64 r7, .int .i64 r8, .slice bS4 r9.length bs4, .slice bS5 r10.length bs5]]) (.agg #[.slice bS0 r1.length bs0, .slice bS1 r2.length bs1, .slice bS2 r3.length bs2, .slice bS3 r4.length bs3]) (.agg #[.int .i64 r5, .int .i64 r6, .int .i64 r7, .int .i64 r8, .slice bS4 r9.length bs4, .slice bS5 r10.length bs5]) undef undef) w1 := by
      intro bD0 bD1 bD2 bD3 bd0 bd1 bd2 bd3 bD4 bD5 bd4 bd5 bS0 bS1 bS2 bS3 bS4 bS5 bs0 bs1 bs2 bs3 bs4 bs5 w1 H
      subst hf hG hA hLb
      refine nm ?_
      refine rdy [8, 9] ?_
      refine AllReadyL.cons rfl (by simp) (fun K hK => alR 15 #[.slice none 0 0, .slice none 0 0, .slice none 0 0, .slice none 0 0] 30 H.out (fun g15 w2 H2 => hK.out _ _ (H2.out.hasI [38, 37]) (fun _ => eqA (sbp_0 bD0 bD1 bD2 bD3 bd0 bd1 bd2 bd3 bD4 bD5 bd4 bd5 bS0 bS1 bS2 bS3 bS4 bS5 bs0 bs1 bs2 bs3 bs4 bs5 g15 w2 (aM (H2.out.ins 12)))))) ?_
      refine AllReadyL.cons rfl (by simp) (fun K hK => alR 16 #[.int .i64 0, .int .i64 0, .int .i64 0, .int .i64 0, .slice none 0 0, .slice none 0 0] 32 H.out (fun g16 w2 H2 => hK.out _ _ (H2.out.hasI [38, 37]) (fun _ => eqA (sbp_1 bD0 bD1 bD2 bD3 bd0 bd1 bd2 bd3 bD4 bD5 bd4 bd5 bS0 bS1 bS2 bS3 bS4 bS5 bs0 bs1 bs2 bs3 bs4 bs5 g16 w2 (aM (H2.out.ins 12)))))) ?_
      exact AllReadyL.nil
    have sb3_01 : ∀ (bD0 bD1 bD2 bD3 : Option Addr) (bd0 bd1 bd2 bd3 : Nat) (bD4 bD5 : Option Addr) (bd4 bd5 : Nat) (bS0 bS1 bS2 bS3 bS4 bS5 : Option Addr) (bs0 bs1 bs2 bs3 bs4 bs5 : Nat) (g15 : Nat) (g16 : Nat) (w1 : World), Aside0 (Own w w1 (rb (.slice bS0 r1.length bs0) r1 :: rb (.slice bS1 r2.length bs1) r2 :: ri (.slice bS2 r3.length bs2) r3 :: ri (.slice bS3 r4.length bs3) r4 :: ri (.slice bS4 r9.length bs4) r9 :: rb (.slice bS5 r10.length bs5) r10 :: ri (.slice bD4 ws.length bd4) ws :: rb (.slice bD5 bs.length bd5) bs :: rb (.slice bD0 l0.length bd0) l0 :: rb (.slice bD1 l1.length bd1) l1 :: ri (.slice bD2 l2.length bd2) l2 :: ri (.slice bD3 l3.length bd3) l3 :: bx g15 #[.slice none 0 0, .slice none 0 0, .slice none 0 0, .slice none 0 0] 30 :: bx g16 #[.int .i64 0, .int .i64 0, .int .i64 0, .int .i64 0, .slice none 0 0, .slice none 0 0] 32 :: Lb)) → G 5 #[true, true, true, true, true, false, false, false, true, true, false, false] (f (.agg #[.slice bD0 l0.length bd0, .slice bD1 l1.length bd1, .slice bD2 l2.length bd2, .slice bD3 l3.length bd3]) (.agg #[.int .i64 k, .int .i64 a, .int .i64 n, .slice bD4 ws.length bd4, .slice bD5 bs.length bd5, .int .i64 wat]) (.tuple #[.agg #[.slice bS0 r1.length bs0, .slice bS1 r2.length bs1, .slice bS2 r3.length bs2, .slice bS3 r4.length bs3], .agg #[.int .i64 r5, .int .i64 r6, .int .i64 r7, .int .i64 r8, .slice bS4 r9.length bs4, .slice bS5 r10.length bs5]]) undef undef undef (.pointer (some ⟨g15, 0, none⟩)) (.pointer (some ⟨g16, 0, none⟩))) w1 := by
      intro bD0 bD1 bD2 bD3 bd0 bd1 bd2 bd3 bD4 bD5 bd4 bd5 bS0 bS1 bS2 bS3 bS4 bS5 bs0 bs1 bs2 bs3 bs4 bs5 g15 g16 w1 H
      subst hf hG hA hLb
      refine nm ?_
      refine pO 5 104 ?_
      refine pO 6 110 ?_
      refine pO 7 111 ?_
      exact eqA (sbp_01 bD0 bD1 bD2 bD3 bd0 bd1 bd2 bd3 bD4 bD5 bd4 bd5 bS0 bS1 bS2 bS3 bS4 bS5 bs0 bs1 bs2 bs3 bs4 bs5 g15 g16 w1 H)
    have sb3_0 : ∀ (bD0 bD1 bD2 bD3 : Option Addr) (bd0 bd1 bd2 bd3 : Nat) (bD4 bD5 : Option Addr) (bd4 bd5 : Nat) (bS0 bS1 bS2 bS3 bS4 bS5 : Option Addr) (bs0 bs1 bs2 bs3 bs4 bs5 : Nat) (g15 : Nat) (w1 : World), Aside0 (Own w w1 (rb (.slice bS0 r1.length bs0) r1 :: rb (.slice bS1 r2.length bs1) r2 :: ri (.slice bS2 r3.length bs2) r3 :: ri (.slice bS3 r4.length bs3) r4 :: ri (.slice bS4 r9.length bs4) r9 :: rb (.slice bS5 r10.length bs5) r10 :: ri (.slice bD4 ws.length bd4) ws :: rb (.slice bD5 bs.length bd5) bs :: rb (.slice bD0 l0.length bd0) l0 :: rb (.slice bD1 l1.length bd1) l1 :: ri (.slice bD2 l2.length bd2) l2 :: ri (.slice bD3 l3.length bd3) l3 :: bx g15 #[.slice none 0 0, .slice none 0 0, .slice none 0 0, .slice none 0 0] 30 :: Lb)) → G 6 #[true, true, true, true, true, false, false, false, true, false, false, false] (f (.agg #[.slice bD0 l0.length bd0, .slice bD1 l1.length bd1, .slice bD2 l2.length bd2, .slice bD3 l3.length bd3]) (.agg #[.int .i64 k, .int .i64 a, .int .i64 n, .slice bD4 ws.length bd4, .slice bD5 bs.length bd5, .int .i64 wat]) (.tuple #[.agg #[.slice bS0 r1.length bs0, .slice bS1 r2.length bs1, .slice bS2 r3.length bs2, .slice bS3 r4.length bs3], .agg #[.int .i64 r5, .int .i64 r6, .int .i64 r7, .int .i64 r8, .slice bS4 r9.length bs4, .slice bS5 r10.length bs5]]) undef undef undef (.pointer (some ⟨g15, 0, none⟩)) undef) w1 := by
      intro bD0 bD1 bD2 bD3 bd0 bd1 bd2 bd3 bD4 bD5 bd4 bd5 bS0 bS1 bS2 bS3 bS4 bS5 bs0 bs1 bs2 bs3 bs4 bs5 g15 w1 H
      subst hf hG hA hLb
      refine nm ?_
      refine pO 5 104 ?_
      refine pO 6 110 ?_
      refine pO 7 111 ?_
      exact eqA (sbp_0 bD0 bD1 bD2 bD3 bd0 bd1 bd2 bd3 bD4 bD5 bd4 bd5 bS0 bS1 bS2 bS3 bS4 bS5 bs0 bs1 bs2 bs3 bs4 bs5 g15 w1 H)
    have sb3_1 : ∀ (bD0 bD1 bD2 bD3 : Option Addr) (bd0 bd1 bd2 bd3 : Nat) (bD4 bD5 : Option Addr) (bd4 bd5 : Nat) (bS0 bS1 bS2 bS3 bS4 bS5 : Option Addr) (bs0 bs1 bs2 bs3 bs4 bs5 : Nat) (g16 : Nat) (w1 : World), Aside0 (Own w w1 (rb (.slice bS0 r1.length bs0) r1 :: rb (.slice bS1 r2.length bs1) r2 :: ri (.slice bS2 r3.length bs2) r3 :: ri (.slice bS3 r4.length bs3) r4 :: ri (.slice bS4 r9.length bs4) r9 :: rb (.slice bS5 r10.length bs5) r10 :: ri (.slice bD4 ws.length bd4) ws :: rb (.slice bD5 bs.length bd5) bs :: rb (.slice bD0 l0.length bd0) l0 :: rb (.slice bD1 l1.length bd1) l1 :: ri (.slice bD2 l2.length bd2) l2 :: ri (.slice bD3 l3.length bd3) l3 :: bx g16 #[.int .i64 0, .int .i64 0, .int .i64 0, .int .i64 0, .slice none 0 0, .slice none 0 0] 32 :: Lb)) → G 6 #[true, true, true, true, true, false, false, false, false, true, false, false] (f (.agg #[.slice bD0 l0.length bd0, .slice bD1 l1.length bd1, .slice bD2 l2.length bd2, .slice bD3 l3.length bd3]) (.agg #[.int .i64 k, .int .i64 a, .int .i64 n, .slice bD4 ws.length bd4, .slice bD5 bs.length bd5, .int .i64 wat]) (.tuple #[.agg #[.slice bS0 r1.length bs0, .slice bS1 r2.length bs1, .slice bS2 r3.length bs2, .slice bS3 r4.length bs3], .agg #[.int .i64 r5, .int .i64 r6, .int .i64 r7, .int .i64 r8, .slice bS4 r9.length bs4, .slice bS5 r10.length bs5]]) undef undef undef undef (.pointer (some ⟨g16, 0, none⟩))) w1 := by
      intro bD0 bD1 bD2 bD3 bd0 bd1 bd2 bd3 bD4 bD5 bd4 bd5 bS0 bS1 bS2 bS3 bS4 bS5 bs0 bs1 bs2 bs3 bs4 bs5 g16 w1 H
      subst hf hG hA hLb
      refine nm ?_
      refine pO 5 104 ?_
      refine pO 6 110 ?_
      refine pO 7 111 ?_
      exact eqA (sbp_1 bD0 bD1 bD2 bD3 bd0 bd1 bd2 bd3 bD4 bD5 bd4 bd5 bS0 bS1 bS2 bS3 bS4 bS5 bs0 bs1 bs2 bs3 bs4 bs5 g16 w1 H)
    have sb3_ : ∀ (bD0 bD1 bD2 bD3 : Option Addr) (bd0 bd1 bd2 bd3 : Nat) (bD4 bD5 : Option Addr) (bd4 bd5 : Nat) (bS0 bS1 bS2 bS3 bS4 bS5 : Option Addr) (bs0 bs1 bs2 bs3 bs4 bs5 : Nat) (w1 : World), Aside0 (Own w w1 (rb (.slice bS0 r1.length bs0) r1 :: rb (.slice bS1 r2.length bs1) r2 :: ri (.slice bS2 r3.length bs2) r3 :: ri (.slice bS3 r4.length bs3) r4 :: ri (.slice bS4 r9.length bs4) r9 :: rb (.slice bS5 r10.length bs5) r10 :: ri (.slice bD4 ws.length bd4) ws :: rb (.slice bD5 bs.length bd5) bs :: rb (.slice bD0 l0.length bd0) l0 :: rb (.slice bD1 l1.length bd1) l1 :: ri (.slice bD2 l2.length bd2) l2 :: ri (.slice bD3 l3.length bd3) l3 :: Lb)) → G 7 #[true, true, true, true, true, false, false, false, false, false, false, false] (f (.agg #[.slice bD0 l0.length bd0, .slice bD1 l1.length bd1, .slice bD2 l2.length bd2, .slice bD3 l3.length bd3]) (.agg #[.int .i64 k, .int .i64 a, .int .i64 n, .slice bD4 ws.length bd4, .slice bD5 bs.length bd5, .int .i64 wat]) (.tuple #[.agg #[.slice bS0 r1.length bs0, .slice bS1 r2.length bs1, .slice bS2 r3.length bs2, .slice bS3 r4.length bs3], .agg #[.int .i64 r5, .int .i64 r6, .int .i64 r7, .int .i64 r8, .slice bS4 r9.length bs4, .slice bS5 r10.length bs5]]) undef undef undef undef undef) w1 := by
      intro bD0 bD1 bD2 bD3 bd0 bd1 bd2 bd3 bD4 bD5 bd4 bd5 bS0 bS1 bS2 bS3 bS4 bS5 bs0 bs1 bs2 bs3 bs4 bs5 w1 H
      subst hf hG hA hLb
      refine nm ?_
      refine pO 5 104 ?_
      refine pO 6 110 ?_
      refine pO 7 111 ?_
      exact eqA (sbp_ bD0 bD1 bD2 bD3 bd0 bd1 bd2 bd3 bD4 bD5 bd4 bd5 bS0 bS1 bS2 bS3 bS4 bS5 bs0 bs1 bs2 bs3 bs4 bs5 w1 H)
    have sb2_01 : ∀ (bD0 bD1 bD2 bD3 : Option Addr) (bd0 bd1 bd2 bd3 : Nat) (bD4 bD5 : Option Addr) (bd4 bd5 : Nat) (g15 : Nat) (g16 : Nat) (w1 : World), Aside0 (Own w w1 (ri (.slice bD4 ws.length bd4) ws :: rb (.slice bD5 bs.length bd5) bs :: rb (.slice bD0 l0.length bd0) l0 :: rb (.slice bD1 l1.length bd1) l1 :: ri (.slice bD2 l2.length bd2) l2 :: ri (.slice bD3 l3.length bd3) l3 :: bx g15 #[.slice none 0 0, .slice none 0 0, .slice none 0 0, .slice none 0 0] 30 :: bx g16 #[.int .i64 0, .int .i64 0, .int .i64 0, .int .i64 0, .slice none 0 0, .slice none 0 0] 32 :: Lb)) → G 6 #[true, true, true, true, false, false, false, false, true, true, false, false] (f (.agg #[.slice bD0 l0.length bd0, .slice bD1 l1.length bd1, .slice bD2 l2.length bd2, .slice bD3 l3.length bd3]) (.agg #[.int .i64 k, .int .i64 a, .int .i64 n, .slice bD4 ws.length bd4, .slice bD5 bs.length bd5, .int .i64 wat]) undef undef undef undef (.pointer (some ⟨g15, 0, none⟩)) (.pointer (some ⟨g16, 0, none⟩))) w1 := by
      intro bD0 bD1 bD2 bD3 bd0 bd1 bd2 bd3 bD4 bD5 bd4 bd5 g15 g16 w1 H
      subst hf hG hA hLb
      refine nm ?_
      refine rdy [4] ?_
      refine AllReadyL.cons rfl (by simp) (fun K hK => goR (some 109) Try.func10 (serve_own HS.out (H.out.cb 2) (H.out.lb 2) (H.out.cb 3) (H.out.lb 3) (H.out.ci 4) (H.out.li 4) (H.out.ci 5) (H.out.li 5) (H.out.ci 0) (H.out.li 0) (H.out.cb 1) (H.out.lb 1) HM.out.1 HM.out.2.1 HM.out.2.2.1 HM.out.2.2.2.1 HM.out.2.2.2.2.1 HM.out.2.2.2.2.2) (fun e w2 h_ => by obtain ⟨bS0, bS1, bS2, bS3, bS4, bS5, bs0, bs1, bs2, bs3, bs4, bs5, rfl, hO⟩ := h_; exact ⟨_, rfl, hK.out _ _ ((H.out.app hO).hasI [39, 38]) (fun _ => eqA (sb3_01 bD0 bD1 bD2 bD3 bd0 bd1 bd2 bd3 bD4 bD5 bd4 bd5 bS0 bS1 bS2 bS3 bS4 bS5 bs0 bs1 bs2 bs3 bs4 bs5 g15 g16 w2 (aM (H.out.app hO))))⟩)) ?_
      exact AllReadyL.nil
    have sb2_0 : ∀ (bD0 bD1 bD2 bD3 : Option Addr) (bd0 bd1 bd2 bd3 : Nat) (bD4 bD5 : Option Addr) (bd4 bd5 : Nat) (g15 : Nat) (w1 : World), Aside0 (Own w w1 (ri (.slice bD4 ws.length bd4) ws :: rb (.slice bD5 bs.length bd5) bs :: rb (.slice bD0 l0.length bd0) l0 :: rb (.slice bD1 l1.length bd1) l1 :: ri (.slice bD2 l2.length bd2) l2 :: ri (.slice bD3 l3.length bd3) l3 :: bx g15 #[.slice none 0 0, .slice none 0 0, .slice none 0 0, .slice none 0 0] 30 :: Lb)) → G 7 #[true, true, true, true, false, false, false, false, true, false, false, false] (f (.agg #[.slice bD0 l0.length bd0, .slice bD1 l1.length bd1, .slice bD2 l2.length bd2, .slice bD3 l3.length bd3]) (.agg #[.int .i64 k, .int .i64 a, .int .i64 n, .slice bD4 ws.length bd4, .slice bD5 bs.length bd5, .int .i64 wat]) undef undef undef undef (.pointer (some ⟨g15, 0, none⟩)) undef) w1 := by
      intro bD0 bD1 bD2 bD3 bd0 bd1 bd2 bd3 bD4 bD5 bd4 bd5 g15 w1 H
      subst hf hG hA hLb
      refine nm ?_
      refine rdy [4, 9] ?_
      refine AllReadyL.cons rfl (by simp) (fun K hK => goR (some 109) Try.func10 (serve_own HS.out (H.out.cb 2) (H.out.lb 2) (H.out.cb 3) (H.out.lb 3) (H.out.ci 4) (H.out.li 4) (H.out.ci 5) (H.out.li 5) (H.out.ci 0) (H.out.li 0) (H.out.cb 1) (H.out.lb 1) HM.out.1 HM.out.2.1 HM.out.2.2.1 HM.out.2.2.2.1 HM.out.2.2.2.2.1 HM.out.2.2.2.2.2) (fun e w2 h_ => by obtain ⟨bS0, bS1, bS2, bS3, bS4, bS5, bs0, bs1, bs2, bs3, bs4, bs5, rfl, hO⟩ := h_; exact ⟨_, rfl, hK.out _ _ ((H.out.app hO).hasI [38, 37]) (fun _ => eqA (sb3_0 bD0 bD1 bD2 bD3 bd0 bd1 bd2 bd3 bD4 bD5 bd4 bd5 bS0 bS1 bS2 bS3 bS4 bS5 bs0 bs1 bs2 bs3 bs4 bs5 g15 w2 (aM (H.out.app hO))))⟩)) ?_
      refine AllReadyL.cons rfl (by simp) (fun K hK => alR 16 #[.int .i64 0, .int .i64 0, .int .i64 0, .int .i64 0, .slice none 0 0, .slice none 0 0] 32 H.out (fun g16 w2 H2 => hK.out _ _ (H2.out.hasI [33, 32]) (fun _ => eqA (sb2_01 bD0 bD1 bD2 bD3 bd0 bd1 bd2 bd3 bD4 bD5 bd4 bd5 g15 g16 w2 (aM (H2.out.ins 7)))))) ?_
      exact AllReadyL.nil
    have sb2_1 : ∀ (bD0 bD1 bD2 bD3 : Option Addr) (bd0 bd1 bd2 bd3 : Nat) (bD4 bD5 : Option Addr) (bd4 bd5 : Nat) (g16 : Nat) (w1 : World), Aside0 (Own w w1 (ri (.slice bD4 ws.length bd4) ws :: rb (.slice bD5 bs.length bd5) bs :: rb (.slice bD0 l0.length bd0) l0 :: rb (.slice bD1 l1.length bd1) l1 :: ri (.slice bD2 l2.length bd2) l2 :: ri (.slice bD3 l3.length bd3) l3 :: bx g16 #[.int .i64 0, .int .i64 0, .int .i64 0, .int .i64 0, .slice none 0 0, .slice none 0 0] 32 :: Lb)) → G 7 #[true, true, true, true, false, false, false, false, false, true, false, false] (f (.agg #[.slice bD0 l0.length bd0, .slice bD1 l1.length bd1, .slice bD2 l2.length bd2, .slice bD3 l3.length bd3]) (.agg #[.int .i64 k, .int .i64 a, .int .i64 n, .slice bD4 ws.length bd4, .slice bD5 bs.length bd5, .int .i64 wat]) undef undef undef undef undef (.pointer (some ⟨g16, 0, none⟩))) w1 := by
      intro bD0 bD1 bD2 bD3 bd0 bd1 bd2 bd3 bD4 bD5 bd4 bd5 g16 w1 H
      subst hf hG hA hLb
      refine nm ?_
      refine rdy [4, 8] ?_
      refine AllReadyL.cons rfl (by simp) (fun K hK => goR (some 109) Try.func10 (serve_own HS.out (H.out.cb 2) (H.out.lb 2) (H.out.cb 3) (H.out.lb 3) (H.out.ci 4) (H.out.li 4) (H.out.ci 5) (H.out.li 5) (H.out.ci 0) (H.out.li 0) (H.out.cb 1) (H.out.lb 1) HM.out.1 HM.out.2.1 HM.out.2.2.1 HM.out.2.2.2.1 HM.out.2.2.2.2.1 HM.out.2.2.2.2.2) (fun e w2 h_ => by obtain ⟨bS0, bS1, bS2, bS3, bS4, bS5, bs0, bs1, bs2, bs3, bs4, bs5, rfl, hO⟩ := h_; exact ⟨_, rfl, hK.out _ _ ((H.out.app hO).hasI [38, 37]) (fun _ => eqA (sb3_1 bD0 bD1 bD2 bD3 bd0 bd1 bd2 bd3 bD4 bD5 bd4 bd5 bS0 bS1 bS2 bS3 bS4 bS5 bs0 bs1 bs2 bs3 bs4 bs5 g16 w2 (aM (H.out.app hO))))⟩)) ?_
      refine AllReadyL.cons rfl (by simp) (fun K hK => alR 15 #[.slice none 0 0, .slice none 0 0, .slice none 0 0, .slice none 0 0] 30 H.out (fun g15 w2 H2 => hK.out _ _ (H2.out.hasI [33, 32]) (fun _ => eqA (sb2_01 bD0 bD1 bD2 bD3 bd0 bd1 bd2 bd3 bD4 bD5 bd4 bd5 g15 g16 w2 (aM (H2.out.ins 6)))))) ?_
      exact AllReadyL.nil
    have sb2_ : ∀ (bD0 bD1 bD2 bD3 : Option Addr) (bd0 bd1 bd2 bd3 : Nat) (bD4 bD5 : Option Addr) (bd4 bd5 : Nat) (w1 : World), Aside0 (Own w w1 (ri (.slice bD4 ws.length bd4) ws :: rb (.slice bD5 bs.length bd5) bs :: rb (.slice bD0 l0.length bd0) l0 :: rb (.slice bD1 l1.length bd1) l1 :: ri (.slice bD2 l2.length bd2) l2 :: ri (.slice bD3 l3.length bd3) l3 :: Lb)) → G 8 #[true, true, true, true, false, false, false, false, false, false, false, false] (f (.agg #[.slice bD0 l0.length bd0, .slice bD1 l1.length bd1, .slice bD2 l2.length bd2, .slice bD3 l3.length bd3]) (.agg #[.int .i64 k, .int .i64 a, .int .i64 n, .slice bD4 ws.length bd4, .slice bD5 bs.length bd5, .int .i64 wat]) undef undef undef undef undef undef) w1 := by
      intro bD0 bD1 bD2 bD3 bd0 bd1 bd2 bd3 bD4 bD5 bd4 bd5 w1 H
      subst hf hG hA hLb
      refine nm ?_
      refine rdy [4, 8, 9] ?_
      refine AllReadyL.cons rfl (by simp) (fun K hK => goR (some 109) Try.func10 (serve_own HS.out (H.out.cb 2) (H.out.lb 2) (H.out.cb 3) (H.out.lb 3) (H.out.ci 4) (H.out.li 4) (H.out.ci 5) (H.out.li 5) (H.out.ci 0) (H.out.li 0) (H.out.cb 1) (H.out.lb 1) HM.out.1 HM.out.2.1 HM.out.2.2.1 HM.out.2.2.2.1 HM.out.2.2.2.2.1 HM.out.2.2.2.2.2) (fun e w2 h_ => by obtain ⟨bS0, bS1, bS2, bS3, bS4, bS5, bs0, bs1, bs2, bs3, bs4, bs5, rfl, hO⟩ := h_; exact ⟨_, rfl, hK.out _ _ ((H.out.app hO).hasI [37, 36]) (fun _ => eqA (sb3_ bD0 bD1 bD2 bD3 bd0 bd1 bd2 bd3 bD4 bD5 bd4 bd5 bS0 bS1 bS2 bS3 bS4 bS5 bs0 bs1 bs2 bs3 bs4 bs5 w2 (aM (H.out.app hO))))⟩)) ?_
      refine AllReadyL.cons rfl (by simp) (fun K hK => alR 15 #[.slice none 0 0, .slice none 0 0, .slice none 0 0, .slice none 0 0] 30 H.out (fun g15 w2 H2 => hK.out _ _ (H2.out.hasI [32, 31]) (fun _ => eqA (sb2_0 bD0 bD1 bD2 bD3 bd0 bd1 bd2 bd3 bD4 bD5 bd4 bd5 g15 w2 (aM (H2.out.ins 6)))))) ?_
      refine AllReadyL.cons rfl (by simp) (fun K hK => alR 16 #[.int .i64 0, .int .i64 0, .int .i64 0, .int .i64 0, .slice none 0 0, .slice none 0 0] 32 H.out (fun g16 w2 H2 => hK.out _ _ (H2.out.hasI [32, 31]) (fun _ => eqA (sb2_1 bD0 bD1 bD2 bD3 bd0 bd1 bd2 bd3 bD4 bD5 bd4 bd5 g16 w2 (aM (H2.out.ins 6)))))) ?_
      exact AllReadyL.nil
    have sb1_01 : ∀ (bD0 bD1 bD2 bD3 : Option Addr) (bd0 bd1 bd2 bd3 : Nat) (g15 : Nat) (g16 : Nat) (w1 : World), Aside0 (Own w w1 (rb (.slice bD0 l0.length bd0) l0 :: rb (.slice bD1 l1.length bd1) l1 :: ri (.slice bD2 l2.length bd2) l2 :: ri (.slice bD3 l3.length bd3) l3 :: bx g15 #[.slice none 0 0, .slice none 0 0, .slice none 0 0, .slice none 0 0] 30 :: bx g16 #[.int .i64 0, .int .i64 0, .int .i64 0, .int .i64 0, .slice none 0 0, .slice none 0 0] 32 :: Lb)) → G 7 #[true, true, true, false, false, false, false, false, true, true, false, false] (f (.agg #[.slice bD0 l0.length bd0, .slice bD1 l1.length bd1, .slice bD2 l2.length bd2, .slice bD3 l3.length bd3]) undef undef undef undef undef (.pointer (some ⟨g15, 0, none⟩)) (.pointer (some ⟨g16, 0, none⟩))) w1 := by
      intro bD0 bD1 bD2 bD3 bd0 bd1 bd2 bd3 g15 g16 w1 H
      subst hf hG hA hLb
      refine nm ?_
      refine rdy [3] ?_
      refine AllReadyL.cons rfl (by simp) (fun K hK => goR (some 108) Try.func9 (toReq_own (k := k) (a := a) (n := n) (wat := wat) (H.out.arg HC.out.2.2.2.2.1) (H.out.arg HC.out.2.2.2.2.2) HM.out.2.2.2.2.1 HM.out.2.2.2.2.2) (fun e w2 h_ => by obtain ⟨bD4, bD5, bd4, bd5, rfl, hO⟩ := h_; exact ⟨_, rfl, hK.out _ _ ((H.out.app hO).hasI [33, 32]) (fun _ => eqA (sb2_01 bD0 bD1 bD2 bD3 bd0 bd1 bd2 bd3 bD4 bD5 bd4 bd5 g15 g16 w2 (aM (H.out.app hO))))⟩)) ?_
      exact AllReadyL.nil
    have sb1_0 : ∀ (bD0 bD1 bD2 bD3 : Option Addr) (bd0 bd1 bd2 bd3 : Nat) (g15 : Nat) (w1 : World), Aside0 (Own w w1 (rb (.slice bD0 l0.length bd0) l0 :: rb (.slice bD1 l1.length bd1) l1 :: ri (.slice bD2 l2.length bd2) l2 :: ri (.slice bD3 l3.length bd3) l3 :: bx g15 #[.slice none 0 0, .slice none 0 0, .slice none 0 0, .slice none 0 0] 30 :: Lb)) → G 8 #[true, true, true, false, false, false, false, false, true, false, false, false] (f (.agg #[.slice bD0 l0.length bd0, .slice bD1 l1.length bd1, .slice bD2 l2.length bd2, .slice bD3 l3.length bd3]) undef undef undef undef undef (.pointer (some ⟨g15, 0, none⟩)) undef) w1 := by
      intro bD0 bD1 bD2 bD3 bd0 bd1 bd2 bd3 g15 w1 H
      subst hf hG hA hLb
      refine nm ?_
      refine rdy [3, 9] ?_
      refine AllReadyL.cons rfl (by simp) (fun K hK => goR (some 108) Try.func9 (toReq_own (k := k) (a := a) (n := n) (wat := wat) (H.out.arg HC.out.2.2.2.2.1) (H.out.arg HC.out.2.2.2.2.2) HM.out.2.2.2.2.1 HM.out.2.2.2.2.2) (fun e w2 h_ => by obtain ⟨bD4, bD5, bd4, bd5, rfl, hO⟩ := h_; exact ⟨_, rfl, hK.out _ _ ((H.out.app hO).hasI [32, 31]) (fun _ => eqA (sb2_0 bD0 bD1 bD2 bD3 bd0 bd1 bd2 bd3 bD4 bD5 bd4 bd5 g15 w2 (aM (H.out.app hO))))⟩)) ?_
      refine AllReadyL.cons rfl (by simp) (fun K hK => alR 16 #[.int .i64 0, .int .i64 0, .int .i64 0, .int .i64 0, .slice none 0 0, .slice none 0 0] 32 H.out (fun g16 w2 H2 => hK.out _ _ (H2.out.hasI [31, 30]) (fun _ => eqA (sb1_01 bD0 bD1 bD2 bD3 bd0 bd1 bd2 bd3 g15 g16 w2 (aM (H2.out.ins 5)))))) ?_
      exact AllReadyL.nil
    have sb1_1 : ∀ (bD0 bD1 bD2 bD3 : Option Addr) (bd0 bd1 bd2 bd3 : Nat) (g16 : Nat) (w1 : World), Aside0 (Own w w1 (rb (.slice bD0 l0.length bd0) l0 :: rb (.slice bD1 l1.length bd1) l1 :: ri (.slice bD2 l2.length bd2) l2 :: ri (.slice bD3 l3.length bd3) l3 :: bx g16 #[.int .i64 0, .int .i64 0, .int .i64 0, .int .i64 0, .slice none 0 0, .slice none 0 0] 32 :: Lb)) → G 8 #[true, true, true, false, false, false, false, false, false, true, false, false] (f (.agg #[.slice bD0 l0.length bd0, .slice bD1 l1.length bd1, .slice bD2 l2.length bd2, .slice bD3 l3.length bd3]) undef undef undef undef undef undef (.pointer (some ⟨g16, 0, none⟩))) w1 := by
      intro bD0 bD1 bD2 bD3 bd0 bd1 bd2 bd3 g16 w1 H
      subst hf hG hA hLb
      refine nm ?_
      refine rdy [3, 8] ?_
      refine AllReadyL.cons rfl (by simp) (fun K hK => goR (some 108) Try.func9 (toReq_own (k := k) (a := a) (n := n) (wat := wat) (H.out.arg HC.out.2.2.2.2.1) (H.out.arg HC.out.2.2.2.2.2) HM.out.2.2.2.2.1 HM.out.2.2.2.2.2) (fun e w2 h_ => by obtain ⟨bD4, bD5, bd4, bd5, rfl, hO⟩ := h_; exact ⟨_, rfl, hK.out _ _ ((H.out.app hO).hasI [32, 31]) (fun _ => eqA (sb2_1 bD0 bD1 bD2 bD3 bd0 bd1 bd2 bd3 bD4 bD5 bd4 bd5 g16 w2 (aM (H.out.app hO))))⟩)) ?_
      refine AllReadyL.cons rfl (by simp) (fun K hK => alR 15 #[.slice none 0 0, .slice none 0 0, .slice none 0 0, .slice none 0 0] 30 H.out (fun g15 w2 H2 => hK.out _ _ (H2.out.hasI [31, 30]) (fun _ => eqA (sb1_01 bD0 bD1 bD2 bD3 bd0 bd1 bd2 bd3 g15 g16 w2 (aM (H2.out.ins 4)))))) ?_
      exact AllReadyL.nil
    have sb1_ : ∀ (bD0 bD1 bD2 bD3 : Option Addr) (bd0 bd1 bd2 bd3 : Nat) (w1 : World), Aside0 (Own w w1 (rb (.slice bD0 l0.length bd0) l0 :: rb (.slice bD1 l1.length bd1) l1 :: ri (.slice bD2 l2.length bd2) l2 :: ri (.slice bD3 l3.length bd3) l3 :: Lb)) → G 9 #[true, true, true, false, false, false, false, false, false, false, false, false] (f (.agg #[.slice bD0 l0.length bd0, .slice bD1 l1.length bd1, .slice bD2 l2.length bd2, .slice bD3 l3.length bd3]) undef undef undef undef undef undef undef) w1 := by
      intro bD0 bD1 bD2 bD3 bd0 bd1 bd2 bd3 w1 H
      subst hf hG hA hLb
      refine nm ?_
      refine rdy [3, 8, 9] ?_
      refine AllReadyL.cons rfl (by simp) (fun K hK => goR (some 108) Try.func9 (toReq_own (k := k) (a := a) (n := n) (wat := wat) (H.out.arg HC.out.2.2.2.2.1) (H.out.arg HC.out.2.2.2.2.2) HM.out.2.2.2.2.1 HM.out.2.2.2.2.2) (fun e w2 h_ => by obtain ⟨bD4, bD5, bd4, bd5, rfl, hO⟩ := h_; exact ⟨_, rfl, hK.out _ _ ((H.out.app hO).hasI [31, 30]) (fun _ => eqA (sb2_ bD0 bD1 bD2 bD3 bd0 bd1 bd2 bd3 bD4 bD5 bd4 bd5 w2 (aM (H.out.app hO))))⟩)) ?_
      refine AllReadyL.cons rfl (by simp) (fun K hK => alR 15 #[.slice none 0 0, .slice none 0 0, .slice none 0 0, .slice none 0 0] 30 H.out (fun g15 w2 H2 => hK.out _ _ (H2.out.hasI [30, 29]) (fun _ => eqA (sb1_0 bD0 bD1 bD2 bD3 bd0 bd1 bd2 bd3 g15 w2 (aM (H2.out.ins 4)))))) ?_
      refine AllReadyL.cons rfl (by simp) (fun K hK => alR 16 #[.int .i64 0, .int .i64 0, .int .i64 0, .int .i64 0, .slice none 0 0, .slice none 0 0] 32 H.out (fun g16 w2 H2 => hK.out _ _ (H2.out.hasI [30, 29]) (fun _ => eqA (sb1_1 bD0 bD1 bD2 bD3 bd0 bd1 bd2 bd3 g16 w2 (aM (H2.out.ins 4)))))) ?_
      exact AllReadyL.nil
    have sb0_01 : ∀ (g15 : Nat) (g16 : Nat) (w1 : World), Aside0 (Own w w1 (bx g15 #[.slice none 0 0, .slice none 0 0, .slice none 0 0, .slice none 0 0] 30 :: bx g16 #[.int .i64 0, .int .i64 0, .int .i64 0, .int .i64 0, .slice none 0 0, .slice none 0 0] 32 :: Lb)) → G 8 #[true, false, true, false, false, false, false, false, true, true, false, false] (f undef undef undef undef undef undef (.pointer (some ⟨g15, 0, none⟩)) (.pointer (some ⟨g16, 0, none⟩))) w1 := by
      intro g15 g16 w1 H
      subst hf hG hA hLb
      refine nm ?_
      refine rdy [1] ?_
      refine AllReadyL.cons rfl (by simp) (fun K hK => goR (some 106) Try.func8 (toDevice_own (H.out.arg HC.out.1) (H.out.arg HC.out.2.1) (H.out.arg HC.out.2.2.1) (H.out.arg HC.out.2.2.2.1) HM.out.1 HM.out.2.1 HM.out.2.2.1 HM.out.2.2.2.1) (fun e w2 h_ => by obtain ⟨bD0, bD1, bD2, bD3, bd0, bd1, bd2, bd3, rfl, hO⟩ := h_; exact ⟨_, rfl, hK.out _ _ ((H.out.app hO).hasI [31, 30]) (fun _ => eqA (sb1_01 bD0 bD1 bD2 bD3 bd0 bd1 bd2 bd3 g15 g16 w2 (aM (H.out.app hO))))⟩)) ?_
      exact AllReadyL.nil
    have sb0_0 : ∀ (g15 : Nat) (w1 : World), Aside0 (Own w w1 (bx g15 #[.slice none 0 0, .slice none 0 0, .slice none 0 0, .slice none 0 0] 30 :: Lb)) → G 9 #[true, false, true, false, false, false, false, false, true, false, false, false] (f undef undef undef undef undef undef (.pointer (some ⟨g15, 0, none⟩)) undef) w1 := by
      intro g15 w1 H
      subst hf hG hA hLb
      refine nm ?_
      refine rdy [1, 9] ?_
      refine AllReadyL.cons rfl (by simp) (fun K hK => goR (some 106) Try.func8 (toDevice_own (H.out.arg HC.out.1) (H.out.arg HC.out.2.1) (H.out.arg HC.out.2.2.1) (H.out.arg HC.out.2.2.2.1) HM.out.1 HM.out.2.1 HM.out.2.2.1 HM.out.2.2.2.1) (fun e w2 h_ => by obtain ⟨bD0, bD1, bD2, bD3, bd0, bd1, bd2, bd3, rfl, hO⟩ := h_; exact ⟨_, rfl, hK.out _ _ ((H.out.app hO).hasI [30, 29]) (fun _ => eqA (sb1_0 bD0 bD1 bD2 bD3 bd0 bd1 bd2 bd3 g15 w2 (aM (H.out.app hO))))⟩)) ?_
      refine AllReadyL.cons rfl (by simp) (fun K hK => alR 16 #[.int .i64 0, .int .i64 0, .int .i64 0, .int .i64 0, .slice none 0 0, .slice none 0 0] 32 H.out (fun g16 w2 H2 => hK.out _ _ (H2.out.hasI [27, 26]) (fun _ => eqA (sb0_01 g15 g16 w2 (aM (H2.out.ins 1)))))) ?_
      exact AllReadyL.nil
    have sb0_1 : ∀ (g16 : Nat) (w1 : World), Aside0 (Own w w1 (bx g16 #[.int .i64 0, .int .i64 0, .int .i64 0, .int .i64 0, .slice none 0 0, .slice none 0 0] 32 :: Lb)) → G 9 #[true, false, true, false, false, false, false, false, false, true, false, false] (f undef undef undef undef undef undef undef (.pointer (some ⟨g16, 0, none⟩))) w1 := by
      intro g16 w1 H
      subst hf hG hA hLb
      refine nm ?_
      refine rdy [1, 8] ?_
      refine AllReadyL.cons rfl (by simp) (fun K hK => goR (some 106) Try.func8 (toDevice_own (H.out.arg HC.out.1) (H.out.arg HC.out.2.1) (H.out.arg HC.out.2.2.1) (H.out.arg HC.out.2.2.2.1) HM.out.1 HM.out.2.1 HM.out.2.2.1 HM.out.2.2.2.1) (fun e w2 h_ => by obtain ⟨bD0, bD1, bD2, bD3, bd0, bd1, bd2, bd3, rfl, hO⟩ := h_; exact ⟨_, rfl, hK.out _ _ ((H.out.app hO).hasI [30, 29]) (fun _ => eqA (sb1_1 bD0 bD1 bD2 bD3 bd0 bd1 bd2 bd3 g16 w2 (aM (H.out.app hO))))⟩)) ?_
      refine AllReadyL.cons rfl (by simp) (fun K hK => alR 15 #[.slice none 0 0, .slice none 0 0, .slice none 0 0, .slice none 0 0] 30 H.out (fun g15 w2 H2 => hK.out _ _ (H2.out.hasI [27, 26]) (fun _ => eqA (sb0_01 g15 g16 w2 (aM (H2.out.ins 0)))))) ?_
      exact AllReadyL.nil
    have sb0_ : ∀ (w1 : World), Aside0 (Own w w1 (Lb)) → G 10 #[true, false, true, false, false, false, false, false, false, false, false, false] (f undef undef undef undef undef undef undef undef) w1 := by
      intro  w1 H
      subst hf hG hA hLb
      refine nm ?_
      refine rdy [1, 8, 9] ?_
      refine AllReadyL.cons rfl (by simp) (fun K hK => goR (some 106) Try.func8 (toDevice_own (H.out.arg HC.out.1) (H.out.arg HC.out.2.1) (H.out.arg HC.out.2.2.1) (H.out.arg HC.out.2.2.2.1) HM.out.1 HM.out.2.1 HM.out.2.2.1 HM.out.2.2.2.1) (fun e w2 h_ => by obtain ⟨bD0, bD1, bD2, bD3, bd0, bd1, bd2, bd3, rfl, hO⟩ := h_; exact ⟨_, rfl, hK.out _ _ ((H.out.app hO).hasI [29, 28]) (fun _ => eqA (sb1_ bD0 bD1 bD2 bD3 bd0 bd1 bd2 bd3 w2 (aM (H.out.app hO))))⟩)) ?_
      refine AllReadyL.cons rfl (by simp) (fun K hK => alR 15 #[.slice none 0 0, .slice none 0 0, .slice none 0 0, .slice none 0 0] 30 H.out (fun g15 w2 H2 => hK.out _ _ (H2.out.hasI [26, 25]) (fun _ => eqA (sb0_0 g15 w2 (aM (H2.out.ins 0)))))) ?_
      refine AllReadyL.cons rfl (by simp) (fun K hK => alR 16 #[.int .i64 0, .int .i64 0, .int .i64 0, .int .i64 0, .slice none 0 0, .slice none 0 0] 32 H.out (fun g16 w2 H2 => hK.out _ _ (H2.out.hasI [26, 25]) (fun _ => eqA (sb0_1 g16 w2 (aM (H2.out.ins 0)))))) ?_
      exact AllReadyL.nil
    subst hf hG hA
    exact eqA (sb0_ w_ H)
  have sap_0 : ∀ (aD0 aD1 aD2 aD3 : Option Addr) (ad0 ad1 ad2 ad3 : Nat) (aD4 aD5 : Option Addr) (ad4 ad5 : Nat) (aS0 aS1 aS2 aS3 aS4 aS5 : Option Addr) (as0 as1 as2 as3 as4 as5 : Nat) (g6 : Nat) (w1 : World), Aside0 (Own w w1 (rb (.slice aS0 r1.length as0) r1 :: rb (.slice aS1 r2.length as1) r2 :: ri (.slice aS2 r3.length as2) r3 :: ri (.slice aS3 r4.length as3) r4 :: ri (.slice aS4 r9.length as4) r9 :: rb (.slice aS5 r10.length as5) r10 :: ri (.slice aD4 ws.length ad4) ws :: rb (.slice aD5 bs.length ad5) bs :: rb (.slice aD0 l0.length ad0) l0 :: rb (.slice aD1 l1.length ad1) l1 :: ri (.slice aD2 l2.length ad2) l2 :: ri (.slice aD3 l3.length ad3) l3 :: bx g6 #[.slice none 0 0, .slice none 0 0, .slice none 0 0, .slice none 0 0] 30 :: Lb)) → G 3 #[true, true, true, true, true, true, true, true, true, false, false, false] (f (.agg #[.slice aD0 l0.length ad0, .slice aD1 l1.length ad1, .slice aD2 l2.length ad2, .slice aD3 l3.length ad3]) (.agg #[.int .i64 k, .int .i64 a, .int .i64 n, .slice aD4 ws.length ad4, .slice aD5 bs.length ad5, .int .i64 wat]) (.tuple #[.agg #[.slice aS0 r1.length as0, .slice aS1 r2.length as1, .slice aS2 r3.length as2, .slice aS3 r4.length as3], .agg #[.int .i64 r5, .int .i64 r6, .int .i64 r7, .int .i64 r8, .slice aS4 r9.length as4, .slice aS5 r10.length as5]]) (.tuple #[.agg #[.slice aS0 r1.length as0, .slice aS1 r2.length as1, .slice aS2 r3.length as2, .slice aS3 r4.length as3], .agg #[.int .i64 r5, .int .i64 r6, .int .i64 r7, .int .i64 r8, .slice aS4 r9.length as4, .slice aS5 r10.length as5]]) (.agg #[.slice aS0 r1.length as0, .slice aS1 r2.length as1, .slice aS2 r3.length as2, .slice aS3 r4.length as3]) (.agg #[.int .i64 r5, .int .i64 r6, .int .i64 r7, .int .i64 r8, .slice aS4 r9.length as4, .slice aS5 r10.length as5]) (.pointer (some ⟨g6, 0, none⟩)) undef) w1 := by
    intro aD0 aD1 aD2 aD3 ad0 ad1 ad2 ad3 aD4 aD5 ad4 ad5 aS0 aS1 aS2 aS3 aS4 aS5 as0 as1 as2 as3 as4 as5 g6 w1 H
    subst hf hG hA hLb
    refine nm ?_
    refine rdy [9] ?_
    refine AllReadyL.cons rfl (by simp) (fun K hK => alR 7 #[.int .i64 0, .int .i64 0, .int .i64 0, .int .i64 0, .slice none 0 0, .slice none 0 0] 32 H.out (fun g7 w2 H2 => hK.out _ _ (H2.out.hasI [15, 14]) (fun _ => eqA (sap_01 aD0 aD1 aD2 aD3 ad0 ad1 ad2 ad3 aD4 aD5 ad4 ad5 aS0 aS1 aS2 aS3 aS4 aS5 as0 as1 as2 as3 as4 as5 g6 g7 w2 (aM (H2.out.ins 13)))))) ?_
    exact AllReadyL.nil
  have sap_1 : ∀ (aD0 aD1 aD2 aD3 : Option Addr) (ad0 ad1 ad2 ad3 : Nat) (aD4 aD5 : Option Addr) (ad4 ad5 : Nat) (aS0 aS1 aS2 aS3 aS4 aS5 : Option Addr) (as0 as1 as2 as3 as4 as5 : Nat) (g7 : Nat) (w1 : World), Aside0 (Own w w1 (rb (.slice aS0 r1.length as0) r1 :: rb (.slice aS1 r2.length as1) r2 :: ri (.slice aS2 r3.length as2) r3 :: ri (.slice aS3 r4.length as3) r4 :: ri (.slice aS4 r9.length as4) r9 :: rb (.slice aS5 r10.length as5) r10 :: ri (.slice aD4 ws.length ad4) ws :: rb (.slice aD5 bs.length ad5) bs :: rb (.slice aD0 l0.length ad0) l0 :: rb (.slice aD1 l1.length ad1) l1 :: ri (.slice aD2 l2.length ad2) l2 :: ri (.slice aD3 l3.length ad3) l3 :: bx g7 #[.int .i64 0, .int .i64 0, .int .i64 0, .int .i64 0, .slice none 0 0, .slice none 0 0] 32 :: Lb)) → G 3 #[true, true, true, true, true, true, true, true, false, true, false, false] (f (.agg #[.slice aD0 l0.length ad0, .slice aD1 l1.length ad1, .slice aD2 l2.length ad2, .slice aD3 l3.length ad3]) (.agg #[.int .i64 k, .int .i64 a, .int .i64 n, .slice aD4 ws.length ad4, .slice aD5 bs.length ad5, .int .i64 wat]) (.tuple #[.agg #[.slice aS0 r1.length as0, .slice aS1 r2.length as1, .slice aS2 r3.length as2, .slice aS3 r4.length as3], .agg #[.int .i64 r5, .int .i64 r6, .int .i64 r7, .int .i64 r8, .slice aS4 r9.length as4, .slice aS5 r10.length as5]]) (.tuple #[.agg #[.slice aS0 r1.length as0, .slice aS1 r2.length as1, .slice aS2 r3.length as2, .slice aS3 r4.length as3], .agg #[.int .i64 r5, .int .i64 r6, .int .i64 r7, .int .i64 r8, .slice aS4 r9.length as4, .slice aS5 r10.length as5]]) (.agg #[.slice aS0 r1.length as0, .slice aS1 r2.length as1, .slice aS2 r3.length as2, .slice aS3 r4.length as3]) (.agg #[.int .i64 r5, .int .i64 r6, .int .i64 r7, .int .i64 r8, .slice aS4 r9.length as4, .slice aS5 r10.length as5]) undef (.pointer (some ⟨g7, 0, none⟩))) w1 := by
    intro aD0 aD1 aD2 aD3 ad0 ad1 ad2 ad3 aD4 aD5 ad4 ad5 aS0 aS1 aS2 aS3 aS4 aS5 as0 as1 as2 as3 as4 as5 g7 w1 H
    subst hf hG hA hLb
    refine nm ?_
    refine rdy [8] ?_
    refine AllReadyL.cons rfl (by simp) (fun K hK => alR 6 #[.slice none 0 0, .slice none 0 0, .slice none 0 0, .slice none 0 0] 30 H.out (fun g6 w2 H2 => hK.out _ _ (H2.out.hasI [15, 14]) (fun _ => eqA (sap_01 aD0 aD1 aD2 aD3 ad0 ad1 ad2 ad3 aD4 aD5 ad4 ad5 aS0 aS1 aS2 aS3 aS4 aS5 as0 as1 as2 as3 as4 as5 g6 g7 w2 (aM (H2.out.ins 12)))))) ?_
    exact AllReadyL.nil
  have sap_ : ∀ (aD0 aD1 aD2 aD3 : Option Addr) (ad0 ad1 ad2 ad3 : Nat) (aD4 aD5 : Option Addr) (ad4 ad5 : Nat) (aS0 aS1 aS2 aS3 aS4 aS5 : Option Addr) (as0 as1 as2 as3 as4 as5 : Nat) (w1 : World), Aside0 (Own w w1 (rb (.slice aS0 r1.length as0) r1 :: rb (.slice aS1 r2.length as1) r2 :: ri (.slice aS2 r3.length as2) r3 :: ri (.slice aS3 r4.length as3) r4 :: ri (.slice aS4 r9.length as4) r9 :: rb (.slice aS5 r10.length as5) r10 :: ri (.slice aD4 ws.length ad4) ws :: rb (.slice aD5 bs.length ad5) bs :: rb (.slice aD0 l0.length ad0) l0 :: rb (.slice aD1 l1.length ad1) l1 :: ri (.slice aD2 l2.length ad2) l2 :: ri (.slice aD3 l3.length ad3) l3 :: Lb)) → G 4 #[true, true, true, true, true, true, true, true, false, false, false, false] (f (.agg #[.slice aD0 l0.length ad0, .slice aD1 l1.length ad1, .slice aD2 l2.length ad2, .slice aD3 l3.length ad3]) (.agg #[.int .i64 k, .int .i64 a, .int .i64 n, .slice aD4 ws.length ad4, .slice aD5 bs.length ad5, .int .i64 wat]) (.tuple #[.agg #[.slice aS0 r1.length as0, .slice aS1 r2.length as1, .slice aS2 r3.length as2, .slice aS3 r4.length as3], .agg #[.int .i64 r5, .int .i64 r6, .int .i64 r7, .int .i64 r8, .slice aS4 r9.length as4, .slice aS5 r10.length as5]]) (.tuple #[.agg #[.slice aS0 r1.length as0, .slice aS1 r2.length as1, .slice aS2 r3.length as2, .slice aS3 r4.length as3], .agg #[.int .i64 r5, .int .i64 r6, .int .i64 r7, .int .i64 r8, .slice aS4 r9.length as4, .slice aS5 r10.length as5]]) (.agg #[.slice aS0 r1.length as0, .slice aS1 r2.length as1, .slice aS2 r3.length as2, .slice aS3 r4.length as3]) (.agg #[.int .i64 r5, .int .i64 r6, .int .i64 r7, .int .i64 r8, .slice aS4 r9.length as4, .slice aS5 r10.length as5]) undef undef) w1 := by
    intro aD0 aD1 aD2 aD3 ad0 ad1 ad2 ad3 aD4 aD5 ad4 ad5 aS0 aS1 aS2 aS3 aS4 aS5 as0 as1 as2 as3 as4 as5 w1 H
    subst hf hG hA hLb
    refine nm ?_
    refine rdy [8, 9] ?_
    refine AllReadyL.cons rfl (by simp) (fun K hK => alR 6 #[.slice none 0 0, .slice none 0 0, .slice none 0 0, .slice none 0 0] 30 H.out (fun g6 w2 H2 => hK.out _ _ (H2.out.hasI [14, 13]) (fun _ => eqA (sap_0 aD0 aD1 aD2 aD3 ad0 ad1 ad2 ad3 aD4 aD5 ad4 ad5 aS0 aS1 aS2 aS3 aS4 aS5 as0 as1 as2 as3 as4 as5 g6 w2 (aM (H2.out.ins 12)))))) ?_
    refine AllReadyL.cons rfl (by simp) (fun K hK => alR 7 #[.int .i64 0, .int .i64 0, .int .i64 0, .int .i64 0, .slice none 0 0, .slice none 0 0] 32 H.out (fun g7 w2 H2 => hK.out _ _ (H2.out.hasI [14, 13]) (fun _ => eqA (sap_1 aD0 aD1 aD2 aD3 ad0 ad1 ad2 ad3 aD4 aD5 ad4 ad5 aS0 aS1 aS2 aS3 aS4 aS5 as0 as1 as2 as3 as4 as5 g7 w2 (aM (H2.out.ins 12)))))) ?_
    exact AllReadyL.nil
  have sa3_01 : ∀ (aD0 aD1 aD2 aD3 : Option Addr) (ad0 ad1 ad2 ad3 : Nat) (aD4 aD5 : Option Addr) (ad4 ad5 : Nat) (aS0 aS1 aS2 aS3 aS4 aS5 : Option Addr) (as0 as1 as2 as3 as4 as5 : Nat) (g6 : Nat) (g7 : Nat) (w1 : World), Aside0 (Own w w1 (rb (.slice aS0 r1.length as0) r1 :: rb (.slice aS1 r2.length as1) r2 :: ri (.slice aS2 r3.length as2) r3 :: ri (.slice aS3 r4.length as3) r4 :: ri (.slice aS4 r9.length as4) r9 :: rb (.slice aS5 r10.length as5) r10 :: ri (.slice aD4 ws.length ad4) ws :: rb (.slice aD5 bs.length ad5) bs :: rb (.slice aD0 l0.length ad0) l0 :: rb (.slice aD1 l1.length ad1) l1 :: ri (.slice aD2 l2.length ad2) l2 :: ri (.slice aD3 l3.length ad3) l3 :: bx g6 #[.slice none 0 0, .slice none 0 0, .slice none 0 0, .slice none 0 0] 30 :: bx g7 #[.int .i64 0, .int .i64 0, .int .i64 0, .int .i64 0, .slice none 0 0, .slice none 0 0] 32 :: Lb)) → G 5 #[true, true, true, true, true, false, false, false, true, true, false, false] (f (.agg #[.slice aD0 l0.length ad0, .slice aD1 l1.length ad1, .slice aD2 l2.length ad2, .slice aD3 l3.length ad3]) (.agg #[.int .i64 k, .int .i64 a, .int .i64 n, .slice aD4 ws.length ad4, .slice aD5 bs.length ad5, .int .i64 wat]) (.tuple #[.agg #[.slice aS0 r1.length as0, .slice aS1 r2.length as1, .slice aS2 r3.length as2, .slice aS3 r4.length as3], .agg #[.int .i64 r5, .int .i64 r6, .int .i64 r7, .int .i64 r8, .slice aS4 r9.length as4, .slice aS5 r10.length as5]]) undef undef undef (.pointer (some ⟨g6, 0, none⟩)) (.pointer (some ⟨g7, 0, none⟩))) w1 := by
    intro aD0 aD1 aD2 aD3 ad0 ad1 ad2 ad3 aD4 aD5 ad4 ad5 aS0 aS1 aS2 aS3 aS4 aS5 as0 as1 as2 as3 as4 as5 g6 g7 w1 H
    subst hf hG hA hLb
    refine nm ?_
    refine pO 5 27 ?_
    refine pO 6 33 ?_
    refine pO 7 34 ?_
    exact eqA (sap_01 aD0 aD1 aD2 aD3 ad0 ad1 ad2 ad3 aD4 aD5 ad4 ad5 aS0 aS1 aS2 aS3 aS4 aS5 as0 as1 as2 as3 as4 as5 g6 g7 w1 H)
  have sa3_0 : ∀ (aD0 aD1 aD2 aD3 : Option Addr) (ad0 ad1 ad2 ad3 : Nat) (aD4 aD5 : Option Addr) (ad4 ad5 : Nat) (aS0 aS1 aS2 aS3 aS4 aS5 : Option Addr) (as0 as1 as2 as3 as4 as5 : Nat) (g6 : Nat) (w1 : World), Aside0 (Own w w1 (rb (.slice aS0 r1.length as0) r1 :: rb (.slice aS1 r2.length as1) r2 :: ri (.slice aS2 r3.length as2) r3 :: ri (.slice aS3 r4.length as3) r4 :: ri (.slice aS4 r9.length as4) r9 :: rb (.slice aS5 r10.length as5) r10 :: ri (.slice aD4 ws.length ad4) ws :: rb (.slice aD5 bs.length ad5) bs :: rb (.slice aD0 l0.length ad0) l0 :: rb (.slice aD1 l1.length ad1) l1 :: ri (.slice aD2 l2.length ad2) l2 :: ri (.slice aD3 l3.length ad3) l3 :: bx g6 #[.slice none 0 0, .slice none 0 0, .slice none 0 0, .slice none 0 0] 30 :: Lb)) → G 6 #[true, true, true, true, true, false, false, false, true, false, false, false] (f (.agg #[.slice aD0 l0.length ad0, .slice aD1 l1.length ad1, .slice aD2 l2.length ad2, .slice aD3 l3.length ad3]) (.agg #[.int .i64 k, .int .i64 a, .int .i64 n, .slice aD4 ws.length ad4, .slice aD5 bs.length ad5, .int .i64 wat]) (.tuple #[.agg #[.slice aS0 r1.length as0, .slice aS1 r2.length as1, .slice aS2 r3.length as2, .slice aS3 r4.length as3], .agg #[.int .i64 r5, .int .i64 r6, .int .i64 r7, .int .i64 r8, .slice aS4 r9.length as4, .slice aS5 r10.length as5]]) undef undef undef (.pointer (some ⟨g6, 0, none⟩)) undef) w1 := by
    intro aD0 aD1 aD2 aD3 ad0 ad1 ad2 ad3 aD4 aD5 ad4 ad5 aS0 aS1 aS2 aS3 aS4 aS5 as0 as1 as2 as3 as4 as5 g6 w1 H
    subst hf hG hA hLb
    refine nm ?_
    refine pO 5 27 ?_
    refine pO 6 33 ?_
    refine pO 7 34 ?_
    exact eqA (sap_0 aD0 aD1 aD2 aD3 ad0 ad1 ad2 ad3 aD4 aD5 ad4 ad5 aS0 aS1 aS2 aS3 aS4 aS5 as0 as1 as2 as3 as4 as5 g6 w1 H)
  have sa3_1 : ∀ (aD0 aD1 aD2 aD3 : Option Addr) (ad0 ad1 ad2 ad3 : Nat) (aD4 aD5 : Option Addr) (ad4 ad5 : Nat) (aS0 aS1 aS2 aS3 aS4 aS5 : Option Addr) (as0 as1 as2 as3 as4 as5 : Nat) (g7 : Nat) (w1 : World), Aside0 (Own w w1 (rb (.slice aS0 r1.length as0) r1 :: rb (.slice aS1 r2.length as1) r2 :: ri (.slice aS2 r3.length as2) r3 :: ri (.slice aS3 r4.length as3) r4 :: ri (.slice aS4 r9.length as4) r9 :: rb (.slice aS5 r10.length as5) r10 :: ri (.slice aD4 ws.length ad4) ws :: rb (.slice aD5 bs.length ad5) bs :: rb (.slice aD0 l0.length ad0) l0 :: rb (.slice aD1 l1.length ad1) l1 :: ri (.slice aD2 l2.length ad2) l2 :: ri (.slice aD3 l3.length ad3) l3 :: bx g7 #[.int .i64 0, .int .i64 0, .int .i64 0, .int .i64 0, .slice none 0 0, .slice none 0 0] 32 :: Lb)) → G 6 #[true, true, true, true, true, false, false, false, false, true, false, false] (f (.agg #[.slice aD0 l0.length ad0, .slice aD1 l1.length ad1, .slice aD2 l2.length ad2, .slice aD3 l3.length ad3]) (.agg #[.int .i64 k, .int .i64 a, .int .i64 n, .slice aD4 ws.length ad4, .slice aD5 bs.length ad5, .int .i64 wat]) (.tuple #[.agg #[.slice aS0 r1.length as0, .slice aS1 r2.length as1, .slice aS2 r3.length as2, .slice aS3 r4.length as3], .agg #[.int .i64 r5, .int .i64 r6, .int .i64 r7, .int .i64 r8, .slice aS4 r9.length as4, .slice aS5 r10.length as5]]) undef undef undef undef (.pointer (some ⟨g7, 0, none⟩))) w1 := by
    intro aD0 aD1 aD2 aD3 ad0 ad1 ad2 ad3 aD4 aD5 ad4 ad5 aS0 aS1 aS2 aS3 aS4 aS5 as0 as1 as2 as3 as4 as5 g7 w1 H
    subst hf hG hA hLb
    refine nm ?_
    refine pO 5 27 ?_
    refine pO 6 33 ?_
    refine pO 7 34 ?_
    exact eqA (sap_1 aD0 aD1 aD2 aD3 ad0 ad1 ad2 ad3 aD4 aD5 ad4 ad5 aS0 aS1 aS2 aS3 aS4 aS5 as0 as1 as2 as3 as4 as5 g7 w1 H)
  have sa3_ : ∀ (aD0 aD1 aD2 aD3 : Option Addr) (ad0 ad1 ad2 ad3 : Nat) (aD4 aD5 : Option Addr) (ad4 ad5 : Nat) (aS0 aS1 aS2 aS3 aS4 aS5 : Option Addr) (as0 as1 as2 as3 as4 as5 : Nat) (w1 : World), Aside0 (Own w w1 (rb (.slice aS0 r1.length as0) r1 :: rb (.slice aS1 r2.length as1) r2 :: ri (.slice aS2 r3.length as2) r3 :: ri (.slice aS3 r4.length as3) r4 :: ri (.slice aS4 r9.length as4) r9 :: rb (.slice aS5 r10.length as5) r10 :: ri (.slice aD4 ws.length ad4) ws :: rb (.slice aD5 bs.length ad5) bs :: rb (.slice aD0 l0.length ad0) l0 :: rb (.slice aD1 l1.length ad1) l1 :: ri (.slice aD2 l2.length ad2) l2 :: ri (.slice aD3 l3.length ad3) l3 :: Lb)) → G 7 #[true, true, true, true, true, false, false, false, false, false, false, false] (f (.agg #[.slice aD0 l0.length ad0, .slice aD1 l1.length ad1, .slice aD2 l2.length ad2, .slice aD3 l3.length ad3]) (.agg #[.int .i64 k, .int .i64 a, .int .i64 n, .slice aD4 ws.length ad4, .slice aD5 bs.length ad5, .int .i64 wat]) (.tuple #[.agg #[.slice aS0 r1.length as0, .slice aS1 r2.length as1, .slice aS2 r3.length as2, .slice aS3 r4.length as3], .agg #[.int .i64 r5, .int .i64 r6, .int .i64 r7, .int .i64 r8, .slice aS4 r9.length as4, .slice aS5 r10.length as5]]) undef undef undef undef undef) w1 := by
    intro aD0 aD1 aD2 aD3 ad0 ad1 ad2 ad3 aD4 aD5 ad4 ad5 aS0 aS1 aS2 aS3 aS4 aS5 as0 as1 as2 as3 as4 as5 w1 H
    subst hf hG hA hLb
    refine nm ?_
    refine pO 5 27 ?_
    refine pO 6 33 ?_
    refine pO 7 34 ?_
    exact eqA (sap_ aD0 aD1 aD2 aD3 ad0 ad1 ad2 ad3 aD4 aD5 ad4 ad5 aS0 aS1 aS2 aS3 aS4 aS5 as0 as1 as2 as3 as4 as5 w1 H)
  have sa2_01 : ∀ (aD0 aD1 aD2 aD3 : Option Addr) (ad0 ad1 ad2 ad3 : Nat) (aD4 aD5 : Option Addr) (ad4 ad5 : Nat) (g6 : Nat) (g7 : Nat) (w1 : World), Aside0 (Own w w1 (ri (.slice aD4 ws.length ad4) ws :: rb (.slice aD5 bs.length ad5) bs :: rb (.slice aD0 l0.length ad0) l0 :: rb (.slice aD1 l1.length ad1) l1 :: ri (.slice aD2 l2.length ad2) l2 :: ri (.slice aD3 l3.length ad3) l3 :: bx g6 #[.slice none 0 0, .slice none 0 0, .slice none 0 0, .slice none 0 0] 30 :: bx g7 #[.int .i64 0, .int .i64 0, .int .i64 0, .int .i64 0, .slice none 0 0, .slice none 0 0] 32 :: Lb)) → G 6 #[true, true, true, true, false, false, false, false, true, true, false, false] (f (.agg #[.slice aD0 l0.length ad0, .slice aD1 l1.length ad1, .slice aD2 l2.length ad2, .slice aD3 l3.length ad3]) (.agg #[.int .i64 k, .int .i64 a, .int .i64 n, .slice aD4 ws.length ad4, .slice aD5 bs.length ad5, .int .i64 wat]) undef undef undef undef (.pointer (some ⟨g6, 0, none⟩)) (.pointer (some ⟨g7, 0, none⟩))) w1 := by
    intro aD0 aD1 aD2 aD3 ad0 ad1 ad2 ad3 aD4 aD5 ad4 ad5 g6 g7 w1 H
    subst hf hG hA hLb
    refine nm ?_
    refine rdy [4] ?_
    refine AllReadyL.cons rfl (by simp) (fun K hK => goR (some 32) Try.func7 (specServe_own (H.out.cb 2) (H.out.lb 2) (H.out.cb 3) (H.out.lb 3) (H.out.ci 4) (H.out.li 4) (H.out.ci 5) (H.out.li 5) (H.out.ci 0) (H.out.li 0) (H.out.cb 1) (H.out.lb 1) HS.out HM.out.1 HM.out.2.1 HM.out.2.2.1 HM.out.2.2.2.1 HM.out.2.2.2.2.1 HM.out.2.2.2.2.2) (fun e w2 h_ => by obtain ⟨aS0, aS1, aS2, aS3, aS4, aS5, as0, as1, as2, as3, as4, as5, rfl, hO⟩ := h_; exact ⟨_, rfl, hK.out _ _ ((H.out.app hO).hasI [15, 14]) (fun _ => eqA (sa3_01 aD0 aD1 aD2 aD3 ad0 ad1 ad2 ad3 aD4 aD5 ad4 ad5 aS0 aS1 aS2 aS3 aS4 aS5 as0 as1 as2 as3 as4 as5 g6 g7 w2 (aM (H.out.app hO))))⟩)) ?_
    exact AllReadyL.nil
  have sa2_0 : ∀ (aD0 aD1 aD2 aD3 : Option Addr) (ad0 ad1 ad2 ad3 : Nat) (aD4 aD5 : Option Addr) (ad4 ad5 : Nat) (g6 : Nat) (w1 : World), Aside0 (Own w w1 (ri (.slice aD4 ws.length ad4) ws :: rb (.slice aD5 bs.length ad5) bs :: rb (.slice aD0 l0.length ad0) l0 :: rb (.slice aD1 l1.length ad1) l1 :: ri (.slice aD2 l2.length ad2) l2 :: ri (.slice aD3 l3.length ad3) l3 :: bx g6 #[.slice none 0 0, .slice none 0 0, .slice none 0 0, .slice none 0 0] 30 :: Lb)) → G 7 #[true, true, true, true, false, false, false, false, true, false, false, false] (f (.agg #[.slice aD0 l0.length ad0, .slice aD1 l1.length ad1, .slice aD2 l2.length ad2, .slice aD3 l3.length ad3]) (.agg #[.int .i64 k, .int .i64 a, .int .i64 n, .slice aD4 ws.length ad4, .slice aD5 bs.length ad5, .int .i64 wat]) undef undef undef undef (.pointer (some ⟨g6, 0, none⟩)) undef) w1 := by
    intro aD0 aD1 aD2 aD3 ad0 ad1 ad2 ad3 aD4 aD5 ad4 ad5 g6 w1 H
    subst hf hG hA hLb
    refine nm ?_
    refine rdy [4, 9] ?_
    refine AllReadyL.cons rfl (by simp) (fun K hK => goR (some 32) Try.func7 (specServe_own (H.out.cb 2) (H.out.lb 2) (H.out.cb 3) (H.out.lb 3) (H.out.ci 4) (H.out.li 4) (H.out.ci 5) (H.out.li 5) (H.out.ci 0) (H.out.li 0) (H.out.cb 1) (H.out.lb 1) HS.out HM.out.1 HM.out.2.1 HM.out.2.2.1 HM.out.2.2.2.1 HM.out.2.2.2.2.1 HM.out.2.2.2.2.2) (fun e w2 h_ => by obtain ⟨aS0, aS1, aS2, aS3, aS4, aS5, as0, as1, as2, as3, as4, as5, rfl, hO⟩ := h_; exact ⟨_, rfl, hK.out _ _ ((H.out.app hO).hasI [14, 13]) (fun _ => eqA (sa3_0 aD0 aD1 aD2 aD3 ad0 ad1 ad2 ad3 aD4 aD5 ad4 ad5 aS0 aS1 aS2 aS3 aS4 aS5 as0 as1 as2 as3 as4 as5 g6 w2 (aM (H.out.app hO))))⟩)) ?_
    refine AllReadyL.cons rfl (by simp) (fun K hK => alR 7 #[.int .i64 0, .int .i64 0, .int .i64 0, .int .i64 0, .slice none 0 0, .slice none 0 0] 32 H.out (fun g7 w2 H2 => hK.out _ _ (H2.out.hasI [9, 8]) (fun _ => eqA (sa2_01 aD0 aD1 aD2 aD3 ad0 ad1 ad2 ad3 aD4 aD5 ad4 ad5 g6 g7 w2 (aM (H2.out.ins 7)))))) ?_
    exact AllReadyL.nil
  have sa2_1 : ∀ (aD0 aD1 aD2 aD3 : Option Addr) (ad0 ad1 ad2 ad3 : Nat) (aD4 aD5 : Option Addr) (ad4 ad5 : Nat) (g7 : Nat) (w1 : World), Aside0 (Own w w1 (ri (.slice aD4 ws.length ad4) ws :: rb (.slice aD5 bs.length ad5) bs :: rb (.slice aD0 l0.length ad0) l0 :: rb (.slice aD1 l1.length ad1) l1 :: ri (.slice aD2 l2.length ad2) l2 :: ri (.slice aD3 l3.length ad3) l3 :: bx g7 #[.int .i64 0, .int .i64 0, .int .i64 0, .int .i64 0, .slice none 0 0, .slice none 0 0] 32 :: Lb)) → G 7 #[true, true, true, true, false, false, false, false, false, true, false, false] (f (.agg #[.slice aD0 l0.length ad0, .slice aD1 l1.length ad1, .slice aD2 l2.length ad2, .slice aD3 l3.length ad3]) (.agg #[.int .i64 k, .int .i64 a, .int .i64 n, .slice aD4 ws.length ad4, .slice aD5 bs.length ad5, .int .i64 wat]) undef undef undef undef undef (.pointer (some ⟨g7, 0, none⟩))) w1 := by
    intro aD0 aD1 aD2 aD3 ad0 ad1 ad2 ad3 aD4 aD5 ad4 ad5 g7 w1 H
    subst hf hG hA hLb
    refine nm ?_
    refine rdy [4, 8] ?_
    refine AllReadyL.cons rfl (by simp) (fun K hK => goR (some 32) Try.func7 (specServe_own (H.out.cb 2) (H.out.lb 2) (H.out.cb 3) (H.out.lb 3) (H.out.ci 4) (H.out.li 4) (H.out.ci 5) (H.out.li 5) (H.out.ci 0) (H.out.li 0) (H.out.cb 1) (H.out.lb 1) HS.out HM.out.1 HM.out.2.1 HM.out.2.2.1 HM.out.2.2.2.1 HM.out.2.2.2.2.1 HM.out.2.2.2.2.2) (fun e w2 h_ => by obtain ⟨aS0, aS1, aS2, aS3, aS4, aS5, as0, as1, as2, as3, as4, as5, rfl, hO⟩ := h_; exact ⟨_, rfl, hK.out _ _ ((H.out.app hO).hasI [14, 13]) (fun _ => eqA (sa3_1 aD0 aD1 aD2 aD3 ad0 ad1 ad2 ad3 aD4 aD5 ad4 ad5 aS0 aS1 aS2 aS3 aS4 aS5 as0 as1 as2 as3 as4 as5 g7 w2 (aM (H.out.app hO))))⟩)) ?_
    refine AllReadyL.cons rfl (by simp) (fun K hK => alR 6 #[.slice none 0 0, .slice none 0 0, .slice none 0 0, .slice none 0 0] 30 H.out (fun g6 w2 H2 => hK.out _ _ (H2.out.hasI [9, 8]) (fun _ => eqA (sa2_01 aD0 aD1 aD2 aD3 ad0 ad1 ad2 ad3 aD4 aD5 ad4 ad5 g6 g7 w2 (aM (H2.out.ins 6)))))) ?_
    exact AllReadyL.nil
  have sa2_ : ∀ (aD0 aD1 aD2 aD3 : Option Addr) (ad0 ad1 ad2 ad3 : Nat) (aD4 aD5 : Option Addr) (ad4 ad5 : Nat) (w1 : World), Aside0 (Own w w1 (ri (.slice aD4 ws.length ad4) ws :: rb (.slice aD5 bs.length ad5) bs :: rb (.slice aD0 l0.length ad0) l0 :: rb (.slice aD1 l1.length ad1) l1 :: ri (.slice aD2 l2.length ad2) l2 :: ri (.slice aD3 l3.length ad3) l3 :: Lb)) → G 8 #[true, true, true, true, false, false, false, false, false, false, false, false] (f (.agg #[.slice aD0 l0.length ad0, .slice aD1 l1.length ad1, .slice aD2 l2.length ad2, .slice aD3 l3.length ad3]) (.agg #[.int .i64 k, .int .i64 a, .int .i64 n, .slice aD4 ws.length ad4, .slice aD5 bs.length ad5, .int .i64 wat]) undef undef undef undef undef undef) w1 := by
    intro aD0 aD1 aD2 aD3 ad0 ad1 ad2 ad3 aD4 aD5 ad4 ad5 w1 H
    subst hf hG hA hLb
    refine nm ?_
    refine rdy [4, 8, 9] ?_
    refine AllReadyL.cons rfl (by simp) (fun K hK => goR (some 32) Try.func7 (specServe_own (H.out.cb 2) (H.out.lb 2) (H.out.cb 3) (H.out.lb 3) (H.out.ci 4) (H.out.li 4) (H.out.ci 5) (H.out.li 5) (H.out.ci 0) (H.out.li 0) (H.out.cb 1) (H.out.lb 1) HS.out HM.out.1 HM.out.2.1 HM.out.2.2.1 HM.out.2.2.2.1 HM.out.2.2.2.2.1 HM.out.2.2.2.2.2) (fun e w2 h_ => by obtain ⟨aS0, aS1, aS2, aS3, aS4, aS5, as0, as1, as2, as3, as4, as5, rfl, hO⟩ := h_; exact ⟨_, rfl, hK.out _ _ ((H.out.app hO).hasI [13, 12]) (fun _ => eqA (sa3_ aD0 aD1 aD2 aD3 ad0 ad1 ad2 ad3 aD4 aD5 ad4 ad5 aS0 aS1 aS2 aS3 aS4 aS5 as0 as1 as2 as3 as4 as5 w2 (aM (H.out.app hO))))⟩)) ?_
    refine AllReadyL.cons rfl (by simp) (fun K hK => alR 6 #[.slice none 0 0, .slice none 0 0, .slice none 0 0, .slice none 0 0] 30 H.out (fun g6 w2 H2 => hK.out _ _ (H2.out.hasI [8, 7]) (fun _ => eqA (sa2_0 aD0 aD1 aD2 aD3 ad0 ad1 ad2 ad3 aD4 aD5 ad4 ad5 g6 w2 (aM (H2.out.ins 6)))))) ?_
    refine AllReadyL.cons rfl (by simp) (fun K hK => alR 7 #[.int .i64 0, .int .i64 0, .int .i64 0, .int .i64 0, .slice none 0 0, .slice none 0 0] 32 H.out (fun g7 w2 H2 => hK.out _ _ (H2.out.hasI [8, 7]) (fun _ => eqA (sa2_1 aD0 aD1 aD2 aD3 ad0 ad1 ad2 ad3 aD4 aD5 ad4 ad5 g7 w2 (aM (H2.out.ins 6)))))) ?_
    exact AllReadyL.nil
  have sa1_01 : ∀ (aD0 aD1 aD2 aD3 : Option Addr) (ad0 ad1 ad2 ad3 : Nat) (g6 : Nat) (g7 : Nat) (w1 : World), Aside0 (Own w w1 (rb (.slice aD0 l0.length ad0) l0 :: rb (.slice aD1 l1.length ad1) l1 :: ri (.slice aD2 l2.length ad2) l2 :: ri (.slice aD3 l3.length ad3) l3 :: bx g6 #[.slice none 0 0, .slice none 0 0, .slice none 0 0, .slice none 0 0] 30 :: bx g7 #[.int .i64 0, .int .i64 0, .int .i64 0, .int .i64 0, .slice none 0 0, .slice none 0 0] 32 :: Lb)) → G 7 #[true, true, true, false, false, false, false, false, true, true, false, false] (f (.agg #[.slice aD0 l0.length ad0, .slice aD1 l1.length ad1, .slice aD2 l2.length ad2, .slice aD3 l3.length ad3]) undef undef undef undef undef (.pointer (some ⟨g6, 0, none⟩)) (.pointer (some ⟨g7, 0, none⟩))) w1 := by
    intro aD0 aD1 aD2 aD3 ad0 ad1 ad2 ad3 g6 g7 w1 H
    subst hf hG hA hLb
    refine nm ?_
    refine rdy [3] ?_
    refine AllReadyL.cons rfl (by simp) (fun K hK => goR (some 31) Try.func9 (toReq_own (k := k) (a := a) (n := n) (wat := wat) (H.out.arg HC.out.2.2.2.2.1) (H.out.arg HC.out.2.2.2.2.2) HM.out.2.2.2.2.1 HM.out.2.2.2.2.2) (fun e w2 h_ => by obtain ⟨aD4, aD5, ad4, ad5, rfl, hO⟩ := h_; exact ⟨_, rfl, hK.out _ _ ((H.out.app hO).hasI [9, 8]) (fun _ => eqA (sa2_01 aD0 aD1 aD2 aD3 ad0 ad1 ad2 ad3 aD4 aD5 ad4 ad5 g6 g7 w2 (aM (H.out.app hO))))⟩)) ?_
    exact AllReadyL.nil
  have sa1_0 : ∀ (aD0 aD1 aD2 aD3 : Option Addr) (ad0 ad1 ad2 ad3 : Nat) (g6 : Nat) (w1 : World), Aside0 (Own w w1 (rb (.slice aD0 l0.length ad0) l0 :: rb (.slice aD1 l1.length ad1) l1 :: ri (.slice aD2 l2.length ad2) l2 :: ri (.slice aD3 l3.length ad3) l3 :: bx g6 #[.slice none 0 0, .slice none 0 0, .slice none 0 0, .slice none 0 0] 30 :: Lb)) → G 8 #[true, true, true, false, false, false, false, false, true, false, false, false] (f (.agg #[.slice aD0 l0.length ad0, .slice aD1 l1.length ad1, .slice aD2 l2.length ad2, .slice aD3 l3.length ad3]) undef undef undef undef undef (.pointer (some ⟨g6, 0, none⟩)) undef) w1 := by
    intro aD0 aD1 aD2 aD3 ad0 ad1 ad2 ad3 g6 w1 H
    subst hf hG hA hLb
    refine nm ?_
    refine rdy [3, 9] ?_
    refine AllReadyL.cons rfl (by simp) (fun K hK => goR (some 31) Try.func9 (toReq_own (k := k) (a := a) (n := n) (wat := wat) (H.out.arg HC.out.2.2.2.2.1) (H.out.arg HC.out.2.2.2.2.2) HM.out.2.2.2.2.1 HM.out.2.2.2.2.2) (fun e w2 h_ => by obtain ⟨aD4, aD5, ad4, ad5, rfl, hO⟩ := h_; exact ⟨_, rfl, hK.out _ _ ((H.out.app hO).hasI [8, 7]) (fun _ => eqA (sa2_0 aD0 aD1 aD2 aD3 ad0 ad1 ad2 ad3 aD4 aD5 ad4 ad5 g6 w2 (aM (H.out.app hO))))⟩)) ?_
    refine AllReadyL.cons rfl (by simp) (fun K hK => alR 7 #[.int .i64 0, .int .i64 0, .int .i64 0, .int .i64 0, .slice none 0 0, .slice none 0 0] 32 H.out (fun g7 w2 H2 => hK.out _ _ (H2.out.hasI [7, 6]) (fun _ => eqA (sa1_01 aD0 aD1 aD2 aD3 ad0 ad1 ad2 ad3 g6 g7 w2 (aM (H2.out.ins 5)))))) ?_
    exact AllReadyL.nil
  have sa1_1 : ∀ (aD0 aD1 aD2 aD3 : Option Addr) (ad0 ad1 ad2 ad3 : Nat) (g7 : Nat) (w1 : World), Aside0 (Own w w1 (rb (.slice aD0 l0.length ad0) l0 :: rb (.slice aD1 l1.length ad1) l1 :: ri (.slice aD2 l2.length ad2) l2 :: ri (.slice aD3 l3.length ad3) l3 :: bx g7 #[.int .i64 0, .int .i64 0, .int .i64 0, .int .i64 0, .slice none 0 0, .slice none 0 0] 32 :: Lb)) → G 8 #[true, true, true, false, false, false, false, false, false, true, false, false] (f (.agg #[.slice aD0 l0.length ad0, .slice aD1 l1.length ad1, .slice aD2 l2.length ad2, .slice aD3 l3.length ad3]) undef undef undef undef undef undef (.pointer (some ⟨g7, 0, none⟩))) w1 := by
    intro aD0 aD1 aD2 aD3 ad0 ad1 ad2 ad3 g7 w1 H
    subst hf hG hA hLb
    refine nm ?_
    refine rdy [3, 8] ?_
    refine AllReadyL.cons rfl (by simp) (fun K hK => goR (some 31) Try.func9 (toReq_own (k := k) (a := a) (n := n) (wat := wat) (H.out.arg HC.out.2.2.2.2.1) (H.out.arg HC.out.2.2.2.2.2) HM.out.2.2.2.2.1 HM.out.2.2.2.2.2) (fun e w2 h_ => by obtain ⟨aD4, aD5, ad4, ad5, rfl, hO⟩ := h_; exact ⟨_, rfl, hK.out _ _ ((H.out.app hO).hasI [8, 7]) (fun _ => eqA (sa2_1 aD0 aD1 aD2 aD3 ad0 ad1 ad2 ad3 aD4 aD5 ad4 ad5 g7 w2 (aM (H.out.app hO))))⟩)) ?_
    refine AllReadyL.cons rfl (by simp) (fun K hK => alR 6 #[.slice none 0 0, .slice none 0 0, .slice none 0 0, .slice none 0 0] 30 H.out (fun g6 w2 H2 => hK.out _ _ (H2.out.hasI [7, 6]) (fun _ => eqA (sa1_01 aD0 aD1 aD2 aD3 ad0 ad1 ad2 ad3 g6 g7 w2 (aM (H2.out.ins 4)))))) ?_
    exact AllReadyL.nil
  have sa1_ : ∀ (aD0 aD1 aD2 aD3 : Option Addr) (ad0 ad1 ad2 ad3 : Nat) (w1 : World), Aside0 (Own w w1 (rb (.slice aD0 l0.length ad0) l0 :: rb (.slice aD1 l1.length ad1) l1 :: ri (.slice aD2 l2.length ad2) l2 :: ri (.slice aD3 l3.length ad3) l3 :: Lb)) → G 9 #[true, true, true, false, false, false, false, false, false, false, false, false] (f (.agg #[.slice aD0 l0.length ad0, .slice aD1 l1.length ad1, .slice aD2 l2.length ad2, .slice aD3 l3.length ad3]) undef undef undef undef undef undef undef) w1 := by
    intro aD0 aD1 aD2 aD3 ad0 ad1 ad2 ad3 w1 H
    subst hf hG hA hLb
    refine nm ?_
    refine rdy [3, 8, 9] ?_
    refine AllReadyL.cons rfl (by simp) (fun K hK => goR (some 31) Try.func9 (toReq_own (k := k) (a := a) (n := n) (wat := wat) (H.out.arg HC.out.2.2.2.2.1) (H.out.arg HC.out.2.2.2.2.2) HM.out.2.2.2.2.1 HM.out.2.2.2.2.2) (fun e w2 h_ => by obtain ⟨aD4, aD5, ad4, ad5, rfl, hO⟩ := h_; exact ⟨_, rfl, hK.out _ _ ((H.out.app hO).hasI [7, 6]) (fun _ => eqA (sa2_ aD0 aD1 aD2 aD3 ad0 ad1 ad2 ad3 aD4 aD5 ad4 ad5 w2 (aM (H.out.app hO))))⟩)) ?_
    refine AllReadyL.cons rfl (by simp) (fun K hK => alR 6 #[.slice none 0 0, .slice none 0 0, .slice none 0 0, .slice none 0 0] 30 H.out (fun g6 w2 H2 => hK.out _ _ (H2.out.hasI [6, 5]) (fun _ => eqA (sa1_0 aD0 aD1 aD2 aD3 ad0 ad1 ad2 ad3 g6 w2 (aM (H2.out.ins 4)))))) ?_
    refine AllReadyL.cons rfl (by simp) (fun K hK => alR 7 #[.int .i64 0, .int .i64 0, .int .i64 0, .int .i64 0, .slice none 0 0, .slice none 0 0] 32 H.out (fun g7 w2 H2 => hK.out _ _ (H2.out.hasI [6, 5]) (fun _ => eqA (sa1_1 aD0 aD1 aD2 aD3 ad0 ad1 ad2 ad3 g7 w2 (aM (H2.out.ins 4)))))) ?_
    exact AllReadyL.nil
  have sa0_01 : ∀ (g6 : Nat) (g7 : Nat) (w1 : World), Aside0 (Own w w1 (bx g6 #[.slice none 0 0, .slice none 0 0, .slice none 0 0, .slice none 0 0] 30 :: bx g7 #[.int .i64 0, .int .i64 0, .int .i64 0, .int .i64 0, .slice none 0 0, .slice none 0 0] 32 :: Lb)) → G 8 #[true, false, true, false, false, false, false, false, true, true, false, false] (f undef undef undef undef undef undef (.pointer (some ⟨g6, 0, none⟩)) (.pointer (some ⟨g7, 0, none⟩))) w1 := by
    intro g6 g7 w1 H
    subst hf hG hA hLb
    refine nm ?_
    refine rdy [1] ?_
    refine AllReadyL.cons rfl (by simp) (fun K hK => goR (some 29) Try.func8 (toDevice_own (H.out.arg HC.out.1) (H.out.arg HC.out.2.1) (H.out.arg HC.out.2.2.1) (H.out.arg HC.out.2.2.2.1) HM.out.1 HM.out.2.1 HM.out.2.2.1 HM.out.2.2.2.1) (fun e w2 h_ => by obtain ⟨aD0, aD1, aD2, aD3, ad0, ad1, ad2, ad3, rfl, hO⟩ := h_; exact ⟨_, rfl, hK.out _ _ ((H.out.app hO).hasI [7, 6]) (fun _ => eqA (sa1_01 aD0 aD1 aD2 aD3 ad0 ad1 ad2 ad3 g6 g7 w2 (aM (H.out.app hO))))⟩)) ?_
    exact AllReadyL.nil
  have sa0_0 : ∀ (g6 : Nat) (w1 : World), Aside0 (Own w w1 (bx g6 #[.slice none 0 0, .slice none 0 0, .slice none 0 0, .slice none 0 0] 30 :: Lb)) → G 9 #[true, false, true, false, false, false, false, false, true, false, false, false] (f undef undef undef undef undef undef (.pointer (some ⟨g6, 0, none⟩)) undef) w1 := by
    intro g6 w1 H
    subst hf hG hA hLb
    refine nm ?_
    refine rdy [1, 9] ?_
    refine AllReadyL.cons rfl (by simp) (fun K hK => goR (some 29) Try.func8 (toDevice_own (H.out.arg HC.out.1) (H.out.arg HC.out.2.1) (H.out.arg HC.out.2.2.1) (H.out.arg HC.out.2.2.2.1) HM.out.1 HM.out.2.1 HM.out.2.2.1 HM.out.2.2.2.1) (fun e w2 h_ => by obtain ⟨aD0, aD1, aD2, aD3, ad0, ad1, ad2, ad3, rfl, hO⟩ := h_; exact ⟨_, rfl, hK.out _ _ ((H.out.app hO).hasI [6, 5]) (fun _ => eqA (sa1_0 aD0 aD1 aD2 aD3 ad0 ad1 ad2 ad3 g6 w2 (aM (H.out.app hO))))⟩)) ?_
    refine AllReadyL.cons rfl (by simp) (fun K hK => alR 7 #[.int .i64 0, .int .i64 0, .int .i64 0, .int .i64 0, .slice none 0 0, .slice none 0 0] 32 H.out (fun g7 w2 H2 => hK.out _ _ (H2.out.hasI [3, 2]) (fun _ => eqA (sa0_01 g6 g7 w2 (aM (H2.out.ins 1)))))) ?_
    exact AllReadyL.nil
  have sa0_1 : ∀ (g7 : Nat) (w1 : World), Aside0 (Own w w1 (bx g7 #[.int .i64 0, .int .i64 0, .int .i64 0, .int .i64 0, .slice none 0 0, .slice none 0 0] 32 :: Lb)) → G 9 #[true, false, true, false, false, false, false, false, false, true, false, false] (f undef undef undef undef undef undef undef (.pointer (some ⟨g7, 0, none⟩))) w1 := by
    intro g7 w1 H
    subst hf hG hA hLb
    refine nm ?_
    refine rdy [1, 8] ?_
    refine AllReadyL.cons rfl (by simp) (fun K hK => goR (some 29) Try.func8 (toDevice_own (H.out.arg HC.out.1) (H.out.arg HC.out.2.1) (H.out.arg HC.out.2.2.1) (H.out.arg HC.out.2.2.2.1) HM.out.1 HM.out.2.1 HM.out.2.2.1 HM.out.2.2.2.1) (fun e w2 h_ => by obtain ⟨aD0, aD1, aD2, aD3, ad0, ad1, ad2, ad3, rfl, hO⟩ := h_; exact ⟨_, rfl, hK.out _ _ ((H.out.app hO).hasI [6, 5]) (fun _ => eqA (sa1_1 aD0 aD1 aD2 aD3 ad0 ad1 ad2 ad3 g7 w2 (aM (H.out.app hO))))⟩)) ?_
    refine AllReadyL.cons rfl (by simp) (fun K hK => alR 6 #[.slice none 0 0, .slice none 0 0, .slice none 0 0, .slice none 0 0] 30 H.out (fun g6 w2 H2 => hK.out _ _ (H2.out.hasI [3, 2]) (fun _ => eqA (sa0_01 g6 g7 w2 (aM (H2.out.ins 0)))))) ?_
    exact AllReadyL.nil
  have sa0_ : ∀ (w1 : World), Aside0 (Own w w1 (Lb)) → G 10 #[true, false, true, false, false, false, false, false, false, false, false, false] (f undef undef undef undef undef undef undef undef) w1 := by
    intro  w1 H
    subst hf hG hA hLb
    refine nm ?_
    refine rdy [1, 8, 9] ?_
    refine AllReadyL.cons rfl (by simp) (fun K hK => goR (some 29) Try.func8 (toDevice_own (H.out.arg HC.out.1) (H.out.arg HC.out.2.1) (H.out.arg HC.out.2.2.1) (H.out.arg HC.out.2.2.2.1) HM.out.1 HM.out.2.1 HM.out.2.2.1 HM.out.2.2.2.1) (fun e w2 h_ => by obtain ⟨aD0, aD1, aD2, aD3, ad0, ad1, ad2, ad3, rfl, hO⟩ := h_; exact ⟨_, rfl, hK.out _ _ ((H.out.app hO).hasI [5, 4]) (fun _ => eqA (sa1_ aD0 aD1 aD2 aD3 ad0 ad1 ad2 ad3 w2 (aM (H.out.app hO))))⟩)) ?_
    refine AllReadyL.cons rfl (by simp) (fun K hK => alR 6 #[.slice none 0 0, .slice none 0 0, .slice none 0 0, .slice none 0 0] 30 H.out (fun g6 w2 H2 => hK.out _ _ (H2.out.hasI [2, 1]) (fun _ => eqA (sa0_0 g6 w2 (aM (H2.out.ins 0)))))) ?_
    refine AllReadyL.cons rfl (by simp) (fun K hK => alR 7 #[.int .i64 0, .int .i64 0, .int .i64 0, .int .i64 0, .slice none 0 0, .slice none 0 0] 32 H.out (fun g7 w2 H2 => hK.out _ _ (H2.out.hasI [2, 1]) (fun _ => eqA (sa0_1 g7 w2 (aM (H2.out.ins 0)))))) ?_
    exact AllReadyL.nil
  subst hf hG hA
  exact eqA (sa0_ w_ H)
end Go.Proofs.Ytiogbjbkfhhdhaa.XExactServe
