/- The law on what a device lacks is true of all bytes, walked over what Serve computes. No condition. -/
import Derived.Test.YtiiodfagedcofaaGSpecO
import Derived.Test.YtiiodfagedcofaaGNewI
import Derived.Test.YtiiodfagedcofaaGDraw6
import Derived.Test.YtiiodfagedcofaaR
namespace Go.Proofs.Ytiiodfagedcofaa.XRefused
open Go.Proofs.Ytiiodfagedcofaa.G Go.Proofs.Ytiiodfagedcofaa.K Go Go.RowKit Go.Proofs.YtiiodfagedcofaaW.PrintWords Go.Proofs.YtiiodfagedcofaaW.PrintLast Go.Proofs.YtiiodfagedcofaaW.PrintMore Go.Proofs.Ytiiodfagedcofaa.PlainC Go.Proofs.Ytiiodfagedcofaa.RowC
set_option linter.unusedVariables false
set_option linter.unusedSimpArgs false
theorem newOk (x : Int) : deviceOkB (zb x) (zb x) (zi x) (zi x) = true := by
  have h := szOf_le x
  have h0 : wordB 0 = true := rfl
  have ha : (zi x).all wordB = true := by
    rw [List.all_eq_true]
    intro y hy
    rw [List.eq_of_mem_replicate hy]
    exact h0
  simp only [deviceOkB, ha, Bool.and_true, Bool.and_self]
  simp [zb, zi, h]
/-- Where a right question lies, and when all of it is there. -/
theorem lies {k a n : Int} {ws : List Int} {bs : List Bool} {wat : Int} (hr : reqB k a n ws bs wat = true) (x : Int) : ∃ s m : Int, spacesOf k a n ws bs wat = (s, a, m) ∧ 0 ≤ m ∧ m ≤ 2000 ∧ 0 ≤ a ∧ a ≤ 65535 ∧ (k = 23 → 0 ≤ wat ∧ wat ≤ 65535) ∧
    thereB (zb x) (zb x) (zi x) (zi x) k a n ws bs wat = decide (a + m ≤ (szOf x : Int) ∧ (k = 23 → wat + (ws.length : Int) ≤ (szOf x : Int))) := by
  obtain ⟨hk, a0, a1, f12, f34, f5, f6, f15, f16, f22, f23⟩ := reqB_facts hr
  have sp : spacesOf k a n ws bs wat = (if k = 1 then ((0 : Int), a, n) else if k = 5 ∨ k = 15 then (0, a, (bs.length : Int)) else if k = 2 then (1, a, n) else if k = 4 then (3, a, n) else if k = 6 ∨ k = 22 then (2, a, 1) else if k = 16 then (2, a, (ws.length : Int)) else (2, a, n)) := by
    unfold spacesOf; rw [if_pos hr]
  have zl : (zb x).length = szOf x := by simp [zb]
  have zl2 : (zi x).length = szOf x := by simp [zi]
  rcases kind_cases hk with rfl | rfl | rfl | rfl | rfl | rfl | rfl | rfl | rfl | rfl
  · have := f12 (.inl rfl); exact ⟨0, n, by rw [sp]; rfl, by omega, by omega, by omega, by omega, by omega, by simp [thereB, zl]⟩
  · have := f12 (.inr rfl); exact ⟨1, n, by rw [sp]; rfl, by omega, by omega, by omega, by omega, by omega, by simp [thereB, zl]⟩
  · have := f34 (.inl rfl); exact ⟨2, n, by rw [sp]; rfl, by omega, by omega, by omega, by omega, by omega, by simp [thereB, zl2]⟩
  · have := f34 (.inr rfl); exact ⟨3, n, by rw [sp]; rfl, by omega, by omega, by omega, by omega, by omega, by simp [thereB, zl2]⟩
  · have := f5 rfl; exact ⟨0, bs.length, by rw [sp]; rfl, by omega, by omega, by omega, by omega, by omega, by simp [thereB, zl]⟩
  · exact ⟨2, 1, by rw [sp]; rfl, by omega, by omega, by omega, by omega, by omega, by simp [thereB, zl2]⟩
  · have := f15 rfl; exact ⟨0, bs.length, by rw [sp]; rfl, by omega, by omega, by omega, by omega, by omega, by simp [thereB, zl]⟩
  · have := f16 rfl; exact ⟨2, ws.length, by rw [sp]; rfl, by omega, by omega, by omega, by omega, by omega, by simp [thereB, zl2]⟩
  · exact ⟨2, 1, by rw [sp]; rfl, by omega, by omega, by omega, by omega, by omega, by simp [thereB, zl2]⟩
  · have := f23 rfl; exact ⟨2, n, by rw [sp]; rfl, by omega, by omega, by omega, by omega, by omega, by simp [thereB, zl2]⟩
theorem done_fault (c i : List Bool) (h v : List Int) (k a n : Int) (w : List Int) (t : List Bool) (e : Int) : (doneOf c i h v k a n w t e).2.2.2.2.2.1 = 0 ∧ (doneOf c i h v k a n w t e).2.2.1.length = h.length := by
  unfold doneOf
  repeat' split
  all_goals simp [over_length]
/-- What the law compares. -/
theorem served3 {x k a n wat : Int} {ws : List Int} {bs : List Bool} {r1 r2 : List Bool} {r3 r4 : List Int} {r5 r6 r7 r8 : Int} {r9 : List Int} {r10 : List Bool} (hS : servedOf (zb x) (zb x) (zi x) (zi x) k a n ws bs wat = (r1, r2, r3, r4, r5, r6, r7, r8, r9, r10)) :
    (reqB k a n ws bs wat = false → r5 = 0) ∧ (reqB k a n ws bs wat = true → thereB (zb x) (zb x) (zi x) (zi x) k a n ws bs wat = true → r6 = 0 ∧ r3.length = szOf x) ∧
    (reqB k a n ws bs wat = true → thereB (zb x) (zb x) (zi x) (zi x) k a n ws bs wat = false → r1 = zb x ∧ r2 = zb x ∧ r3 = zi x ∧ r4 = zi x ∧ r5 = k ∧ r6 = 2) := by
  unfold servedOf at hS
  refine ⟨fun h => ?_, fun h ht => ?_, fun h ht => ?_⟩
  · rw [h, if_neg (by simp), if_neg (by simp)] at hS
    simp only [Prod.mk.injEq] at hS
    exact hS.2.2.2.2.1.symm
  · rw [if_pos ⟨newOk x, h⟩, if_pos ht] at hS
    have hd := done_fault (zb x) (zb x) (zi x) (zi x) k a n ws bs wat
    rw [hS] at hd
    exact ⟨hd.1, by rw [hd.2]; simp [zi]⟩
  · rw [if_pos ⟨newOk x, h⟩, if_neg (by simp [ht])] at hS
    simp only [Prod.mk.injEq] at hS
    exact ⟨hS.1.symm, hS.2.1.symm, hS.2.2.1.symm, hS.2.2.2.1.symm, hS.2.2.2.2.1.symm, hS.2.2.2.2.2.1.symm⟩
theorem same_refl (a b : List Bool) (c d : List Int) : sameB a b c d a b c d = true := by simp [sameB]

set_option maxHeartbeats 8000000 in
set_option maxRecDepth 100000 in
theorem walk (v0 : Value) (l : List Int) (w : World) (i0 : InInts .u8 w v0 l) :
    Calls Try.prog 4 #[v0] w fun e w' => e = .returned (.bool true) ∧ Below w.heap.size w w' := by
  obtain ⟨A, c, rfl, hc0, hr0, hm0, hw0⟩ := i0
  have HC := aM hr0
  have Hc := aM hc0
  have HV := aM hw0
  clear hr0 hc0 hm0 hw0
  have H := aM (Own.nil w)
  obtain ⟨b, hb⟩ : ∃ b, decide ((l.length : Int) > 1048576) = b := ⟨_, rfl⟩
  have Hb := aM hb
  clear hb
  have hu := Try.underlying27
  have hq := Try.underlying41
  cases b with
  | true =>
    go_enter Try.func4, Try.ntmps4
    go_wp2_with ((with_reducible refine nD 14 ?_); refine gC 14 Try.func6 (laws_big.calls A c l true _ (H.out.arg HC.out) Hc.out (by unfold laws_big.f; rw [Hb.out])) ?_; rintro e w_ ⟨rfl, hd⟩; refine ⟨_, rfl, ?_⟩; replace H := aM (H.out.drawn hd); clear hd)
    go_ret
    exact ⟨rfl, H.out.below⟩
  | false =>
    have hbig := of_decide_eq_false Hb.out
    obtain ⟨p2, e2, p20, p21⟩ := at_range l (by omega) (B8.of HV.out) 2 (by omega) (by omega)
    have E2 := aM e2
    obtain ⟨nn, hnn⟩ : ∃ nn, Int.tmod p2 20 = nn := ⟨_, rfl⟩
    have HN := aM (show 0 ≤ nn ∧ nn < 20 from ⟨by rw [← hnn]; exact Int.tmod_nonneg _ p20, by rw [← hnn]; exact Int.tmod_lt_of_pos _ (by omega)⟩)
    have hsz : szOf nn = nn.toNat := by have := HN.out; unfold szOf; rw [if_pos (by omega)]
    have zl : (zb nn).length = szOf nn := by simp [zb]
    have zl2 : (zi nn).length = szOf nn := by simp [zi]
    have ZL := aM (show (zb nn).length ≤ 1048576 ∧ (zi nn).length ≤ 1048576 ∧ (szOf nn : Int) = nn from ⟨by have := HN.out; omega, by have := HN.out; omega, by have := HN.out; omega⟩)
    have hz : ((zb nn).length : Int) = nn := by have := HN.out; omega
    clear hbig e2 p20 p21 hsz zl zl2
    go_enter Try.func4, Try.ntmps4
    go_upto_region 6 with (first | ((with_reducible refine nD 14 ?_); refine gC 14 Try.func6 (laws_big.calls A c l false _ (H.out.arg HC.out) Hc.out (by unfold laws_big.f; rw [Hb.out])) ?_; rintro e w_ ⟨rfl, hO⟩; refine ⟨_, rfl, ?_⟩; replace H := aM (H.out.drawn hO); clear hO) | ((with_reducible refine nD 17 ?_); refine gC 17 Try.func13 (DrawServe_own _ (H.out.arg HC.out) Hc.out) ?_; rintro e w_ ⟨A0, A1, A2, A3, c0, c1, c2, c3, l0, l1, l2, l3, k, a, n, wat, A4, A5, c4, c5, ws, bs, rfl, _, m4, m5, hO⟩; refine ⟨_, rfl, ?_⟩; replace H := aM (H.out.app hO); clear hO; have HQ := aM (And.intro m4 m5); clear m4 m5) | ((with_reducible refine nD 3 ?_); refine bxO 3 H.out #[.slice none 0 0, .slice none 0 0, .slice none 0 0, .slice none 0 0] 27 ?_; clear H; intro g3 _ H) | ((with_reducible refine nD 4 ?_); refine bxO 4 H.out #[.int .i64 0, .int .i64 0, .int .i64 0, .slice none 0 0, .slice none 0 0, .int .i64 0] 41 ?_; clear H; intro g4 _ H) | ((with_reducible refine nS 3 ?_); refine stO 1 H.out ?_; clear H; intro _ H) | ((with_reducible refine nS 4 ?_); refine stO 0 H.out ?_; clear H; intro _ H) | ((with_reducible refine nD 21 ?_); refine gC 21 Try.func8 (laws_at.calls A c l 2 p2 _ (H.out.arg HC.out) Hc.out E2.out) ?_; rintro e w_ ⟨rfl, hO⟩; refine ⟨_, rfl, ?_⟩; replace H := aM (H.out.drawn hO); clear hO) | ((with_reducible refine nD 24 ?_); refine gC 24 Try.func14 (impl_DeviceNew.own nn _) ?_; rintro e w_ ⟨B0, B1, B2, B3, d0, d1, d2, d3, rfl, hO⟩; refine ⟨_, rfl, ?_⟩; replace H := aM (H.out.app hO); clear hO) | ((with_reducible refine nD 6 ?_); refine bxO 6 H.out #[.slice none 0 0, .slice none 0 0, .slice none 0 0, .slice none 0 0] 27 ?_; clear H; intro g6 _ H) | ((with_reducible refine nS 6 ?_); refine stO 0 H.out ?_; clear H; intro _ H) | ((with_reducible refine nD 26 ?_); refine ldO 26 0 H.out hu ?_) | ((with_reducible refine nD 27 ?_); refine ldO 27 5 H.out hq ?_))
    obtain ⟨r1, r2, r3, r4, r5, r6, r7, r8, r9, r10, hS⟩ : ∃ r1 r2 r3 r4 r5 r6 r7 r8 r9 r10, servedOf (zb nn) (zb nn) (zi nn) (zi nn) k a n ws bs wat = (r1, r2, r3, r4, r5, r6, r7, r8, r9, r10) := ⟨_, _, _, _, _, _, _, _, _, _, rfl⟩
    have HS := aM hS
    have H3 := aM (served3 hS)
    obtain ⟨rq, hr⟩ : ∃ rq, reqB k a n ws bs wat = rq := ⟨_, rfl⟩
    have HR := aM hr
    clear hS hr
    go_upto_if 33 with (first | ((with_reducible refine nD 26 ?_); refine ldO 26 0 H.out hu ?_) | ((with_reducible refine nD 27 ?_); refine ldO 27 5 H.out hq ?_) | ((with_reducible refine nD 28 ?_); refine gC 28 Try.func15 (serve_own HS.out (H.out.cb 1) (H.out.lb 1) (H.out.cb 2) (H.out.lb 2) (H.out.ci 3) (H.out.li 3) (H.out.ci 4) (H.out.li 4) (H.out.ci 11) (H.out.li 11) (H.out.cb 12) (H.out.lb 12) ZL.out.1 ZL.out.1 ZL.out.2.1 ZL.out.2.1 (by have := HQ.out; omega) (by have := HQ.out; omega)) ?_; rintro e w_ ⟨C0, C1, C2, C3, C4, C5, f0, f1, f2, f3, f4, f5, rfl, hO⟩; refine ⟨_, rfl, ?_⟩; replace H := aM (H.out.app hO); clear hO) | ((with_reducible refine nD 7 ?_); refine bxO 7 H.out #[.slice none 0 0, .slice none 0 0, .slice none 0 0, .slice none 0 0] 27 ?_; clear H; intro g7 _ H) | ((with_reducible refine nD 8 ?_); refine bxO 8 H.out #[.int .i64 0, .int .i64 0, .int .i64 0, .int .i64 0, .slice none 0 0, .slice none 0 0] 37 ?_; clear H; intro g8 _ H) | ((with_reducible refine nS 7 ?_); refine stO 1 H.out ?_; clear H; intro _ H) | ((with_reducible refine nS 8 ?_); refine stO 0 H.out ?_; clear H; intro _ H) | ((with_reducible refine nD 31 ?_); refine ldO 31 13 H.out hq ?_) | ((with_reducible refine nD 32 ?_); refine gC 32 Try.func16 (by have h_ := specReq_own (k := k) (a := a) (n := n) (wat := wat) (H.out.ci 19) (H.out.li 19) (H.out.cb 20) (H.out.lb 20) (by have := HQ.out; omega) (by have := HQ.out; omega); rw [HR.out] at h_; exact h_) ?_; rintro e w_ ⟨rfl, hO⟩; refine ⟨_, rfl, ?_⟩; replace H := aM (H.out.step hO); clear hO))
    cases rq with
    | false =>
      have h5 := H3.out.1 HR.out
      subst h5
      obtain ⟨zg8_0, yg8_0, zg8_1, yg8_1, zg8_2, yg8_2, zg8_3, yg8_3, zg8_4, yg8_4, zg8_5, yg8_5⟩ := bk6 (H.out.b 0)
      obtain ⟨zg6_0, yg6_0, zg6_1, yg6_1, zg6_2, yg6_2, zg6_3, yg6_3⟩ := bk4 (H.out.b 8)
      go_wp2
      go_ret
      exact ⟨rfl, H.out.below⟩
    | true =>
      obtain ⟨sp, m, hsp, hl⟩ := lies HR.out nn
      have HSP := aM hsp
      have HL := aM hl
      clear hsp hl
      go_upto_region 10 with (first | ((with_reducible refine nD 45 ?_); refine ldO 45 13 H.out hq ?_) | ((with_reducible refine nD 46 ?_); refine gC 46 Try.func17 (by have h_ := specSpaces_own (k := k) (a := a) (n := n) (wat := wat) (H.out.ci 19) (H.out.li 19) (H.out.cb 20) (H.out.lb 20) (by have := HQ.out; omega) (by have := HQ.out; omega); rw [HSP.out] at h_; exact h_) ?_; rintro e w_ ⟨rfl, hO⟩; refine ⟨_, rfl, ?_⟩; replace H := aM (H.out.step hO); clear hO))
      have hl := HL.out
      have hzn := ZL.out.2.2
      have hw1 : IntKind.i64.wrap (a + m) = a + m := (by rw [i64wrap, w64 (by omega) (by omega)])
      obtain ⟨zg8_0, yg8_0, zg8_1, yg8_1, zg8_2, yg8_2, zg8_3, yg8_3, zg8_4, yg8_4, zg8_5, yg8_5⟩ := bk6 (H.out.b 0)
      obtain ⟨zg7_0, yg7_0, zg7_1, yg7_1, zg7_2, yg7_2, zg7_3, yg7_3⟩ := bk4 (H.out.b 1)
      obtain ⟨zg6_0, yg6_0, zg6_1, yg6_1, zg6_2, yg6_2, zg6_3, yg6_3⟩ := bk4 (H.out.b 8)
      obtain ⟨zg4_0, yg4_0, zg4_1, yg4_1, zg4_2, yg4_2, zg4_3, yg4_3, zg4_4, yg4_4, zg4_5, yg4_5⟩ := bk6 (H.out.b 13)
      by_cases h1 : a + m ≤ nn
      · have d1 : decide (a + m ≤ nn) = true := decide_eq_true h1
        by_cases h23 : k = 23
        · have hwl := HQ.out.1
          have hw2 : IntKind.i64.wrap (wat + (ws.length : Int)) = wat + (ws.length : Int) := (by have := hl.2.2.2.2.1 h23; rw [i64wrap, w64 (by omega) (by omega)])
          by_cases h2 : wat + (ws.length : Int) ≤ nn
          · have d2 : decide (wat + (ws.length : Int) ≤ nn) = true := decide_eq_true h2
            have ht := hl.2.2.2.2.2.trans (decide_eq_true ⟨by omega, fun _ => by omega⟩)
            have e1 : (k == 23) = true := by rw [h23]; rfl
            have e2 : (k != 23) = false := by rw [h23]; rfl
            obtain ⟨h6, h3⟩ := H3.out.2.1 HR.out ht
            subst h6
            have hr3 : (r3.length : Int) = nn := by omega
            clear hl hzn ht h3 H3 HL
            (try clear h1)
            (try clear h2)
            (try clear h23)
            (try clear hwl)
            go_wp2
            go_ret
            exact ⟨rfl, H.out.below⟩
          · have d2 : decide (wat + (ws.length : Int) ≤ nn) = false := decide_eq_false h2
            have ht := hl.2.2.2.2.2.trans (decide_eq_false (fun h => h2 (by have := h.2 h23; omega)))
            have e1 : (k == 23) = true := by rw [h23]; rfl
            have e2 : (k != 23) = false := by rw [h23]; rfl
            obtain ⟨f1_, f2_, f3_, f4_, f5_, f6_⟩ := H3.out.2.2 HR.out ht
            clear hl hzn ht H3 HL
            (try clear h1)
            (try clear h2)
            (try clear h23)
            (try clear hwl)
            subst f1_ f2_ f3_ f4_ f5_ f6_
            go_wp2_with (first | ((with_reducible refine nD 92 ?_); (try (refine gate_guard (by rfl) ?_; dsimp only)); refine ldO 92 1 H.out hu ?_) | ((with_reducible refine nD 93 ?_); (try (refine gate_guard (by rfl) ?_; dsimp only)); refine ldO 93 8 H.out hu ?_) | ((with_reducible refine nD 94 ?_); (try (refine gate_guard (by rfl) ?_; dsimp only)); refine gC 94 Try.func11 (by have h_ := same_own (H.out.cb 2) (H.out.lb 2) (H.out.cb 3) (H.out.lb 3) (H.out.ci 4) (H.out.li 4) (H.out.ci 5) (H.out.li 5) (H.out.cb 9) (H.out.lb 9) (H.out.cb 10) (H.out.lb 10) (H.out.ci 11) (H.out.li 11) (H.out.ci 12) (H.out.li 12) ZL.out.1 ZL.out.1 ZL.out.2.1 ZL.out.2.1; rw [same_refl] at h_; exact h_) ?_; rintro e w_ ⟨rfl, hO⟩; refine ⟨_, rfl, ?_⟩; replace H := aM (H.out.step hO); clear hO; obtain ⟨xg6_0, wg6_0, xg6_1, wg6_1, xg6_2, wg6_2, xg6_3, wg6_3⟩ := bk4 (H.out.b 8)))
            go_ret
            exact ⟨rfl, H.out.below⟩
        · have ht := hl.2.2.2.2.2.trans (decide_eq_true ⟨by omega, fun h => absurd h h23⟩)
          have e1 : (k == 23) = false := by simpa using h23
          have e2 : (k != 23) = true := by simpa using h23
          obtain ⟨h6, h3⟩ := H3.out.2.1 HR.out ht
          subst h6
          have hr3 : (r3.length : Int) = nn := by omega
          clear hl hzn ht h3 H3 HL
          (try clear h1)
          (try clear h2)
          (try clear h23)
          (try clear hwl)
          go_wp2
          go_ret
          exact ⟨rfl, H.out.below⟩
      · have d1 : decide (a + m ≤ nn) = false := decide_eq_false h1
        have ht := hl.2.2.2.2.2.trans (decide_eq_false (fun h => h1 (by have := h.1; omega)))
        obtain ⟨f1_, f2_, f3_, f4_, f5_, f6_⟩ := H3.out.2.2 HR.out ht
        clear hl hzn ht H3 HL
        (try clear h1)
        (try clear h2)
        (try clear h23)
        (try clear hwl)
        subst f1_ f2_ f3_ f4_ f5_ f6_
        go_wp2_with (first | ((with_reducible refine nD 92 ?_); (try (refine gate_guard (by rfl) ?_; dsimp only)); refine ldO 92 1 H.out hu ?_) | ((with_reducible refine nD 93 ?_); (try (refine gate_guard (by rfl) ?_; dsimp only)); refine ldO 93 8 H.out hu ?_) | ((with_reducible refine nD 94 ?_); (try (refine gate_guard (by rfl) ?_; dsimp only)); refine gC 94 Try.func11 (by have h_ := same_own (H.out.cb 2) (H.out.lb 2) (H.out.cb 3) (H.out.lb 3) (H.out.ci 4) (H.out.li 4) (H.out.ci 5) (H.out.li 5) (H.out.cb 9) (H.out.lb 9) (H.out.cb 10) (H.out.lb 10) (H.out.ci 11) (H.out.li 11) (H.out.ci 12) (H.out.li 12) ZL.out.1 ZL.out.1 ZL.out.2.1 ZL.out.2.1; rw [same_refl] at h_; exact h_) ?_; rintro e w_ ⟨rfl, hO⟩; refine ⟨_, rfl, ?_⟩; replace H := aM (H.out.step hO); clear hO; obtain ⟨xg6_0, wg6_0, xg6_1, wg6_1, xg6_2, wg6_2, xg6_3, wg6_3⟩ := bk4 (H.out.b 8)))
        go_ret
        exact ⟨rfl, H.out.below⟩
end Go.Proofs.Ytiiodfagedcofaa.XRefused
