/- spec.Apply, told by what it computes, the answers' rows apart. Condition: no row is longer than a machine's memory. -/
import Derived.Test.YtiogbjbkfhhdhaaGAppF
import Derived.Test.YtiogbjbkfhhdhaaGSSrv
import Derived.Test.YtiogbjbkfhhdhaaGLat
namespace Go.Proofs.Ytiogbjbkfhhdhaa.G
open Go.Proofs.Ytiogbjbkfhhdhaa.K Go Go.RowKit Go.Proofs.YtiogbjbkfhhdhaaW.PrintWords Go.Proofs.YtiogbjbkfhhdhaaW.PrintLast Go.Proofs.YtiogbjbkfhhdhaaW.PrintMore Go.Proofs.Ytiogbjbkfhhdhaa.PlainC
set_option linter.unusedVariables false
set_option linter.unusedSimpArgs false
set_option maxHeartbeats 8000000 in
set_option maxRecDepth 100000 in
theorem specApply_own {w : World} {A0 A1 A2 A3 A : Option Addr} {c0 c1 c2 c3 c : Nat} {l0 l1 : List Bool} {l2 l3 : List Int} {qs : List S36} {R1 R2 : List Bool} {R3 R4 : List Int} {TS : List S32} (hA : appliedOf (l0, l1, l2, l3) qs = ((R1, R2, R3, R4), TS)) (h0 : Kd.C Kd.bool w A0 l0.length l0) (k0 : l0.length ≤ c0) (h1 : Kd.C Kd.bool w A1 l1.length l1) (k1 : l1.length ≤ c1) (h2 : Kd.C (Kd.int .i64) w A2 l2.length l2) (k2 : l2.length ≤ c2) (h3 : Kd.C (Kd.int .i64) w A3 l3.length l3) (k3 : l3.length ≤ c3)
    (hq : Kd.C k36 w A qs.length qs) (m0 : l0.length ≤ 1048576) (m1 : l1.length ≤ 1048576) (m2 : l2.length ≤ 1048576) (m3 : l3.length ≤ 1048576) (mq : qs.length ≤ 1048576) (hm : ∀ q ∈ qs, q.f3.length ≤ 1048576 ∧ q.f4.length ≤ 1048576) :
    Calls Try.prog 20 #[.agg #[.slice A0 l0.length c0, .slice A1 l1.length c1, .slice A2 l2.length c2, .slice A3 l3.length c3], .slice A qs.length c] w (ApplyPost w R1 R2 R3 R4 TS) := by
  have hu := Try.underlying30
  have hq_ := Try.underlying36
  have hR := Try.underlying32
  have HC := aM (And.intro h0 (And.intro k0 (And.intro h1 (And.intro k1 (And.intro h2 (And.intro k2 (And.intro h3 k3)))))))
  have HM := aM (And.intro m0 (And.intro m1 (And.intro m2 m3)))
  have HL := aM (And.intro mq hm)
  have HQ := aM hq
  have HA := aM hA
  clear h0 k0 h1 k1 h2 k2 h3 k3 m0 m1 m2 m3 mq hm hq hA
  have H := aM (Own.nil w)
  go_enter Try.func20, Try.ntmps20
  go_wp2_with (first | ((with_reducible refine nD 2 ?_); refine bxO 2 H.out #[.slice A0 l0.length c0, .slice A1 l1.length c1, .slice A2 l2.length c2, .slice A3 l3.length c3] 30 ?_; clear H; intro g2 _ H; (try refine nmL ?_)) | ((with_reducible refine nD 4 ?_); refine bxO 4 H.out #[.slice none 0 0, .slice none 0 0, .slice none 0 0, .slice none 0 0] 30 ?_; clear H; intro g4 _ H; (try refine nmL ?_)) | ((with_reducible refine nD 11 ?_); refine ldO 11 1 H.out hu ?_; (try refine nmL ?_)) | ((with_reducible refine nD 12 ?_); refine gC 12 Try.func30 (l5Copy_own (H.out.arg HC.out.1) (H.out.arg HC.out.2.2.1) (H.out.arg HC.out.2.2.2.2.1) (H.out.arg HC.out.2.2.2.2.2.2.1) HM.out.1 HM.out.2.1 HM.out.2.2.1 HM.out.2.2.2) ?_; rintro e w_ ⟨B0, B1, B2, B3, e0, e1, e2, e3, rfl, hO⟩; refine ⟨_, rfl, ?_⟩; replace H := aM (H.out.app hO); clear hO; (try refine nmL ?_)) | ((with_reducible refine nD 6 ?_); refine bxO 6 H.out #[.slice none 0 0, .slice none 0 0, .slice none 0 0, .slice none 0 0] 30 ?_; clear H; intro g6 _ H; (try refine nmL ?_)) | ((with_reducible refine nS 6 ?_); refine stO 0 H.out ?_; clear H; intro _ H; (try refine nmL ?_)) | ((with_reducible refine nD 13 ?_); refine litT kdR 32 13 H.out ?_; clear H; intro B4 e4 _ F H; (try refine nmL ?_)))
  have h_ := H.out.group (N := [])
  (try simp only [List.cons_append, List.nil_append, List.set_cons_zero, List.set_cons_succ, List.drop_succ_cons, List.drop_zero] at h_)
  replace H := aM (h_.perm ((List.perm_append_comm (l₁ := [_, _, _]) (l₂ := [_, _, _, _])).append_right [_, _]))
  clear h_
  go_loopg [7, 8] (qs.length + 1) (fun kq v7 v17 w' => ∃ (i : Nat) (B0 B1 B2 B3 B4 : Option Addr) (e0 e1 e2 e3 e4 : Nat) (r1 r2 : List Bool) (r3 r4 : List Int) (xs : List (S32 × Ad)) (F : Nat → Prop), v7 = .slice B4 xs.length e4 ∧ v17 = .int .i64 (i : Int) ∧ Aside0 (i ≤ qs.length ∧ kq + i = qs.length + 1) ∧ Aside0 (r1.length = l0.length ∧ r2.length = l1.length ∧ r3.length = l2.length ∧ r4.length = l3.length ∧ xs.length = i) ∧ Aside0 (appliedOf (l0, l1, l2, l3) (qs.take i) = ((r1, r2, r3, r4), xs.map Prod.fst)) ∧ Aside0 (Own w w' (rb (.slice B0 r1.length e0) r1 :: rb (.slice B1 r2.length e1) r2 :: ri (.slice B2 r3.length e2) r3 :: ri (.slice B3 r4.length e3) r4 :: grp (two itR xs) :: ix kdR 32 (.slice B4 xs.length e4) xs F :: bx g6 #[.slice B0 r1.length e0, .slice B1 r2.length e1, .slice B2 r3.length e2, .slice B3 r4.length e3] 30 :: bx g4 #[.slice none 0 0, .slice none 0 0, .slice none 0 0, .slice none 0 0] 30 :: bx g2 #[.slice A0 l0.length c0, .slice A1 l1.length c1, .slice A2 l2.length c2, .slice A3 l3.length c3] 30 :: [])) ∧ Aside0 (Apart (two itR xs)))
  case atStart => exact ⟨0, B0, B1, B2, B3, B4, e0, e1, e2, e3, e4, l0, l1, l2, l3, [], F, rfl, rfl, ⟨by omega⟩, ⟨rfl, rfl, rfl, rfl, rfl⟩, ⟨by rw [List.take_zero]; rfl⟩, H, aM List.Pairwise.nil⟩
  case round =>
    clear H
    obtain ⟨i, B0, B1, B2, B3, B4, e0, e1, e2, e3, e4, r1, r2, r3, r4, xs, F, rfl, rfl, HI, HT, HP, H, HP2⟩ := hrel
    by_cases hlt : i < qs.length
    · have d1 : decide ((i : Int) < (qs.length : Int)) = true := decide_eq_true (by omega)
      have i0 : 0 ≤ (i : Int) := by omega
      have i1 : (i : Int) < (qs.length : Int) := by omega
      have hw : IntKind.i64.wrap ((i : Int) + 1) = ((i + 1 : Nat) : Int) := (by have := HL.out.1; rw [i64wrap, w64 (by omega) (by omega)]; omega)
      have HN := aM (show r1.length ≤ 1048576 ∧ r2.length ≤ 1048576 ∧ r3.length ≤ 1048576 ∧ r4.length ≤ 1048576 from by have := HT.out; have := HM.out; omega)
      obtain ⟨ad, A5, c5, A6, c6, eA, x6, lw, hw5, lb_, hb6⟩ := el36 HQ.out i hlt hlt
      subst eA
      have HY := aM (HL.out.2 qs[i] (List.getElem_mem hlt))
      have hs2 : qs.take (i + 1) = qs.take i ++ [qs[i]] := by rw [List.take_add_one, List.getElem?_eq_getElem hlt, Option.toList_some]
      obtain ⟨q, hq⟩ : ∃ q, qs[i] = q := ⟨_, rfl⟩
      rw [hq] at x6 lw hw5 lb_ hb6 HY hs2
      have HS2 := aM hs2
      have HX := aM (And.intro hw5 (And.intro lw (And.intro hb6 lb_)))
      obtain ⟨s1, s2, s3, s4, s5, s6, s7, s8, s9, s10, hS⟩ : ∃ s1 s2 s3 s4 s5 s6 s7 s8 s9 s10, servedOf r1 r2 r3 r4 q.f0 q.f1 q.f2 q.f3 q.f4 q.f5 = (s1, s2, s3, s4, s5, s6, s7, s8, s9, s10) := ⟨_, _, _, _, _, _, _, _, _, _, rfl⟩
      have HV := aM (served_sizes hS)
      have HS := aM hS
      clear hS hq hs2 hw5 lw hb6 lb_
      have HX6 := aM x6
      clear x6
      go_upto_region 6 with fail
      refine rgI [6] 13 H.out ?_
      clear H
      intro w_ H
      have HL_ := aM (H.out.hasI [6])
      refine lO 0 21 0 hu HL_.out ?_
      refine pO 1 22 ?_
      refine pO 2 23 ?_
      refine pO 3 24 ?_
      refine tO 4 25 (fun w2 => Six36 w2 (ad.add (i * 6)) q A5 c5 A6 c6) (fun w2 s => HX6.out.old s.1) HL_.out ?_ (hv := fun w2 s0 => by unfold Six36 at s0; (try dsimp only at s0); obtain ⟨z0, z1, z2, z3, z4, z5⟩ := s0; go_simp <;> with_reducible rfl)
      clear HL_
      refine genL_ H (fun Lb hLb H => ?_)
      refine gen2_ (fun G a0 hA hG => ?_)
      obtain ⟨f, hf⟩ : ∃ f : Value → Value → Value → Value → Value → Value → Act, f = fun x26 x20 x27 x28 x9 x10 => ((((((a0.put (some 26) x26).put (some 20) x20).put (some 27) x27).put (some 28) x28).put (some 9) x9).put (some 10) x10) := ⟨_, rfl⟩
      have szp_01 : ∀ (D0 D1 D2 D3 D4 D5 : Option Addr) (y0 y1 y2 y3 y4 y5 : Nat) (g9 : Nat) (g10 : Nat) (w1 : World), Aside0 (Own w w1 (rb (.slice D0 s1.length y0) s1 :: rb (.slice D1 s2.length y1) s2 :: ri (.slice D2 s3.length y2) s3 :: ri (.slice D3 s4.length y3) s4 :: ri (.slice D4 s9.length y4) s9 :: rb (.slice D5 s10.length y5) s10 :: bx g9 #[.slice none 0 0, .slice none 0 0, .slice none 0 0, .slice none 0 0] 30 :: bx g10 #[.int .i64 0, .int .i64 0, .int .i64 0, .int .i64 0, .slice none 0 0, .slice none 0 0] 32 :: Lb)) → G 2 #[true, true, true, true, true, true, true, true, true, true, true, false, false] (f (.tuple #[.agg #[.slice D0 s1.length y0, .slice D1 s2.length y1, .slice D2 s3.length y2, .slice D3 s4.length y3], .agg #[.int .i64 s5, .int .i64 s6, .int .i64 s7, .int .i64 s8, .slice D4 s9.length y4, .slice D5 s10.length y5]]) (.tuple #[.agg #[.slice D0 s1.length y0, .slice D1 s2.length y1, .slice D2 s3.length y2, .slice D3 s4.length y3], .agg #[.int .i64 s5, .int .i64 s6, .int .i64 s7, .int .i64 s8, .slice D4 s9.length y4, .slice D5 s10.length y5]]) (.agg #[.slice D0 s1.length y0, .slice D1 s2.length y1, .slice D2 s3.length y2, .slice D3 s4.length y3]) (.agg #[.int .i64 s5, .int .i64 s6, .int .i64 s7, .int .i64 s8, .slice D4 s9.length y4, .slice D5 s10.length y5]) (.pointer (some ⟨g9, 0, none⟩)) (.pointer (some ⟨g10, 0, none⟩))) w1 := by
        intro D0 D1 D2 D3 D4 D5 y0 y1 y2 y3 y4 y5 g9 g10 w1 H
        subst hf hG hA hLb
        refine nm ?_
        refine stS 11 6 [14] H.out ?_
        clear H
        intro _ H
        refine stS 12 7 [14] H.out ?_
        clear H
        intro _ H
        refine done_ (by kernel_rfl) ?_
        go_wp2_with (first | ((with_reducible refine nD 29 ?_); refine ldO 29 6 H.out hu ?_; (try refine nmL ?_)) | ((with_reducible refine nS 6 ?_); refine stO 14 H.out ?_; clear H; intro _ H; (try refine nmL ?_)) | ((with_reducible refine nD 31 ?_); refine ldO 31 7 H.out hR ?_; (try refine nmL ?_)) | ((with_reducible refine nD 33 ?_); obtain ⟨zs, hz⟩ : ∃ zs : List (S32 × Ad), xs ++ [((⟨s5, s6, s7, s8, s9, s10⟩ : S32), (D4, y4, D5, y5))] = zs := ⟨_, rfl⟩; have HZ := aM hz; clear hz; refine ap1 13 33 H.out ((⟨s5, s6, s7, s8, s9, s10⟩ : S32), (D4, y4, D5, y5)) [.int .i64 s5, .int .i64 s6, .int .i64 s7, .int .i64 s8, .slice D4 s9.length y4, .slice D5 s10.length y5] rfl rfl Try.underlying47 info32 rfl (by decide) (by decide) (by have := HI.out; have := HT.out.2.2.2.2; have := HL.out.1; omega) ?_ HZ.out; clear H; intro B5 e5 _ F5 H; (try refine nmL ?_)))
        go_roundg (gk - 1)
        case measure => have := HI.out; omega
        case rel =>
          have hT := HT.out
          have hV := HV.out
          have h_ := H.out
          (try simp only [List.cons_append, List.nil_append, List.set_cons_zero, List.set_cons_succ, List.drop_succ_cons, List.drop_zero] at h_)
          have hg := Own.growG (A := [_, _, _, _]) h_ 10 HP2.out
          have hz2 : two itR zs = two itR xs ++ [ri (.slice D4 s9.length y4) s9, rb (.slice D5 s10.length y5) s10] := by rw [← HZ.out, two_snoc]; rfl
          rw [← hz2] at hg
          have h1 := hg.1
          (try simp only [List.cons_append, List.nil_append, List.set_cons_zero, List.set_cons_succ, List.drop_succ_cons, List.drop_zero] at h1)
          have hzl : zs.length = xs.length + 1 := by rw [← HZ.out, List.length_append]; rfl
          have hzm : appliedOf (l0, l1, l2, l3) (qs.take (i + 1)) = ((s1, s2, s3, s4), zs.map Prod.fst) := by rw [HS2.out, ← HZ.out, List.map_append]; exact applied_snoc HP.out HS.out
          exact ⟨i + 1, D0, D1, D2, D3, B5, y0, y1, y2, y3, e5, s1, s2, s3, s4, zs, F5, rfl, rfl, ⟨by have := HI.out; omega⟩, ⟨by omega, by omega, by omega, by omega, by omega⟩, ⟨hzm⟩, aM (h1.sub (by repeat (first | exact List.nil_sublist _ | apply List.Sublist.cons_cons | apply List.Sublist.cons))), aM hg.2⟩
      have szp_0 : ∀ (D0 D1 D2 D3 D4 D5 : Option Addr) (y0 y1 y2 y3 y4 y5 : Nat) (g9 : Nat) (w1 : World), Aside0 (Own w w1 (rb (.slice D0 s1.length y0) s1 :: rb (.slice D1 s2.length y1) s2 :: ri (.slice D2 s3.length y2) s3 :: ri (.slice D3 s4.length y3) s4 :: ri (.slice D4 s9.length y4) s9 :: rb (.slice D5 s10.length y5) s10 :: bx g9 #[.slice none 0 0, .slice none 0 0, .slice none 0 0, .slice none 0 0] 30 :: Lb)) → G 3 #[true, true, true, true, true, true, true, true, true, true, false, false, false] (f (.tuple #[.agg #[.slice D0 s1.length y0, .slice D1 s2.length y1, .slice D2 s3.length y2, .slice D3 s4.length y3], .agg #[.int .i64 s5, .int .i64 s6, .int .i64 s7, .int .i64 s8, .slice D4 s9.length y4, .slice D5 s10.length y5]]) (.tuple #[.agg #[.slice D0 s1.length y0, .slice D1 s2.length y1, .slice D2 s3.length y2, .slice D3 s4.length y3], .agg #[.int .i64 s5, .int .i64 s6, .int .i64 s7, .int .i64 s8, .slice D4 s9.length y4, .slice D5 s10.length y5]]) (.agg #[.slice D0 s1.length y0, .slice D1 s2.length y1, .slice D2 s3.length y2, .slice D3 s4.length y3]) (.agg #[.int .i64 s5, .int .i64 s6, .int .i64 s7, .int .i64 s8, .slice D4 s9.length y4, .slice D5 s10.length y5]) (.pointer (some ⟨g9, 0, none⟩)) u10) w1 := by
        intro D0 D1 D2 D3 D4 D5 y0 y1 y2 y3 y4 y5 g9 w1 H
        subst hf hG hA hLb
        refine nm ?_
        refine rdy [10] ?_
        refine AllReadyL.cons rfl (by simp) (fun K hK => alR 10 #[.int .i64 0, .int .i64 0, .int .i64 0, .int .i64 0, .slice none 0 0, .slice none 0 0] 32 H.out (fun g10 w2 H2 => hK.out _ _ (H2.out.hasI [14]) (fun _ => eqA (szp_01 D0 D1 D2 D3 D4 D5 y0 y1 y2 y3 y4 y5 g9 g10 w2 (aM (H2.out.ins 7)))))) ?_
        exact AllReadyL.nil
      have szp_1 : ∀ (D0 D1 D2 D3 D4 D5 : Option Addr) (y0 y1 y2 y3 y4 y5 : Nat) (g10 : Nat) (w1 : World), Aside0 (Own w w1 (rb (.slice D0 s1.length y0) s1 :: rb (.slice D1 s2.length y1) s2 :: ri (.slice D2 s3.length y2) s3 :: ri (.slice D3 s4.length y3) s4 :: ri (.slice D4 s9.length y4) s9 :: rb (.slice D5 s10.length y5) s10 :: bx g10 #[.int .i64 0, .int .i64 0, .int .i64 0, .int .i64 0, .slice none 0 0, .slice none 0 0] 32 :: Lb)) → G 3 #[true, true, true, true, true, true, true, true, true, false, true, false, false] (f (.tuple #[.agg #[.slice D0 s1.length y0, .slice D1 s2.length y1, .slice D2 s3.length y2, .slice D3 s4.length y3], .agg #[.int .i64 s5, .int .i64 s6, .int .i64 s7, .int .i64 s8, .slice D4 s9.length y4, .slice D5 s10.length y5]]) (.tuple #[.agg #[.slice D0 s1.length y0, .slice D1 s2.length y1, .slice D2 s3.length y2, .slice D3 s4.length y3], .agg #[.int .i64 s5, .int .i64 s6, .int .i64 s7, .int .i64 s8, .slice D4 s9.length y4, .slice D5 s10.length y5]]) (.agg #[.slice D0 s1.length y0, .slice D1 s2.length y1, .slice D2 s3.length y2, .slice D3 s4.length y3]) (.agg #[.int .i64 s5, .int .i64 s6, .int .i64 s7, .int .i64 s8, .slice D4 s9.length y4, .slice D5 s10.length y5]) u9 (.pointer (some ⟨g10, 0, none⟩))) w1 := by
        intro D0 D1 D2 D3 D4 D5 y0 y1 y2 y3 y4 y5 g10 w1 H
        subst hf hG hA hLb
        refine nm ?_
        refine rdy [9] ?_
        refine AllReadyL.cons rfl (by simp) (fun K hK => alR 9 #[.slice none 0 0, .slice none 0 0, .slice none 0 0, .slice none 0 0] 30 H.out (fun g9 w2 H2 => hK.out _ _ (H2.out.hasI [14]) (fun _ => eqA (szp_01 D0 D1 D2 D3 D4 D5 y0 y1 y2 y3 y4 y5 g9 g10 w2 (aM (H2.out.ins 6)))))) ?_
        exact AllReadyL.nil
      have szp_ : ∀ (D0 D1 D2 D3 D4 D5 : Option Addr) (y0 y1 y2 y3 y4 y5 : Nat) (w1 : World), Aside0 (Own w w1 (rb (.slice D0 s1.length y0) s1 :: rb (.slice D1 s2.length y1) s2 :: ri (.slice D2 s3.length y2) s3 :: ri (.slice D3 s4.length y3) s4 :: ri (.slice D4 s9.length y4) s9 :: rb (.slice D5 s10.length y5) s10 :: Lb)) → G 4 #[true, true, true, true, true, true, true, true, true, false, false, false, false] (f (.tuple #[.agg #[.slice D0 s1.length y0, .slice D1 s2.length y1, .slice D2 s3.length y2, .slice D3 s4.length y3], .agg #[.int .i64 s5, .int .i64 s6, .int .i64 s7, .int .i64 s8, .slice D4 s9.length y4, .slice D5 s10.length y5]]) (.tuple #[.agg #[.slice D0 s1.length y0, .slice D1 s2.length y1, .slice D2 s3.length y2, .slice D3 s4.length y3], .agg #[.int .i64 s5, .int .i64 s6, .int .i64 s7, .int .i64 s8, .slice D4 s9.length y4, .slice D5 s10.length y5]]) (.agg #[.slice D0 s1.length y0, .slice D1 s2.length y1, .slice D2 s3.length y2, .slice D3 s4.length y3]) (.agg #[.int .i64 s5, .int .i64 s6, .int .i64 s7, .int .i64 s8, .slice D4 s9.length y4, .slice D5 s10.length y5]) u9 u10) w1 := by
        intro D0 D1 D2 D3 D4 D5 y0 y1 y2 y3 y4 y5 w1 H
        subst hf hG hA hLb
        refine nm ?_
        refine rdy [9, 10] ?_
        refine AllReadyL.cons rfl (by simp) (fun K hK => alR 9 #[.slice none 0 0, .slice none 0 0, .slice none 0 0, .slice none 0 0] 30 H.out (fun g9 w2 H2 => hK.out _ _ (H2.out.hasI [13]) (fun _ => eqA (szp_0 D0 D1 D2 D3 D4 D5 y0 y1 y2 y3 y4 y5 g9 w2 (aM (H2.out.ins 6)))))) ?_
        refine AllReadyL.cons rfl (by simp) (fun K hK => alR 10 #[.int .i64 0, .int .i64 0, .int .i64 0, .int .i64 0, .slice none 0 0, .slice none 0 0] 32 H.out (fun g10 w2 H2 => hK.out _ _ (H2.out.hasI [13]) (fun _ => eqA (szp_1 D0 D1 D2 D3 D4 D5 y0 y1 y2 y3 y4 y5 g10 w2 (aM (H2.out.ins 6)))))) ?_
        exact AllReadyL.nil
      have sz1_01 : ∀ (D0 D1 D2 D3 D4 D5 : Option Addr) (y0 y1 y2 y3 y4 y5 : Nat) (g9 : Nat) (g10 : Nat) (w1 : World), Aside0 (Own w w1 (rb (.slice D0 s1.length y0) s1 :: rb (.slice D1 s2.length y1) s2 :: ri (.slice D2 s3.length y2) s3 :: ri (.slice D3 s4.length y3) s4 :: ri (.slice D4 s9.length y4) s9 :: rb (.slice D5 s10.length y5) s10 :: bx g9 #[.slice none 0 0, .slice none 0 0, .slice none 0 0, .slice none 0 0] 30 :: bx g10 #[.int .i64 0, .int .i64 0, .int .i64 0, .int .i64 0, .slice none 0 0, .slice none 0 0] 32 :: Lb)) → G 5 #[true, true, true, true, true, true, false, false, false, true, true, false, false] (f (.tuple #[.agg #[.slice D0 s1.length y0, .slice D1 s2.length y1, .slice D2 s3.length y2, .slice D3 s4.length y3], .agg #[.int .i64 s5, .int .i64 s6, .int .i64 s7, .int .i64 s8, .slice D4 s9.length y4, .slice D5 s10.length y5]]) u20 u27 u28 (.pointer (some ⟨g9, 0, none⟩)) (.pointer (some ⟨g10, 0, none⟩))) w1 := by
        intro D0 D1 D2 D3 D4 D5 y0 y1 y2 y3 y4 y5 g9 g10 w1 H
        subst hf hG hA hLb
        refine nm ?_
        refine pO 6 20 ?_
        refine pO 7 27 ?_
        refine pO 8 28 ?_
        exact eqA (szp_01 D0 D1 D2 D3 D4 D5 y0 y1 y2 y3 y4 y5 g9 g10 w1 H)
      have sz1_0 : ∀ (D0 D1 D2 D3 D4 D5 : Option Addr) (y0 y1 y2 y3 y4 y5 : Nat) (g9 : Nat) (w1 : World), Aside0 (Own w w1 (rb (.slice D0 s1.length y0) s1 :: rb (.slice D1 s2.length y1) s2 :: ri (.slice D2 s3.length y2) s3 :: ri (.slice D3 s4.length y3) s4 :: ri (.slice D4 s9.length y4) s9 :: rb (.slice D5 s10.length y5) s10 :: bx g9 #[.slice none 0 0, .slice none 0 0, .slice none 0 0, .slice none 0 0] 30 :: Lb)) → G 6 #[true, true, true, true, true, true, false, false, false, true, false, false, false] (f (.tuple #[.agg #[.slice D0 s1.length y0, .slice D1 s2.length y1, .slice D2 s3.length y2, .slice D3 s4.length y3], .agg #[.int .i64 s5, .int .i64 s6, .int .i64 s7, .int .i64 s8, .slice D4 s9.length y4, .slice D5 s10.length y5]]) u20 u27 u28 (.pointer (some ⟨g9, 0, none⟩)) u10) w1 := by
        intro D0 D1 D2 D3 D4 D5 y0 y1 y2 y3 y4 y5 g9 w1 H
        subst hf hG hA hLb
        refine nm ?_
        refine pO 6 20 ?_
        refine pO 7 27 ?_
        refine pO 8 28 ?_
        exact eqA (szp_0 D0 D1 D2 D3 D4 D5 y0 y1 y2 y3 y4 y5 g9 w1 H)
      have sz1_1 : ∀ (D0 D1 D2 D3 D4 D5 : Option Addr) (y0 y1 y2 y3 y4 y5 : Nat) (g10 : Nat) (w1 : World), Aside0 (Own w w1 (rb (.slice D0 s1.length y0) s1 :: rb (.slice D1 s2.length y1) s2 :: ri (.slice D2 s3.length y2) s3 :: ri (.slice D3 s4.length y3) s4 :: ri (.slice D4 s9.length y4) s9 :: rb (.slice D5 s10.length y5) s10 :: bx g10 #[.int .i64 0, .int .i64 0, .int .i64 0, .int .i64 0, .slice none 0 0, .slice none 0 0] 32 :: Lb)) → G 6 #[true, true, true, true, true, true, false, false, false, false, true, false, false] (f (.tuple #[.agg #[.slice D0 s1.length y0, .slice D1 s2.length y1, .slice D2 s3.length y2, .slice D3 s4.length y3], .agg #[.int .i64 s5, .int .i64 s6, .int .i64 s7, .int .i64 s8, .slice D4 s9.length y4, .slice D5 s10.length y5]]) u20 u27 u28 u9 (.pointer (some ⟨g10, 0, none⟩))) w1 := by
        intro D0 D1 D2 D3 D4 D5 y0 y1 y2 y3 y4 y5 g10 w1 H
        subst hf hG hA hLb
        refine nm ?_
        refine pO 6 20 ?_
        refine pO 7 27 ?_
        refine pO 8 28 ?_
        exact eqA (szp_1 D0 D1 D2 D3 D4 D5 y0 y1 y2 y3 y4 y5 g10 w1 H)
      have sz1_ : ∀ (D0 D1 D2 D3 D4 D5 : Option Addr) (y0 y1 y2 y3 y4 y5 : Nat) (w1 : World), Aside0 (Own w w1 (rb (.slice D0 s1.length y0) s1 :: rb (.slice D1 s2.length y1) s2 :: ri (.slice D2 s3.length y2) s3 :: ri (.slice D3 s4.length y3) s4 :: ri (.slice D4 s9.length y4) s9 :: rb (.slice D5 s10.length y5) s10 :: Lb)) → G 7 #[true, true, true, true, true, true, false, false, false, false, false, false, false] (f (.tuple #[.agg #[.slice D0 s1.length y0, .slice D1 s2.length y1, .slice D2 s3.length y2, .slice D3 s4.length y3], .agg #[.int .i64 s5, .int .i64 s6, .int .i64 s7, .int .i64 s8, .slice D4 s9.length y4, .slice D5 s10.length y5]]) u20 u27 u28 u9 u10) w1 := by
        intro D0 D1 D2 D3 D4 D5 y0 y1 y2 y3 y4 y5 w1 H
        subst hf hG hA hLb
        refine nm ?_
        refine pO 6 20 ?_
        refine pO 7 27 ?_
        refine pO 8 28 ?_
        exact eqA (szp_ D0 D1 D2 D3 D4 D5 y0 y1 y2 y3 y4 y5 w1 H)
      have sz0_01 : ∀ (g9 : Nat) (g10 : Nat) (w1 : World), Aside0 (Own w w1 (bx g9 #[.slice none 0 0, .slice none 0 0, .slice none 0 0, .slice none 0 0] 30 :: bx g10 #[.int .i64 0, .int .i64 0, .int .i64 0, .int .i64 0, .slice none 0 0, .slice none 0 0] 32 :: Lb)) → G 6 #[true, true, true, true, true, false, false, false, false, true, true, false, false] (f u26 u20 u27 u28 (.pointer (some ⟨g9, 0, none⟩)) (.pointer (some ⟨g10, 0, none⟩))) w1 := by
        intro g9 g10 w1 H
        subst hf hG hA hLb
        refine nm ?_
        refine rdy [5] ?_
        refine AllReadyL.cons rfl (by simp) (fun K hK => goR (some 26) Try.func7 (specServe_own (H.out.cb 2) (H.out.lb 2) (H.out.cb 3) (H.out.lb 3) (H.out.ci 4) (H.out.li 4) (H.out.ci 5) (H.out.li 5) (H.out.arg HX.out.1) HX.out.2.1 (H.out.arg HX.out.2.2.1) HX.out.2.2.2 HS.out HN.out.1 HN.out.2.1 HN.out.2.2.1 HN.out.2.2.2 HY.out.1 HY.out.2) (fun e w2 h_ => by obtain ⟨D0, D1, D2, D3, D4, D5, y0, y1, y2, y3, y4, y5, rfl, hO⟩ := h_; exact ⟨_, rfl, hK.out _ _ ((H.out.app hO).hasI [14]) (fun _ => eqA (sz1_01 D0 D1 D2 D3 D4 D5 y0 y1 y2 y3 y4 y5 g9 g10 w2 (aM (H.out.app hO))))⟩)) ?_
        exact AllReadyL.nil
      have sz0_0 : ∀ (g9 : Nat) (w1 : World), Aside0 (Own w w1 (bx g9 #[.slice none 0 0, .slice none 0 0, .slice none 0 0, .slice none 0 0] 30 :: Lb)) → G 7 #[true, true, true, true, true, false, false, false, false, true, false, false, false] (f u26 u20 u27 u28 (.pointer (some ⟨g9, 0, none⟩)) u10) w1 := by
        intro g9 w1 H
        subst hf hG hA hLb
        refine nm ?_
        refine rdy [5, 10] ?_
        refine AllReadyL.cons rfl (by simp) (fun K hK => goR (some 26) Try.func7 (specServe_own (H.out.cb 1) (H.out.lb 1) (H.out.cb 2) (H.out.lb 2) (H.out.ci 3) (H.out.li 3) (H.out.ci 4) (H.out.li 4) (H.out.arg HX.out.1) HX.out.2.1 (H.out.arg HX.out.2.2.1) HX.out.2.2.2 HS.out HN.out.1 HN.out.2.1 HN.out.2.2.1 HN.out.2.2.2 HY.out.1 HY.out.2) (fun e w2 h_ => by obtain ⟨D0, D1, D2, D3, D4, D5, y0, y1, y2, y3, y4, y5, rfl, hO⟩ := h_; exact ⟨_, rfl, hK.out _ _ ((H.out.app hO).hasI [13]) (fun _ => eqA (sz1_0 D0 D1 D2 D3 D4 D5 y0 y1 y2 y3 y4 y5 g9 w2 (aM (H.out.app hO))))⟩)) ?_
        refine AllReadyL.cons rfl (by simp) (fun K hK => alR 10 #[.int .i64 0, .int .i64 0, .int .i64 0, .int .i64 0, .slice none 0 0, .slice none 0 0] 32 H.out (fun g10 w2 H2 => hK.out _ _ (H2.out.hasI [8]) (fun _ => eqA (sz0_01 g9 g10 w2 (aM (H2.out.ins 1)))))) ?_
        exact AllReadyL.nil
      have sz0_1 : ∀ (g10 : Nat) (w1 : World), Aside0 (Own w w1 (bx g10 #[.int .i64 0, .int .i64 0, .int .i64 0, .int .i64 0, .slice none 0 0, .slice none 0 0] 32 :: Lb)) → G 7 #[true, true, true, true, true, false, false, false, false, false, true, false, false] (f u26 u20 u27 u28 u9 (.pointer (some ⟨g10, 0, none⟩))) w1 := by
        intro g10 w1 H
        subst hf hG hA hLb
        refine nm ?_
        refine rdy [5, 9] ?_
        refine AllReadyL.cons rfl (by simp) (fun K hK => goR (some 26) Try.func7 (specServe_own (H.out.cb 1) (H.out.lb 1) (H.out.cb 2) (H.out.lb 2) (H.out.ci 3) (H.out.li 3) (H.out.ci 4) (H.out.li 4) (H.out.arg HX.out.1) HX.out.2.1 (H.out.arg HX.out.2.2.1) HX.out.2.2.2 HS.out HN.out.1 HN.out.2.1 HN.out.2.2.1 HN.out.2.2.2 HY.out.1 HY.out.2) (fun e w2 h_ => by obtain ⟨D0, D1, D2, D3, D4, D5, y0, y1, y2, y3, y4, y5, rfl, hO⟩ := h_; exact ⟨_, rfl, hK.out _ _ ((H.out.app hO).hasI [13]) (fun _ => eqA (sz1_1 D0 D1 D2 D3 D4 D5 y0 y1 y2 y3 y4 y5 g10 w2 (aM (H.out.app hO))))⟩)) ?_
        refine AllReadyL.cons rfl (by simp) (fun K hK => alR 9 #[.slice none 0 0, .slice none 0 0, .slice none 0 0, .slice none 0 0] 30 H.out (fun g9 w2 H2 => hK.out _ _ (H2.out.hasI [8]) (fun _ => eqA (sz0_01 g9 g10 w2 (aM (H2.out.ins 0)))))) ?_
        exact AllReadyL.nil
      have sz0_ : ∀ (w1 : World), Aside0 (Own w w1 (Lb)) → G 8 #[true, true, true, true, true, false, false, false, false, false, false, false, false] (f u26 u20 u27 u28 u9 u10) w1 := by
        intro  w1 H
        subst hf hG hA hLb
        refine nm ?_
        refine rdy [5, 9, 10] ?_
        refine AllReadyL.cons rfl (by simp) (fun K hK => goR (some 26) Try.func7 (specServe_own (H.out.cb 0) (H.out.lb 0) (H.out.cb 1) (H.out.lb 1) (H.out.ci 2) (H.out.li 2) (H.out.ci 3) (H.out.li 3) (H.out.arg HX.out.1) HX.out.2.1 (H.out.arg HX.out.2.2.1) HX.out.2.2.2 HS.out HN.out.1 HN.out.2.1 HN.out.2.2.1 HN.out.2.2.2 HY.out.1 HY.out.2) (fun e w2 h_ => by obtain ⟨D0, D1, D2, D3, D4, D5, y0, y1, y2, y3, y4, y5, rfl, hO⟩ := h_; exact ⟨_, rfl, hK.out _ _ ((H.out.app hO).hasI [12]) (fun _ => eqA (sz1_ D0 D1 D2 D3 D4 D5 y0 y1 y2 y3 y4 y5 w2 (aM (H.out.app hO))))⟩)) ?_
        refine AllReadyL.cons rfl (by simp) (fun K hK => alR 9 #[.slice none 0 0, .slice none 0 0, .slice none 0 0, .slice none 0 0] 30 H.out (fun g9 w2 H2 => hK.out _ _ (H2.out.hasI [7]) (fun _ => eqA (sz0_0 g9 w2 (aM (H2.out.ins 0)))))) ?_
        refine AllReadyL.cons rfl (by simp) (fun K hK => alR 10 #[.int .i64 0, .int .i64 0, .int .i64 0, .int .i64 0, .slice none 0 0, .slice none 0 0] 32 H.out (fun g10 w2 H2 => hK.out _ _ (H2.out.hasI [7]) (fun _ => eqA (sz0_1 g10 w2 (aM (H2.out.ins 0)))))) ?_
        exact AllReadyL.nil
      subst hf hG hA
      exact eqA (sz0_ w_ H)
      
    · have d1 : decide ((i : Int) < (qs.length : Int)) = false := decide_eq_false (by omega)
      have hi : qs.take i = qs := List.take_of_length_le (by omega)
      have hP := HP.out
      rw [hi, HA.out] at hP
      simp only [Prod.mk.injEq] at hP
      obtain ⟨⟨rfl, rfl, rfl, rfl⟩, hx⟩ := hP
      have HX := aM hx
      clear hi hx
      go_wp2_with (first | ((with_reducible refine nD 34 ?_); refine ldO 34 6 H.out hu ?_; (try refine nmL ?_)) | ((with_reducible refine nS 4 ?_); refine stO 7 H.out ?_; clear H; intro _ H; (try refine nmL ?_)))
      obtain ⟨hp, h1, hR_⟩ := H.out.unX 5 zzR
      refine bodyPost_ret (results_ct rfl _ _ g4 30 _ (0, 0) _ rfl (H.out.b 7) hu rfl (by kernel_rfl)) rfl ?_
      refine ⟨B0, B1, B2, B3, B4, e0, e1, e2, e3, e4, hp, F, two itR xs, congrArg (fun n => Ending.returned (.tuple #[.agg _, .slice B4 n e4])) (by rw [HX.out, List.length_map]), ?_, h1.sub (by repeat (first | exact List.nil_sublist _ | apply List.Sublist.cons_cons | apply List.Sublist.cons))⟩
      rw [HX.out]
      exact flR HP2.out hR_ (fun _ _ _ _ => rfl)
end Go.Proofs.Ytiogbjbkfhhdhaa.G
