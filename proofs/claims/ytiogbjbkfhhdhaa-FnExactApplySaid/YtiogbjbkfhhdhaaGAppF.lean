/- impl.Apply, told by what it computes, the answers' rows apart. Condition: no row is longer than a machine's memory. -/
import Derived.Test.YtiogbjbkfhhdhaaGSrvO
import Derived.Test.YtiogbjbkfhhdhaaGToS
namespace Go.Proofs.Ytiogbjbkfhhdhaa.G
open Go.Proofs.Ytiogbjbkfhhdhaa.K Go Go.RowKit Go.Proofs.YtiogbjbkfhhdhaaW.PrintWords Go.Proofs.YtiogbjbkfhhdhaaW.PrintLast Go.Proofs.YtiogbjbkfhhdhaaW.PrintMore Go.Proofs.Ytiogbjbkfhhdhaa.PlainC
set_option linter.unusedVariables false
set_option linter.unusedSimpArgs false
abbrev Dev := List Bool × List Bool × List Int × List Int
/-- What a device does with questions, one behind the other, and tells. -/
def appliedOf : Dev → List S36 → Dev × List S32
  | d, [] => (d, [])
  | d, q :: qs =>
    let s := servedOf d.1 d.2.1 d.2.2.1 d.2.2.2 q.f0 q.f1 q.f2 q.f3 q.f4 q.f5
    let r := appliedOf (s.1, s.2.1, s.2.2.1, s.2.2.2.1) qs
    (r.1, ⟨s.2.2.2.2.1, s.2.2.2.2.2.1, s.2.2.2.2.2.2.1, s.2.2.2.2.2.2.2.1, s.2.2.2.2.2.2.2.2.1, s.2.2.2.2.2.2.2.2.2⟩ :: r.2)
theorem applied_append : ∀ (d : Dev) (xs ys : List S36), appliedOf d (xs ++ ys) = ((appliedOf (appliedOf d xs).1 ys).1, (appliedOf d xs).2 ++ (appliedOf (appliedOf d xs).1 ys).2)
  | d, [], ys => rfl
  | d, q :: xs, ys => by
    simp only [List.cons_append, appliedOf]
    rw [applied_append _ xs ys]
theorem applied_snoc {d : Dev} {qs : List S36} {q : S36} {r1 r2 s1 s2 : List Bool} {r3 r4 s3 s4 : List Int} {ts : List S32} {s5 s6 s7 s8 : Int} {s9 : List Int} {s10 : List Bool} (h : appliedOf d qs = ((r1, r2, r3, r4), ts)) (hs : servedOf r1 r2 r3 r4 q.f0 q.f1 q.f2 q.f3 q.f4 q.f5 = (s1, s2, s3, s4, s5, s6, s7, s8, s9, s10)) :
    appliedOf d (qs ++ [q]) = ((s1, s2, s3, s4), ts ++ [⟨s5, s6, s7, s8, s9, s10⟩]) := by
  rw [applied_append, h]
  simp only [appliedOf, hs]
theorem applied_told : ∀ (d : Dev) (qs : List S36), (appliedOf d qs).2.length = qs.length
  | d, [] => rfl
  | d, q :: qs => by simp only [appliedOf, List.length_cons, applied_told _ qs]
theorem served_sizes {c i : List Bool} {h v : List Int} {k a n : Int} {w : List Int} {t : List Bool} {e : Int} {s1 s2 : List Bool} {s3 s4 : List Int} {s5 s6 s7 s8 : Int} {s9 : List Int} {s10 : List Bool} (hs : servedOf c i h v k a n w t e = (s1, s2, s3, s4, s5, s6, s7, s8, s9, s10)) : s1.length = c.length ∧ s2.length = i.length ∧ s3.length = h.length ∧ s4.length = v.length := by
  unfold servedOf at hs
  split at hs
  · split at hs
    · unfold doneOf at hs
      repeat' split at hs
      all_goals
        simp only [Prod.mk.injEq] at hs
        obtain ⟨rfl, rfl, rfl, rfl, rfl, rfl, rfl, rfl, rfl, rfl⟩ := hs
        simp [over_length]
    · simp only [Prod.mk.injEq] at hs
      obtain ⟨rfl, rfl, rfl, rfl, rfl, rfl, rfl, rfl, rfl, rfl⟩ := hs
      simp
  · split at hs
    all_goals
      simp only [Prod.mk.injEq] at hs
      obtain ⟨rfl, rfl, rfl, rfl, rfl, rfl, rfl, rfl, rfl, rfl⟩ := hs
      simp
theorem clone_own {w : World} {A0 A1 A2 A3 : Option Addr} {c0 c1 c2 c3 : Nat} {l0 l1 : List Bool} {l2 l3 : List Int} (h0 : Kd.C Kd.bool w A0 l0.length l0) (k0 : l0.length ≤ c0) (h1 : Kd.C Kd.bool w A1 l1.length l1) (k1 : l1.length ≤ c1) (h2 : Kd.C (Kd.int .i64) w A2 l2.length l2) (k2 : l2.length ≤ c2) (h3 : Kd.C (Kd.int .i64) w A3 l3.length l3) (k3 : l3.length ≤ c3) (m0 : l0.length ≤ 1048576) (m1 : l1.length ≤ 1048576) (m2 : l2.length ≤ 1048576) (m3 : l3.length ≤ 1048576) :
    Calls Try.prog 39 #[.agg #[.slice A0 l0.length c0, .slice A1 l1.length c1, .slice A2 l2.length c2, .slice A3 l3.length c3]] w fun e w' => ∃ (B0 B1 B2 B3 : Option Addr) (e0 e1 e2 e3 : Nat), e = .returned (.agg #[.slice B0 l0.length e0, .slice B1 l1.length e1, .slice B2 l2.length e2, .slice B3 l3.length e3]) ∧ Own w w' [rb (.slice B0 l0.length e0) l0, rb (.slice B1 l1.length e1) l1, ri (.slice B2 l2.length e2) l2, ri (.slice B3 l3.length e3) l3] := by
  refine (impl_cloneDevice.calls A0 c0 l0 A1 c1 l1 A2 c2 l2 A3 c3 l3 l0 l1 l2 l3 w h0 k0 h1 k1 h2 k2 h3 k3 (by simp only [impl_cloneDevice.f, clone_b l0 m0, clone_b l1 m1, clone_i l2 m2, clone_i l3 m3, Option.bind_some])).mono ?_
  rintro e w' ⟨v0, v1, v2, v3, rfl, o0, o1, o2, o3, hb⟩
  obtain ⟨B0, e0, rfl⟩ := Kd.R_slice o0
  obtain ⟨B1, e1, rfl⟩ := Kd.R_slice o1
  obtain ⟨B2, e2, rfl⟩ := Kd.R_slice o2
  obtain ⟨B3, e3, rfl⟩ := Kd.R_slice o3
  exact ⟨B0, B1, B2, B3, e0, e1, e2, e3, rfl, (Own.nil w).r4 hb (Kd.R_mono o0 (fun k hk => ⟨hk, trivial⟩)) (Kd.R_mono o1 (fun k hk => trivial)) (Kd.R_mono o2 (fun k hk => ⟨hk, trivial⟩)) (Kd.R_mono o3 (fun k hk => trivial))⟩
section
variable {α : Type} {d : Kd α} {e : Nat} {P : Program} {ops : Array Oper} {Q : Exit → Act → World → Prop} {o : Oper} {a : Act} {w0 w w1 : World} {L : List It} {rest : List Oper} {v : Value} {xs zs : List α} {F : Nat → Prop}
/-- One element is appended that has no rows of its own. -/
theorem ap1 (i : Nat) (N : Tmp) (H : Own w0 w L) (p : α) (cs : List Value) {t : TypeId} {z : Value} {bytes : Nat} (hi : L[i]? = some (ix d e v xs F) := by rfl) (hp : d.M w 0 (fun _ => False) p cs) (ht : P.underlying t = some (.slice e)) (hinfo : (P.info? e).map (fun i => (i.zero, i.size, i.bytes)) = some (some z, d.sz, bytes)) (hz : z.cells.size = d.sz) (hs0 : 0 < d.sz) (hb0 : 0 < bytes) (hl : (xs.length + 1) * bytes ≤ 140737488355328)
    (h : ∀ A' c' w1 F1, Aside0 (Own w0 w1 (L.set i (ix d e (.slice A' zs.length c') zs F1))) → wpList P ops Q rest (a.put (some N) (.slice A' zs.length c')) w1) (hzs : xs ++ [p] = zs) {s xo : Operand}
    (ho : o.op = .call { callee := .builtin .append, args := #[s, xo], argTypes := #[t, t] } := by rfl) (hs : a.eval s = v := by rfl) (hx : a.eval xo = .slice (some ⟨w.heap.size, 0, none⟩) 1 1 := by rfl) (hN : o.dst = some N := by rfl) (hg : o.guard = none := by rfl) : wpList P ops Q (o :: rest) a (w.alloc (.cells cs.toArray e)) := by
  subst hzs
  have hP : Kd.R d e w 0 F v xs := H.get i hi
  refine Kd.R_append d 0 hg s xo t e z bytes ho ht hinfo hz hs0 hb0 v xs p cs (fun k => F k ∨ False ∨ w.heap.size ≤ k) (fun _ => False) hs hx hp (fun k hk => hk.elim) (fun k hk => .inr (.inr hk)) (Kd.R_mono hP (fun k hk => .inl hk)) (H.below.mono (Nat.zero_le _)) (Nat.zero_le _) hl ?_
  intro v1 w1 hr hB hgr hat
  obtain ⟨A1, c1, rfl⟩ := Kd.R_slice hr
  rw [hN]
  exact h A1 c1 w1 _ (aM (H.ixGrown i hi (fun _ => False) (fun k hk => hk.elim) (fun _ _ _ _ _ hk => hk) hr hgr))
end
def ApplyPost (w : World) (r1 r2 : List Bool) (r3 r4 : List Int) (ts : List S32) (e : Ending) (w' : World) : Prop := ∃ (B0 B1 B2 B3 B4 : Option Addr) (e0 e1 e2 e3 e4 : Nat) (hp : Nat → Option Obj) (F : Nat → Prop) (N : List It), e = .returned (.tuple #[.agg #[.slice B0 r1.length e0, .slice B1 r2.length e1, .slice B2 r3.length e2, .slice B3 r4.length e3], .slice B4 ts.length e4]) ∧ FlR B4 ts hp F N ∧ Own w w' [rb (.slice B0 r1.length e0) r1, rb (.slice B1 r2.length e1) r2, ri (.slice B2 r3.length e2) r3, ri (.slice B3 r4.length e3) r4, grp N, pf hp F]
set_option maxHeartbeats 8000000 in
set_option maxRecDepth 100000 in
theorem apply_own {w : World} {A0 A1 A2 A3 A : Option Addr} {c0 c1 c2 c3 c : Nat} {l0 l1 : List Bool} {l2 l3 : List Int} {qs : List S36} {R1 R2 : List Bool} {R3 R4 : List Int} {TS : List S32} (hA : appliedOf (l0, l1, l2, l3) qs = ((R1, R2, R3, R4), TS)) (h0 : Kd.C Kd.bool w A0 l0.length l0) (k0 : l0.length ≤ c0) (h1 : Kd.C Kd.bool w A1 l1.length l1) (k1 : l1.length ≤ c1) (h2 : Kd.C (Kd.int .i64) w A2 l2.length l2) (k2 : l2.length ≤ c2) (h3 : Kd.C (Kd.int .i64) w A3 l3.length l3) (k3 : l3.length ≤ c3)
    (hq : Kd.C k36 w A qs.length qs) (m0 : l0.length ≤ 1048576) (m1 : l1.length ≤ 1048576) (m2 : l2.length ≤ 1048576) (m3 : l3.length ≤ 1048576) (mq : qs.length ≤ 1048576) (hm : ∀ q ∈ qs, q.f3.length ≤ 1048576 ∧ q.f4.length ≤ 1048576) :
    Calls Try.prog 22 #[.agg #[.slice A0 l0.length c0, .slice A1 l1.length c1, .slice A2 l2.length c2, .slice A3 l3.length c3], .slice A qs.length c] w (ApplyPost w R1 R2 R3 R4 TS) := by
  have hu := Try.underlying30
  have hq_ := Try.underlying36
  have hR := Try.underlying32
  have HC := aM (And.intro h0 (And.intro k0 (And.intro h1 (And.intro k1 (And.intro h2 (And.intro k2 (And.intro h3 k3)))))))
  have HM := aM (And.intro m0 (And.intro m1 (And.intro m2 m3)))
  have HL := aM (And.intro mq hm)
  have HQ := aM hq
  have HA := aM hA
  clear h0 k0 h1 k1 h2 k2 h3 k3 m0 m1 m2 m3 mq hm hq hA
  have H := aM (Own.nil w)
  go_enter Try.func22, Try.ntmps22
  go_wp2_with (first | ((with_reducible refine nD 2 ?_); refine bxO 2 H.out #[.slice A0 l0.length c0, .slice A1 l1.length c1, .slice A2 l2.length c2, .slice A3 l3.length c3] 30 ?_; clear H; intro g2 _ H; (try refine nmL ?_)) | ((with_reducible refine nD 4 ?_); refine bxO 4 H.out #[.slice none 0 0, .slice none 0 0, .slice none 0 0, .slice none 0 0] 30 ?_; clear H; intro g4 _ H; (try refine nmL ?_)) | ((with_reducible refine nD 12 ?_); refine ldO 12 1 H.out hu ?_; (try refine nmL ?_)) | ((with_reducible refine nD 13 ?_); refine gC 13 Try.func39 (clone_own (H.out.arg HC.out.1) HC.out.2.1 (H.out.arg HC.out.2.2.1) HC.out.2.2.2.1 (H.out.arg HC.out.2.2.2.2.1) HC.out.2.2.2.2.2.1 (H.out.arg HC.out.2.2.2.2.2.2.1) HC.out.2.2.2.2.2.2.2 HM.out.1 HM.out.2.1 HM.out.2.2.1 HM.out.2.2.2) ?_; rintro e w_ ⟨B0, B1, B2, B3, e0, e1, e2, e3, rfl, hO⟩; refine ⟨_, rfl, ?_⟩; replace H := aM (H.out.app hO); clear hO; (try refine nmL ?_)) | ((with_reducible refine nD 6 ?_); refine bxO 6 H.out #[.slice none 0 0, .slice none 0 0, .slice none 0 0, .slice none 0 0] 30 ?_; clear H; intro g6 _ H; (try refine nmL ?_)) | ((with_reducible refine nS 6 ?_); refine stO 0 H.out ?_; clear H; intro _ H; (try refine nmL ?_)) | ((with_reducible refine nD 14 ?_); refine litT kdR 32 14 H.out ?_; clear H; intro B4 e4 _ F H; (try refine nmL ?_)))
  have h_ := H.out.group (N := [])
  (try simp only [List.cons_append, List.nil_append, List.set_cons_zero, List.set_cons_succ, List.drop_succ_cons, List.drop_zero] at h_)
  replace H := aM (h_.perm ((List.perm_append_comm (l₁ := [_, _, _]) (l₂ := [_, _, _, _])).append_right [_, _]))
  clear h_
  go_loopg [7, 17] (qs.length + 1) (fun kq v7 v17 w' => ∃ (i : Nat) (B0 B1 B2 B3 B4 : Option Addr) (e0 e1 e2 e3 e4 : Nat) (r1 r2 : List Bool) (r3 r4 : List Int) (xs : List (S32 × Ad)) (F : Nat → Prop), v7 = .slice B4 xs.length e4 ∧ v17 = .int .i64 (i : Int) ∧ Aside0 (i ≤ qs.length ∧ kq + i = qs.length + 1) ∧ Aside0 (r1.length = l0.length ∧ r2.length = l1.length ∧ r3.length = l2.length ∧ r4.length = l3.length ∧ xs.length = i) ∧ Aside0 (appliedOf (l0, l1, l2, l3) (qs.take i) = ((r1, r2, r3, r4), xs.map Prod.fst)) ∧ Aside0 (Own w w' (rb (.slice B0 r1.length e0) r1 :: rb (.slice B1 r2.length e1) r2 :: ri (.slice B2 r3.length e2) r3 :: ri (.slice B3 r4.length e3) r4 :: grp (two itR xs) :: ix kdR 32 (.slice B4 xs.length e4) xs F :: bx g6 #[.slice B0 r1.length e0, .slice B1 r2.length e1, .slice B2 r3.length e2, .slice B3 r4.length e3] 30 :: bx g4 #[.slice none 0 0, .slice none 0 0, .slice none 0 0, .slice none 0 0] 30 :: bx g2 #[.slice A0 l0.length c0, .slice A1 l1.length c1, .slice A2 l2.length c2, .slice A3 l3.length c3] 30 :: [])) ∧ Aside0 (Apart (two itR xs)))
  case atStart => exact ⟨0, B0, B1, B2, B3, B4, e0, e1, e2, e3, e4, l0, l1, l2, l3, [], F, rfl, rfl, ⟨by omega⟩, ⟨rfl, rfl, rfl, rfl, rfl⟩, ⟨by rw [List.take_zero]; rfl⟩, H, aM List.Pairwise.nil⟩
  case round =>
    clear H
    obtain ⟨i, B0, B1, B2, B3, B4, e0, e1, e2, e3, e4, r1, r2, r3, r4, xs, F, rfl, rfl, HI, HT, HP, H, HP2⟩ := hrel
    by_cases hlt : i < qs.length
    · have d1 : decide ((i : Int) < (qs.length : Int)) = true := decide_eq_true (by omega)
      have i0 : 0 ≤ (i : Int) := by omega
      have i1 : (i : Int) < (qs.length : Int) := by omega
      have hw : IntKind.i64.wrap ((i : Int) + 1) = ((i + 1 : Nat) : Int) := (by have := HL.out.1; rw [i64wrap, w64 (by omega) (by omega)]; omega)
      have HN := aM (show r1.length ≤ 1048576 ∧ r2.length ≤ 1048576 ∧ r3.length ≤ 1048576 ∧ r4.length ≤ 1048576 from by have := HT.out; have := HM.out; omega)
      obtain ⟨ad, A5, c5, A6, c6, eA, x6, lw, hw5, lb_, hb6⟩ := el36 HQ.out i hlt hlt
      subst eA
      have HY := aM (HL.out.2 qs[i] (List.getElem_mem hlt))
      have hs2 : qs.take (i + 1) = qs.take i ++ [qs[i]] := by rw [List.take_add_one, List.getElem?_eq_getElem hlt, Option.toList_some]
      obtain ⟨q, hq⟩ : ∃ q, qs[i] = q := ⟨_, rfl⟩
      rw [hq] at x6 lw hw5 lb_ hb6 HY hs2
      have HS2 := aM hs2
      have HX := aM (And.intro hw5 (And.intro lw (And.intro hb6 lb_)))
      obtain ⟨s1, s2, s3, s4, s5, s6, s7, s8, s9, s10, hS⟩ : ∃ s1 s2 s3 s4 s5 s6 s7 s8 s9 s10, servedOf r1 r2 r3 r4 q.f0 q.f1 q.f2 q.f3 q.f4 q.f5 = (s1, s2, s3, s4, s5, s6, s7, s8, s9, s10) := ⟨_, _, _, _, _, _, _, _, _, _, rfl⟩
      have HV := aM (served_sizes hS)
      have HS := aM hS
      clear hS hq hs2 hw5 lw hb6 lb_
      have x7 := x6.old H.out.below
      clear x6
      obtain ⟨x0, x1, x2, x3, x4, x5⟩ := x7
      (try dsimp only at x0 x1 x2 x3 x4 x5)
      go_upto_region 5 with fail
      go_wp2_with (first | ((with_reducible refine nD 9 ?_); refine bxO 9 H.out #[.int .i64 0, .int .i64 0, .int .i64 0, .slice none 0 0, .slice none 0 0, .int .i64 0] 36 ?_; clear H; intro g9 _ H; (try refine nmL ?_)) | ((with_reducible refine nS 9 ?_); refine stO 0 H.out ?_; clear H; intro _ H; (try refine nmL ?_)) | ((with_reducible refine nD 22 ?_); refine ldO 22 7 H.out hu ?_; (try refine nmL ?_)) | ((with_reducible refine nD 23 ?_); refine ldO 23 0 H.out hq_ ?_; (try refine nmL ?_)) | ((with_reducible refine nD 24 ?_); refine gC 24 Try.func10 (serve_own HS.out (H.out.cb 1) (H.out.lb 1) (H.out.cb 2) (H.out.lb 2) (H.out.ci 3) (H.out.li 3) (H.out.ci 4) (H.out.li 4) (H.out.arg HX.out.1) HX.out.2.1 (H.out.arg HX.out.2.2.1) HX.out.2.2.2 HN.out.1 HN.out.2.1 HN.out.2.2.1 HN.out.2.2.2 HY.out.1 HY.out.2) ?_; rintro e w_ ⟨D0, D1, D2, D3, D4, D5, y0, y1, y2, y3, y4, y5, rfl, hO⟩; refine ⟨_, rfl, ?_⟩; replace H := aM (H.out.app hO); clear hO; (try refine nmL ?_)) | ((with_reducible refine nD 10 ?_); refine bxO 10 H.out #[.slice none 0 0, .slice none 0 0, .slice none 0 0, .slice none 0 0] 30 ?_; clear H; intro g10 _ H; (try refine nmL ?_)) | ((with_reducible refine nD 11 ?_); refine bxO 11 H.out #[.int .i64 0, .int .i64 0, .int .i64 0, .int .i64 0, .slice none 0 0, .slice none 0 0] 32 ?_; clear H; intro g11 _ H; (try refine nmL ?_)) | ((with_reducible refine nS 10 ?_); refine stO 1 H.out ?_; clear H; intro _ H; (try refine nmL ?_)) | ((with_reducible refine nS 11 ?_); refine stO 0 H.out ?_; clear H; intro _ H; (try refine nmL ?_)) | ((with_reducible refine nD 27 ?_); refine ldO 27 1 H.out hu ?_; (try refine nmL ?_)) | ((with_reducible refine nS 6 ?_); refine stO 15 H.out ?_; clear H; intro _ H; (try refine nmL ?_)) | ((with_reducible refine nD 29 ?_); refine ldO 29 0 H.out hR ?_; (try refine nmL ?_)) | ((with_reducible refine nD 31 ?_); obtain ⟨zs, hz⟩ : ∃ zs : List (S32 × Ad), xs ++ [((⟨s5, s6, s7, s8, s9, s10⟩ : S32), (D4, y4, D5, y5))] = zs := ⟨_, rfl⟩; have HZ := aM hz; clear hz; refine ap1 14 31 H.out ((⟨s5, s6, s7, s8, s9, s10⟩ : S32), (D4, y4, D5, y5)) [.int .i64 s5, .int .i64 s6, .int .i64 s7, .int .i64 s8, .slice D4 s9.length y4, .slice D5 s10.length y5] rfl rfl Try.underlying47 info32 rfl (by decide) (by decide) (by have := HI.out; have := HT.out.2.2.2.2; have := HL.out.1; omega) ?_ HZ.out; clear H; intro B5 e5 _ F5 H; (try refine nmL ?_)))
      go_roundg (gk - 1)
      case measure => have := HI.out; omega
      case rel =>
        have hT := HT.out
        have hV := HV.out
        have h_ := H.out
        (try simp only [List.cons_append, List.nil_append, List.set_cons_zero, List.set_cons_succ, List.drop_succ_cons, List.drop_zero] at h_)
        have hg := Own.growG (A := [_, _, _, _, _, _]) h_ 11 HP2.out
        have hz2 : two itR zs = two itR xs ++ [ri (.slice D4 s9.length y4) s9, rb (.slice D5 s10.length y5) s10] := by rw [← HZ.out, two_snoc]; rfl
        rw [← hz2] at hg
        have h1 := hg.1
        (try simp only [List.cons_append, List.nil_append, List.set_cons_zero, List.set_cons_succ, List.drop_succ_cons, List.drop_zero] at h1)
        have hzl : zs.length = xs.length + 1 := by rw [← HZ.out, List.length_append]; rfl
        have hzm : appliedOf (l0, l1, l2, l3) (qs.take (i + 1)) = ((s1, s2, s3, s4), zs.map Prod.fst) := by rw [HS2.out, ← HZ.out, List.map_append]; exact applied_snoc HP.out HS.out
        exact ⟨i + 1, D0, D1, D2, D3, B5, y0, y1, y2, y3, e5, s1, s2, s3, s4, zs, F5, rfl, rfl, ⟨by have := HI.out; omega⟩, ⟨by omega, by omega, by omega, by omega, by omega⟩, ⟨hzm⟩, aM (h1.sub (by repeat (first | exact List.nil_sublist _ | apply List.Sublist.cons_cons | apply List.Sublist.cons))), aM hg.2⟩
    · have d1 : decide ((i : Int) < (qs.length : Int)) = false := decide_eq_false (by omega)
      have hi : qs.take i = qs := List.take_of_length_le (by omega)
      have hP := HP.out
      rw [hi, HA.out] at hP
      simp only [Prod.mk.injEq] at hP
      obtain ⟨⟨rfl, rfl, rfl, rfl⟩, hx⟩ := hP
      have HX := aM hx
      clear hi hx
      go_wp2_with (first | ((with_reducible refine nD 33 ?_); refine ldO 33 6 H.out hu ?_; (try refine nmL ?_)) | ((with_reducible refine nS 4 ?_); refine stO 7 H.out ?_; clear H; intro _ H; (try refine nmL ?_)))
      obtain ⟨hp, h1, hR_⟩ := H.out.unX 5 zzR
      refine bodyPost_ret (results_ct rfl _ _ g4 30 _ (0, 0) _ rfl (H.out.b 7) hu rfl (by kernel_rfl)) rfl ?_
      refine ⟨B0, B1, B2, B3, B4, e0, e1, e2, e3, e4, hp, F, two itR xs, congrArg (fun n => Ending.returned (.tuple #[.agg _, .slice B4 n e4])) (by rw [HX.out, List.length_map]), ?_, h1.sub (by repeat (first | exact List.nil_sublist _ | apply List.Sublist.cons_cons | apply List.Sublist.cons))⟩
      rw [HX.out]
      exact flR HP2.out hR_ (fun _ _ _ _ => rfl)
end Go.Proofs.Ytiogbjbkfhhdhaa.G
