/- laws.toReqS: a row of questions made of one that came in. Condition: no row is longer than a machine's memory. -/
import Derived.Test.YtiogbjbkfhhdhaaGFl
namespace Go.Proofs.Ytiogbjbkfhhdhaa.G
open Go.Proofs.Ytiogbjbkfhhdhaa.K Go Go.RowKit Go.Proofs.YtiogbjbkfhhdhaaW.PrintWords Go.Proofs.YtiogbjbkfhhdhaaW.PrintLast Go.Proofs.YtiogbjbkfhhdhaaW.PrintMore Go.Proofs.Ytiogbjbkfhhdhaa.PlainC
set_option linter.unusedVariables false
set_option linter.unusedSimpArgs false
/-- A row of zero elements is made. -/
theorem mkX {α : Type} (d : Kd α) (e : Nat) {P : Program} {ops : Array Oper} {Q : Exit → Act → World → Prop} {o : Oper} {a : Act} {w0 w : World} {L : List It} {rest : List Oper} (N : Tmp) (n : Nat) (z0 : α) (h9 : n ≤ 1048576) (H : Own w0 w L) {t : TypeId} {z : Value} {bytes : Nat} (ht : P.underlying t = some (.slice e)) (hinfo : (P.info? e).map (fun i => (i.zero, i.size, i.bytes)) = some (some z, d.sz, bytes)) (hz : z.cells.size = d.sz) (hs0 : 0 < d.sz) (hb0 : 0 < bytes) (hb9 : bytes ≤ 1024) (hzero : d.M w 0 (fun _ => False) z0 z.cells.toList)
    (h : ∀ A c w1 F1, Aside0 (Own w0 w1 (ix d e (.slice A n c) (List.replicate n z0) F1 :: L)) → wpList P ops Q rest (a.put (some N) (.slice A n c)) w1) {x : Operand} (hN : o.dst = some N := by rfl) (ho : o.op = .makeSlice t x x := by rfl) (hx : a.eval x = .int .i64 (n : Int) := by rfl) (hg : o.guard = none := by rfl) : wpList P ops Q (o :: rest) a w :=
  wpList_step (fun K hK => by
    have hw : Region.wanted o (yielded ops a.tmps) = true := by simp [Region.wanted, hg]
    have hl : ((n : Int).toNat) * bytes ≤ 281474976710656 := by
      rw [Int.toNat_natCast]
      exact Nat.le_trans (Nat.mul_le_mul h9 hb9) (by decide)
    refine Kd.R_make_step (w0 := w) d 0 e hw hN t x x ho (n : Int) hx hx ht z bytes hinfo hz hs0 hb0 z0 (ok := fun k => w.heap.size ≤ k) (okp := fun _ => False) hzero (fun _ h => h.elim) (Nat.le_refl _) (by omega) hl (Below.refl _ _) (Nat.zero_le _) ?_
    intro v1 w1 hr hB hgr hat
    rw [Int.toNat_natCast] at hr
    obtain ⟨A1, c1, rfl⟩ := Kd.R_slice hr
    rw [hN]
    have e1 : (List.replicate n z0).length = n := List.length_replicate
    have h1 : Own w0 w1 (ix d e (.slice A1 (List.replicate n z0).length c1) (List.replicate n z0) (fun k => w.heap.size ≤ k ∧ k < w1.heap.size) :: L) := H.cons ((Below.refl w.heap.size w).grown hgr (Nat.le_refl _) (fun k hk => by cases hk)) (Kd.R_mono (Kd.R_bound hr) (fun k hk => ⟨hk.1, hk.2.2.1⟩)) (fun k hk => hk)
    rw [e1] at h1 ⊢
    exact hK _ _ (h A1 c1 w1 _ (aM h1)))
/-- A row told by its elements' cells is told by its block. -/
theorem Own.unX {α : Type} {c : α → List Value} {h6 : ∀ x, (c x).length = 6} {h1 : ∀ x, ∀ u ∈ c x, u.oneCell' = true} {w0 w : World} {L : List It} {e n cp : Nat} {A : Option Addr} {xs : List α} {F : Nat → Prop} (H : Own w0 w L) (i : Nat) (z : α) (hi : L[i]? = some (ix (kc c h6 h1) e (.slice A n cp) xs F) := by rfl) : ∃ hp, Own w0 w (L.set i (pf hp F)) ∧ RowAt A n e hp F (fun j m => ((c (xs.getD j z))[m]?).getD undef) :=
  ⟨_, H.toPf i hi, rowAt_kc (H.get i hi) z⟩
def to36 (q : S27) : S36 := ⟨q.f0, q.f1, q.f2, q.f3, q.f4, q.f5⟩
set_option maxHeartbeats 8000000 in
set_option maxRecDepth 100000 in
theorem toReqS_own {w : World} {A : Option Addr} {c : Nat} {qs : List S27} {us : List S36} (hus : qs.map to36 = us) (hq : Kd.C k27 w A qs.length qs) (hm : qs.length ≤ 1048576) (hl : ∀ q ∈ qs, q.f3.length ≤ 1048576 ∧ q.f4.length ≤ 1048576) :
    Calls Try.prog 21 #[.slice A qs.length c] w fun e w' => ∃ (B : Option Addr) (d : Nat) (hp : Nat → Option Obj) (F : Nat → Prop) (N : List It), e = .returned (.slice B us.length d) ∧ FlQ B us hp F N ∧ Own w w' [pf hp F, grp N] := by
  have hu := Try.underlying36
  have hu0 := Try.underlying27
  have HQ := aM hq
  have HM := aM hm
  have HL := aM hl
  have HU := aM hus
  have H := aM (Own.nil w)
  clear hq hm hl hus
  go_enter Try.func21, Try.ntmps21
  go_wp2_with ((with_reducible refine nD 7 ?_); refine mkX kdQ 36 7 qs.length zzQ HM.out H.out Try.underlying50 info36 rfl (by decide) (by decide) (by decide) rfl ?_; clear H; intro B d _ F H)
  obtain ⟨hp, h1, hR⟩ := H.out.unX 0 zzQ
  clear H
  have H := aM (show Own w _ [grp [], pf hp F] from h1.group (N := []))
  clear h1
  obtain ⟨f, hf⟩ : ∃ f : Nat → Nat → Value, (fun (j m : Nat) => ((cQ ((List.replicate qs.length zzQ).getD j zzQ))[m]?).getD undef) = f := ⟨_, rfl⟩
  rw [hf] at hR
  clear hf
  have HP := aM (show qs.length = 0 ∨ ∃ q, B = some ⟨q, 0, none⟩ ∧ PB hp F q 36 qs.length f from by
    rcases hR with h | ⟨q, cs, h1, h2, h3, h4⟩
    · exact .inl h
    · exact .inr ⟨q, h1, h2, cs, h3, h4⟩)
  clear hR
  go_loopg [4] (qs.length + 1) (fun kq v4 w' => ∃ (i : Nat) (hp : Nat → Option Obj) (xs : List (S36 × Ad)) (f : Nat → Nat → Value), v4 = .int .i64 (i : Int) ∧ Aside0 (i ≤ qs.length ∧ kq + i = qs.length + 1 ∧ xs.length = i ∧ xs.map Prod.fst = (qs.take i).map to36) ∧ Aside0 (Own w w' [grp (two itQ xs), pf hp F] ∧ Apart (two itQ xs)) ∧ Aside0 (qs.length = 0 ∨ ∃ q, B = some ⟨q, 0, none⟩ ∧ PB hp F q 36 qs.length f) ∧ Aside0 (∀ j, j < i → ∀ m, m < 6 → f j m = ((cQ (xs.getD j zzQ))[m]?).getD undef))
  case atStart => exact ⟨0, hp, [], f, rfl, ⟨by omega, by omega, rfl, by rw [List.take_zero]; rfl⟩, aM ⟨H.out, List.Pairwise.nil⟩, HP, aM (fun j hj => absurd hj (Nat.not_lt_zero _))⟩
  case round =>
    clear H HP
    obtain ⟨i, hp, xs, f, rfl, HI, H2, HP, HF0⟩ := hrel
    have H := aM H2.out.1
    have HA := aM H2.out.2
    clear H2
    by_cases hlt : i < qs.length
    · have d1 : decide ((i : Int) < (qs.length : Int)) = true := decide_eq_true (by omega)
      have i0 : 0 ≤ (i : Int) := by omega
      have i1 : (i : Int) < (qs.length : Int) := by omega
      have hw : IntKind.i64.wrap ((i : Int) + 1) = ((i + 1 : Nat) : Int) := (by have := HM.out; rw [i64wrap, w64 (by omega) (by omega)]; omega)
      obtain ⟨ad, A3, c3, A4, c4, eA, x6, l3, h3, l4, h4⟩ := el27 HQ.out i hlt hlt
      subst eA
      have hs : qs.take (i + 1) = qs.take i ++ [qs[i]] := by rw [List.take_add_one, List.getElem?_eq_getElem hlt, Option.toList_some]
      have HS := aM hs
      have HE := aM (HL.out qs[i] (List.getElem_mem hlt))
      obtain ⟨q, hq⟩ : ∃ q, qs[i] = q := ⟨_, rfl⟩
      rw [hq] at x6 l3 h3 l4 h4 HS HE
      clear hq hs
      obtain ⟨k, a, n, ws, bs, wat⟩ := q
      have HC := aM (And.intro h3 h4)
      have x7 := x6.old H.out.below
      clear l3 h3 l4 h4 x6
      obtain ⟨x0, x1, x2, x3, x4, x5⟩ := x7
      (try dsimp only at x0 x1 x2 x3 x4 x5)
      obtain ⟨q, hAq, hPB⟩ := HP.out.resolve_left (by omega)
      subst hAq
      have HPB := aM hPB
      clear hPB
      go_wp2_with (first | ((with_reducible refine nD 20 ?_); refine gC 20 Try.func9 (toReq_own (k := k) (a := a) (n := n) (wat := wat) (H.out.arg HC.out.1) (H.out.arg HC.out.2) HE.out.1 HE.out.2) ?_; rintro e w_ ⟨B0, B1, e0, e1, rfl, hO⟩; refine ⟨_, rfl, ?_⟩; replace H := aM (H.out.app hO); clear hO; (try refine nmL ?_)) | ((with_reducible refine nS 21 ?_); refine stP6 3 i (.int .i64 k) (.int .i64 a) (.int .i64 n) (.slice B0 ws.length e0) (.slice B1 bs.length e1) (.int .i64 wat) H.out rfl HPB.out hlt ?_; clear H HPB; intro w_ hp1 f1 H HF; (try refine nmL ?_)))
      go_roundg (gk - 1)
      case measure => have := HI.out; omega
      case rel =>
        have hI := HI.out
        have hg := Own.growG (A := []) H.out 0 HA.out
        refine ⟨i + 1, hp1, xs ++ [((⟨k, a, n, ws, bs, wat⟩ : S36), (B0, e0, B1, e1))], f1, rfl, ⟨by omega, by omega, by rw [List.length_append, hI.2.2.1]; rfl, by rw [List.map_append, HS.out, List.map_append, hI.2.2.2]; rfl⟩, aM ⟨?_, ?_⟩, aM (.inr ⟨q, rfl, HF.out.1⟩), aM (fun j hj m hm => ?_)⟩
        · rw [two_snoc]
          exact hg.1
        · rw [two_snoc]
          exact hg.2
        · by_cases e : j = i
          · subst e
            rw [HF.out.2.1 m, List.getD_eq_getElem?_getD, List.getElem?_append_right (by omega), hI.2.2.1, Nat.sub_self]
            rcases (show m = 0 ∨ m = 1 ∨ m = 2 ∨ m = 3 ∨ m = 4 ∨ m = 5 by omega) with rfl | rfl | rfl | rfl | rfl | rfl <;> rfl
          · rw [HF.out.2.2 j m e, HF0.out j (by omega) m hm, List.getD_eq_getElem?_getD, List.getD_eq_getElem?_getD, List.getElem?_append_left (by omega)]
    · have d1 : decide ((i : Int) < (qs.length : Int)) = false := decide_eq_false (by omega)
      have hI := HI.out
      have hi : i = qs.length := by omega
      have hus := HU.out
      have hx : xs.map Prod.fst = us := by rw [hI.2.2.2, List.take_of_length_le (by omega)]; exact hus
      have hl : us.length = qs.length := by rw [← hus, List.length_map]
      have hxl : xs.length = qs.length := by omega
      have HXX := aM (And.intro hx (And.intro hl hxl))
      clear hx hl hxl hus hI
      go_wp2
      go_ret
      have hx := HXX.out
      refine ⟨B, d, hp, F, two itQ xs, congrArg (fun n => Ending.returned (.slice B n d)) hx.2.1.symm, ?_, H.out.perm (List.Perm.swap _ _ _)⟩
      rw [← hx.1]
      refine flQ HA.out (f := f) ?_ (fun j hj => HF0.out j (by omega))
      rw [hx.2.2]
      rcases HP.out with h | ⟨q, h1, h2, cs, h3, h4⟩
      · exact .inl h
      · exact .inr ⟨q, cs, h1, h2, h3, h4⟩
end Go.Proofs.Ytiogbjbkfhhdhaa.G
