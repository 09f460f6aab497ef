/- What the exact laws ask their own helpers of rows of questions and answers that are only read. Condition: no row is longer than a machine's memory. -/
import Derived.Test.YtiogbjbkfhhdhaaGHelpD
import Derived.Test.YtiogbjbkfhhdhaaGLat
import Derived.Test.YtiogbjbkfhhdhaaGFlat
import Derived.Test.YtiogbjbkfhhdhaaGStru
namespace Go.Proofs.Ytiogbjbkfhhdhaa.G
open Go.Proofs.Ytiogbjbkfhhdhaa.K Go Go.RowKit Go.Proofs.YtiogbjbkfhhdhaaW.PrintWords Go.Proofs.YtiogbjbkfhhdhaaW.PrintLast Go.Proofs.YtiogbjbkfhhdhaaW.PrintMore Go.Proofs.Ytiogbjbkfhhdhaa.PlainC
set_option linter.unusedVariables false
set_option linter.unusedSimpArgs false
theorem cell_same {w w2 : World} {a : Addr} (h : w2.heap[a.block]? = w.heap[a.block]?) : w2.cell? a = w.cell? a := by
  unfold World.cell?
  rw [h]
/-- The cells of one element. -/
def Six27 (w : World) (p : Addr) (t : S27) (A3 : Option Addr) (c3 : Nat) (A4 : Option Addr) (c4 : Nat) : Prop := w.cell? p = some (.int .i64 t.f0) ∧ w.cell? ⟨p.block, p.off + 1, none⟩ = some (.int .i64 t.f1) ∧ w.cell? ⟨p.block, p.off + 2, none⟩ = some (.int .i64 t.f2) ∧ w.cell? ⟨p.block, p.off + 3, none⟩ = some (.slice A3 t.f3.length c3) ∧ w.cell? ⟨p.block, p.off + 4, none⟩ = some (.slice A4 t.f4.length c4) ∧ w.cell? ⟨p.block, p.off + 5, none⟩ = some (.int .i64 t.f5)
theorem Six27.same {w w2 : World} {p : Addr} {t : S27} {A3 A4 : Option Addr} {c3 c4 : Nat} (h : Six27 w p t A3 c3 A4 c4) (e : w2.heap[p.block]? = w.heap[p.block]?) : Six27 w2 p t A3 c3 A4 c4 := ⟨(cell_same e).trans h.1, (cell_same (a := ⟨p.block, p.off + 1, none⟩) e).trans h.2.1, (cell_same (a := ⟨p.block, p.off + 2, none⟩) e).trans h.2.2.1, (cell_same (a := ⟨p.block, p.off + 3, none⟩) e).trans h.2.2.2.1, (cell_same (a := ⟨p.block, p.off + 4, none⟩) e).trans h.2.2.2.2.1, (cell_same (a := ⟨p.block, p.off + 5, none⟩) e).trans h.2.2.2.2.2⟩
theorem Six27.old {w w2 : World} {p : Addr} {t : S27} {A3 A4 : Option Addr} {c3 c4 : Nat} (h : Six27 w p t A3 c3 A4 c4) (hb : Below w.heap.size w w2) : Six27 w2 p t A3 c3 A4 c4 := h.same (hb.block p.block (World.block_lt_of_cell? w _ h.1))
theorem rd27 {xs : List S27} {i : Nat} (h : i < xs.length) : rd_T27 xs (i : Int) = xs[i] := by simp [rd_T27, h]
theorem el27 {w : World} {A : Option Addr} {n : Nat} {xs : List S27} (h : Kd.C k27 w A n xs) (i : Nat) (hi : i < n) (hx : i < xs.length) : ∃ ad A3 c3 A4 c4, A = some ad ∧ Six27 w (ad.add (i * 6)) xs[i] A3 c3 A4 c4 ∧ xs[i].f3.length ≤ c3 ∧ (Kd.int .i64).C w A3 xs[i].f3.length xs[i].f3 ∧ xs[i].f4.length ≤ c4 ∧ Kd.bool.C w A4 xs[i].f4.length xs[i].f4 := by
  obtain ⟨ad, A3, c3, A4, c4, e, x0, x1, x2, x3, x4, x5, l3, h3, l4, h4⟩ := at_T27 h (i : Int) (by omega) (by omega)
  rw [rd27 hx] at x0 x1 x2 x3 x4 x5 l3 h3 l4 h4
  rw [Int.toNat_natCast] at x0 x1 x2 x3 x4 x5
  exact ⟨ad, A3, c3, A4, c4, e, ⟨x0, x1, x2, x3, x4, x5⟩, l3, h3, l4, h4⟩
/-- The cells of one element. -/
def Six36 (w : World) (p : Addr) (t : S36) (A3 : Option Addr) (c3 : Nat) (A4 : Option Addr) (c4 : Nat) : Prop := w.cell? p = some (.int .i64 t.f0) ∧ w.cell? ⟨p.block, p.off + 1, none⟩ = some (.int .i64 t.f1) ∧ w.cell? ⟨p.block, p.off + 2, none⟩ = some (.int .i64 t.f2) ∧ w.cell? ⟨p.block, p.off + 3, none⟩ = some (.slice A3 t.f3.length c3) ∧ w.cell? ⟨p.block, p.off + 4, none⟩ = some (.slice A4 t.f4.length c4) ∧ w.cell? ⟨p.block, p.off + 5, none⟩ = some (.int .i64 t.f5)
theorem Six36.same {w w2 : World} {p : Addr} {t : S36} {A3 A4 : Option Addr} {c3 c4 : Nat} (h : Six36 w p t A3 c3 A4 c4) (e : w2.heap[p.block]? = w.heap[p.block]?) : Six36 w2 p t A3 c3 A4 c4 := ⟨(cell_same e).trans h.1, (cell_same (a := ⟨p.block, p.off + 1, none⟩) e).trans h.2.1, (cell_same (a := ⟨p.block, p.off + 2, none⟩) e).trans h.2.2.1, (cell_same (a := ⟨p.block, p.off + 3, none⟩) e).trans h.2.2.2.1, (cell_same (a := ⟨p.block, p.off + 4, none⟩) e).trans h.2.2.2.2.1, (cell_same (a := ⟨p.block, p.off + 5, none⟩) e).trans h.2.2.2.2.2⟩
theorem Six36.old {w w2 : World} {p : Addr} {t : S36} {A3 A4 : Option Addr} {c3 c4 : Nat} (h : Six36 w p t A3 c3 A4 c4) (hb : Below w.heap.size w w2) : Six36 w2 p t A3 c3 A4 c4 := h.same (hb.block p.block (World.block_lt_of_cell? w _ h.1))
theorem rd36 {xs : List S36} {i : Nat} (h : i < xs.length) : rd_T36 xs (i : Int) = xs[i] := by simp [rd_T36, h]
theorem el36 {w : World} {A : Option Addr} {n : Nat} {xs : List S36} (h : Kd.C k36 w A n xs) (i : Nat) (hi : i < n) (hx : i < xs.length) : ∃ ad A3 c3 A4 c4, A = some ad ∧ Six36 w (ad.add (i * 6)) xs[i] A3 c3 A4 c4 ∧ xs[i].f3.length ≤ c3 ∧ (Kd.int .i64).C w A3 xs[i].f3.length xs[i].f3 ∧ xs[i].f4.length ≤ c4 ∧ Kd.bool.C w A4 xs[i].f4.length xs[i].f4 := by
  obtain ⟨ad, A3, c3, A4, c4, e, x0, x1, x2, x3, x4, x5, l3, h3, l4, h4⟩ := at_T36 h (i : Int) (by omega) (by omega)
  rw [rd36 hx] at x0 x1 x2 x3 x4 x5 l3 h3 l4 h4
  rw [Int.toNat_natCast] at x0 x1 x2 x3 x4 x5
  exact ⟨ad, A3, c3, A4, c4, e, ⟨x0, x1, x2, x3, x4, x5⟩, l3, h3, l4, h4⟩
/-- The cells of one element. -/
def Six32 (w : World) (p : Addr) (t : S32) (A4 : Option Addr) (c4 : Nat) (A5 : Option Addr) (c5 : Nat) : Prop := w.cell? p = some (.int .i64 t.f0) ∧ w.cell? ⟨p.block, p.off + 1, none⟩ = some (.int .i64 t.f1) ∧ w.cell? ⟨p.block, p.off + 2, none⟩ = some (.int .i64 t.f2) ∧ w.cell? ⟨p.block, p.off + 3, none⟩ = some (.int .i64 t.f3) ∧ w.cell? ⟨p.block, p.off + 4, none⟩ = some (.slice A4 t.f4.length c4) ∧ w.cell? ⟨p.block, p.off + 5, none⟩ = some (.slice A5 t.f5.length c5)
theorem Six32.same {w w2 : World} {p : Addr} {t : S32} {A4 A5 : Option Addr} {c4 c5 : Nat} (h : Six32 w p t A4 c4 A5 c5) (e : w2.heap[p.block]? = w.heap[p.block]?) : Six32 w2 p t A4 c4 A5 c5 := ⟨(cell_same e).trans h.1, (cell_same (a := ⟨p.block, p.off + 1, none⟩) e).trans h.2.1, (cell_same (a := ⟨p.block, p.off + 2, none⟩) e).trans h.2.2.1, (cell_same (a := ⟨p.block, p.off + 3, none⟩) e).trans h.2.2.2.1, (cell_same (a := ⟨p.block, p.off + 4, none⟩) e).trans h.2.2.2.2.1, (cell_same (a := ⟨p.block, p.off + 5, none⟩) e).trans h.2.2.2.2.2⟩
theorem Six32.old {w w2 : World} {p : Addr} {t : S32} {A4 A5 : Option Addr} {c4 c5 : Nat} (h : Six32 w p t A4 c4 A5 c5) (hb : Below w.heap.size w w2) : Six32 w2 p t A4 c4 A5 c5 := h.same (hb.block p.block (World.block_lt_of_cell? w _ h.1))
theorem rd32 {xs : List S32} {i : Nat} (h : i < xs.length) : rd_T32 xs (i : Int) = xs[i] := by simp [rd_T32, h]
theorem el32 {w : World} {A : Option Addr} {n : Nat} {xs : List S32} (h : Kd.C k32 w A n xs) (i : Nat) (hi : i < n) (hx : i < xs.length) : ∃ ad A4 c4 A5 c5, A = some ad ∧ Six32 w (ad.add (i * 6)) xs[i] A4 c4 A5 c5 ∧ xs[i].f4.length ≤ c4 ∧ (Kd.int .i64).C w A4 xs[i].f4.length xs[i].f4 ∧ xs[i].f5.length ≤ c5 ∧ Kd.bool.C w A5 xs[i].f5.length xs[i].f5 := by
  obtain ⟨ad, A3, c3, A4, c4, e, x0, x1, x2, x3, x4, x5, l3, h3, l4, h4⟩ := at_T32 h (i : Int) (by omega) (by omega)
  rw [rd32 hx] at x0 x1 x2 x3 x4 x5 l3 h3 l4 h4
  rw [Int.toNat_natCast] at x0 x1 x2 x3 x4 x5
  exact ⟨ad, A3, c3, A4, c4, e, ⟨x0, x1, x2, x3, x4, x5⟩, l3, h3, l4, h4⟩
set_option maxHeartbeats 4000000 in
set_option maxRecDepth 100000 in
theorem szReqS_own {w : World} {A : Option Addr} {c : Nat} {qs : List S27} (hq : Kd.C k27 w A qs.length qs) {left : Int} (p0 : 0 ≤ left) (p1 : left ≤ 1048576) : Calls Try.prog 19 #[.slice A qs.length c, .int .i64 left] w fun e w' => ∃ r : Int, e = .returned (.int .i64 r) ∧ r ≤ left ∧ (0 ≤ r → qs.length ≤ 1048576 ∧ ∀ q ∈ qs, q.f3.length ≤ 1048576 ∧ q.f4.length ≤ 1048576) ∧ Below w.heap.size w w' := by
  have hn := Kd.C_max hq
  have HQ := aM hq
  have HP := aM (And.intro p0 p1)
  have H := aM (Own.nil w)
  clear hq
  have hw0 : IntKind.i64.wrap (left - (qs.length : Int)) = left - (qs.length : Int) := by rw [i64wrap, w64 (by omega) (by omega)]
  go_enter Try.func19, Try.ntmps19
  by_cases hr : left - (qs.length : Int) < 0
  · have d0 : decide (left - (qs.length : Int) < 0) = true := decide_eq_true hr
    go_wp2
    go_ret
    exact ⟨-1, rfl, by omega, fun h => by omega, H.out.below⟩
  have d0 : decide (left - (qs.length : Int) < 0) = false := decide_eq_false hr
  have HM := aM (show qs.length ≤ 1048576 from by omega)
  clear hn p0 p1
  go_wp2
  go_loopg [1, 5] (qs.length + 1) (fun kq v1 v5 w' => ∃ (i : Nat) (x : Int), v1 = .int .i64 x ∧ v5 = .int .i64 (i : Int) ∧ Aside0 (i ≤ qs.length ∧ kq + i = qs.length + 1 ∧ 0 ≤ x ∧ x ≤ left) ∧ Aside0 (∀ q ∈ qs.take i, q.f3.length ≤ 1048576 ∧ q.f4.length ≤ 1048576) ∧ Aside0 (Own w w' []))
  case atStart => exact ⟨0, _, rfl, rfl, ⟨by omega⟩, ⟨fun q hq => by rw [List.take_zero] at hq; cases hq⟩, H⟩
  case round =>
    clear H hr
    obtain ⟨i, x, rfl, rfl, HI, HA, H⟩ := hrel
    by_cases hlt : i < qs.length
    · skip
      have d1 : decide ((i : Int) < (qs.length : Int)) = true := decide_eq_true (by omega)
      have i0 : 0 ≤ (i : Int) := by omega
      have i1 : (i : Int) < (qs.length : Int) := by omega
      have hw : IntKind.i64.wrap ((i : Int) + 1) = ((i + 1 : Nat) : Int) := (by have := HM.out; rw [i64wrap, w64 (by omega) (by omega)]; omega)
      obtain ⟨ad, A3, c3, A4, c4, eA, x6, l3, h3, l4, h4⟩ := el27 HQ.out i hlt hlt
      subst eA
      have hs : qs.take (i + 1) = qs.take i ++ [qs[i]] := by rw [List.take_add_one, List.getElem?_eq_getElem hlt, Option.toList_some]
      have HS := aM hs
      obtain ⟨q, hq⟩ : ∃ q, qs[i] = q := ⟨_, rfl⟩
      rw [hq] at x6 l3 h3 l4 h4 HS
      clear hq hs
      obtain ⟨k, a, n, ws, bs, wat⟩ := q
      have HX := aM (And.intro (Kd.C_max h3) (Kd.C_max h4))
      have x7 := x6.old H.out.below
      clear l3 h3 l4 h4 x6
      obtain ⟨x0, x1, x2, x3, x4, x5⟩ := x7
      (try dsimp only at x0 x1 x2 x3 x4 x5)
      go_upto_region 8 with ((with_reducible refine nD 23 ?_); refine gC 23 Try.func6 (szReq_own (left := x) (n0 := ws.length) (n1 := bs.length) HX.out.1 HX.out.2 HI.out.2.2.1 (by have := HI.out; have := HP.out; omega)) ?_; rintro e w_ ⟨y, rfl, ya, yb, hO⟩; refine ⟨_, rfl, ?_⟩; replace H := aM (H.out.step hO); clear hO; have HY := aM (And.intro ya yb); clear ya yb; (try refine nmL ?_))
      by_cases hy : y < 0
      · have d2 : decide (y < 0) = true := decide_eq_true hy
        go_wp2
        go_ret
        exact ⟨-1, rfl, by have := HP.out; omega, fun h => by omega, H.out.below⟩
      have d2 : decide (y < 0) = false := decide_eq_false hy
      go_wp2
      go_roundg (gk - 1)
      case measure => have := HI.out; omega
      case rel =>
        have h1 := HY.out
        have h2 := HI.out
        have h3 := h1.1 (by omega)
        refine ⟨i + 1, y, rfl, rfl, ⟨by omega⟩, ⟨fun q hq => ?_⟩, H⟩
        rw [HS.out] at hq
        rcases List.mem_append.1 hq with hq | hq
        · exact HA.out q hq
        · rw [List.mem_singleton.1 hq]
          have := HP.out
          exact ⟨by show ws.length ≤ 1048576; omega, by show bs.length ≤ 1048576; omega⟩
    · have d1 : decide ((i : Int) < (qs.length : Int)) = false := decide_eq_false (by omega)
      have hA := HA.out
      rw [List.take_of_length_le (by omega)] at hA
      have HB := aM hA
      clear hA
      go_wp2
      go_ret
      exact ⟨x, rfl, by have := HI.out; omega, fun _ => ⟨HM.out, HB.out⟩, H.out.below⟩
set_option maxHeartbeats 4000000 in
set_option maxRecDepth 100000 in
theorem eqReqS_own {w : World} {A B : Option Addr} {c d : Nat} {qs : List S36} (hq : Kd.C k36 w A qs.length qs) (hb : Kd.C k36 w B qs.length qs) (hm : qs.length ≤ 1048576) (hl : ∀ q ∈ qs, q.f3.length ≤ 1048576 ∧ q.f4.length ≤ 1048576) : Calls Try.prog 24 #[.slice A qs.length c, .slice B qs.length d] w fun e w' => e = .returned (.bool true) ∧ Below w.heap.size w w' := by
  have HQ := aM (And.intro hq hb)
  have HM := aM hm
  have HL := aM hl
  have hu := Try.underlying36
  have H := aM (Own.nil w)
  clear hq hb hm hl
  go_enter Try.func24, Try.ntmps24
  go_wp2
  go_loopg [5] (qs.length + 1) (fun kq v5 w' => ∃ i : Nat, v5 = .int .i64 (i : Int) ∧ Aside0 (i ≤ qs.length ∧ kq + i = qs.length + 1) ∧ Aside0 (Own w w' []))
  case atStart => exact ⟨0, rfl, ⟨by omega⟩, H⟩
  case round =>
    clear H
    obtain ⟨i, rfl, HI, H⟩ := hrel
    by_cases hlt : i < qs.length
    · skip
      have d1 : decide ((i : Int) < (qs.length : Int)) = true := decide_eq_true (by omega)
      have i0 : 0 ≤ (i : Int) := by omega
      have i1 : (i : Int) < (qs.length : Int) := by omega
      have hw : IntKind.i64.wrap ((i : Int) + 1) = ((i + 1 : Nat) : Int) := (by have := HM.out; rw [i64wrap, w64 (by omega) (by omega)]; omega)
      obtain ⟨ad, A3, c3, A4, c4, eA, x6, _, h3, _, h4⟩ := el36 HQ.out.1 i hlt hlt
      subst eA
      obtain ⟨be, B3, d3, B4, d4, eB, y6, _, j3, _, j4⟩ := el36 HQ.out.2 i hlt hlt
      subst eB
      have HX := aM x6
      have HY := aM y6
      have HC := aM (And.intro h3 (And.intro j3 (And.intro h4 j4)))
      have HE := aM (HL.out qs[i] (List.getElem_mem hlt))
      clear x6 y6 h3 h4 j3 j4
      obtain ⟨q, hq⟩ : ∃ q, qs[i] = q := ⟨_, rfl⟩
      rw [hq] at HX HY HC HE
      clear hq
      go_upto_region 6 with fail
      refine rgI [] 10 H.out ?_
      clear H
      intro w_ H
      have HS := aM (H.out.hasI [])
      refine pO 0 17 ?_
      refine pO 1 18 ?_
      refine pO 2 19 ?_
      refine tO 3 20 (fun w2 => Six36 w2 (ad.add (i * 6)) q A3 c3 A4 c4) (fun w2 s => HX.out.old s.1) HS.out ?_ (hv := fun w2 s0 => by unfold Six36 at s0; (try dsimp only at s0); obtain ⟨y0, y1, y2, y3, y4, y5⟩ := s0; go_simp <;> with_reducible rfl)
      refine pO 4 21 ?_
      refine pO 5 22 ?_
      refine pO 6 23 ?_
      refine tO 7 24 (fun w2 => Six36 w2 (be.add (i * 6)) q B3 d3 B4 d4) (fun w2 s => HY.out.old s.1) HS.out ?_ (hv := fun w2 s0 => by unfold Six36 at s0; (try dsimp only at s0); obtain ⟨y0, y1, y2, y3, y4, y5⟩ := s0; go_simp <;> with_reducible rfl)
      clear HS
      refine clS 8 25 Try.func13 (eqReq_own (k := q.f0) (a := q.f1) (n := q.f2) (wat := q.f5) (H.out.arg HC.out.1) (H.out.arg HC.out.2.1) HE.out.1 (H.out.arg HC.out.2.2.1) (H.out.arg HC.out.2.2.2) HE.out.2) ?_
      rintro e w_2 ⟨rfl, hO⟩
      refine ⟨_, rfl, (H.out.step hO).hasI [], nm ?_⟩
      replace H := aM (H.out.step hO)
      clear hO
      refine pO 9 26 ?_
      refine done_ (by kernel_rfl) ?_
      go_wp2
      go_roundg (gk - 1)
      case measure => have := HI.out; omega
      case rel => exact ⟨i + 1, rfl, ⟨by have := HI.out; omega⟩, H⟩
    · have d1 : decide ((i : Int) < (qs.length : Int)) = false := decide_eq_false (by omega)
      go_wp2
      go_ret
      exact ⟨rfl, H.out.below⟩
set_option maxHeartbeats 4000000 in
set_option maxRecDepth 100000 in
theorem eqRespS_own {w : World} {A B : Option Addr} {c d : Nat} {qs : List S32} (hq : Kd.C k32 w A qs.length qs) (hb : Kd.C k32 w B qs.length qs) (hm : qs.length ≤ 1048576) (hl : ∀ q ∈ qs, q.f4.length ≤ 1048576 ∧ q.f5.length ≤ 1048576) : Calls Try.prog 23 #[.slice A qs.length c, .slice B qs.length d] w fun e w' => e = .returned (.bool true) ∧ Below w.heap.size w w' := by
  have HQ := aM (And.intro hq hb)
  have HM := aM hm
  have HL := aM hl
  have hu := Try.underlying32
  have H := aM (Own.nil w)
  clear hq hb hm hl
  go_enter Try.func23, Try.ntmps23
  go_wp2
  go_loopg [5] (qs.length + 1) (fun kq v5 w' => ∃ i : Nat, v5 = .int .i64 (i : Int) ∧ Aside0 (i ≤ qs.length ∧ kq + i = qs.length + 1) ∧ Aside0 (Own w w' []))
  case atStart => exact ⟨0, rfl, ⟨by omega⟩, H⟩
  case round =>
    clear H
    obtain ⟨i, rfl, HI, H⟩ := hrel
    by_cases hlt : i < qs.length
    · skip
      have d1 : decide ((i : Int) < (qs.length : Int)) = true := decide_eq_true (by omega)
      have i0 : 0 ≤ (i : Int) := by omega
      have i1 : (i : Int) < (qs.length : Int) := by omega
      have hw : IntKind.i64.wrap ((i : Int) + 1) = ((i + 1 : Nat) : Int) := (by have := HM.out; rw [i64wrap, w64 (by omega) (by omega)]; omega)
      obtain ⟨ad, A3, c3, A4, c4, eA, x6, _, h3, _, h4⟩ := el32 HQ.out.1 i hlt hlt
      subst eA
      obtain ⟨be, B3, d3, B4, d4, eB, y6, _, j3, _, j4⟩ := el32 HQ.out.2 i hlt hlt
      subst eB
      have HX := aM x6
      have HY := aM y6
      have HC := aM (And.intro h3 (And.intro j3 (And.intro h4 j4)))
      have HE := aM (HL.out qs[i] (List.getElem_mem hlt))
      clear x6 y6 h3 h4 j3 j4
      obtain ⟨q, hq⟩ : ∃ q, qs[i] = q := ⟨_, rfl⟩
      rw [hq] at HX HY HC HE
      clear hq
      go_upto_region 6 with fail
      refine rgI [] 10 H.out ?_
      clear H
      intro w_ H
      have HS := aM (H.out.hasI [])
      refine pO 0 17 ?_
      refine pO 1 18 ?_
      refine pO 2 19 ?_
      refine tO 3 20 (fun w2 => Six32 w2 (ad.add (i * 6)) q A3 c3 A4 c4) (fun w2 s => HX.out.old s.1) HS.out ?_ (hv := fun w2 s0 => by unfold Six32 at s0; (try dsimp only at s0); obtain ⟨y0, y1, y2, y3, y4, y5⟩ := s0; go_simp <;> with_reducible rfl)
      refine pO 4 21 ?_
      refine pO 5 22 ?_
      refine pO 6 23 ?_
      refine tO 7 24 (fun w2 => Six32 w2 (be.add (i * 6)) q B3 d3 B4 d4) (fun w2 s => HY.out.old s.1) HS.out ?_ (hv := fun w2 s0 => by unfold Six32 at s0; (try dsimp only at s0); obtain ⟨y0, y1, y2, y3, y4, y5⟩ := s0; go_simp <;> with_reducible rfl)
      clear HS
      refine clS 8 25 Try.func12 (eqResp_own (k := q.f0) (f := q.f1) (a := q.f2) (n := q.f3) (H.out.arg HC.out.1) (H.out.arg HC.out.2.1) HE.out.1 (H.out.arg HC.out.2.2.1) (H.out.arg HC.out.2.2.2) HE.out.2) ?_
      rintro e w_2 ⟨rfl, hO⟩
      refine ⟨_, rfl, (H.out.step hO).hasI [], nm ?_⟩
      replace H := aM (H.out.step hO)
      clear hO
      refine pO 9 26 ?_
      refine done_ (by kernel_rfl) ?_
      go_wp2
      go_roundg (gk - 1)
      case measure => have := HI.out; omega
      case rel => exact ⟨i + 1, rfl, ⟨by have := HI.out; omega⟩, H⟩
    · have d1 : decide ((i : Int) < (qs.length : Int)) = false := decide_eq_false (by omega)
      go_wp2
      go_ret
      exact ⟨rfl, H.out.below⟩
end Go.Proofs.Ytiogbjbkfhhdhaa.G
