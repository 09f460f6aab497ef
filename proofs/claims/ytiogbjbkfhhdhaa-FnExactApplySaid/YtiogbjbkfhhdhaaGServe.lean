/- What impl.Serve does, over what impl.does does. Condition: no row is longer than a machine's memory. -/
import Derived.Test.YtiogbjbkfhhdhaaGDoes
namespace Go.Proofs.Ytiogbjbkfhhdhaa.G
open Go.Proofs.Ytiogbjbkfhhdhaa.K Go Go.RowKit Go.Proofs.YtiogbjbkfhhdhaaW.PrintWords Go.Proofs.YtiogbjbkfhhdhaaW.PrintLast Go.Proofs.YtiogbjbkfhhdhaaW.PrintMore
set_option linter.unusedVariables false
set_option linter.unusedSimpArgs false

/-- How a call of Serve ends. -/
def ServePost (w : World) (r1 r2 : List Bool) (r3 r4 : List Int) (r5 r6 r7 r8 : Int) (r9 : List Int) (r10 : List Bool) : Ending → World → Prop := fun e w' =>
  ∃ v0_ v1_ v2_ v3_ v8_ v9_ : Value, e = .returned (.tuple #[.agg #[v0_, v1_, v2_, v3_], .agg #[.int .i64 r5, .int .i64 r6, .int .i64 r7, .int .i64 r8, v8_, v9_]]) ∧ Rows6 w' w.heap.size v0_ v1_ v2_ v3_ v8_ v9_ r1 r2 r3 r4 r9 r10 ∧ Below w.heap.size w w'

def impl_Serve.e (k : Nat) (c : List Bool × List Bool × List Int × List Int) (a1_0 : Int) (a1_1 : Int) (a1_2 : Int) (l1_3 : List Int) (l1_4 : List Bool) (a1_5 : Int) (z : Int) : Option (List Bool × List Bool × List Int × List Int × Int × Int × Int × Int × List Int × List Bool) := (impl_FaultOf.f k a1_0 a1_1 a1_2 l1_3 l1_4 a1_5 z).bind fun f => some (c.1, c.2.1, c.2.2.1, c.2.2.2, f.1, f.2.1, f.2.2.1, f.2.2.2.1, f.2.2.2.2.1, f.2.2.2.2.2)
def impl_Serve.d (k : Nat) (c : List Bool × List Bool × List Int × List Int) (a1_0 : Int) (a1_1 : Int) (a1_2 : Int) (l1_3 : List Int) (l1_4 : List Bool) (a1_5 : Int) : Option (List Bool × List Bool × List Int × List Int × Int × Int × Int × Int × List Int × List Bool) := (impl_does.f k c.1 c.2.1 c.2.2.1 c.2.2.2 a1_0 a1_1 a1_2 l1_3 l1_4 a1_5).bind fun z => some (z.1, c.2.1, z.2.1, c.2.2.2, a1_0, 0, z.2.2.1, z.2.2.2.1, z.2.2.2.2.1, z.2.2.2.2.2)
def impl_Serve.g (k : Nat) (l0_0 : List Bool) (l0_1 : List Bool) (l0_2 : List Int) (l0_3 : List Int) (c : List Bool × List Bool × List Int × List Int) (a1_0 : Int) (a1_1 : Int) (a1_2 : Int) (l1_3 : List Int) (l1_4 : List Bool) (a1_5 : Int) : Option (List Bool × List Bool × List Int × List Int × Int × Int × Int × Int × List Int × List Bool) := (impl_Spaces.f k a1_0 a1_1 a1_2 l1_3 l1_4 a1_5).bind fun sp => (impl_room.f l0_0 l0_1 l0_2 l0_3 sp.1).bind fun rm => if wrap64 (sp.2.1 + sp.2.2) > rm then impl_Serve.e k c a1_0 a1_1 a1_2 l1_3 l1_4 a1_5 2 else if a1_0 = 23 then ((impl_written.f a1_0 a1_1 a1_2 l1_3 l1_4 a1_5).bind fun wr => if wrap64 (a1_5 + wr) > rm then impl_Serve.e k c a1_0 a1_1 a1_2 l1_3 l1_4 a1_5 2 else impl_Serve.d k c a1_0 a1_1 a1_2 l1_3 l1_4 a1_5) else impl_Serve.d k c a1_0 a1_1 a1_2 l1_3 l1_4 a1_5
def impl_Serve.f (k : Nat) (l0_0 : List Bool) (l0_1 : List Bool) (l0_2 : List Int) (l0_3 : List Int) (a1_0 : Int) (a1_1 : Int) (a1_2 : Int) (l1_3 : List Int) (l1_4 : List Bool) (a1_5 : Int) : Option (List Bool × List Bool × List Int × List Int × Int × Int × Int × Int × List Int × List Bool) :=
  (impl_cloneDevice.f l0_0 l0_1 l0_2 l0_3).bind fun c => (impl_DeviceOk.f l0_0 l0_1 l0_2 l0_3).bind fun ok => if ok = true then ((impl_ReqOk.f k a1_0 a1_1 a1_2 l1_3 l1_4 a1_5).bind fun rq => if rq = true then impl_Serve.g k l0_0 l0_1 l0_2 l0_3 c a1_0 a1_1 a1_2 l1_3 l1_4 a1_5 else impl_Serve.e k c a1_0 a1_1 a1_2 l1_3 l1_4 a1_5 4) else impl_Serve.e k c a1_0 a1_1 a1_2 l1_3 l1_4 a1_5 4
theorem impl_Serve.mono : ∀ a0 a1 a2 a3 a4 a5 a6 a7 a8 a9 k, LeO (impl_Serve.f k a0 a1 a2 a3 a4 a5 a6 a7 a8 a9) (impl_Serve.f (k + 1) a0 a1 a2 a3 a4 a5 a6 a7 a8 a9) := by
  intro a0 a1 a2 a3 a4 a5 a6 a7 a8 a9 k
  unfold impl_Serve.f impl_Serve.g impl_Serve.d impl_Serve.e
  repeat' first
    | (with_reducible exact impl_ReqOk.mono _ _ _ _ _ _ _)
    | (with_reducible exact impl_FaultOf.mono _ _ _ _ _ _ _ _)
    | (with_reducible exact impl_Spaces.mono _ _ _ _ _ _ _)
    | (with_reducible exact impl_does.mono _ _ _ _ _ _ _ _ _ _ _)
    | (with_reducible exact LeO.refl _)
    | (with_reducible exact LeO.none _)
    | (with_reducible refine LeO.ite ?_ ?_)
    | (with_reducible refine LeO.bind ?_ (fun _ => ?_))
set_option maxHeartbeats 16000000 in
set_option maxRecDepth 100000 in
theorem impl_Serve.calls (k : Nat) (A0_0 : Option Addr) (c0_0 : Nat) (l0_0 : List Bool) (A0_1 : Option Addr) (c0_1 : Nat) (l0_1 : List Bool) (A0_2 : Option Addr) (c0_2 : Nat) (l0_2 : List Int) (A0_3 : Option Addr) (c0_3 : Nat) (l0_3 : List Int) (a1_0 : Int) (a1_1 : Int) (a1_2 : Int) (A1_3 : Option Addr) (c1_3 : Nat) (l1_3 : List Int) (A1_4 : Option Addr) (c1_4 : Nat) (l1_4 : List Bool) (a1_5 : Int) (r1 : List Bool) (r2 : List Bool) (r3 : List Int) (r4 : List Int) (r5 : Int) (r6 : Int) (r7 : Int) (r8 : Int) (r9 : List Int) (r10 : List Bool) (w : World) (hr0_0 : Kd.C Kd.bool w A0_0 l0_0.length l0_0) (hc0_0 : l0_0.length ≤ c0_0) (hr0_1 : Kd.C Kd.bool w A0_1 l0_1.length l0_1) (hc0_1 : l0_1.length ≤ c0_1) (hr0_2 : Kd.C (Kd.int .i64) w A0_2 l0_2.length l0_2) (hc0_2 : l0_2.length ≤ c0_2) (hr0_3 : Kd.C (Kd.int .i64) w A0_3 l0_3.length l0_3) (hc0_3 : l0_3.length ≤ c0_3) (hr1_3 : Kd.C (Kd.int .i64) w A1_3 l1_3.length l1_3) (hc1_3 : l1_3.length ≤ c1_3) (hr1_4 : Kd.C Kd.bool w A1_4 l1_4.length l1_4) (hc1_4 : l1_4.length ≤ c1_4) (h : impl_Serve.f k l0_0 l0_1 l0_2 l0_3 a1_0 a1_1 a1_2 l1_3 l1_4 a1_5 = some (r1, r2, r3, r4, r5, r6, r7, r8, r9, r10)) :
    Calls Try.prog 10 #[.agg #[.slice A0_0 l0_0.length c0_0, .slice A0_1 l0_1.length c0_1, .slice A0_2 l0_2.length c0_2, .slice A0_3 l0_3.length c0_3], .agg #[.int .i64 a1_0, .int .i64 a1_1, .int .i64 a1_2, .slice A1_3 l1_3.length c1_3, .slice A1_4 l1_4.length c1_4, .int .i64 a1_5]] w fun e w' => ∃ v0_ v1_ v2_ v3_ v8_ v9_ : Value, e = .returned (.tuple #[.agg #[v0_, v1_, v2_, v3_], .agg #[.int .i64 r5, .int .i64 r6, .int .i64 r7, .int .i64 r8, v8_, v9_]]) ∧ Kd.R Kd.bool 4 w' w.heap.size (fun k_ => some k_ ≠ (v1_ : Value).ownBlock ∧ some k_ ≠ (v9_ : Value).ownBlock) v0_ r1 ∧ Kd.R Kd.bool 4 w' w.heap.size (fun k_ => some k_ ≠ (v0_ : Value).ownBlock ∧ some k_ ≠ (v9_ : Value).ownBlock) v1_ r2 ∧ Kd.R (Kd.int .i64) 3 w' w.heap.size (fun k_ => some k_ ≠ (v3_ : Value).ownBlock ∧ some k_ ≠ (v8_ : Value).ownBlock) v2_ r3 ∧ Kd.R (Kd.int .i64) 3 w' w.heap.size (fun k_ => some k_ ≠ (v2_ : Value).ownBlock ∧ some k_ ≠ (v8_ : Value).ownBlock) v3_ r4 ∧ Kd.R (Kd.int .i64) 3 w' w.heap.size (fun k_ => some k_ ≠ (v2_ : Value).ownBlock ∧ some k_ ≠ (v3_ : Value).ownBlock) v8_ r9 ∧ Kd.R Kd.bool 4 w' w.heap.size (fun k_ => some k_ ≠ (v0_ : Value).ownBlock ∧ some k_ ≠ (v1_ : Value).ownBlock) v9_ r10 ∧ Below w.heap.size w w' := by
  refine Calls.mono (P := Try.prog) (R := ServePost w r1 r2 r3 r4 r5 r6 r7 r8 r9 r10) ?_ (fun e w' hh => ?_)
  rotate_left
  · obtain ⟨a0, a1, a2, a3, a8, a9, he, hr, hb⟩ := hh
    exact ⟨a0, a1, a2, a3, a8, a9, he, hr.1, hr.2.1, hr.2.2.1, hr.2.2.2.1, hr.2.2.2.2.1, hr.2.2.2.2.2, hb⟩
  have hu30 := Try.underlying30
  have hu36 := Try.underlying36
  have hu32 := Try.underlying32
  have Hr0_0 := aM hr0_0
  have Hc0_0 := aM hc0_0
  have Hr0_1 := aM hr0_1
  have Hc0_1 := aM hc0_1
  have Hr0_2 := aM hr0_2
  have Hc0_2 := aM hc0_2
  have Hr0_3 := aM hr0_3
  have Hc0_3 := aM hc0_3
  have Hr1_3 := aM hr1_3
  have Hc1_3 := aM hc1_3
  have Hr1_4 := aM hr1_4
  have Hc1_4 := aM hc1_4
  clear hr0_0 hc0_0 hr0_1 hc0_1 hr0_2 hc0_2 hr0_3 hc0_3 hr1_3 hc1_3 hr1_4 hc1_4
  unfold impl_Serve.f at h
  obtain ⟨⟨t0, t1, t2, t3⟩, hcl, h⟩ := Option.bind_eq_some_iff.mp h
  obtain ⟨ok, hok, h⟩ := Option.bind_eq_some_iff.mp h
  replace hcl := aM hcl
  replace hok := aM hok
  have HH := aM h
  clear h
  have HD := aM (DX.nil w)
  go_enter Try.func10, Try.ntmps10
  go_upto_region 2 with (first | ((with_reducible refine gate_dst (N := 2) rfl ?_); refine bxD 2 HD.out #[.slice A0_0 l0_0.length c0_0, .slice A0_1 l0_1.length c0_1, .slice A0_2 l0_2.length c0_2, .slice A0_3 l0_3.length c0_3] 30 ?_; clear HD; intro gd _ HD) | ((with_reducible refine gate_dst (N := 3) rfl ?_); refine bxD 3 HD.out #[.int .i64 a1_0, .int .i64 a1_1, .int .i64 a1_2, .slice A1_3 l1_3.length c1_3, .slice A1_4 l1_4.length c1_4, .int .i64 a1_5] 36 ?_; clear HD; intro gq _ HD) | ((with_reducible refine gate_dst (N := 4) rfl ?_); refine bxD 4 HD.out #[.slice none 0 0, .slice none 0 0, .slice none 0 0, .slice none 0 0] 30 ?_; clear HD; intro gd2 _ HD) | ((with_reducible refine gate_dst (N := 5) rfl ?_); refine bxD 5 HD.out #[.int .i64 0, .int .i64 0, .int .i64 0, .int .i64 0, .slice none 0 0, .slice none 0 0] 32 ?_; clear HD; intro gu _ HD) | ((with_reducible refine gate_dst (N := 11) rfl ?_); refine wpList_load_row rfl 30 (.tmp 2) rfl gd rfl 30 #[.slice A0_0 l0_0.length c0_0, .slice A0_1 l0_1.length c0_1, .slice A0_2 l0_2.length c0_2, .slice A0_3 l0_3.length c0_3] (0, 0) _ (HD.out.blk (by simp)) hu30 rfl (by kernel_rfl) ?_) | ((with_reducible refine gate_callee (f := 39) rfl ?_); refine gL (some 12) rfl rfl Try.func39 (by kernel_rfl) rfl #[.agg #[.slice A0_0 l0_0.length c0_0, .slice A0_1 l0_1.length c0_1, .slice A0_2 l0_2.length c0_2, .slice A0_3 l0_3.length c0_3]] rfl ?_; refine (impl_cloneDevice.calls A0_0 c0_0 l0_0 A0_1 c0_1 l0_1 A0_2 c0_2 l0_2 A0_3 c0_3 l0_3 t0 t1 t2 t3 _ (Kd.C_below Hr0_0.out HD.out.2.2.2.1) Hc0_0.out (Kd.C_below Hr0_1.out HD.out.2.2.2.1) Hc0_1.out (Kd.C_below Hr0_2.out HD.out.2.2.2.1) Hc0_2.out (Kd.C_below Hr0_3.out HD.out.2.2.2.1) Hc0_3.out hcl.out).mono ?_; rintro e w_ ⟨u0, u1, u2, u3, rfl, o0, o1, o2, o3, hb_⟩; refine ⟨_, rfl, ?_⟩; have HD1 := aM (HD.out.made ⟨o0, o1, o2, o3⟩ hb_); clear o0 o1 o2 o3 hb_; clear HD; have HD := HD1; clear HD1; obtain ⟨B0, e0, ee⟩ := Kd.R_slice HD.out.rows.1; subst ee; obtain ⟨B1, e1, ee⟩ := Kd.R_slice HD.out.rows.2.1; subst ee; obtain ⟨B2, e2, ee⟩ := Kd.R_slice HD.out.rows.2.2.1; subst ee; obtain ⟨B3, e3, ee⟩ := Kd.R_slice HD.out.rows.2.2.2; subst ee) | ((with_reducible refine gate_dst (N := 6) rfl ?_); refine bxD 6 HD.out #[.slice none 0 0, .slice none 0 0, .slice none 0 0, .slice none 0 0] 30 ?_; clear HD; intro go _ HD) | ((with_reducible refine gate_store (t := 30) (p := 6) rfl ?_); refine wpList_store_row rfl 30 (.tmp 6) (.tmp 12) rfl go #[.slice B0 t0.length e0, .slice B1 t1.length e1, .slice B2 t2.length e2, .slice B3 t3.length e3] rfl rfl 30 #[.slice none 0 0, .slice none 0 0, .slice none 0 0, .slice none 0 0] (HD.out.blk (cs := #[.slice none 0 0, .slice none 0 0, .slice none 0 0, .slice none 0 0]) (t := 30) (by simp)) (by kernel_rfl) rfl (by simp [Value.oneCell']) ?_; have HD1 := aM (HD.out.row [] [(gu, #[.int .i64 0, .int .i64 0, .int .i64 0, .int .i64 0, .slice none 0 0, .slice none 0 0], 32), (gd2, #[.slice none 0 0, .slice none 0 0, .slice none 0 0, .slice none 0 0], 30), (gq, #[.int .i64 a1_0, .int .i64 a1_1, .int .i64 a1_2, .slice A1_3 l1_3.length c1_3, .slice A1_4 l1_4.length c1_4, .int .i64 a1_5], 36), (gd, #[.slice A0_0 l0_0.length c0_0, .slice A0_1 l0_1.length c0_1, .slice A0_2 l0_2.length c0_2, .slice A0_3 l0_3.length c0_3], 30)] #[.slice B0 t0.length e0, .slice B1 t1.length e1, .slice B2 t2.length e2, .slice B3 t3.length e3]); clear HD; generalize World.setRow _ _ _ = w_ at HD1 ⊢; have HD := HD1; clear HD1))
  (try simp only [Act.put, List.setIfInBounds_toArray, List.set_cons_zero, List.set_cons_succ])
  go_cut [20] (fun v20 wc => ∃ b : Bool, v20 = .bool b ∧ Aside0 ((if b = true then impl_Serve.e k (t0, t1, t2, t3) a1_0 a1_1 a1_2 l1_3 l1_4 a1_5 4 else impl_Serve.g k l0_0 l0_1 l0_2 l0_3 (t0, t1, t2, t3) a1_0 a1_1 a1_2 l1_3 l1_4 a1_5) = some (r1, r2, r3, r4, r5, r6, r7, r8, r9, r10)) ∧ Aside0 (DX w w wc [(go, #[.slice B0 t0.length e0, .slice B1 t1.length e1, .slice B2 t2.length e2, .slice B3 t3.length e3], 30), (gu, #[.int .i64 0, .int .i64 0, .int .i64 0, .int .i64 0, .slice none 0 0, .slice none 0 0], 32), (gd2, #[.slice none 0 0, .slice none 0 0, .slice none 0 0, .slice none 0 0], 30), (gq, #[.int .i64 a1_0, .int .i64 a1_1, .int .i64 a1_2, .slice A1_3 l1_3.length c1_3, .slice A1_4 l1_4.length c1_4, .int .i64 a1_5], 36), (gd, #[.slice A0_0 l0_0.length c0_0, .slice A0_1 l0_1.length c0_1, .slice A0_2 l0_2.length c0_2, .slice A0_3 l0_3.length c0_3], 30)] (.slice B0 t0.length e0) (.slice B1 t1.length e1) (.slice B2 t2.length e2) (.slice B3 t3.length e3) t0 t1 t2 t3))
  case first =>
    have h := HH.out
    clear HH
    cases ok with
    | false =>
      go_wp2_with (first | ((with_reducible refine gate_dst (N := 13) rfl ?_); refine wpList_load_row rfl 30 (.tmp 2) rfl gd rfl 30 #[.slice A0_0 l0_0.length c0_0, .slice A0_1 l0_1.length c0_1, .slice A0_2 l0_2.length c0_2, .slice A0_3 l0_3.length c0_3] (0, 0) _ (HD.out.blk (by simp)) hu30 rfl (by kernel_rfl) ?_) | ((with_reducible refine gate_callee (f := 40) rfl ?_); refine gL (some 14) rfl rfl Try.func40 (by kernel_rfl) rfl #[.agg #[.slice A0_0 l0_0.length c0_0, .slice A0_1 l0_1.length c0_1, .slice A0_2 l0_2.length c0_2, .slice A0_3 l0_3.length c0_3]] rfl ?_; refine (impl_DeviceOk.calls A0_0 c0_0 l0_0 A0_1 c0_1 l0_1 A0_2 c0_2 l0_2 A0_3 c0_3 l0_3 false _ (Kd.C_below Hr0_0.out HD.out.2.2.2.1) Hc0_0.out (Kd.C_below Hr0_1.out HD.out.2.2.2.1) Hc0_1.out (Kd.C_below Hr0_2.out HD.out.2.2.2.1) Hc0_2.out (Kd.C_below Hr0_3.out HD.out.2.2.2.1) Hc0_3.out hok.out).mono ?_; rintro e w_ ⟨rfl, hb_⟩; refine ⟨_, rfl, ?_⟩; have HD1 := aM (HD.out.below hb_); clear hb_; clear HD; have HD := HD1; clear HD1))
      go_meet
      case rel => exact ⟨true, rfl, aM (by simpa using h), HD⟩
    | true =>
      rw [if_pos rfl] at h
      obtain ⟨rq, hrq, h⟩ := Option.bind_eq_some_iff.mp h
      replace hrq := aM hrq
      have HH := aM h
      clear h
      go_wp2_with (first | ((with_reducible refine gate_dst (N := 13) rfl ?_); refine wpList_load_row rfl 30 (.tmp 2) rfl gd rfl 30 #[.slice A0_0 l0_0.length c0_0, .slice A0_1 l0_1.length c0_1, .slice A0_2 l0_2.length c0_2, .slice A0_3 l0_3.length c0_3] (0, 0) _ (HD.out.blk (by simp)) hu30 rfl (by kernel_rfl) ?_) | ((with_reducible refine gate_callee (f := 40) rfl ?_); refine gL (some 14) rfl rfl Try.func40 (by kernel_rfl) rfl #[.agg #[.slice A0_0 l0_0.length c0_0, .slice A0_1 l0_1.length c0_1, .slice A0_2 l0_2.length c0_2, .slice A0_3 l0_3.length c0_3]] rfl ?_; refine (impl_DeviceOk.calls A0_0 c0_0 l0_0 A0_1 c0_1 l0_1 A0_2 c0_2 l0_2 A0_3 c0_3 l0_3 true _ (Kd.C_below Hr0_0.out HD.out.2.2.2.1) Hc0_0.out (Kd.C_below Hr0_1.out HD.out.2.2.2.1) Hc0_1.out (Kd.C_below Hr0_2.out HD.out.2.2.2.1) Hc0_2.out (Kd.C_below Hr0_3.out HD.out.2.2.2.1) Hc0_3.out hok.out).mono ?_; rintro e w_ ⟨rfl, hb_⟩; refine ⟨_, rfl, ?_⟩; have HD1 := aM (HD.out.below hb_); clear hb_; clear HD; have HD := HD1; clear HD1) | ((with_reducible refine gate_dst (N := 17) rfl ?_); (try (refine gate_guard (by rfl) ?_; dsimp only)); refine wpList_load_row rfl 36 (.tmp 3) rfl gq rfl 36 #[.int .i64 a1_0, .int .i64 a1_1, .int .i64 a1_2, .slice A1_3 l1_3.length c1_3, .slice A1_4 l1_4.length c1_4, .int .i64 a1_5] (0, 0) _ (HD.out.blk (by simp)) hu36 rfl (by kernel_rfl) ?_) | ((with_reducible refine gate_callee (f := 41) rfl ?_); (try (refine gate_guard (by rfl) ?_; dsimp only)); refine gL (some 18) rfl rfl Try.func41 (by kernel_rfl) rfl #[.agg #[.int .i64 a1_0, .int .i64 a1_1, .int .i64 a1_2, .slice A1_3 l1_3.length c1_3, .slice A1_4 l1_4.length c1_4, .int .i64 a1_5]] rfl ?_; refine (impl_ReqOk.calls k a1_0 a1_1 a1_2 A1_3 c1_3 l1_3 A1_4 c1_4 l1_4 a1_5 rq _ (Kd.C_below Hr1_3.out HD.out.2.2.2.1) Hc1_3.out (Kd.C_below Hr1_4.out HD.out.2.2.2.1) Hc1_4.out hrq.out).mono ?_; rintro e w_ ⟨rfl, hb_⟩; refine ⟨_, rfl, ?_⟩; have HD1 := aM (HD.out.below hb_); clear hb_; clear HD; have HD := HD1; clear HD1))
      go_meet
      case rel => exact ⟨!rq, rfl, aM (by have h := HH.out; cases rq <;> simpa using h), HD⟩
  case rest =>
    clear HH HD
    obtain ⟨b, rfl, HH, HD⟩ := hcut
    cases b with
    | true =>
      have h := HH.out
      clear HH
      rw [if_pos rfl] at h
      unfold impl_Serve.e at h
      obtain ⟨⟨f1, f2, f3, f4, f5, f6⟩, hfo, h⟩ := Option.bind_eq_some_iff.mp h
      simp only [Option.some.injEq, Prod.mk.injEq] at h
      obtain ⟨rfl, rfl, rfl, rfl, rfl, rfl, rfl, rfl, rfl, rfl⟩ := h
      replace hfo := aM hfo
      go_wp2
      refine start_ (n := 5) (S := fun w' => w'.heap[go]? = some (.cells #[.slice B0 t0.length e0, .slice B1 t1.length e1, .slice B2 t2.length e2, .slice B3 t3.length e3] 30 (0, 0)) ∧ w'.heap[gq]? = some (.cells #[.int .i64 a1_0, .int .i64 a1_1, .int .i64 a1_2, .slice A1_3 l1_3.length c1_3, .slice A1_4 l1_4.length c1_4, .int .i64 a1_5] 36 (0, 0))) (ds := []) (flg 0 5) (by kernel_rfl) rfl rfl ⟨HD.out.drew.blk (by simp), HD.out.drew.blk (by simp)⟩ (fun hHeld => ?_)
      have HD1 := aM HD.out.drew
      clear HD
      generalize World.drew _ = w5 at HD1 hHeld ⊢
      have HD := HD1
      clear HD1
      refine tkl (i := 0) (N := some 21) (flg 1 5) hHeld (fun _ s => s.1) hu30 ?_
      refine tkl (i := 1) (N := some 22) (flg 2 5) hHeld (fun _ s => s.2) hu36 ?_
      refine one_ (i := 2) (N := some 23) (flg 3 5) rfl rfl (by kernel_rfl) (by decide) (fun K hK => ?_)
      refine goes_ Try.func42 (by kernel_rfl) rfl #[.agg #[.int .i64 a1_0, .int .i64 a1_1, .int .i64 a1_2, .slice A1_3 l1_3.length c1_3, .slice A1_4 l1_4.length c1_4, .int .i64 a1_5], .int .i64 4] (by rfl) rfl rfl (by (try simp only [List.map_toArray, List.map_cons, List.map_nil]); first | done | rfl) ?_
      refine (impl_FaultOf.calls k a1_0 a1_1 a1_2 A1_3 c1_3 l1_3 A1_4 c1_4 l1_4 a1_5 4 f1 f2 f3 f4 f5 f6 _ (Kd.C_below Hr1_3.out HD.out.2.2.2.1) Hc1_3.out (Kd.C_below Hr1_4.out HD.out.2.2.2.1) Hc1_4.out hfo.out).mono ?_
      rintro e w6 ⟨v8, v9, rfl, o8, o9, hb_⟩
      refine ⟨_, rfl, ?_⟩
      have HLT := aM HD.out.lt
      have HSZ := aM HD.out.2.2.2.2.1
      have HD1 := aM (HD.out.below hb_)
      have H8 := aM o8
      have H9 := aM o9
      clear HD hb_ o8 o9
      have HD := HD1
      clear HD1
      obtain ⟨B8, e8, ee⟩ := Kd.R_slice H8.out
      subst ee
      obtain ⟨B9, e9, ee⟩ := Kd.R_slice H9.out
      subst ee
      refine hK.out _ _ ⟨HD.out.blk (by simp), HD.out.blk (by simp)⟩ (fun hHeld => ?_)
      clear hK K
      refine norm_ (a' := ?_) ?_ ?_
      rotate_left
      · show Act.put _ (some 23) _ = _
        simp only [Act.put, List.setIfInBounds_toArray, List.set_cons_zero, List.set_cons_succ, i64_w, i32_w]
        rfl
      refine one_ (i := 3) (N := none) (flg 4 5) rfl rfl (by kernel_rfl) (by decide) (fun K hK => ?_)
      refine store_ (by rfl) rfl rfl rfl rfl (HD.out.blk (g := gd2) (cs := #[.slice none 0 0, .slice none 0 0, .slice none 0 0, .slice none 0 0]) (t := 30) (by simp)) (by kernel_rfl) rfl (by simp [Value.oneCell']) ?_
      have H81 := aM (R_row H8.out (HD.out.blk (g := gd2) (cs := #[.slice none 0 0, .slice none 0 0, .slice none 0 0, .slice none 0 0]) (t := 30) (by simp)) (by decide) #[.slice B0 t0.length e0, .slice B1 t1.length e1, .slice B2 t2.length e2, .slice B3 t3.length e3])
      have H91 := aM (R_row H9.out (HD.out.blk (g := gd2) (cs := #[.slice none 0 0, .slice none 0 0, .slice none 0 0, .slice none 0 0]) (t := 30) (by simp)) (by decide) #[.slice B0 t0.length e0, .slice B1 t1.length e1, .slice B2 t2.length e2, .slice B3 t3.length e3])
      have HD1 := aM (HD.out.row [(go, #[.slice B0 t0.length e0, .slice B1 t1.length e1, .slice B2 t2.length e2, .slice B3 t3.length e3], 30), (gu, #[.int .i64 0, .int .i64 0, .int .i64 0, .int .i64 0, .slice none 0 0, .slice none 0 0], 32)] [(gq, #[.int .i64 a1_0, .int .i64 a1_1, .int .i64 a1_2, .slice A1_3 l1_3.length c1_3, .slice A1_4 l1_4.length c1_4, .int .i64 a1_5], 36), (gd, #[.slice A0_0 l0_0.length c0_0, .slice A0_1 l0_1.length c0_1, .slice A0_2 l0_2.length c0_2, .slice A0_3 l0_3.length c0_3], 30)] #[.slice B0 t0.length e0, .slice B1 t1.length e1, .slice B2 t2.length e2, .slice B3 t3.length e3])
      clear HD H8 H9
      generalize World.setRow _ _ _ = w7 at HD1 H81 H91 ⊢
      have H8 := H81
      clear H81
      have H9 := H91
      clear H91
      have HD := HD1
      clear HD1
      refine hK.out _ _ ⟨HD.out.blk (by simp), HD.out.blk (by simp)⟩ (fun hHeld => ?_)
      clear hK K
      refine one_ (i := 4) (N := none) (flg 5 5) rfl rfl (by kernel_rfl) (by decide) (fun K hK => ?_)
      refine store_ (by rfl) rfl rfl rfl rfl (HD.out.blk (g := gu) (cs := #[.int .i64 0, .int .i64 0, .int .i64 0, .int .i64 0, .slice none 0 0, .slice none 0 0]) (t := 32) (by simp)) (by kernel_rfl) rfl (by simp [Value.oneCell']) ?_
      have H81 := aM (R_row H8.out (HD.out.blk (g := gu) (cs := #[.int .i64 0, .int .i64 0, .int .i64 0, .int .i64 0, .slice none 0 0, .slice none 0 0]) (t := 32) (by simp)) (by decide) #[.int .i64 f1, .int .i64 f2, .int .i64 f3, .int .i64 f4, .slice B8 f5.length e8, .slice B9 f6.length e9])
      have H91 := aM (R_row H9.out (HD.out.blk (g := gu) (cs := #[.int .i64 0, .int .i64 0, .int .i64 0, .int .i64 0, .slice none 0 0, .slice none 0 0]) (t := 32) (by simp)) (by decide) #[.int .i64 f1, .int .i64 f2, .int .i64 f3, .int .i64 f4, .slice B8 f5.length e8, .slice B9 f6.length e9])
      have HD1 := aM (HD.out.row [(go, #[.slice B0 t0.length e0, .slice B1 t1.length e1, .slice B2 t2.length e2, .slice B3 t3.length e3], 30)] [(gd2, #[.slice B0 t0.length e0, .slice B1 t1.length e1, .slice B2 t2.length e2, .slice B3 t3.length e3], 30), (gq, #[.int .i64 a1_0, .int .i64 a1_1, .int .i64 a1_2, .slice A1_3 l1_3.length c1_3, .slice A1_4 l1_4.length c1_4, .int .i64 a1_5], 36), (gd, #[.slice A0_0 l0_0.length c0_0, .slice A0_1 l0_1.length c0_1, .slice A0_2 l0_2.length c0_2, .slice A0_3 l0_3.length c0_3], 30)] #[.int .i64 f1, .int .i64 f2, .int .i64 f3, .int .i64 f4, .slice B8 f5.length e8, .slice B9 f6.length e9])
      clear HD H8 H9
      generalize World.setRow _ _ _ = w8 at HD1 H81 H91 ⊢
      have H8 := H81
      clear H81
      have H9 := H91
      clear H91
      have HD := HD1
      clear HD1
      refine hK.out _ _ ⟨HD.out.blk (by simp), HD.out.blk (by simp)⟩ (fun hHeld => ?_)
      clear hK K
      refine done_ (by kernel_rfl) ?_
      try go_wp2
      refine bodyPost_ret (results_cc rfl _ _ gd2 gu 30 32 #[.slice B0 t0.length e0, .slice B1 t1.length e1, .slice B2 t2.length e2, .slice B3 t3.length e3] #[.int .i64 f1, .int .i64 f2, .int .i64 f3, .int .i64 f4, .slice B8 f5.length e8, .slice B9 f6.length e9] (0, 0) (0, 0) _ _ rfl (HD.out.blk (by simp)) hu30 rfl (by kernel_rfl) rfl (HD.out.blk (by simp)) hu32 rfl (by kernel_rfl)) rfl ?_
      exact ⟨_, _, _, _, _, _, rfl, Rows6.of HD.out.rows HLT.out H8.out H9.out HSZ.out, HD.out.2.2.2.1⟩
    | false =>
      have h := HH.out
      clear HH
      rw [if_neg (by decide)] at h
      unfold impl_Serve.g at h
      obtain ⟨⟨s0, s1, s2⟩, hsp, h⟩ := Option.bind_eq_some_iff.mp h
      obtain ⟨rm, hrm, h⟩ := Option.bind_eq_some_iff.mp h
      dsimp only at hrm h
      obtain ⟨j1, hj1⟩ : ∃ j, wrap64 (s1 + s2) = j := ⟨_, rfl⟩
      have hj1w : IntKind.i64.wrap (s1 + s2) = j1 := (i64_w _).trans hj1
      rw [hj1] at h
      replace hsp := aM hsp
      replace hrm := aM hrm
      have HH := aM h
      clear h
      go_upto_region 5 with (first | ((with_reducible refine gate_dst (N := 25) rfl ?_); refine wpList_load_row rfl 36 (.tmp 3) rfl gq rfl 36 #[.int .i64 a1_0, .int .i64 a1_1, .int .i64 a1_2, .slice A1_3 l1_3.length c1_3, .slice A1_4 l1_4.length c1_4, .int .i64 a1_5] (0, 0) _ (HD.out.blk (by simp)) hu36 rfl (by kernel_rfl) ?_) | ((with_reducible refine gate_callee (f := 43) rfl ?_); refine gL (some 26) rfl rfl Try.func43 (by kernel_rfl) rfl #[.agg #[.int .i64 a1_0, .int .i64 a1_1, .int .i64 a1_2, .slice A1_3 l1_3.length c1_3, .slice A1_4 l1_4.length c1_4, .int .i64 a1_5]] rfl ?_; refine (impl_Spaces.calls k a1_0 a1_1 a1_2 A1_3 c1_3 l1_3 A1_4 c1_4 l1_4 a1_5 s0 s1 s2 _ (Kd.C_below Hr1_3.out HD.out.2.2.2.1) Hc1_3.out (Kd.C_below Hr1_4.out HD.out.2.2.2.1) Hc1_4.out hsp.out).mono ?_; rintro e w_ ⟨rfl, hb_⟩; refine ⟨_, rfl, ?_⟩; have HD1 := aM (HD.out.below hb_); clear hb_; clear HD; have HD := HD1; clear HD1))
      (try simp only [Act.put, List.setIfInBounds_toArray, List.set_cons_zero, List.set_cons_succ])
      go_cut [52] (fun v52 wc => ∃ b : Bool, v52 = .bool b ∧ Aside0 ((if b = true then impl_Serve.e k (t0, t1, t2, t3) a1_0 a1_1 a1_2 l1_3 l1_4 a1_5 2 else impl_Serve.d k (t0, t1, t2, t3) a1_0 a1_1 a1_2 l1_3 l1_4 a1_5) = some (r1, r2, r3, r4, r5, r6, r7, r8, r9, r10)) ∧ Aside0 (DX w w wc [(go, #[.slice B0 t0.length e0, .slice B1 t1.length e1, .slice B2 t2.length e2, .slice B3 t3.length e3], 30), (gu, #[.int .i64 0, .int .i64 0, .int .i64 0, .int .i64 0, .slice none 0 0, .slice none 0 0], 32), (gd2, #[.slice none 0 0, .slice none 0 0, .slice none 0 0, .slice none 0 0], 30), (gq, #[.int .i64 a1_0, .int .i64 a1_1, .int .i64 a1_2, .slice A1_3 l1_3.length c1_3, .slice A1_4 l1_4.length c1_4, .int .i64 a1_5], 36), (gd, #[.slice A0_0 l0_0.length c0_0, .slice A0_1 l0_1.length c0_1, .slice A0_2 l0_2.length c0_2, .slice A0_3 l0_3.length c0_3], 30)] (.slice B0 t0.length e0) (.slice B1 t1.length e1) (.slice B2 t2.length e2) (.slice B3 t3.length e3) t0 t1 t2 t3))
      case first =>
        have h := HH.out
        clear HH
        by_cases hc : j1 > rm
        · rw [if_pos hc] at h
          have hcd : decide (j1 > rm) = true := decide_eq_true hc
          clear hc
          have HH := aM h
          clear h
          refine start_ (n := 23) (S := fun w' => w'.heap[gd]? = some (.cells #[.slice A0_0 l0_0.length c0_0, .slice A0_1 l0_1.length c0_1, .slice A0_2 l0_2.length c0_2, .slice A0_3 l0_3.length c0_3] 30 (0, 0)) ∧ w'.heap[gq]? = some (.cells #[.int .i64 a1_0, .int .i64 a1_1, .int .i64 a1_2, .slice A1_3 l1_3.length c1_3, .slice A1_4 l1_4.length c1_4, .int .i64 a1_5] 36 (0, 0))) (ds := []) (flg 0 23) (by kernel_rfl) rfl rfl ⟨HD.out.drew.blk (by simp), HD.out.drew.blk (by simp)⟩ (fun hHeld => ?_)
          have HD1 := aM HD.out.drew
          clear HD
          generalize World.drew _ = w5 at HD1 hHeld ⊢
          have HD := HD1
          clear HD1
          refine pk (i := 0) (N := some 30) (flg 1 23) ?_
          refine pk (i := 1) (N := some 31) (flg 2 23) ?_
          refine pk (i := 2) (N := some 32) (flg 3 23) ?_
          refine tkl (i := 3) (N := some 33) (flg 4 23) hHeld (fun _ s => s.1) hu30 ?_
          refine pk (i := 4) (N := some 34) (flg 5 23) ?_
          refine one_ (i := 5) (N := some 35) (flg 6 23) rfl rfl (by kernel_rfl) (by decide) (fun K hK => ?_)
          refine goes_ Try.func44 (by kernel_rfl) rfl #[.agg #[.slice A0_0 l0_0.length c0_0, .slice A0_1 l0_1.length c0_1, .slice A0_2 l0_2.length c0_2, .slice A0_3 l0_3.length c0_3], .int .i64 s0] (by rfl) rfl rfl (by (try simp only [List.map_toArray, List.map_cons, List.map_nil]); first | done | rfl) ?_
          refine (impl_room.calls A0_0 c0_0 l0_0 A0_1 c0_1 l0_1 A0_2 c0_2 l0_2 A0_3 c0_3 l0_3 s0 rm _ (Kd.C_below Hr0_0.out HD.out.2.2.2.1) Hc0_0.out (Kd.C_below Hr0_1.out HD.out.2.2.2.1) Hc0_1.out (Kd.C_below Hr0_2.out HD.out.2.2.2.1) Hc0_2.out (Kd.C_below Hr0_3.out HD.out.2.2.2.1) Hc0_3.out hrm.out).mono ?_
          rintro e w6 ⟨rfl, hb_⟩
          refine ⟨_, rfl, ?_⟩
          have HD1 := aM (HD.out.below hb_)
          clear HD hb_
          have HD := HD1
          clear HD1
          refine hK.out _ _ ⟨HD.out.blk (by simp), HD.out.blk (by simp)⟩ (fun hHeld => ?_)
          clear hK K
          refine norm_ (a' := ?_) ?_ ?_
          rotate_left
          · show Act.put _ (some 35) _ = _
            simp only [Act.put, List.setIfInBounds_toArray, List.set_cons_zero, List.set_cons_succ, i64_w, i32_w]
            rfl
          refine pk (i := 6) (N := some 36) (flg 7 23) ?_
          refine pk (i := 7) (N := some 37) (flg 8 23) ?_
          refine pkn (i := 8) (N := some 38) (flg 9 23) ?_
          refine pkn (i := 9) (N := some 39) (flg 10 23) ?_
          refine pkn (i := 10) (N := some 40) (flg 11 23) ?_
          refine pkn (i := 11) (N := some 41) (flg 12 23) ?_
          refine pkn (i := 12) (N := some 42) (flg 13 23) ?_
          refine pkn (i := 13) (N := some 43) (flg 14 23) ?_
          refine pkn (i := 14) (N := some 44) (flg 15 23) ?_
          refine pkn (i := 15) (N := some 45) (flg 16 23) ?_
          refine pkn (i := 16) (N := some 46) (flg 17 23) ?_
          refine pkn (i := 17) (N := some 47) (flg 18 23) ?_
          refine pkn (i := 18) (N := some 48) (flg 19 23) ?_
          refine pkn (i := 19) (N := some 49) (flg 20 23) ?_
          refine pkn (i := 20) (N := some 50) (flg 21 23) ?_
          refine pkn (i := 21) (N := some 51) (flg 22 23) ?_
          refine pk (i := 22) (N := some 52) (flg 23 23) ?_
          refine done_ (by kernel_rfl) ?_
          go_wp2
          go_meet
          case rel => exact ⟨true, rfl, HH, HD⟩
        rw [if_neg hc] at h
        have hcd : decide (j1 > rm) = false := decide_eq_false hc
        clear hc
        by_cases hk : a1_0 = 23
        rotate_left
        · rw [if_neg hk] at h
          have hke : (a1_0 == 23) = false := beq_eq_false_iff_ne.mpr hk
          clear hk
          have HH := aM h
          clear h
          refine start_ (n := 23) (S := fun w' => w'.heap[gd]? = some (.cells #[.slice A0_0 l0_0.length c0_0, .slice A0_1 l0_1.length c0_1, .slice A0_2 l0_2.length c0_2, .slice A0_3 l0_3.length c0_3] 30 (0, 0)) ∧ w'.heap[gq]? = some (.cells #[.int .i64 a1_0, .int .i64 a1_1, .int .i64 a1_2, .slice A1_3 l1_3.length c1_3, .slice A1_4 l1_4.length c1_4, .int .i64 a1_5] 36 (0, 0))) (ds := []) (flg 0 23) (by kernel_rfl) rfl rfl ⟨HD.out.drew.blk (by simp), HD.out.drew.blk (by simp)⟩ (fun hHeld => ?_)
          have HD1 := aM HD.out.drew
          clear HD
          generalize World.drew _ = w5 at HD1 hHeld ⊢
          have HD := HD1
          clear HD1
          refine pk (i := 0) (N := some 30) (flg 1 23) ?_
          refine pk (i := 1) (N := some 31) (flg 2 23) ?_
          refine pk (i := 2) (N := some 32) (flg 3 23) ?_
          refine tkl (i := 3) (N := some 33) (flg 4 23) hHeld (fun _ s => s.1) hu30 ?_
          refine pk (i := 4) (N := some 34) (flg 5 23) ?_
          refine one_ (i := 5) (N := some 35) (flg 6 23) rfl rfl (by kernel_rfl) (by decide) (fun K hK => ?_)
          refine goes_ Try.func44 (by kernel_rfl) rfl #[.agg #[.slice A0_0 l0_0.length c0_0, .slice A0_1 l0_1.length c0_1, .slice A0_2 l0_2.length c0_2, .slice A0_3 l0_3.length c0_3], .int .i64 s0] (by rfl) rfl rfl (by (try simp only [List.map_toArray, List.map_cons, List.map_nil]); first | done | rfl) ?_
          refine (impl_room.calls A0_0 c0_0 l0_0 A0_1 c0_1 l0_1 A0_2 c0_2 l0_2 A0_3 c0_3 l0_3 s0 rm _ (Kd.C_below Hr0_0.out HD.out.2.2.2.1) Hc0_0.out (Kd.C_below Hr0_1.out HD.out.2.2.2.1) Hc0_1.out (Kd.C_below Hr0_2.out HD.out.2.2.2.1) Hc0_2.out (Kd.C_below Hr0_3.out HD.out.2.2.2.1) Hc0_3.out hrm.out).mono ?_
          rintro e w6 ⟨rfl, hb_⟩
          refine ⟨_, rfl, ?_⟩
          have HD1 := aM (HD.out.below hb_)
          clear HD hb_
          have HD := HD1
          clear HD1
          refine hK.out _ _ ⟨HD.out.blk (by simp), HD.out.blk (by simp)⟩ (fun hHeld => ?_)
          clear hK K
          refine norm_ (a' := ?_) ?_ ?_
          rotate_left
          · show Act.put _ (some 35) _ = _
            simp only [Act.put, List.setIfInBounds_toArray, List.set_cons_zero, List.set_cons_succ, i64_w, i32_w]
            rfl
          refine pk (i := 6) (N := some 36) (flg 7 23) ?_
          refine pk (i := 7) (N := some 37) (flg 8 23) ?_
          refine pk (i := 8) (N := some 38) (flg 9 23) ?_
          refine take_ (i := 9) (N := some 39) (v := .int .i64 a1_0) (flg 10 23) rfl rfl (by kernel_rfl) (fun _ _ _ h => h) (Or.inl ⟨by rfl, fun w' s => by have s0 : w'.cell? ⟨gq, 0, none⟩ = some (.int .i64 a1_0) := (blk_cell s.2 0).trans rfl; go_simp⟩) hHeld (by simp only [Act.put, List.setIfInBounds_toArray, List.set_cons_zero, List.set_cons_succ, i64_w, i32_w]; rfl) ?_
          refine pk (i := 10) (N := some 40) (flg 11 23) ?_
          refine pk (i := 11) (N := some 41) (flg 12 23) ?_
          refine pkn (i := 12) (N := some 42) (flg 13 23) ?_
          refine pkn (i := 13) (N := some 43) (flg 14 23) ?_
          refine pkn (i := 14) (N := some 44) (flg 15 23) ?_
          refine pkn (i := 15) (N := some 45) (flg 16 23) ?_
          refine pkn (i := 16) (N := some 46) (flg 17 23) ?_
          refine pkn (i := 17) (N := some 47) (flg 18 23) ?_
          refine pkn (i := 18) (N := some 48) (flg 19 23) ?_
          refine pkn (i := 19) (N := some 49) (flg 20 23) ?_
          refine pkn (i := 20) (N := some 50) (flg 21 23) ?_
          refine pk (i := 21) (N := some 51) (flg 22 23) ?_
          refine pk (i := 22) (N := some 52) (flg 23 23) ?_
          refine done_ (by kernel_rfl) ?_
          go_wp2
          go_meet
          case rel => exact ⟨false, rfl, HH, HD⟩
        rw [if_pos hk] at h
        have hke : (a1_0 == 23) = true := beq_iff_eq.mpr hk
        clear hk
        obtain ⟨wr, hwr, h⟩ := Option.bind_eq_some_iff.mp h
        replace hwr := aM hwr
        obtain ⟨j2, hj2⟩ : ∃ j, wrap64 (a1_5 + wr) = j := ⟨_, rfl⟩
        have hj2w : IntKind.i64.wrap (a1_5 + wr) = j2 := (i64_w _).trans hj2
        rw [hj2] at h
        by_cases hc2 : j2 > rm
        · rw [if_pos hc2] at h
          have hcd2 : decide (j2 > rm) = true := decide_eq_true hc2
          clear hc2
          have HH := aM h
          clear h
          refine start_ (n := 23) (S := fun w' => w'.heap[gd]? = some (.cells #[.slice A0_0 l0_0.length c0_0, .slice A0_1 l0_1.length c0_1, .slice A0_2 l0_2.length c0_2, .slice A0_3 l0_3.length c0_3] 30 (0, 0)) ∧ w'.heap[gq]? = some (.cells #[.int .i64 a1_0, .int .i64 a1_1, .int .i64 a1_2, .slice A1_3 l1_3.length c1_3, .slice A1_4 l1_4.length c1_4, .int .i64 a1_5] 36 (0, 0))) (ds := []) (flg 0 23) (by kernel_rfl) rfl rfl ⟨HD.out.drew.blk (by simp), HD.out.drew.blk (by simp)⟩ (fun hHeld => ?_)
          have HD1 := aM HD.out.drew
          clear HD
          generalize World.drew _ = w5 at HD1 hHeld ⊢
          have HD := HD1
          clear HD1
          refine pk (i := 0) (N := some 30) (flg 1 23) ?_
          refine pk (i := 1) (N := some 31) (flg 2 23) ?_
          refine pk (i := 2) (N := some 32) (flg 3 23) ?_
          refine tkl (i := 3) (N := some 33) (flg 4 23) hHeld (fun _ s => s.1) hu30 ?_
          refine pk (i := 4) (N := some 34) (flg 5 23) ?_
          refine one_ (i := 5) (N := some 35) (flg 6 23) rfl rfl (by kernel_rfl) (by decide) (fun K hK => ?_)
          refine goes_ Try.func44 (by kernel_rfl) rfl #[.agg #[.slice A0_0 l0_0.length c0_0, .slice A0_1 l0_1.length c0_1, .slice A0_2 l0_2.length c0_2, .slice A0_3 l0_3.length c0_3], .int .i64 s0] (by rfl) rfl rfl (by (try simp only [List.map_toArray, List.map_cons, List.map_nil]); first | done | rfl) ?_
          refine (impl_room.calls A0_0 c0_0 l0_0 A0_1 c0_1 l0_1 A0_2 c0_2 l0_2 A0_3 c0_3 l0_3 s0 rm _ (Kd.C_below Hr0_0.out HD.out.2.2.2.1) Hc0_0.out (Kd.C_below Hr0_1.out HD.out.2.2.2.1) Hc0_1.out (Kd.C_below Hr0_2.out HD.out.2.2.2.1) Hc0_2.out (Kd.C_below Hr0_3.out HD.out.2.2.2.1) Hc0_3.out hrm.out).mono ?_
          rintro e w6 ⟨rfl, hb_⟩
          refine ⟨_, rfl, ?_⟩
          have HD1 := aM (HD.out.below hb_)
          clear HD hb_
          have HD := HD1
          clear HD1
          refine hK.out _ _ ⟨HD.out.blk (by simp), HD.out.blk (by simp)⟩ (fun hHeld => ?_)
          clear hK K
          refine norm_ (a' := ?_) ?_ ?_
          rotate_left
          · show Act.put _ (some 35) _ = _
            simp only [Act.put, List.setIfInBounds_toArray, List.set_cons_zero, List.set_cons_succ, i64_w, i32_w]
            rfl
          refine pk (i := 6) (N := some 36) (flg 7 23) ?_
          refine pk (i := 7) (N := some 37) (flg 8 23) ?_
          refine pk (i := 8) (N := some 38) (flg 9 23) ?_
          refine take_ (i := 9) (N := some 39) (v := .int .i64 a1_0) (flg 10 23) rfl rfl (by kernel_rfl) (fun _ _ _ h => h) (Or.inl ⟨by rfl, fun w' s => by have s0 : w'.cell? ⟨gq, 0, none⟩ = some (.int .i64 a1_0) := (blk_cell s.2 0).trans rfl; go_simp⟩) hHeld (by simp only [Act.put, List.setIfInBounds_toArray, List.set_cons_zero, List.set_cons_succ, i64_w, i32_w]; rfl) ?_
          refine pk (i := 10) (N := some 40) (flg 11 23) ?_
          refine pk (i := 11) (N := some 41) (flg 12 23) ?_
          refine pk (i := 12) (N := some 42) (flg 13 23) ?_
          refine take_ (i := 13) (N := some 43) (v := .int .i64 a1_5) (flg 14 23) rfl rfl (by kernel_rfl) (fun _ _ _ h => h) (Or.inl ⟨by rfl, fun w' s => by have s0 : w'.cell? ⟨gq, 5, none⟩ = some (.int .i64 a1_5) := (blk_cell s.2 5).trans rfl; go_simp⟩) hHeld (by simp only [Act.put, List.setIfInBounds_toArray, List.set_cons_zero, List.set_cons_succ, i64_w, i32_w]; rfl) ?_
          refine tkl (i := 14) (N := some 44) (flg 15 23) hHeld (fun _ s => s.2) hu36 ?_
          refine tkl (i := 17) (N := some 47) #[true, true, true, true, true, true, true, true, true, true, true, true, true, true, true, false, false, true, false, false, false, false, false] hHeld (fun _ s => s.1) hu30 ?_
          refine pk (i := 18) (N := some 48) #[true, true, true, true, true, true, true, true, true, true, true, true, true, true, true, false, false, true, true, false, false, false, false] ?_
          refine one_ (i := 15) (N := some 45) #[true, true, true, true, true, true, true, true, true, true, true, true, true, true, true, true, false, true, true, false, false, false, false] rfl rfl (by kernel_rfl) (by decide) (fun K hK => ?_)
          refine goes_ Try.func45 (by kernel_rfl) rfl #[.agg #[.int .i64 a1_0, .int .i64 a1_1, .int .i64 a1_2, .slice A1_3 l1_3.length c1_3, .slice A1_4 l1_4.length c1_4, .int .i64 a1_5]] (by rfl) rfl rfl (by (try simp only [List.map_toArray, List.map_cons, List.map_nil]); first | done | rfl) ?_
          refine (impl_written.calls a1_0 a1_1 a1_2 A1_3 c1_3 l1_3 A1_4 c1_4 l1_4 a1_5 wr _ (Kd.C_below Hr1_3.out HD.out.2.2.2.1) Hc1_3.out (Kd.C_below Hr1_4.out HD.out.2.2.2.1) Hc1_4.out hwr.out).mono ?_
          rintro e w6 ⟨rfl, hb_⟩
          refine ⟨_, rfl, ?_⟩
          have HD1 := aM (HD.out.below hb_)
          clear HD hb_
          have HD := HD1
          clear HD1
          refine hK.out _ _ ⟨HD.out.blk (by simp), HD.out.blk (by simp)⟩ (fun hHeld => ?_)
          clear hK K
          refine norm_ (a' := ?_) ?_ ?_
          rotate_left
          · show Act.put _ (some 45) _ = _
            simp only [Act.put, List.setIfInBounds_toArray, List.set_cons_zero, List.set_cons_succ, i64_w, i32_w]
            rfl
          refine pk (i := 16) (N := some 46) (flg 19 23) ?_
          refine one_ (i := 19) (N := some 49) (flg 20 23) rfl rfl (by kernel_rfl) (by decide) (fun K hK => ?_)
          refine goes_ Try.func44 (by kernel_rfl) rfl #[.agg #[.slice A0_0 l0_0.length c0_0, .slice A0_1 l0_1.length c0_1, .slice A0_2 l0_2.length c0_2, .slice A0_3 l0_3.length c0_3], .int .i64 s0] (by rfl) rfl rfl (by (try simp only [List.map_toArray, List.map_cons, List.map_nil]); first | done | rfl) ?_
          refine (impl_room.calls A0_0 c0_0 l0_0 A0_1 c0_1 l0_1 A0_2 c0_2 l0_2 A0_3 c0_3 l0_3 s0 rm _ (Kd.C_below Hr0_0.out HD.out.2.2.2.1) Hc0_0.out (Kd.C_below Hr0_1.out HD.out.2.2.2.1) Hc0_1.out (Kd.C_below Hr0_2.out HD.out.2.2.2.1) Hc0_2.out (Kd.C_below Hr0_3.out HD.out.2.2.2.1) Hc0_3.out hrm.out).mono ?_
          rintro e w6 ⟨rfl, hb_⟩
          refine ⟨_, rfl, ?_⟩
          have HD1 := aM (HD.out.below hb_)
          clear HD hb_
          have HD := HD1
          clear HD1
          refine hK.out _ _ ⟨HD.out.blk (by simp), HD.out.blk (by simp)⟩ (fun hHeld => ?_)
          clear hK K
          refine norm_ (a' := ?_) ?_ ?_
          rotate_left
          · show Act.put _ (some 49) _ = _
            simp only [Act.put, List.setIfInBounds_toArray, List.set_cons_zero, List.set_cons_succ, i64_w, i32_w]
            rfl
          refine pk (i := 20) (N := some 50) (flg 21 23) ?_
          refine pk (i := 21) (N := some 51) (flg 22 23) ?_
          refine pk (i := 22) (N := some 52) (flg 23 23) ?_
          refine done_ (by kernel_rfl) ?_
          go_wp2
          go_meet
          case rel => exact ⟨true, rfl, HH, HD⟩
        · rw [if_neg hc2] at h
          have hcd2 : decide (j2 > rm) = false := decide_eq_false hc2
          clear hc2
          have HH := aM h
          clear h
          refine start_ (n := 23) (S := fun w' => w'.heap[gd]? = some (.cells #[.slice A0_0 l0_0.length c0_0, .slice A0_1 l0_1.length c0_1, .slice A0_2 l0_2.length c0_2, .slice A0_3 l0_3.length c0_3] 30 (0, 0)) ∧ w'.heap[gq]? = some (.cells #[.int .i64 a1_0, .int .i64 a1_1, .int .i64 a1_2, .slice A1_3 l1_3.length c1_3, .slice A1_4 l1_4.length c1_4, .int .i64 a1_5] 36 (0, 0))) (ds := []) (flg 0 23) (by kernel_rfl) rfl rfl ⟨HD.out.drew.blk (by simp), HD.out.drew.blk (by simp)⟩ (fun hHeld => ?_)
          have HD1 := aM HD.out.drew
          clear HD
          generalize World.drew _ = w5 at HD1 hHeld ⊢
          have HD := HD1
          clear HD1
          refine pk (i := 0) (N := some 30) (flg 1 23) ?_
          refine pk (i := 1) (N := some 31) (flg 2 23) ?_
          refine pk (i := 2) (N := some 32) (flg 3 23) ?_
          refine tkl (i := 3) (N := some 33) (flg 4 23) hHeld (fun _ s => s.1) hu30 ?_
          refine pk (i := 4) (N := some 34) (flg 5 23) ?_
          refine one_ (i := 5) (N := some 35) (flg 6 23) rfl rfl (by kernel_rfl) (by decide) (fun K hK => ?_)
          refine goes_ Try.func44 (by kernel_rfl) rfl #[.agg #[.slice A0_0 l0_0.length c0_0, .slice A0_1 l0_1.length c0_1, .slice A0_2 l0_2.length c0_2, .slice A0_3 l0_3.length c0_3], .int .i64 s0] (by rfl) rfl rfl (by (try simp only [List.map_toArray, List.map_cons, List.map_nil]); first | done | rfl) ?_
          refine (impl_room.calls A0_0 c0_0 l0_0 A0_1 c0_1 l0_1 A0_2 c0_2 l0_2 A0_3 c0_3 l0_3 s0 rm _ (Kd.C_below Hr0_0.out HD.out.2.2.2.1) Hc0_0.out (Kd.C_below Hr0_1.out HD.out.2.2.2.1) Hc0_1.out (Kd.C_below Hr0_2.out HD.out.2.2.2.1) Hc0_2.out (Kd.C_below Hr0_3.out HD.out.2.2.2.1) Hc0_3.out hrm.out).mono ?_
          rintro e w6 ⟨rfl, hb_⟩
          refine ⟨_, rfl, ?_⟩
          have HD1 := aM (HD.out.below hb_)
          clear HD hb_
          have HD := HD1
          clear HD1
          refine hK.out _ _ ⟨HD.out.blk (by simp), HD.out.blk (by simp)⟩ (fun hHeld => ?_)
          clear hK K
          refine norm_ (a' := ?_) ?_ ?_
          rotate_left
          · show Act.put _ (some 35) _ = _
            simp only [Act.put, List.setIfInBounds_toArray, List.set_cons_zero, List.set_cons_succ, i64_w, i32_w]
            rfl
          refine pk (i := 6) (N := some 36) (flg 7 23) ?_
          refine pk (i := 7) (N := some 37) (flg 8 23) ?_
          refine pk (i := 8) (N := some 38) (flg 9 23) ?_
          refine take_ (i := 9) (N := some 39) (v := .int .i64 a1_0) (flg 10 23) rfl rfl (by kernel_rfl) (fun _ _ _ h => h) (Or.inl ⟨by rfl, fun w' s => by have s0 : w'.cell? ⟨gq, 0, none⟩ = some (.int .i64 a1_0) := (blk_cell s.2 0).trans rfl; go_simp⟩) hHeld (by simp only [Act.put, List.setIfInBounds_toArray, List.set_cons_zero, List.set_cons_succ, i64_w, i32_w]; rfl) ?_
          refine pk (i := 10) (N := some 40) (flg 11 23) ?_
          refine pk (i := 11) (N := some 41) (flg 12 23) ?_
          refine pk (i := 12) (N := some 42) (flg 13 23) ?_
          refine take_ (i := 13) (N := some 43) (v := .int .i64 a1_5) (flg 14 23) rfl rfl (by kernel_rfl) (fun _ _ _ h => h) (Or.inl ⟨by rfl, fun w' s => by have s0 : w'.cell? ⟨gq, 5, none⟩ = some (.int .i64 a1_5) := (blk_cell s.2 5).trans rfl; go_simp⟩) hHeld (by simp only [Act.put, List.setIfInBounds_toArray, List.set_cons_zero, List.set_cons_succ, i64_w, i32_w]; rfl) ?_
          refine tkl (i := 14) (N := some 44) (flg 15 23) hHeld (fun _ s => s.2) hu36 ?_
          refine tkl (i := 17) (N := some 47) #[true, true, true, true, true, true, true, true, true, true, true, true, true, true, true, false, false, true, false, false, false, false, false] hHeld (fun _ s => s.1) hu30 ?_
          refine pk (i := 18) (N := some 48) #[true, true, true, true, true, true, true, true, true, true, true, true, true, true, true, false, false, true, true, false, false, false, false] ?_
          refine one_ (i := 15) (N := some 45) #[true, true, true, true, true, true, true, true, true, true, true, true, true, true, true, true, false, true, true, false, false, false, false] rfl rfl (by kernel_rfl) (by decide) (fun K hK => ?_)
          refine goes_ Try.func45 (by kernel_rfl) rfl #[.agg #[.int .i64 a1_0, .int .i64 a1_1, .int .i64 a1_2, .slice A1_3 l1_3.length c1_3, .slice A1_4 l1_4.length c1_4, .int .i64 a1_5]] (by rfl) rfl rfl (by (try simp only [List.map_toArray, List.map_cons, List.map_nil]); first | done | rfl) ?_
          refine (impl_written.calls a1_0 a1_1 a1_2 A1_3 c1_3 l1_3 A1_4 c1_4 l1_4 a1_5 wr _ (Kd.C_below Hr1_3.out HD.out.2.2.2.1) Hc1_3.out (Kd.C_below Hr1_4.out HD.out.2.2.2.1) Hc1_4.out hwr.out).mono ?_
          rintro e w6 ⟨rfl, hb_⟩
          refine ⟨_, rfl, ?_⟩
          have HD1 := aM (HD.out.below hb_)
          clear HD hb_
          have HD := HD1
          clear HD1
          refine hK.out _ _ ⟨HD.out.blk (by simp), HD.out.blk (by simp)⟩ (fun hHeld => ?_)
          clear hK K
          refine norm_ (a' := ?_) ?_ ?_
          rotate_left
          · show Act.put _ (some 45) _ = _
            simp only [Act.put, List.setIfInBounds_toArray, List.set_cons_zero, List.set_cons_succ, i64_w, i32_w]
            rfl
          refine pk (i := 16) (N := some 46) (flg 19 23) ?_
          refine one_ (i := 19) (N := some 49) (flg 20 23) rfl rfl (by kernel_rfl) (by decide) (fun K hK => ?_)
          refine goes_ Try.func44 (by kernel_rfl) rfl #[.agg #[.slice A0_0 l0_0.length c0_0, .slice A0_1 l0_1.length c0_1, .slice A0_2 l0_2.length c0_2, .slice A0_3 l0_3.length c0_3], .int .i64 s0] (by rfl) rfl rfl (by (try simp only [List.map_toArray, List.map_cons, List.map_nil]); first | done | rfl) ?_
          refine (impl_room.calls A0_0 c0_0 l0_0 A0_1 c0_1 l0_1 A0_2 c0_2 l0_2 A0_3 c0_3 l0_3 s0 rm _ (Kd.C_below Hr0_0.out HD.out.2.2.2.1) Hc0_0.out (Kd.C_below Hr0_1.out HD.out.2.2.2.1) Hc0_1.out (Kd.C_below Hr0_2.out HD.out.2.2.2.1) Hc0_2.out (Kd.C_below Hr0_3.out HD.out.2.2.2.1) Hc0_3.out hrm.out).mono ?_
          rintro e w6 ⟨rfl, hb_⟩
          refine ⟨_, rfl, ?_⟩
          have HD1 := aM (HD.out.below hb_)
          clear HD hb_
          have HD := HD1
          clear HD1
          refine hK.out _ _ ⟨HD.out.blk (by simp), HD.out.blk (by simp)⟩ (fun hHeld => ?_)
          clear hK K
          refine norm_ (a' := ?_) ?_ ?_
          rotate_left
          · show Act.put _ (some 49) _ = _
            simp only [Act.put, List.setIfInBounds_toArray, List.set_cons_zero, List.set_cons_succ, i64_w, i32_w]
            rfl
          refine pk (i := 20) (N := some 50) (flg 21 23) ?_
          refine pk (i := 21) (N := some 51) (flg 22 23) ?_
          refine pk (i := 22) (N := some 52) (flg 23 23) ?_
          refine done_ (by kernel_rfl) ?_
          go_wp2
          go_meet
          case rel => exact ⟨false, rfl, HH, HD⟩
      case rest =>
        clear HH HD hj1 hj1w hsp hrm
        obtain ⟨b, rfl, HH, HD⟩ := hcut
        have h := HH.out
        clear HH
        cases b with
        | true =>
          rw [if_pos rfl] at h
          unfold impl_Serve.e at h
          obtain ⟨⟨f1, f2, f3, f4, f5, f6⟩, hfo, h⟩ := Option.bind_eq_some_iff.mp h
          simp only [Option.some.injEq, Prod.mk.injEq] at h
          obtain ⟨rfl, rfl, rfl, rfl, rfl, rfl, rfl, rfl, rfl, rfl⟩ := h
          replace hfo := aM hfo
          go_wp2
          refine start_ (n := 5) (S := fun w' => w'.heap[go]? = some (.cells #[.slice B0 t0.length e0, .slice B1 t1.length e1, .slice B2 t2.length e2, .slice B3 t3.length e3] 30 (0, 0)) ∧ w'.heap[gq]? = some (.cells #[.int .i64 a1_0, .int .i64 a1_1, .int .i64 a1_2, .slice A1_3 l1_3.length c1_3, .slice A1_4 l1_4.length c1_4, .int .i64 a1_5] 36 (0, 0))) (ds := []) (flg 0 5) (by kernel_rfl) rfl rfl ⟨HD.out.drew.blk (by simp), HD.out.drew.blk (by simp)⟩ (fun hHeld => ?_)
          have HD1 := aM HD.out.drew
          clear HD
          generalize World.drew _ = w5 at HD1 hHeld ⊢
          have HD := HD1
          clear HD1
          refine tkl (i := 0) (N := some 53) (flg 1 5) hHeld (fun _ s => s.1) hu30 ?_
          refine tkl (i := 1) (N := some 54) (flg 2 5) hHeld (fun _ s => s.2) hu36 ?_
          refine one_ (i := 2) (N := some 55) (flg 3 5) rfl rfl (by kernel_rfl) (by decide) (fun K hK => ?_)
          refine goes_ Try.func42 (by kernel_rfl) rfl #[.agg #[.int .i64 a1_0, .int .i64 a1_1, .int .i64 a1_2, .slice A1_3 l1_3.length c1_3, .slice A1_4 l1_4.length c1_4, .int .i64 a1_5], .int .i64 2] (by rfl) rfl rfl (by (try simp only [List.map_toArray, List.map_cons, List.map_nil]); first | done | rfl) ?_
          refine (impl_FaultOf.calls k a1_0 a1_1 a1_2 A1_3 c1_3 l1_3 A1_4 c1_4 l1_4 a1_5 2 f1 f2 f3 f4 f5 f6 _ (Kd.C_below Hr1_3.out HD.out.2.2.2.1) Hc1_3.out (Kd.C_below Hr1_4.out HD.out.2.2.2.1) Hc1_4.out hfo.out).mono ?_
          rintro e w6 ⟨v8, v9, rfl, o8, o9, hb_⟩
          refine ⟨_, rfl, ?_⟩
          have HLT := aM HD.out.lt
          have HSZ := aM HD.out.2.2.2.2.1
          have HD1 := aM (HD.out.below hb_)
          have H8 := aM o8
          have H9 := aM o9
          clear HD hb_ o8 o9
          have HD := HD1
          clear HD1
          obtain ⟨B8, e8, ee⟩ := Kd.R_slice H8.out
          subst ee
          obtain ⟨B9, e9, ee⟩ := Kd.R_slice H9.out
          subst ee
          refine hK.out _ _ ⟨HD.out.blk (by simp), HD.out.blk (by simp)⟩ (fun hHeld => ?_)
          clear hK K
          refine norm_ (a' := ?_) ?_ ?_
          rotate_left
          · show Act.put _ (some 55) _ = _
            simp only [Act.put, List.setIfInBounds_toArray, List.set_cons_zero, List.set_cons_succ, i64_w, i32_w]
            rfl
          refine one_ (i := 3) (N := none) (flg 4 5) rfl rfl (by kernel_rfl) (by decide) (fun K hK => ?_)
          refine store_ (by rfl) rfl rfl rfl rfl (HD.out.blk (g := gd2) (cs := #[.slice none 0 0, .slice none 0 0, .slice none 0 0, .slice none 0 0]) (t := 30) (by simp)) (by kernel_rfl) rfl (by simp [Value.oneCell']) ?_
          have H81 := aM (R_row H8.out (HD.out.blk (g := gd2) (cs := #[.slice none 0 0, .slice none 0 0, .slice none 0 0, .slice none 0 0]) (t := 30) (by simp)) (by decide) #[.slice B0 t0.length e0, .slice B1 t1.length e1, .slice B2 t2.length e2, .slice B3 t3.length e3])
          have H91 := aM (R_row H9.out (HD.out.blk (g := gd2) (cs := #[.slice none 0 0, .slice none 0 0, .slice none 0 0, .slice none 0 0]) (t := 30) (by simp)) (by decide) #[.slice B0 t0.length e0, .slice B1 t1.length e1, .slice B2 t2.length e2, .slice B3 t3.length e3])
          have HD1 := aM (HD.out.row [(go, #[.slice B0 t0.length e0, .slice B1 t1.length e1, .slice B2 t2.length e2, .slice B3 t3.length e3], 30), (gu, #[.int .i64 0, .int .i64 0, .int .i64 0, .int .i64 0, .slice none 0 0, .slice none 0 0], 32)] [(gq, #[.int .i64 a1_0, .int .i64 a1_1, .int .i64 a1_2, .slice A1_3 l1_3.length c1_3, .slice A1_4 l1_4.length c1_4, .int .i64 a1_5], 36), (gd, #[.slice A0_0 l0_0.length c0_0, .slice A0_1 l0_1.length c0_1, .slice A0_2 l0_2.length c0_2, .slice A0_3 l0_3.length c0_3], 30)] #[.slice B0 t0.length e0, .slice B1 t1.length e1, .slice B2 t2.length e2, .slice B3 t3.length e3])
          clear HD H8 H9
          generalize World.setRow _ _ _ = w7 at HD1 H81 H91 ⊢
          have H8 := H81
          clear H81
          have H9 := H91
          clear H91
          have HD := HD1
          clear HD1
          refine hK.out _ _ ⟨HD.out.blk (by simp), HD.out.blk (by simp)⟩ (fun hHeld => ?_)
          clear hK K
          refine one_ (i := 4) (N := none) (flg 5 5) rfl rfl (by kernel_rfl) (by decide) (fun K hK => ?_)
          refine store_ (by rfl) rfl rfl rfl rfl (HD.out.blk (g := gu) (cs := #[.int .i64 0, .int .i64 0, .int .i64 0, .int .i64 0, .slice none 0 0, .slice none 0 0]) (t := 32) (by simp)) (by kernel_rfl) rfl (by simp [Value.oneCell']) ?_
          have H81 := aM (R_row H8.out (HD.out.blk (g := gu) (cs := #[.int .i64 0, .int .i64 0, .int .i64 0, .int .i64 0, .slice none 0 0, .slice none 0 0]) (t := 32) (by simp)) (by decide) #[.int .i64 f1, .int .i64 f2, .int .i64 f3, .int .i64 f4, .slice B8 f5.length e8, .slice B9 f6.length e9])
          have H91 := aM (R_row H9.out (HD.out.blk (g := gu) (cs := #[.int .i64 0, .int .i64 0, .int .i64 0, .int .i64 0, .slice none 0 0, .slice none 0 0]) (t := 32) (by simp)) (by decide) #[.int .i64 f1, .int .i64 f2, .int .i64 f3, .int .i64 f4, .slice B8 f5.length e8, .slice B9 f6.length e9])
          have HD1 := aM (HD.out.row [(go, #[.slice B0 t0.length e0, .slice B1 t1.length e1, .slice B2 t2.length e2, .slice B3 t3.length e3], 30)] [(gd2, #[.slice B0 t0.length e0, .slice B1 t1.length e1, .slice B2 t2.length e2, .slice B3 t3.length e3], 30), (gq, #[.int .i64 a1_0, .int .i64 a1_1, .int .i64 a1_2, .slice A1_3 l1_3.length c1_3, .slice A1_4 l1_4.length c1_4, .int .i64 a1_5], 36), (gd, #[.slice A0_0 l0_0.length c0_0, .slice A0_1 l0_1.length c0_1, .slice A0_2 l0_2.length c0_2, .slice A0_3 l0_3.length c0_3], 30)] #[.int .i64 f1, .int .i64 f2, .int .i64 f3, .int .i64 f4, .slice B8 f5.length e8, .slice B9 f6.length e9])
          clear HD H8 H9
          generalize World.setRow _ _ _ = w8 at HD1 H81 H91 ⊢
          have H8 := H81
          clear H81
          have H9 := H91
          clear H91
          have HD := HD1
          clear HD1
          refine hK.out _ _ ⟨HD.out.blk (by simp), HD.out.blk (by simp)⟩ (fun hHeld => ?_)
          clear hK K
          refine done_ (by kernel_rfl) ?_
          try go_wp2
          refine bodyPost_ret (results_cc rfl _ _ gd2 gu 30 32 #[.slice B0 t0.length e0, .slice B1 t1.length e1, .slice B2 t2.length e2, .slice B3 t3.length e3] #[.int .i64 f1, .int .i64 f2, .int .i64 f3, .int .i64 f4, .slice B8 f5.length e8, .slice B9 f6.length e9] (0, 0) (0, 0) _ _ rfl (HD.out.blk (by simp)) hu30 rfl (by kernel_rfl) rfl (HD.out.blk (by simp)) hu32 rfl (by kernel_rfl)) rfl ?_
          exact ⟨_, _, _, _, _, _, rfl, Rows6.of HD.out.rows HLT.out H8.out H9.out HSZ.out, HD.out.2.2.2.1⟩
        | false =>
          rw [if_neg (by decide)] at h
          unfold impl_Serve.d at h
          obtain ⟨⟨r0, q2, ra, rn, rw_, rb⟩, hdo, h⟩ := Option.bind_eq_some_iff.mp h
          simp only [Option.some.injEq, Prod.mk.injEq] at h
          obtain ⟨rfl, rfl, rfl, rfl, rfl, rfl, rfl, rfl, rfl, rfl⟩ := h
          replace hdo := aM hdo
          go_wp2_with (first | ((with_reducible refine gate_dst (N := 56) rfl ?_); refine wpList_load_row rfl 36 (.tmp 3) rfl gq rfl 36 #[.int .i64 a1_0, .int .i64 a1_1, .int .i64 a1_2, .slice A1_3 l1_3.length c1_3, .slice A1_4 l1_4.length c1_4, .int .i64 a1_5] (0, 0) _ (HD.out.blk (by simp)) hu36 rfl (by kernel_rfl) ?_) | ((with_reducible refine gate_callee (f := 46) rfl ?_); refine gL (some 57) rfl rfl Try.func46 (by kernel_rfl) rfl #[.pointer (some ⟨go, 0, none⟩), .agg #[.int .i64 a1_0, .int .i64 a1_1, .int .i64 a1_2, .slice A1_3 l1_3.length c1_3, .slice A1_4 l1_4.length c1_4, .int .i64 a1_5]] rfl ?_; refine (impl_does.calls k a1_0 go B0 B1 B2 B3 e0 e1 e2 e3 t0 t1 t2 t3 a1_1 a1_2 a1_5 A1_3 A1_4 c1_3 c1_4 l1_3 l1_4 w _ (HD.out.blk (by simp)) (DX.start HD.out.rows HD.out.2.2.2.1) Hr1_3.out Hc1_3.out Hr1_4.out Hc1_4.out _ _ ra rn rw_ rb hdo.out).mono ?_; rintro e w_ ⟨v4, v5, rfl, hrows, o8, o9, hb_, hk⟩; refine ⟨_, rfl, ?_⟩; have HLT := aM HD.out.lt; have HSZ := aM HD.out.2.2.2.2.1; have HD1 := aM (HD.out.after hrows hb_ hk (by intro x hx; simp only [List.nil_append, List.cons_append, List.mem_cons, List.not_mem_nil, or_false] at hx; rcases hx with rfl | rfl | rfl | rfl | rfl <;> simp)); have H8 := aM o8; have H9 := aM o9; clear hrows o8 o9 hb_ hk; clear HD; have HD := HD1; clear HD1; obtain ⟨B8, e8, ee⟩ := Kd.R_slice H8.out; subst ee; obtain ⟨B9, e9, ee⟩ := Kd.R_slice H9.out; subst ee) | ((with_reducible refine gate_dst (N := 10) rfl ?_); refine box_event ?hg (N := 10) ?hd (cs := #[.int .i64 0, .int .i64 0, .int .i64 0, .int .i64 0, .slice none 0 0, .slice none 0 0]) (t := 32) ?hr ?_; (case hd => rfl); (case hg => rfl); (case hr => first | (go_simp; done) | (go_simp; rfl)); intro ga hg _ hbox hb_; have H81 := aM (Kd.R_below H8.out hb_); have H91 := aM (Kd.R_below H9.out hb_); clear H8 H9; have H8 := H81; have H9 := H91; clear H81 H91; have HD1 := aM (HD.out.box hg hbox hb_); clear hg hbox hb_; clear HD; have HD := HD1; clear HD1) | ((with_reducible refine gate_store (t := 32) (p := 10) rfl ?_); refine wpList_store_row rfl 32 (.tmp 10) (.tmp 57) rfl ga #[.int .i64 a1_0, .int .i64 0, .int .i64 ra, .int .i64 rn, .slice B8 rw_.length e8, .slice B9 rb.length e9] rfl rfl 32 #[.int .i64 0, .int .i64 0, .int .i64 0, .int .i64 0, .slice none 0 0, .slice none 0 0] (HD.out.blk (cs := #[.int .i64 0, .int .i64 0, .int .i64 0, .int .i64 0, .slice none 0 0, .slice none 0 0]) (t := 32) (by simp)) (by kernel_rfl) rfl (by simp [Value.oneCell']) ?_; have H81 := aM (R_row H8.out (HD.out.blk (g := ga) (cs := #[.int .i64 0, .int .i64 0, .int .i64 0, .int .i64 0, .slice none 0 0, .slice none 0 0]) (t := 32) (by simp)) (by decide) #[.int .i64 a1_0, .int .i64 0, .int .i64 ra, .int .i64 rn, .slice B8 rw_.length e8, .slice B9 rb.length e9]); have H91 := aM (R_row H9.out (HD.out.blk (g := ga) (cs := #[.int .i64 0, .int .i64 0, .int .i64 0, .int .i64 0, .slice none 0 0, .slice none 0 0]) (t := 32) (by simp)) (by decide) #[.int .i64 a1_0, .int .i64 0, .int .i64 ra, .int .i64 rn, .slice B8 rw_.length e8, .slice B9 rb.length e9]); clear H8 H9; have HD1 := aM (HD.out.row [] [(go, #[.slice B0 t0.length e0, .slice B1 t1.length e1, .slice B2 t2.length e2, .slice B3 t3.length e3], 30), (gu, #[.int .i64 0, .int .i64 0, .int .i64 0, .int .i64 0, .slice none 0 0, .slice none 0 0], 32), (gd2, #[.slice none 0 0, .slice none 0 0, .slice none 0 0, .slice none 0 0], 30), (gq, #[.int .i64 a1_0, .int .i64 a1_1, .int .i64 a1_2, .slice A1_3 l1_3.length c1_3, .slice A1_4 l1_4.length c1_4, .int .i64 a1_5], 36), (gd, #[.slice A0_0 l0_0.length c0_0, .slice A0_1 l0_1.length c0_1, .slice A0_2 l0_2.length c0_2, .slice A0_3 l0_3.length c0_3], 30)] #[.int .i64 a1_0, .int .i64 0, .int .i64 ra, .int .i64 rn, .slice B8 rw_.length e8, .slice B9 rb.length e9]); clear HD; generalize World.setRow _ _ _ = w_ at HD1 H81 H91 ⊢; have HD := HD1; have H8 := H81; have H9 := H91; clear HD1 H81 H91))
          refine start_ (n := 4) (S := fun w' => w'.heap[go]? = some (.cells #[.slice B0 t0.length e0, .slice B1 t1.length e1, .slice B2 t2.length e2, .slice B3 t3.length e3] 30 (0, 0)) ∧ w'.heap[ga]? = some (.cells #[.int .i64 a1_0, .int .i64 0, .int .i64 ra, .int .i64 rn, .slice B8 rw_.length e8, .slice B9 rb.length e9] 32 (0, 0))) (ds := []) (flg 0 4) (by kernel_rfl) rfl rfl ⟨HD.out.drew.blk (by simp), HD.out.drew.blk (by simp)⟩ (fun hHeld => ?_)
          have HD1 := aM HD.out.drew
          have H81 := aM (Kd.R_drew H8.out)
          have H91 := aM (Kd.R_drew H9.out)
          clear HD H8 H9
          generalize World.drew _ = w5 at HD1 H81 H91 hHeld ⊢
          have HD := HD1
          have H8 := H81
          have H9 := H91
          clear HD1 H81 H91
          refine tkl (i := 0) (N := some 58) (flg 1 4) hHeld (fun _ s => s.1) hu30 ?_
          refine tkl (i := 1) (N := some 59) (flg 2 4) hHeld (fun _ s => s.2) hu32 ?_
          refine one_ (i := 2) (N := none) (flg 3 4) rfl rfl (by kernel_rfl) (by decide) (fun K hK => ?_)
          refine store_ (by rfl) rfl rfl rfl rfl (HD.out.blk (g := gd2) (cs := #[.slice none 0 0, .slice none 0 0, .slice none 0 0, .slice none 0 0]) (t := 30) (by simp)) (by kernel_rfl) rfl (by simp [Value.oneCell']) ?_
          have H81 := aM (R_row H8.out (HD.out.blk (g := gd2) (cs := #[.slice none 0 0, .slice none 0 0, .slice none 0 0, .slice none 0 0]) (t := 30) (by simp)) (by decide) #[.slice B0 t0.length e0, .slice B1 t1.length e1, .slice B2 t2.length e2, .slice B3 t3.length e3])
          have H91 := aM (R_row H9.out (HD.out.blk (g := gd2) (cs := #[.slice none 0 0, .slice none 0 0, .slice none 0 0, .slice none 0 0]) (t := 30) (by simp)) (by decide) #[.slice B0 t0.length e0, .slice B1 t1.length e1, .slice B2 t2.length e2, .slice B3 t3.length e3])
          have HD1 := aM (HD.out.row [(ga, #[.int .i64 a1_0, .int .i64 0, .int .i64 ra, .int .i64 rn, .slice B8 rw_.length e8, .slice B9 rb.length e9], 32), (go, #[.slice B0 t0.length e0, .slice B1 t1.length e1, .slice B2 t2.length e2, .slice B3 t3.length e3], 30), (gu, #[.int .i64 0, .int .i64 0, .int .i64 0, .int .i64 0, .slice none 0 0, .slice none 0 0], 32)] [(gq, #[.int .i64 a1_0, .int .i64 a1_1, .int .i64 a1_2, .slice A1_3 l1_3.length c1_3, .slice A1_4 l1_4.length c1_4, .int .i64 a1_5], 36), (gd, #[.slice A0_0 l0_0.length c0_0, .slice A0_1 l0_1.length c0_1, .slice A0_2 l0_2.length c0_2, .slice A0_3 l0_3.length c0_3], 30)] #[.slice B0 t0.length e0, .slice B1 t1.length e1, .slice B2 t2.length e2, .slice B3 t3.length e3])
          clear HD H8 H9
          generalize World.setRow _ _ _ = w7 at HD1 H81 H91 ⊢
          have H8 := H81
          clear H81
          have H9 := H91
          clear H91
          have HD := HD1
          clear HD1
          refine hK.out _ _ ⟨HD.out.blk (by simp), HD.out.blk (by simp)⟩ (fun hHeld => ?_)
          clear hK K
          refine one_ (i := 3) (N := none) (flg 4 4) rfl rfl (by kernel_rfl) (by decide) (fun K hK => ?_)
          refine store_ (by rfl) rfl rfl rfl rfl (HD.out.blk (g := gu) (cs := #[.int .i64 0, .int .i64 0, .int .i64 0, .int .i64 0, .slice none 0 0, .slice none 0 0]) (t := 32) (by simp)) (by kernel_rfl) rfl (by simp [Value.oneCell']) ?_
          have H81 := aM (R_row H8.out (HD.out.blk (g := gu) (cs := #[.int .i64 0, .int .i64 0, .int .i64 0, .int .i64 0, .slice none 0 0, .slice none 0 0]) (t := 32) (by simp)) (by decide) #[.int .i64 a1_0, .int .i64 0, .int .i64 ra, .int .i64 rn, .slice B8 rw_.length e8, .slice B9 rb.length e9])
          have H91 := aM (R_row H9.out (HD.out.blk (g := gu) (cs := #[.int .i64 0, .int .i64 0, .int .i64 0, .int .i64 0, .slice none 0 0, .slice none 0 0]) (t := 32) (by simp)) (by decide) #[.int .i64 a1_0, .int .i64 0, .int .i64 ra, .int .i64 rn, .slice B8 rw_.length e8, .slice B9 rb.length e9])
          have HD1 := aM (HD.out.row [(ga, #[.int .i64 a1_0, .int .i64 0, .int .i64 ra, .int .i64 rn, .slice B8 rw_.length e8, .slice B9 rb.length e9], 32), (go, #[.slice B0 t0.length e0, .slice B1 t1.length e1, .slice B2 t2.length e2, .slice B3 t3.length e3], 30)] [(gd2, #[.slice B0 t0.length e0, .slice B1 t1.length e1, .slice B2 t2.length e2, .slice B3 t3.length e3], 30), (gq, #[.int .i64 a1_0, .int .i64 a1_1, .int .i64 a1_2, .slice A1_3 l1_3.length c1_3, .slice A1_4 l1_4.length c1_4, .int .i64 a1_5], 36), (gd, #[.slice A0_0 l0_0.length c0_0, .slice A0_1 l0_1.length c0_1, .slice A0_2 l0_2.length c0_2, .slice A0_3 l0_3.length c0_3], 30)] #[.int .i64 a1_0, .int .i64 0, .int .i64 ra, .int .i64 rn, .slice B8 rw_.length e8, .slice B9 rb.length e9])
          clear HD H8 H9
          generalize World.setRow _ _ _ = w8 at HD1 H81 H91 ⊢
          have H8 := H81
          clear H81
          have H9 := H91
          clear H91
          have HD := HD1
          clear HD1
          refine hK.out _ _ ⟨HD.out.blk (by simp), HD.out.blk (by simp)⟩ (fun hHeld => ?_)
          clear hK K
          refine done_ (by kernel_rfl) ?_
          try go_wp2
          refine bodyPost_ret (results_cc rfl _ _ gd2 gu 30 32 #[.slice B0 t0.length e0, .slice B1 t1.length e1, .slice B2 t2.length e2, .slice B3 t3.length e3] #[.int .i64 a1_0, .int .i64 0, .int .i64 ra, .int .i64 rn, .slice B8 rw_.length e8, .slice B9 rb.length e9] (0, 0) (0, 0) _ _ rfl (HD.out.blk (by simp)) hu30 rfl (by kernel_rfl) rfl (HD.out.blk (by simp)) hu32 rfl (by kernel_rfl)) rfl ?_
          exact ⟨_, _, _, _, _, _, rfl, Rows6.of HD.out.rows HLT.out H8.out H9.out HSZ.out, HD.out.2.2.2.1⟩
end Go.Proofs.Ytiogbjbkfhhdhaa.G
