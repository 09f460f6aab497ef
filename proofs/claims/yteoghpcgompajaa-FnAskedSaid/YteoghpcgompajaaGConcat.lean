/- What slices.Grow of nil and slices.Concat of byte slices do: a row of their own, with all elements one behind the other. Condition: fewer than 2^46 elements in all. -/
import Derived.Test.YteoghpcgompajaaProg
import Derived.Test.YteoghpcgompajaaWMore
import Derived.WalkSpells
import Derived.Lib.AppendZeros
namespace Go.Proofs.Yteoghpcgompajaa.G
open Go.RowKit Go.Proofs.YteoghpcgompajaaW.PrintWords Go.Proofs.YteoghpcgompajaaW.PrintLast Go.Proofs.YteoghpcgompajaaW.PrintMore
set_option linter.unusedVariables false
set_option linter.unusedSimpArgs false
theorem infoCc : (Try.prog.info? 5).map (fun i => (i.zero, i.size, i.bytes)) = some (some (.int .u8 0), 1, 1) := by kernel_rfl

/-- Row number i. -/
def nth (ls : List (List Int)) (i : Nat) : List Int := ls.getD i []
/-- The first i rows, one behind the other; how long they are. -/
def pre (ls : List (List Int)) (i : Nat) : List Int := (ls.take i).flatten
def tot (ls : List (List Int)) (i : Nat) : Nat := (pre ls i).length
theorem at_slice {w : World} {A : Option Addr} {n : Nat} {ls : List (List Int)} (h : (Kd.slice 5 (Kd.int .u8)).C w A n ls) (i : Int) (h0 : 0 ≤ i) (h1 : i < n) :
    ∃ ad A' c', A = some ad ∧ w.cell? (ad.add i.toNat) = some (.slice A' (nth ls i.toNat).length c') ∧ (Kd.int .u8).C w A' (nth ls i.toNat).length (nth ls i.toNat) := by
  obtain ⟨ad, c, e, hc, ⟨A', c', rfl, hl, hr⟩, hcell⟩ := ReadsRow.get_ h [] i h0 h1
  refine ⟨ad, A', c', e, ?_, hr⟩
  have := hcell 0 _ rfl
  simpa [Kd.slice, nth] using this

theorem R_room {W : World} {base g cap : Nat} {cur : Array Value} {e : Nat} (hb : base ≤ g) (hh : W.heap[g]? = some (.cells cur e (0, 0))) (hm : cap ≤ maxLen) (hs : cur.size = cap) :
    Kd.R (Kd.int .u8) e W base (fun _ => True) (.slice (some ⟨g, 0, none⟩) 0 cap) [] :=
  ⟨fun _ _ => trivial, [], ⟨rfl, .inr ⟨g, cap, cur, rfl, hb, hh, Nat.zero_le _, hm, by simpa [Kd.int, Kd.scalar] using hs, by simp⟩⟩, Reps.none _ _⟩

set_option maxHeartbeats 4000000 in
set_option maxRecDepth 100000 in
theorem grow_nil (n : Nat) (w : World) (hn : n ≤ 70368744177664) :
    Calls Try.prog 79 #[.slice none 0 0, .int .i64 (n : Int)] w fun e w' => ∃ v0_ : Value, e = .returned v0_ ∧ Kd.R (Kd.int .u8) 5 w' w.heap.size (fun _ => True) v0_ [] ∧ Below w.heap.size w w' := by
  obtain ⟨i0, hi, hz⟩ := Option.map_eq_some_iff.1 infoCc
  simp only [Prod.mk.injEq] at hz
  obtain ⟨hz0, hz1, hz2⟩ := hz
  have c6 : decide ((n : Int) < 0) = false := decide_eq_false (by omega)
  have e14 : wrap64 ((n : Int) - 0) = (n : Int) := by unfold wrap64; omega
  rcases Nat.eq_zero_or_pos n with h0 | h0
  · subst h0
    go_enter Try.func79, Try.ntmps79
    go_wp2
    go_ret
    exact ⟨_, rfl, Kd.R_nil _ _ _ _ _, Below.refl _ _⟩
  · have c16 : decide ((n : Int) > 0) = true := decide_eq_true (by omega)
    have happ := Lib.run_append_nil_zeros (P := Try.prog) w 33 3 33 5 i0 (.int .u8 0) .i64 .i64 Try.underlying33 Try.underlying3 hi hz0 n h0 (by omega) (by omega) (by rw [hz2]; omega)
    have hcaple : grownCap w n 0 5 ≤ maxLen := grownCap_le_maxLen w _ 0 5 (by unfold maxLen; omega)
    have hcapge : n ≤ grownCap w n 0 5 := grownCap_ge w _ 0 5
    generalize hcap : grownCap w n 0 5 = cap2 at happ hcaple hcapge
    generalize hZ : (Builtin.zeroCells (Value.int .u8 0).cells n ++ Builtin.zeroCells (Value.int .u8 0).cells (cap2 - n)) = Z at happ
    have hZs : Z.size = cap2 := by rw [← hZ]; simp [size_zeroCells, Value.cells]; omega
    clear hcap hZ
    go_enter Try.func79, Try.ntmps79
    go_wp2_with (at_builtin; refine Lib.wpList_append_run _ rfl _ _ _ _ rfl _ _ rfl rfl _ _ happ ?_)
    go_ret
    refine ⟨_, rfl, ?_, ?_⟩
    · exact R_room (Nat.le_refl _) (heap_alloc_new _ _) hcaple hZs
    · exact below_alloc (below_drew1 (Below.refl _ _)) _

theorem pre_succ {ls : List (List Int)} {i : Nat} (hi : i < ls.length) : pre ls (i + 1) = pre ls i ++ nth ls i := by
  unfold pre nth
  rw [List.take_succ_eq_append_getElem hi, List.flatten_append]
  simp [List.getD, hi]
theorem tot_succ {ls : List (List Int)} {i : Nat} (hi : i < ls.length) : tot ls (i + 1) = tot ls i + (nth ls i).length := by
  unfold tot
  rw [pre_succ hi, List.length_append]
theorem tot_le (ls : List (List Int)) (i : Nat) : tot ls i ≤ ls.flatten.length := by
  have h : ls.flatten = (ls.take i).flatten ++ (ls.drop i).flatten := by rw [← List.flatten_append, List.take_append_drop]
  unfold tot pre
  rw [h, List.length_append]; omega
theorem pre_all (ls : List (List Int)) {i : Nat} (h : ls.length ≤ i) : pre ls i = ls.flatten := by unfold pre; rw [List.take_of_length_le h]

set_option maxHeartbeats 8000000 in
set_option maxRecDepth 100000 in
theorem concat_any (A : Option Addr) (c : Nat) (ls : List (List Int)) (w : World) (hr : (Kd.slice 5 (Kd.int .u8)).C w A ls.length ls) (hl : ls.flatten.length ≤ 70368744177664) :
    Calls Try.prog 67 #[.slice A ls.length c] w fun e w' => ∃ v0_ : Value, e = .returned v0_ ∧ Kd.R (Kd.int .u8) 5 w' w.heap.size (fun _ => True) v0_ ls.flatten ∧ Below w.heap.size w w' := by
  have HR := Aside0.mk hr
  have HL := Aside0.mk hl
  have HN := Aside0.mk hr.2.1
  clear hr hl
  go_enter Try.func67, Try.ntmps67
  go_wp2
  go_loopg [3, 11] ls.length (fun kq v3 v11 w' => ∃ (x11 : Int), v11 = .int .i64 x11 ∧ v3 = .int .i64 ((tot ls x11.toNat : Nat) : Int) ∧ Aside0 (0 ≤ x11) ∧ Aside0 (x11 + kq = ls.length) ∧ Drawn0 w w')
  case atStart => exact ⟨0, rfl, rfl, ⟨by omega⟩, ⟨by omega⟩, Drawn0.refl _⟩
  case round =>
    obtain ⟨x11, rfl, rfl, HA, HK1, ⟨m1, rfl⟩⟩ := hrel
    cases gk with
    | zero =>
      have c12 : decide (x11 < (ls.length : Int)) = false := decide_eq_false (by have := HK1.out; omega)
      have hx : tot ls x11.toNat ≤ 70368744177664 := Nat.le_trans (tot_le ls _) HL.out
      have HT := Aside0.mk hx
      clear hx
      have HB := Aside0.mk (pw_below_drewN (Below.refl w.heap.size w) m1)
      go_wp2_with ((with_reducible refine gate_callee (f := 79) rfl ?_); refine goesL_ (some 24) rfl rfl Try.func79 (by kernel_rfl) rfl #[.slice none 0 0, .int .i64 ((tot ls x11.toNat : Nat) : Int)] rfl (by (try simp only [List.map_toArray, List.map_cons, List.map_nil]); first | done | rfl) ?_; refine (grow_nil (tot ls x11.toNat) _ HT.out).mono ?_; rintro e w2 ⟨v1, rfl, ho, hb⟩; refine ⟨_, rfl, ?_⟩; have HO := Aside0.mk (Kd.R_lower ho (below_size HB.out)); have HB2 := Aside0.mk (below_step HB.out hb); clear ho hb HB)
      go_loopg [6, 27] ls.length (fun kq v6 v27 w' => ∃ (x27 : Int), v27 = .int .i64 x27 ∧ Aside0 (0 ≤ x27) ∧ Aside0 (x27 + kq = ls.length) ∧ Aside0 (Kd.R (Kd.int .u8) 5 w' w.heap.size (fun _ => True) v6 (pre ls x27.toNat)) ∧ Aside0 (Below w.heap.size w w'))
      case atStart => exact ⟨0, rfl, ⟨by omega⟩, ⟨by omega⟩, ⟨HO.out⟩, HB2⟩
      case round =>
        clear HO HB2
        obtain ⟨x27, rfl, HA2, HK2, HO, HB⟩ := hrel
        cases gk with
        | zero =>
          have c28 : decide (x27 < (ls.length : Int)) = false := decide_eq_false (by have := HK2.out; omega)
          have hx : pre ls x27.toNat = ls.flatten := pre_all ls (by have := HK2.out; omega)
          have HO2 := HO.out
          rw [hx] at HO2
          have HO3 := Aside0.mk HO2
          clear hx HO2
          go_wp2
          go_ret
          exact ⟨_, rfl, HO3.out, HB.out⟩
        | succ k1 =>
          have c28 : decide (x27 < (ls.length : Int)) = true := decide_eq_true (by have := HK2.out; omega)
          have p29 : 0 ≤ (x27 : Int) := HA2.out
          have q29 : x27 < (ls.length : Int) := of_decide_eq_true c28
          obtain ⟨ad, A', c', e29, hx29, hC⟩ := at_slice HR.out x27 p29 q29
          cases e29
          have HX := Aside0.mk hC
          have hlt : x27.toNat < ls.length := by omega
          have E1 := Aside0.mk (pre_succ hlt)
          have HS := Aside0.mk (below_size HB.out)
          have HLL := Aside0.mk (show (pre ls x27.toNat).length + (nth ls x27.toNat).length ≤ 70368744177664 by
            have h2 := tot_le ls (x27.toNat + 1); unfold tot at h2; rw [E1.out, List.length_append] at h2; have := HL.out; omega)
          replace hx29 := (HB.out.cell (World.block_lt_of_cell? w _ hx29)).trans hx29
          clear hC hlt
          replace p29 := eq_true p29
          replace q29 := eq_true q29
          go_wp2_with ((with_reducible refine gate_builtin (b := .append) (xs := #[.tmp 31, .tmp 32]) rfl ?_); at_builtin; refine Kd.R_append_rows (Kd.int .u8) (w0 := w) w.heap.size rfl (.tmp 31) (.tmp 32) 33 5 (.int .u8 0) 1 rfl Try.underlying33 infoCc rfl (by decide) (by omega) _ (pre ls x27.toNat) (nth ls x27.toNat) _ _ _ (fun _ => True) (fun _ => False) rfl rfl HO.out (Kd.C_below HX.out HB.out) (fun _ _ h => h) (fun _ h => h.elim) (fun _ _ => trivial) HB.out HS.out (by have := HLL.out; omega) ?_; intro v2 w2 ho hb hg hat; rw [← E1.out] at ho; have HO2 := Aside0.mk ho; have HB2 := Aside0.mk hb; clear ho hb hg hat)
          go_roundg k1
          case measure => have := HK2.out; omega
          case rel =>
            have ew : wrap64 (x27 + 1) = x27 + 1 := by unfold wrap64; have := HA2.out; have := HK2.out; have := HN.out; omega
            refine ⟨x27 + 1, by first | rfl | rw [ew] | simp [ew], ⟨by have := HA2.out; omega⟩, ⟨by have := HK2.out; omega⟩, ⟨?_⟩, ⟨HB2.out⟩⟩
            rw [show (x27 + 1).toNat = x27.toNat + 1 from by have := HA2.out; omega]
            exact HO2.out
    | succ k1 =>
      have c12 : decide (x11 < (ls.length : Int)) = true := decide_eq_true (by have := HK1.out; omega)
      have p13 : 0 ≤ (x11 : Int) := HA.out
      have q13 : x11 < (ls.length : Int) := of_decide_eq_true c12
      obtain ⟨ad, A', c', e13, hx13, hC⟩ := at_slice HR.out x11 p13 q13
      cases e13
      have hlt : x11.toNat < ls.length := by omega
      have e1 := tot_succ hlt
      have e2 : tot ls (x11.toNat + 1) ≤ 70368744177664 := Nat.le_trans (tot_le ls _) HL.out
      have e18 : wrap64 (((tot ls x11.toNat : Nat) : Int) + (((nth ls x11.toNat).length : Nat) : Int)) = ((tot ls (x11.toNat + 1) : Nat) : Int) := by unfold wrap64; omega
      have c20 : decide (((tot ls (x11.toNat + 1) : Nat) : Int) < 0) = false := decide_eq_false (by omega)
      clear e1 e2 hlt
      replace p13 := eq_true p13
      replace q13 := eq_true q13
      go_wp2
      go_roundg k1
      case measure => have := HK1.out; omega
      case rel =>
        have ew : wrap64 (x11 + 1) = x11 + 1 := by unfold wrap64; have := HA.out; have := HK1.out; have := HN.out; omega
        refine ⟨x11 + 1, by first | rfl | rw [ew] | simp [ew], ?_, ⟨by have := HA.out; omega⟩, ⟨by have := HK1.out; omega⟩, by repeat (first | exact Drawn0.refl _ | apply Drawn0.step)⟩
        rw [show (x11 + 1).toNat = x11.toNat + 1 from by have := HA.out; omega]
        first | rfl | rw [e18] | simp [e18]
end Go.Proofs.Yteoghpcgompajaa.G
