/- Printed by a program of this session (the kit's print, with contracts of this session's own): what functions come to, and that their code comes to it. -/
import Derived.Test.YthnjgcdajjodjaaPFnStoredx0
import Derived.Test.YthnjgcdajjodjaaPFnStoredx1
namespace Go.Proofs.Ythnjgcdajjodjaa.PFnStored
open Go.RowKit Go.Proofs.YthnjgcdajjodjaaW.PrintWords Go.Proofs.YthnjgcdajjodjaaW.PrintLast Go.Proofs.YthnjgcdajjodjaaW.PrintMore
open Go.Proofs.YthnjgcdajjodjaaW.PrintFl
attribute [local go_sem high] binOp_feq binOp_fne binOp_fls binOp_fle binOp_fgr binOp_fge
attribute [local go_sem] run_fopr run_fconv run_fint run_stf run_stc ext_f32bits ext_f64bits ext_f32frombits 
attribute [local go_sem] max2_int min2_int max_two min_two max_three min_three max_four min_four   -- for this text's walks alone
set_option linter.unusedVariables false
set_option linter.unusedSimpArgs false

/-! ### impl_unpackValues: function 28 -/
def impl_unpackValues.l0 : Nat → ByteArray → List Nat → Int → Int → Int → Int → Int → Option (List Nat × Bool)
  | 0, _, _, _, _, _, _, _ => none
  | k + 1, x0, x4, x5, x6, x7, x13, x14 => if x14 < x13 then (if 0 ≤ x14 then (if x14 < (x0.size : Int) then (if 0 ≤ x7 then (if (bt x0 x14) ≥ 128 then (if (wrap64 (x7 + 7)) > 28 then (some (([] : List Nat), false)) else (impl_unpackValues.l0 k x0 x4 x5 (Go.bits .or .i64 x6 (shl .i64 (wrap64 (Go.bits .and .u8 (bt x0 x14) 127)) x7)) (wrap64 (x7 + 7)) x13 (wrap64 (x14 + 1)))) else (if (Int.tmod (Go.bits .or .i64 x6 (shl .i64 (wrap64 (Go.bits .and .u8 (bt x0 x14) 127)) x7)) 2) = 1 then ((impl_FromBits.f (Int.tmod (wrap64 ((Int.tmod (wrap64 (x5 + (wrap64 (Int.tdiv (wrap64 (-(wrap64 ((Go.bits .or .i64 x6 (shl .i64 (wrap64 (Go.bits .and .u8 (bt x0 x14) 127)) x7)) + 1)))) 2)))) 4294967296) + 4294967296)) 4294967296)).bind fun bt128 => (if x4.length < 35184372088832 then (impl_unpackValues.l0 k x0 (x4 ++ [bt128.1]) (Int.tmod (wrap64 ((Int.tmod (wrap64 (x5 + (wrap64 (Int.tdiv (wrap64 (-(wrap64 ((Go.bits .or .i64 x6 (shl .i64 (wrap64 (Go.bits .and .u8 (bt x0 x14) 127)) x7)) + 1)))) 2)))) 4294967296) + 4294967296)) 4294967296) 0 0 x13 (wrap64 (x14 + 1))) else (none))) else ((impl_FromBits.f (Int.tmod (wrap64 ((Int.tmod (wrap64 (x5 + (wrap64 (Int.tdiv (Go.bits .or .i64 x6 (shl .i64 (wrap64 (Go.bits .and .u8 (bt x0 x14) 127)) x7)) 2)))) 4294967296) + 4294967296)) 4294967296)).bind fun bt133 => (if x4.length < 35184372088832 then (impl_unpackValues.l0 k x0 (x4 ++ [bt133.1]) (Int.tmod (wrap64 ((Int.tmod (wrap64 (x5 + (wrap64 (Int.tdiv (Go.bits .or .i64 x6 (shl .i64 (wrap64 (Go.bits .and .u8 (bt x0 x14) 127)) x7)) 2)))) 4294967296) + 4294967296)) 4294967296) 0 0 x13 (wrap64 (x14 + 1))) else (none))))) else (none)) else (none)) else (none)) else (if x7 = 0 then ((impl_within.f (x4.length : Int) 1 256).bind fun t127 => (some (x4, t127))) else (some (x4, false)))
def impl_unpackValues.f (k : Nat) (a0 : ByteArray) : Option (List Nat × Bool) := impl_unpackValues.l0 k a0 ([] : List Nat) 0 0 0 (a0.size : Int) 0
theorem impl_unpackValues.mono_l : ∀ k, (∀ y0 y1 y2 y3 y4 y5 y6, LeO (impl_unpackValues.l0 k y0 y1 y2 y3 y4 y5 y6) (impl_unpackValues.l0 (k + 1) y0 y1 y2 y3 y4 y5 y6))
  | 0 => fun _ _ _ _ _ _ _ r h => by simp [impl_unpackValues.l0] at h
  | k + 1 => by
    have ih0 := impl_unpackValues.mono_l k
    · intro y0 y1 y2 y3 y4 y5 y6
      unfold impl_unpackValues.l0
      repeat' first
      | (with_reducible exact ih0 _ _ _ _ _ _ _)
      | (with_reducible exact LeO.refl _)
      | (with_reducible exact LeO.none _)
      | (with_reducible refine LeO.ite ?_ ?_)
      | (with_reducible refine LeO.bind ?_ (fun _ => ?_))
      | exact ih0 _ _ _ _ _ _ _
      | exact LeO.none _
      | refine LeO.ite ?_ ?_
      | refine LeO.bind ?_ (fun _ => ?_)
theorem impl_unpackValues.mono : ∀ a0 k, LeO (impl_unpackValues.f k a0) (impl_unpackValues.f (k + 1) a0) := by
  intro a0 k
  have ih0 := impl_unpackValues.mono_l k
  unfold impl_unpackValues.f
  repeat' first
      | (with_reducible exact ih0 _ _ _ _ _ _ _)
      | (with_reducible exact LeO.refl _)
      | (with_reducible exact LeO.none _)
      | (with_reducible refine LeO.ite ?_ ?_)
      | (with_reducible refine LeO.bind ?_ (fun _ => ?_))
      | exact ih0 _ _ _ _ _ _ _
      | exact LeO.none _
      | refine LeO.ite ?_ ?_
      | refine LeO.bind ?_ (fun _ => ?_)
set_option maxHeartbeats 8000000 in
set_option maxRecDepth 100000 in
theorem impl_unpackValues.calls (k : Nat) (a0 : ByteArray) (r1 : List Nat) (r2 : Bool) (w : World) (h : impl_unpackValues.f k a0 = some (r1, r2)) :
    Calls Try.prog 28 #[.string a0] w fun e w' => ∃ v0_ : Value, e = .returned (.tuple #[v0_, .bool r2]) ∧ Kd.R (Kd.float .f32) 58 w' w.heap.size (fun _ => True) v0_ r1 ∧ Below w.heap.size w w' := by
  have HB := Aside0.mk (Below.refl w.heap.size w)
  have H : (impl_unpackValues.l0 k a0 ([] : List Nat) 0 0 0 (a0.size : Int) 0) = some (r1, r2) := h
  clear h
  have H' := Aside0.mk H
  clear H
  go_enter Try.func28, Try.ntmps28
  go_wp2
  go_loopg [4, 5, 6, 7, 14] k (fun kq v4 v5 v6 v7 v14 w' => ∃ (x4_1 : List Nat) (x5_1 : Int) (x6_1 : Int) (x7_1 : Int) (x14_1 : Int), v5 = .int .i64 x5_1 ∧ v6 = .int .i64 x6_1 ∧ v7 = .int .i64 x7_1 ∧ v14 = .int .i64 x14_1 ∧ Aside0 (impl_unpackValues.l0 kq a0 x4_1 x5_1 x6_1 x7_1 (a0.size : Int) x14_1 = some (r1, r2)) ∧ Aside0 (kq ≤ k) ∧ Aside0 (Kd.R (Kd.float .f32) 58 w' w.heap.size (fun _ => True) v4 x4_1) ∧ Aside0 (Below w.heap.size w w'))
  case atStart => exact ⟨(([] : List Nat)), (0), (0), (0), (0), (by first | rfl | (simp; done) | (simp [*]; done)), (by first | rfl | (simp; done) | (simp [*]; done)), (by first | rfl | (simp; done) | (simp [*]; done)), (by first | rfl | (simp; done) | (simp [*]; done)), H', ⟨Nat.le_refl _⟩, ⟨by first | exact Kd.R_nil _ _ _ _ _ | exact Kd.N_nil _ _ _ _ _ | exact Kd.V_nil _ _ _ _ _ | exact Kd.Q_nil _ _ _ _ _ | exact Kd.S_nil _ _ _ _ _⟩, ⟨by repeat (first | (with_reducible first | exact HB.out | apply below_alloc | apply pw_below_drewN | apply below_drew1) | exact HB.out)⟩⟩
  case round =>
    clear H'
    obtain ⟨x4_1, x5_1, x6_1, x7_1, x14_1, rfl, rfl, rfl, rfl, HA, HK1, HO_4, HB⟩ := hrel
    cases gk with
    | zero => exact absurd HA.out (by simp [impl_unpackValues.l0])
    | succ k1 =>
      have H := HA.out
      clear HA
      simp only [impl_unpackValues.l0] at H
      by_cases c2 : x14_1 < (a0.size : Int)
      · rw [if_pos c2] at H
        have c2b0 : decide (x14_1 < (a0.size : Int)) = true := decide_eq_true c2
        clear c2
        by_cases c3 : 0 ≤ x14_1
        · rw [if_pos c3] at H
          have c3b0 : decide (0 ≤ x14_1) = true := decide_eq_true c3
          clear c3
          by_cases c4 : x14_1 < (a0.size : Int)
          · rw [if_pos c4] at H
            have c4b0 : decide (x14_1 < (a0.size : Int)) = true := decide_eq_true c4
            clear c4
            by_cases c6 : 0 ≤ x7_1
            · rw [if_pos c6] at H
              have c6b0 := eq_true c6
              have c6b1 : decide (0 ≤ x7_1) = true := decide_eq_true c6
              clear c6
              obtain ⟨ji7, hji7⟩ : ∃ j_ : Int, (shl .i64 (wrap64 (Go.bits .and .u8 (bt a0 x14_1) 127)) x7_1) = j_ := ⟨_, rfl⟩
              replace H : (if (bt a0 x14_1) ≥ 128 then (if (wrap64 (x7_1 + 7)) > 28 then (some (([] : List Nat), false)) else (impl_unpackValues.l0 k1 a0 x4_1 x5_1 (Go.bits .or .i64 x6_1 (ji7)) (wrap64 (x7_1 + 7)) (a0.size : Int) (wrap64 (x14_1 + 1)))) else (if (Int.tmod (Go.bits .or .i64 x6_1 (ji7)) 2) = 1 then ((impl_FromBits.f (Int.tmod (wrap64 ((Int.tmod (wrap64 (x5_1 + (wrap64 (Int.tdiv (wrap64 (-(wrap64 ((Go.bits .or .i64 x6_1 (ji7)) + 1)))) 2)))) 4294967296) + 4294967296)) 4294967296)).bind fun bt128 => (if x4_1.length < 35184372088832 then (impl_unpackValues.l0 k1 a0 (x4_1 ++ [bt128.1]) (Int.tmod (wrap64 ((Int.tmod (wrap64 (x5_1 + (wrap64 (Int.tdiv (wrap64 (-(wrap64 ((Go.bits .or .i64 x6_1 (ji7)) + 1)))) 2)))) 4294967296) + 4294967296)) 4294967296) 0 0 (a0.size : Int) (wrap64 (x14_1 + 1))) else (none))) else ((impl_FromBits.f (Int.tmod (wrap64 ((Int.tmod (wrap64 (x5_1 + (wrap64 (Int.tdiv (Go.bits .or .i64 x6_1 (ji7)) 2)))) 4294967296) + 4294967296)) 4294967296)).bind fun bt133 => (if x4_1.length < 35184372088832 then (impl_unpackValues.l0 k1 a0 (x4_1 ++ [bt133.1]) (Int.tmod (wrap64 ((Int.tmod (wrap64 (x5_1 + (wrap64 (Int.tdiv (Go.bits .or .i64 x6_1 (ji7)) 2)))) 4294967296) + 4294967296)) 4294967296) 0 0 (a0.size : Int) (wrap64 (x14_1 + 1))) else (none))))) = some (r1, r2) := by first | (rw [hji7] at H; exact H) | (simp only [hji7] at H ⊢; exact H)
              have hji7_ : (IntKind.i64.wrap ((wrap64 (Go.bits .and .u8 (bt a0 x14_1) 127)) * 2 ^ min x7_1.toNat 64)) = ji7 := hji7
              have hji7z : x7_1 ≤ 64 → (IntKind.i64.wrap ((wrap64 (Go.bits .and .u8 (bt a0 x14_1) 127)) * 2 ^ x7_1.toNat)) = ji7 := shl_small hji7
              have hji7y : (wrap64 ((wrap64 (Go.bits .and .u8 (bt a0 x14_1) 127)) * 2 ^ min x7_1.toNat 64)) = ji7 := (i64_w _).symm.trans hji7_
              have hji7x : x7_1 ≤ 64 → (wrap64 ((wrap64 (Go.bits .and .u8 (bt a0 x14_1) 127)) * 2 ^ x7_1.toNat)) = ji7 := fun h_ => (i64_w _).symm.trans (hji7z h_)
              by_cases c9 : (bt a0 x14_1) ≥ 128
              · rw [if_pos c9] at H
                have c9b0 : decide (128 ≤ (bt a0 x14_1)) = true := decide_eq_true c9
                clear c9
                by_cases c10 : (wrap64 (x7_1 + 7)) > 28
                · rw [if_pos c10] at H
                  have c10b0 : decide (28 < (wrap64 (x7_1 + 7))) = true := decide_eq_true c10
                  clear c10
                  simp only [Option.some.injEq, Prod.mk.injEq] at H
                  obtain ⟨rfl, rfl⟩ := H
                  have p5 : 0 ≤ (x14_1 : Int) := of_decide_eq_true (by first | (with_reducible assumption) | assumption)
                  have q5 : x14_1 < (a0.size : Int) := of_decide_eq_true (by first | (with_reducible assumption) | assumption)
                  have hx5 := bt_at a0 x14_1
                  replace p5 := eq_true p5
                  replace q5 := eq_true q5
                  have p8 : 0 ≤ (x14_1 : Int) := of_decide_eq_true (by first | (with_reducible assumption) | assumption)
                  have q8 : x14_1 < (a0.size : Int) := of_decide_eq_true (by first | (with_reducible assumption) | assumption)
                  have hx8 := bt_at a0 x14_1
                  replace p8 := eq_true p8
                  replace q8 := eq_true q8
                  go_wp2
                  go_ret2
                  exact ⟨_, by first | rfl | (simp [errW_none, errW_some] <;> rfl) | (simp only [← hji7]; first | rfl | (simp [errW_none, errW_some] <;> rfl)) | (simp [*, errW_none, errW_some] <;> rfl), by first | exact Kd.R_nil _ _ _ _ _ | exact Kd.N_nil _ _ _ _ _ | exact Kd.V_nil _ _ _ _ _ | exact Kd.Q_nil _ _ _ _ _ | exact Kd.S_nil _ _ _ _ _, by repeat (first | (with_reducible first | exact HB.out | apply below_alloc | apply pw_below_drewN | apply below_drew1) | exact HB.out)⟩
                · rw [if_neg c10] at H
                  have c10b0 : decide (28 < (wrap64 (x7_1 + 7))) = false := decide_eq_false c10
                  clear c10
                  have H' := Aside0.mk H
                  clear H
                  have p5 : 0 ≤ (x14_1 : Int) := of_decide_eq_true (by first | (with_reducible assumption) | assumption)
                  have q5 : x14_1 < (a0.size : Int) := of_decide_eq_true (by first | (with_reducible assumption) | assumption)
                  have hx5 := bt_at a0 x14_1
                  replace p5 := eq_true p5
                  replace q5 := eq_true q5
                  have p8 : 0 ≤ (x14_1 : Int) := of_decide_eq_true (by first | (with_reducible assumption) | assumption)
                  have q8 : x14_1 < (a0.size : Int) := of_decide_eq_true (by first | (with_reducible assumption) | assumption)
                  have hx8 := bt_at a0 x14_1
                  replace p8 := eq_true p8
                  replace q8 := eq_true q8
                  go_wp2
                  go_roundg k1
                  case measure => have := HK1.out; omega
                  case rel => exact ⟨(x4_1), (x5_1), (Go.bits .or .i64 x6_1 (ji7)), (wrap64 (x7_1 + 7)), (wrap64 (x14_1 + 1)), (by first | rfl | (simp; done) | (simp [*]; done)), (by first | rfl | (simp; done) | (simp only [← hji7] <;> (first | rfl | simp)) | (simp [*]; done)), (by first | rfl | (simp; done) | (simp [*]; done)), (by first | rfl | (simp; done) | (simp [*]; done)), H', ⟨by have := HK1.out; omega⟩, ⟨by (with_reducible repeat (first | apply Kd.R_alloc | apply Kd.R_drewN | apply Kd.R_drew)); exact HO_4.out⟩, ⟨by repeat (first | (with_reducible first | exact HB.out | apply below_alloc | apply pw_below_drewN | apply below_drew1) | exact HB.out)⟩⟩
              · rw [if_neg c9] at H
                have c9b0 : decide (128 ≤ (bt a0 x14_1)) = false := decide_eq_false c9
                clear c9
                by_cases c11 : (Int.tmod (Go.bits .or .i64 x6_1 (ji7)) 2) = 1
                · rw [if_pos c11] at H
                  have c11b0 : ((Int.tmod (Go.bits .or .i64 x6_1 (ji7)) 2) == 1) = true := beq_iff_eq.mpr c11
                  have c11b1 : ((Int.tmod (Go.bits .or .i64 x6_1 (ji7)) 2) != 1) = false := bne_eq_false_iff_eq.mpr c11
                  clear c11
                  replace H := Option.bind_eq_some_iff.mp H
                  obtain ⟨⟨t128, t129⟩, A120, H⟩ := H
                  replace H : (if x4_1.length < 35184372088832 then (impl_unpackValues.l0 k1 a0 (x4_1 ++ [t128]) (Int.tmod (wrap64 ((Int.tmod (wrap64 (x5_1 + (wrap64 (Int.tdiv (wrap64 (-(wrap64 ((Go.bits .or .i64 x6_1 (ji7)) + 1)))) 2)))) 4294967296) + 4294967296)) 4294967296) 0 0 (a0.size : Int) (wrap64 (x14_1 + 1))) else (none)) = some (r1, r2) := H
                  have A12 := Aside0.mk A120
                  clear A120
                  by_cases c13 : x4_1.length < 35184372088832
                  · rw [if_pos c13] at H
                    have LMc13 := Aside0.mk c13
                    clear c13
                    obtain ⟨y130, hy130⟩ : ∃ y_ : List Nat, y_ = (x4_1 ++ [t128]) := ⟨_, rfl⟩
                    replace H : (impl_unpackValues.l0 k1 a0 y130 (Int.tmod (wrap64 ((Int.tmod (wrap64 (x5_1 + (wrap64 (Int.tdiv (wrap64 (-(wrap64 ((Go.bits .or .i64 x6_1 (ji7)) + 1)))) 2)))) 4294967296) + 4294967296)) 4294967296) 0 0 (a0.size : Int) (wrap64 (x14_1 + 1))) = some (r1, r2) := by first | (rw [hy130]; with_reducible exact H) | (have H2_ := (Option.bind_some _ _).symm.trans H; rw [hy130]; with_reducible exact H2_) | (have H2_ := (Option.bind_some _ _).symm.trans H; with_reducible exact H2_) | with_reducible exact H | (rw [hy130]; exact H) | exact H
                    have Ny130 := Aside0.mk hy130
                    clear hy130
                    have H' := Aside0.mk H
                    clear H
                    have p5 : 0 ≤ (x14_1 : Int) := of_decide_eq_true (by first | (with_reducible assumption) | assumption)
                    have q5 : x14_1 < (a0.size : Int) := of_decide_eq_true (by first | (with_reducible assumption) | assumption)
                    have hx5 := bt_at a0 x14_1
                    replace p5 := eq_true p5
                    replace q5 := eq_true q5
                    have p8 : 0 ≤ (x14_1 : Int) := of_decide_eq_true (by first | (with_reducible assumption) | assumption)
                    have q8 : x14_1 < (a0.size : Int) := of_decide_eq_true (by first | (with_reducible assumption) | assumption)
                    have hx8 := bt_at a0 x14_1
                    replace p8 := eq_true p8
                    replace q8 := eq_true q8
                    go_wp2_with (first | ((with_reducible refine gate_callee (f := 41) rfl ?_); refine goesL_ (some 51) rfl rfl Try.func41 (by kernel_rfl) rfl #[.int .i64 (Int.tmod (wrap64 ((Int.tmod (wrap64 (x5_1 + (wrap64 (Int.tdiv (wrap64 (-(wrap64 ((Go.bits .or .i64 x6_1 (ji7)) + 1)))) 2)))) 4294967296) + 4294967296)) 4294967296)] rfl (by (try simp only [List.map_toArray, List.map_cons, List.map_nil]); first | done | (simp only [hji7]; rfl) | rfl | (simp only [List.length_drop, List.length_take]; rfl)) ?_; (with_reducible refine (impl_FromBits.calls (Int.tmod (wrap64 ((Int.tmod (wrap64 (x5_1 + (wrap64 (Int.tdiv (wrap64 (-(wrap64 ((Go.bits .or .i64 x6_1 (ji7)) + 1)))) 2)))) 4294967296) + 4294967296)) 4294967296) t128 t129 _ A12.out).mono ?_); rintro e w' ⟨rfl, ⟨nd, rfl⟩⟩; refine ⟨_, rfl, ?_⟩) | ((with_reducible refine gate_builtin (b := .append) (xs := #[.tmp 54, .tmp 56]) rfl ?_); (try (refine gate_guard (by rfl) ?_; dsimp only)); at_builtin; refine Kd.R_append (Kd.float .f32) (w0 := w) w.heap.size rfl (.tmp 54) (.tmp 56) 26 58 (.float .f32 0) 4 rfl Try.underlying26 info58 rfl (by decide) (by omega) u4 x4_1 t128 [.float .f32 t128] (fun _ => True) (fun _ => False) rfl rfl ?aP (fun _ hk => hk.elim) ?aF ?aO ?aB ?aS ?aL ?_; (case aP => exact rfl); (case aB => exact (by repeat (first | (with_reducible first | exact HB.out | apply below_alloc | apply pw_below_drewN | apply below_drew1) | exact HB.out))); (case aF => exact (fun _ _ => trivial)); (case aO => exact (by (with_reducible repeat (first | apply Kd.R_alloc | apply Kd.R_drewN | apply Kd.R_drew)); exact HO_4.out)); (case aS => exact (below_size (by repeat (first | (with_reducible first | exact HB.out | apply below_alloc | apply pw_below_drewN | apply below_drew1) | exact HB.out)))); (case aL => have := LMc13.out; omega); intro v131 w14 ho hb hg hat; rw [← Ny130.out] at ho; have n0_ := Aside0.mk (hb); have n1_ := Aside0.mk (ho); clear HB; clear HO_4; have HB := n0_; have HO132 := n1_; clear n0_ n1_; clear ho hb hg hat))
                    go_roundg k1
                    case measure => have := HK1.out; omega
                    case rel => exact ⟨(y130), (Int.tmod (wrap64 ((Int.tmod (wrap64 (x5_1 + (wrap64 (Int.tdiv (wrap64 (-(wrap64 ((Go.bits .or .i64 x6_1 (ji7)) + 1)))) 2)))) 4294967296) + 4294967296)) 4294967296), (0), (0), (wrap64 (x14_1 + 1)), (by first | rfl | (simp; done) | (simp only [← hji7] <;> (first | rfl | simp)) | (simp [*]; done)), (by first | rfl | (simp; done) | (simp [*]; done)), (by first | rfl | (simp; done) | (simp [*]; done)), (by first | rfl | (simp; done) | (simp [*]; done)), H', ⟨by have := HK1.out; omega⟩, ⟨by (with_reducible repeat (first | apply Kd.R_alloc | apply Kd.R_drewN | apply Kd.R_drew)); exact HO132.out⟩, ⟨by repeat (first | (with_reducible first | exact HB.out | apply below_alloc | apply pw_below_drewN | apply below_drew1) | exact HB.out)⟩⟩
                  · rw [if_neg c13] at H
                    exact absurd H (by simp)
                · rw [if_neg c11] at H
                  have c11b0 : ((Int.tmod (Go.bits .or .i64 x6_1 (ji7)) 2) == 1) = false := beq_eq_false_iff_ne.mpr c11
                  have c11b1 : ((Int.tmod (Go.bits .or .i64 x6_1 (ji7)) 2) != 1) = true := bne_iff_ne.mpr c11
                  replace H := Option.bind_eq_some_iff.mp H
                  obtain ⟨⟨t133, t134⟩, A150, H⟩ := H
                  replace H : (if x4_1.length < 35184372088832 then (impl_unpackValues.l0 k1 a0 (x4_1 ++ [t133]) (Int.tmod (wrap64 ((Int.tmod (wrap64 (x5_1 + (wrap64 (Int.tdiv (Go.bits .or .i64 x6_1 (ji7)) 2)))) 4294967296) + 4294967296)) 4294967296) 0 0 (a0.size : Int) (wrap64 (x14_1 + 1))) else (none)) = some (r1, r2) := H
                  have A15 := Aside0.mk A150
                  clear A150
                  by_cases c16 : x4_1.length < 35184372088832
                  · rw [if_pos c16] at H
                    have LMc16 := Aside0.mk c16
                    clear c16
                    obtain ⟨y135, hy135⟩ : ∃ y_ : List Nat, y_ = (x4_1 ++ [t133]) := ⟨_, rfl⟩
                    replace H : (impl_unpackValues.l0 k1 a0 y135 (Int.tmod (wrap64 ((Int.tmod (wrap64 (x5_1 + (wrap64 (Int.tdiv (Go.bits .or .i64 x6_1 (ji7)) 2)))) 4294967296) + 4294967296)) 4294967296) 0 0 (a0.size : Int) (wrap64 (x14_1 + 1))) = some (r1, r2) := by first | (rw [hy135]; with_reducible exact H) | (have H2_ := (Option.bind_some _ _).symm.trans H; rw [hy135]; with_reducible exact H2_) | (have H2_ := (Option.bind_some _ _).symm.trans H; with_reducible exact H2_) | with_reducible exact H | (rw [hy135]; exact H) | exact H
                    have Ny135 := Aside0.mk hy135
                    clear hy135
                    have H' := Aside0.mk H
                    clear H
                    have p5 : 0 ≤ (x14_1 : Int) := of_decide_eq_true (by first | (with_reducible assumption) | assumption)
                    have q5 : x14_1 < (a0.size : Int) := of_decide_eq_true (by first | (with_reducible assumption) | assumption)
                    have hx5 := bt_at a0 x14_1
                    replace p5 := eq_true p5
                    replace q5 := eq_true q5
                    have p8 : 0 ≤ (x14_1 : Int) := of_decide_eq_true (by first | (with_reducible assumption) | assumption)
                    have q8 : x14_1 < (a0.size : Int) := of_decide_eq_true (by first | (with_reducible assumption) | assumption)
                    have hx8 := bt_at a0 x14_1
                    replace p8 := eq_true p8
                    replace q8 := eq_true q8
                    go_wp2_with (first | ((with_reducible refine gate_callee (f := 41) rfl ?_); refine goesL_ (some 51) rfl rfl Try.func41 (by kernel_rfl) rfl #[.int .i64 (Int.tmod (wrap64 ((Int.tmod (wrap64 (x5_1 + (wrap64 (Int.tdiv (Go.bits .or .i64 x6_1 (ji7)) 2)))) 4294967296) + 4294967296)) 4294967296)] rfl (by (try simp only [List.map_toArray, List.map_cons, List.map_nil]); first | done | (simp only [hji7]; rfl) | rfl | (simp only [List.length_drop, List.length_take]; rfl)) ?_; (with_reducible refine (impl_FromBits.calls (Int.tmod (wrap64 ((Int.tmod (wrap64 (x5_1 + (wrap64 (Int.tdiv (Go.bits .or .i64 x6_1 (ji7)) 2)))) 4294967296) + 4294967296)) 4294967296) t133 t134 _ A15.out).mono ?_); rintro e w' ⟨rfl, ⟨nd, rfl⟩⟩; refine ⟨_, rfl, ?_⟩) | ((with_reducible refine gate_builtin (b := .append) (xs := #[.tmp 54, .tmp 56]) rfl ?_); (try (refine gate_guard (by rfl) ?_; dsimp only)); at_builtin; refine Kd.R_append (Kd.float .f32) (w0 := w) w.heap.size rfl (.tmp 54) (.tmp 56) 26 58 (.float .f32 0) 4 rfl Try.underlying26 info58 rfl (by decide) (by omega) u4 x4_1 t133 [.float .f32 t133] (fun _ => True) (fun _ => False) rfl rfl ?aP (fun _ hk => hk.elim) ?aF ?aO ?aB ?aS ?aL ?_; (case aP => exact rfl); (case aB => exact (by repeat (first | (with_reducible first | exact HB.out | apply below_alloc | apply pw_below_drewN | apply below_drew1) | exact HB.out))); (case aF => exact (fun _ _ => trivial)); (case aO => exact (by (with_reducible repeat (first | apply Kd.R_alloc | apply Kd.R_drewN | apply Kd.R_drew)); exact HO_4.out)); (case aS => exact (below_size (by repeat (first | (with_reducible first | exact HB.out | apply below_alloc | apply pw_below_drewN | apply below_drew1) | exact HB.out)))); (case aL => have := LMc16.out; omega); intro v136 w17 ho hb hg hat; rw [← Ny135.out] at ho; have n0_ := Aside0.mk (hb); have n1_ := Aside0.mk (ho); clear HB; clear HO_4; have HB := n0_; have HO137 := n1_; clear n0_ n1_; clear ho hb hg hat))
                    go_roundg k1
                    case measure => have := HK1.out; omega
                    case rel => exact ⟨(y135), (Int.tmod (wrap64 ((Int.tmod (wrap64 (x5_1 + (wrap64 (Int.tdiv (Go.bits .or .i64 x6_1 (ji7)) 2)))) 4294967296) + 4294967296)) 4294967296), (0), (0), (wrap64 (x14_1 + 1)), (by first | rfl | (simp; done) | (simp only [← hji7] <;> (first | rfl | simp)) | (simp [*]; done)), (by first | rfl | (simp; done) | (simp [*]; done)), (by first | rfl | (simp; done) | (simp [*]; done)), (by first | rfl | (simp; done) | (simp [*]; done)), H', ⟨by have := HK1.out; omega⟩, ⟨by (with_reducible repeat (first | apply Kd.R_alloc | apply Kd.R_drewN | apply Kd.R_drew)); exact HO137.out⟩, ⟨by repeat (first | (with_reducible first | exact HB.out | apply below_alloc | apply pw_below_drewN | apply below_drew1) | exact HB.out)⟩⟩
                  · rw [if_neg c16] at H
                    exact absurd H (by simp)
            · rw [if_neg c6] at H
              exact absurd H (by simp)
          · rw [if_neg c4] at H
            exact absurd H (by simp)
        · rw [if_neg c3] at H
          exact absurd H (by simp)
      · rw [if_neg c2] at H
        have c2b0 : decide (x14_1 < (a0.size : Int)) = false := decide_eq_false c2
        clear c2
        by_cases c18 : x7_1 = 0
        · rw [if_pos c18] at H
          have c18b0 : (x7_1 == 0) = true := beq_iff_eq.mpr c18
          have c18b1 : (x7_1 != 0) = false := bne_eq_false_iff_eq.mpr c18
          clear c18
          replace H := Option.bind_eq_some_iff.mp H
          obtain ⟨t127, A190, H⟩ := H
          replace H : (some (x4_1, t127)) = some (r1, r2) := H
          have A19 := Aside0.mk A190
          clear A190
          simp only [Option.some.injEq, Prod.mk.injEq] at H
          obtain ⟨rfl, rfl⟩ := H
          obtain ⟨Ao20, co20, eo20⟩ := Kd.R_slice HO_4.out
          subst eo20
          go_wp2_with (first | (go_at_call 26; (with_reducible refine (impl_within.calls (x4_1.length : Int) 1 256 t127 _ A19.out).mono ?_); rintro e w' ⟨rfl, ⟨nd, rfl⟩⟩))
          go_ret2
          exact ⟨_, by first | rfl | (simp [errW_none, errW_some] <;> rfl) | (simp [*, errW_none, errW_some] <;> rfl), by (with_reducible repeat (first | apply Kd.R_alloc | apply Kd.R_drewN | apply Kd.R_drew)); exact HO_4.out, by repeat (first | (with_reducible first | exact HB.out | apply below_alloc | apply pw_below_drewN | apply below_drew1) | exact HB.out)⟩
        · rw [if_neg c18] at H
          have c18b0 : (x7_1 == 0) = false := beq_eq_false_iff_ne.mpr c18
          have c18b1 : (x7_1 != 0) = true := bne_iff_ne.mpr c18
          simp only [Option.some.injEq, Prod.mk.injEq] at H
          obtain ⟨rfl, rfl⟩ := H
          go_wp2
          go_ret2
          exact ⟨_, by first | rfl | (simp [errW_none, errW_some] <;> rfl) | (simp [*, errW_none, errW_some] <;> rfl), by (with_reducible repeat (first | apply Kd.R_alloc | apply Kd.R_drewN | apply Kd.R_drew)); exact HO_4.out, by repeat (first | (with_reducible first | exact HB.out | apply below_alloc | apply pw_below_drewN | apply below_drew1) | exact HB.out)⟩

end Go.Proofs.Ythnjgcdajjodjaa.PFnStored
