/- Printed by a program of this session (the kit's print, with contracts of this session's own): what functions come to, and that their code comes to it. -/
import Derived.Test.YtgiednkailakgaaPFnExactLoadBlockx0
import Derived.Test.YtgiednkailakgaaPFnExactLoadBlockx4
namespace Go.Proofs.Ytgiednkailakgaa.PFnExactLoadBlock
open Go.RowKit Go.Proofs.YtgiednkailakgaaW.PrintWords Go.Proofs.YtgiednkailakgaaW.PrintLast Go.Proofs.YtgiednkailakgaaW.PrintMore
open Go.Proofs.YtgiednkailakgaaW.PrintFl
attribute [local go_sem high] binOp_feq binOp_fne binOp_fls binOp_fle binOp_fgr binOp_fge
attribute [local go_sem] run_fopr run_fconv run_fint run_stf run_stc ext_f32bits ext_f64bits ext_f32frombits 
attribute [local go_sem] max2_int min2_int max_two min_two max_three min_three max_four min_four   -- for this text's walks alone
set_option linter.unusedVariables false
set_option linter.unusedSimpArgs false

/-! ### spec_l07Unpack: function 56 -/
mutual
def spec_l07Unpack.l0 : Nat → ByteArray → List Nat → Int → Int → Option (List Nat × Bool)
  | 0, _, _, _, _ => none
  | k + 1, x0, x4, x5, x6 => if x6 < (x0.size : Int) then (spec_l07Unpack.l1 k x0 x4 x5 x6 0 1) else ((spec_l07Values.f x4).bind fun t184 => (if t184 = true then ((spec_l07Pack.f k x4).bind fun t185 => (if t185.toList = x0.toList then (some (x4, true)) else (some (([] : List Nat), false)))) else (some (([] : List Nat), false))))
def spec_l07Unpack.j2 : Nat → ByteArray → List Nat → Int → Int → Int → Int → Option (List Nat × Bool)
  | 0, _, _, _, _, _, _ => none
  | k + 1, x0, x4, x5, x6, x7, x8 => if x6 = (x0.size : Int) then (spec_l07Unpack.j3 k x0 x4 x5 x6 x7 x8 true) else (if 0 ≤ x6 then (if x6 < (x0.size : Int) then (spec_l07Unpack.j3 k x0 x4 x5 x6 x7 x8 (decide ((bt x0 x6) ≥ 128))) else (none)) else (none))
def spec_l07Unpack.j3 : Nat → ByteArray → List Nat → Int → Int → Int → Int → Bool → Option (List Nat × Bool)
  | 0, _, _, _, _, _, _, _ => none
  | k + 1, x0, x4, x5, x6, x7, x8, x51 => if x51 = true then (some (([] : List Nat), false)) else (if 0 ≤ x6 then (if x6 < (x0.size : Int) then (if (Int.tmod (wrap64 (x7 + (wrap64 ((wrap64 (bt x0 x6)) * x8)))) 2) = 1 then ((spec_l01From.f (Int.tmod (wrap64 ((Int.tmod (wrap64 (x5 + (wrap64 (Int.tdiv (wrap64 (-(wrap64 ((wrap64 (x7 + (wrap64 ((wrap64 (bt x0 x6)) * x8)))) + 1)))) 2)))) 4294967296) + 4294967296)) 4294967296)).bind fun t176 => (if x4.length < 35184372088832 then ((some (x4 ++ [t176] : List Nat)).bind fun y177 => (if (y177.length : Int) > 256 then (some (([] : List Nat), false)) else (spec_l07Unpack.l0 k x0 y177 (Int.tmod (wrap64 ((Int.tmod (wrap64 (x5 + (wrap64 (Int.tdiv (wrap64 (-(wrap64 ((wrap64 (x7 + (wrap64 ((wrap64 (bt x0 x6)) * x8)))) + 1)))) 2)))) 4294967296) + 4294967296)) 4294967296) (wrap64 (x6 + 1))))) else (none))) else ((spec_l01From.f (Int.tmod (wrap64 ((Int.tmod (wrap64 (x5 + (wrap64 (Int.tdiv (wrap64 (x7 + (wrap64 ((wrap64 (bt x0 x6)) * x8)))) 2)))) 4294967296) + 4294967296)) 4294967296)).bind fun t180 => (if x4.length < 35184372088832 then ((some (x4 ++ [t180] : List Nat)).bind fun y181 => (if (y181.length : Int) > 256 then (some (([] : List Nat), false)) else (spec_l07Unpack.l0 k x0 y181 (Int.tmod (wrap64 ((Int.tmod (wrap64 (x5 + (wrap64 (Int.tdiv (wrap64 (x7 + (wrap64 ((wrap64 (bt x0 x6)) * x8)))) 2)))) 4294967296) + 4294967296)) 4294967296) (wrap64 (x6 + 1))))) else (none)))) else (none)) else (none))
def spec_l07Unpack.l1 : Nat → ByteArray → List Nat → Int → Int → Int → Int → Option (List Nat × Bool)
  | 0, _, _, _, _, _, _ => none
  | k + 1, x0, x4, x5, x6, x7, x8 => if x6 < (x0.size : Int) then (if 0 ≤ x6 then (if (bt x0 x6) ≥ 128 then (if x8 < 268435456 then (spec_l07Unpack.l1 k x0 x4 x5 (wrap64 (x6 + 1)) (wrap64 (x7 + (wrap64 ((((bt x0 x6) - 128) % 256) * x8)))) (wrap64 (x8 * 128))) else (spec_l07Unpack.j2 k x0 x4 x5 x6 x7 x8)) else (spec_l07Unpack.j2 k x0 x4 x5 x6 x7 x8)) else (none)) else (spec_l07Unpack.j2 k x0 x4 x5 x6 x7 x8)
end
def spec_l07Unpack.f (k : Nat) (a0 : ByteArray) : Option (List Nat × Bool) := spec_l07Unpack.l0 k a0 (([] : List Nat)) 0 0
theorem spec_l07Unpack.mono_l : ∀ k, (∀ y0 y1 y2 y3, LeO (spec_l07Unpack.l0 k y0 y1 y2 y3) (spec_l07Unpack.l0 (k + 1) y0 y1 y2 y3)) ∧ (∀ y0 y1 y2 y3 y4 y5, LeO (spec_l07Unpack.j2 k y0 y1 y2 y3 y4 y5) (spec_l07Unpack.j2 (k + 1) y0 y1 y2 y3 y4 y5)) ∧ (∀ y0 y1 y2 y3 y4 y5 y6, LeO (spec_l07Unpack.j3 k y0 y1 y2 y3 y4 y5 y6) (spec_l07Unpack.j3 (k + 1) y0 y1 y2 y3 y4 y5 y6)) ∧ (∀ y0 y1 y2 y3 y4 y5, LeO (spec_l07Unpack.l1 k y0 y1 y2 y3 y4 y5) (spec_l07Unpack.l1 (k + 1) y0 y1 y2 y3 y4 y5))
  | 0 => ⟨fun _ _ _ _ r h => by simp [spec_l07Unpack.l0] at h, fun _ _ _ _ _ _ r h => by simp [spec_l07Unpack.j2] at h, fun _ _ _ _ _ _ _ r h => by simp [spec_l07Unpack.j3] at h, fun _ _ _ _ _ _ r h => by simp [spec_l07Unpack.l1] at h⟩
  | k + 1 => by
    obtain ⟨ih0, ih1, ih2, ih3⟩ := spec_l07Unpack.mono_l k
    refine ⟨?_, ?_, ?_, ?_⟩
    · intro y0 y1 y2 y3
      unfold spec_l07Unpack.l0
      repeat' first
      | (with_reducible exact ih0 _ _ _ _)
      | (with_reducible exact ih1 _ _ _ _ _ _)
      | (with_reducible exact ih2 _ _ _ _ _ _ _)
      | (with_reducible exact ih3 _ _ _ _ _ _)
      | (with_reducible exact spec_l07Pack.mono _ _)
      | (with_reducible exact LeO.refl _)
      | (with_reducible exact LeO.none _)
      | (with_reducible refine LeO.ite ?_ ?_)
      | (with_reducible refine LeO.bind ?_ (fun _ => ?_))
      | exact ih0 _ _ _ _
      | exact ih1 _ _ _ _ _ _
      | exact ih2 _ _ _ _ _ _ _
      | exact ih3 _ _ _ _ _ _
      | exact spec_l07Pack.mono _ _
      | exact LeO.none _
      | refine LeO.ite ?_ ?_
      | refine LeO.bind ?_ (fun _ => ?_)
    · intro y0 y1 y2 y3 y4 y5
      unfold spec_l07Unpack.j2
      repeat' first
      | (with_reducible exact ih0 _ _ _ _)
      | (with_reducible exact ih1 _ _ _ _ _ _)
      | (with_reducible exact ih2 _ _ _ _ _ _ _)
      | (with_reducible exact ih3 _ _ _ _ _ _)
      | (with_reducible exact spec_l07Pack.mono _ _)
      | (with_reducible exact LeO.refl _)
      | (with_reducible exact LeO.none _)
      | (with_reducible refine LeO.ite ?_ ?_)
      | (with_reducible refine LeO.bind ?_ (fun _ => ?_))
      | exact ih0 _ _ _ _
      | exact ih1 _ _ _ _ _ _
      | exact ih2 _ _ _ _ _ _ _
      | exact ih3 _ _ _ _ _ _
      | exact spec_l07Pack.mono _ _
      | exact LeO.none _
      | refine LeO.ite ?_ ?_
      | refine LeO.bind ?_ (fun _ => ?_)
    · intro y0 y1 y2 y3 y4 y5 y6
      unfold spec_l07Unpack.j3
      repeat' first
      | (with_reducible exact ih0 _ _ _ _)
      | (with_reducible exact ih1 _ _ _ _ _ _)
      | (with_reducible exact ih2 _ _ _ _ _ _ _)
      | (with_reducible exact ih3 _ _ _ _ _ _)
      | (with_reducible exact spec_l07Pack.mono _ _)
      | (with_reducible exact LeO.refl _)
      | (with_reducible exact LeO.none _)
      | (with_reducible refine LeO.ite ?_ ?_)
      | (with_reducible refine LeO.bind ?_ (fun _ => ?_))
      | exact ih0 _ _ _ _
      | exact ih1 _ _ _ _ _ _
      | exact ih2 _ _ _ _ _ _ _
      | exact ih3 _ _ _ _ _ _
      | exact spec_l07Pack.mono _ _
      | exact LeO.none _
      | refine LeO.ite ?_ ?_
      | refine LeO.bind ?_ (fun _ => ?_)
    · intro y0 y1 y2 y3 y4 y5
      unfold spec_l07Unpack.l1
      repeat' first
      | (with_reducible exact ih0 _ _ _ _)
      | (with_reducible exact ih1 _ _ _ _ _ _)
      | (with_reducible exact ih2 _ _ _ _ _ _ _)
      | (with_reducible exact ih3 _ _ _ _ _ _)
      | (with_reducible exact spec_l07Pack.mono _ _)
      | (with_reducible exact LeO.refl _)
      | (with_reducible exact LeO.none _)
      | (with_reducible refine LeO.ite ?_ ?_)
      | (with_reducible refine LeO.bind ?_ (fun _ => ?_))
      | exact ih0 _ _ _ _
      | exact ih1 _ _ _ _ _ _
      | exact ih2 _ _ _ _ _ _ _
      | exact ih3 _ _ _ _ _ _
      | exact spec_l07Pack.mono _ _
      | exact LeO.none _
      | refine LeO.ite ?_ ?_
      | refine LeO.bind ?_ (fun _ => ?_)
theorem spec_l07Unpack.mono : ∀ a0 k, LeO (spec_l07Unpack.f k a0) (spec_l07Unpack.f (k + 1) a0) := by
  intro a0 k
  obtain ⟨ih0, ih1, ih2, ih3⟩ := spec_l07Unpack.mono_l k
  unfold spec_l07Unpack.f
  repeat' first
      | (with_reducible exact ih0 _ _ _ _)
      | (with_reducible exact ih1 _ _ _ _ _ _)
      | (with_reducible exact ih2 _ _ _ _ _ _ _)
      | (with_reducible exact ih3 _ _ _ _ _ _)
      | (with_reducible exact spec_l07Pack.mono _ _)
      | (with_reducible exact LeO.refl _)
      | (with_reducible exact LeO.none _)
      | (with_reducible refine LeO.ite ?_ ?_)
      | (with_reducible refine LeO.bind ?_ (fun _ => ?_))
      | exact ih0 _ _ _ _
      | exact ih1 _ _ _ _ _ _
      | exact ih2 _ _ _ _ _ _ _
      | exact ih3 _ _ _ _ _ _
      | exact spec_l07Pack.mono _ _
      | exact LeO.none _
      | refine LeO.ite ?_ ?_
      | refine LeO.bind ?_ (fun _ => ?_)
set_option maxHeartbeats 8000000 in
set_option maxRecDepth 100000 in
theorem spec_l07Unpack.calls (k : Nat) (a0 : ByteArray) (r1 : List Nat) (r2 : Bool) (w : World) (h : spec_l07Unpack.f k a0 = some (r1, r2)) :
    Calls Try.prog 56 #[.string a0] w fun e w' => ∃ v0_ : Value, e = .returned (.tuple #[v0_, .bool r2]) ∧ Kd.R (Kd.float .f32) 65 w' w.heap.size (fun _ => True) v0_ r1 ∧ Below w.heap.size w w' := by
  have HB := Aside0.mk (Below.refl w.heap.size w)
  have H : (spec_l07Unpack.l0 k a0 (([] : List Nat)) 0 0) = some (r1, r2) := h
  clear h
  obtain ⟨y173, hy173⟩ : ∃ y_ : List Nat, y_ = (([] : List Nat)) := ⟨_, rfl⟩
  replace H : (spec_l07Unpack.l0 k a0 y173 0 0) = some (r1, r2) := by first | (rw [hy173]; with_reducible exact H) | (have H2_ := (Option.bind_some _ _).symm.trans H; rw [hy173]; with_reducible exact H2_) | (have H2_ := (Option.bind_some _ _).symm.trans H; with_reducible exact H2_) | with_reducible exact H | (rw [hy173]; exact H) | exact H
  have Ny173 := Aside0.mk hy173
  clear hy173
  have H' := Aside0.mk H
  clear H
  go_enter Try.func56, Try.ntmps56
  go_wp2_with (first | ((with_reducible refine gate_dst (N := 10) rfl ?_); refine Kd.R_lit (Kd.float .f32) _ 65 ?hg (N := 10) ?hd (xs := ([] : List Nat)) (inner := []) (ok := fun _ => True) (okp := fun _ => True) ?hr ?hp (fun _ hk => hk) trivial (Below.refl _ _) (Nat.le_refl _) (by simp) ?_; (case hd => rfl); (case hg => rfl); (case hr => first | (go_simp; done) | (go_simp; rfl) | (simp (disch := omega) only [w64_id]; go_simp; done) | (go_simp; simp (disch := omega) only [w64_id]; done)); (case hp => exact (Reps.none _ _)); intro v174 w2 ho3 hb hg_ hnew_; clear hg_ hnew_; (first | rw [← Ny173.out] at ho3 | (simp only [Int.reduceToNat] at ho3; rw [← Ny173.out] at ho3)); have n0_ := Aside0.mk (Kd.R_lower ho3 (below_size (by repeat (first | (with_reducible first | exact HB.out | apply below_alloc | apply pw_below_drewN | apply below_drew1) | exact HB.out)))); have n1_ := Aside0.mk (below_step (by repeat (first | (with_reducible first | exact HB.out | apply below_alloc | apply pw_below_drewN | apply below_drew1) | exact HB.out)) hb); clear HB; have HO175 := n0_; have HB := n1_; clear n0_ n1_; clear hb ho3))
  go_loopg [4, 5, 6] k (fun kq v4 v5 v6 w' => ∃ (x4_1 : List Nat) (x5_1 : Int) (x6_1 : Int), v5 = .int .i64 x5_1 ∧ v6 = .int .i64 x6_1 ∧ Aside0 (spec_l07Unpack.l0 kq a0 x4_1 x5_1 x6_1 = some (r1, r2)) ∧ Aside0 (kq ≤ k) ∧ Aside0 (Kd.R (Kd.float .f32) 65 w' w.heap.size (fun _ => True) v4 x4_1) ∧ Aside0 (Below w.heap.size w w'))
  case atStart => exact ⟨(y173), (0), (0), (by first | rfl | (simp; done) | (simp [*]; done)), (by first | rfl | (simp; done) | (simp [*]; done)), H', ⟨Nat.le_refl _⟩, ⟨by (with_reducible repeat (first | apply Kd.R_alloc | apply Kd.R_drewN | apply Kd.R_drew)); exact HO175.out⟩, ⟨by repeat (first | (with_reducible first | exact HB.out | apply below_alloc | apply pw_below_drewN | apply below_drew1) | exact HB.out)⟩⟩
  case round =>
    clear H'
    try clear p2
    obtain ⟨x4_1, x5_1, x6_1, rfl, rfl, HA, HK1, HO_4, HB⟩ := hrel
    cases gk with
    | zero => exact absurd HA.out (by simp [spec_l07Unpack.l0])
    | succ k1 =>
      have H := HA.out
      clear HA
      simp only [spec_l07Unpack.l0] at H
      by_cases c4 : x6_1 < (a0.size : Int)
      · rw [if_pos c4] at H
        have c4b0 : decide (x6_1 < (a0.size : Int)) = true := decide_eq_true c4
        clear c4
        have HC5 := Aside0.mk H
        clear H
        go_upto_block 2 with (fail)
        go_cut [6, 7, 8] (fun v6 v7 v8 wc => ∃ (kq : Nat) (x6_4 : Int) (x7_4 : Int) (x8_4 : Int), v6 = .int .i64 x6_4 ∧ v7 = .int .i64 x7_4 ∧ v8 = .int .i64 x8_4 ∧ Aside0 (spec_l07Unpack.j2 kq a0 x4_1 x5_1 x6_4 x7_4 x8_4 = some (r1, r2)) ∧ Aside0 (kq ≤ k1) ∧ Aside0 (Kd.R (Kd.float .f32) 65 wc w.heap.size (fun _ => True) u4 x4_1) ∧ Aside0 (Below w.heap.size w wc))
        case first =>
          have H := HC5.out
          clear HC5
          have H' := Aside0.mk H
          clear H
          go_wp2
          go_loopg [6, 7, 8] k1 (fun kq v6 v7 v8 w' => ∃ (x6_2 : Int) (x7_2 : Int) (x8_2 : Int), v6 = .int .i64 x6_2 ∧ v7 = .int .i64 x7_2 ∧ v8 = .int .i64 x8_2 ∧ Aside0 (spec_l07Unpack.l1 kq a0 x4_1 x5_1 x6_2 x7_2 x8_2 = some (r1, r2)) ∧ Aside0 (kq ≤ k1) ∧ Aside0 (Kd.R (Kd.float .f32) 65 w' w.heap.size (fun _ => True) u4 x4_1) ∧ Aside0 (Below w.heap.size w w'))
          case atStart => exact ⟨(x6_1), (0), (1), (by first | rfl | (simp; done) | (simp [*]; done)), (by first | rfl | (simp; done) | (simp [*]; done)), (by first | rfl | (simp; done) | (simp [*]; done)), H', ⟨Nat.le_refl _⟩, ⟨by (with_reducible repeat (first | apply Kd.R_alloc | apply Kd.R_drewN | apply Kd.R_drew)); exact HO_4.out⟩, ⟨by repeat (first | (with_reducible first | exact HB.out | apply below_alloc | apply pw_below_drewN | apply below_drew1) | exact HB.out)⟩⟩
          case round =>
            clear H'
            try clear p2
            try clear c4
            try clear c4b0
            try clear c5
            try clear p2
            obtain ⟨x6_2, x7_2, x8_2, rfl, rfl, rfl, HA, HK2, HO_4, HB⟩ := hrel
            cases gk with
            | zero => exact absurd HA.out (by simp [spec_l07Unpack.l1])
            | succ k2 =>
              have H := HA.out
              clear HA
              simp only [spec_l07Unpack.l1] at H
              by_cases c6 : x6_2 < (a0.size : Int)
              · rw [if_pos c6] at H
                have c6b0 : decide (x6_2 < (a0.size : Int)) = true := decide_eq_true c6
                clear c6
                (first | rw [c6b0] | (simp only [i64_w, i32_w]; rw [c6b0]) | skip)
                by_cases c7 : 0 ≤ x6_2
                · rw [if_pos c7] at H
                  have c7b0 : decide (0 ≤ x6_2) = true := decide_eq_true c7
                  clear c7
                  by_cases c9 : (bt a0 x6_2) ≥ 128
                  · rw [if_pos c9] at H
                    have c9b0 : decide (128 ≤ (bt a0 x6_2)) = true := decide_eq_true c9
                    clear c9
                    by_cases c10 : x8_2 < 268435456
                    · rw [if_pos c10] at H
                      have c10b0 : decide (x8_2 < 268435456) = true := decide_eq_true c10
                      clear c10
                      have H' := Aside0.mk H
                      clear H
                      have p8 : 0 ≤ (x6_2 : Int) := of_decide_eq_true (by first | (with_reducible assumption) | assumption)
                      have q8 : x6_2 < (a0.size : Int) := of_decide_eq_true (by first | (with_reducible assumption) | assumption)
                      have hx8 := bt_at a0 x6_2
                      replace p8 := eq_true p8
                      replace q8 := eq_true q8
                      have p11 : 0 ≤ (x6_2 : Int) := of_decide_eq_true (by first | (with_reducible assumption) | assumption)
                      have q11 : x6_2 < (a0.size : Int) := of_decide_eq_true (by first | (with_reducible assumption) | assumption)
                      have hx11 := bt_at a0 x6_2
                      replace p11 := eq_true p11
                      replace q11 := eq_true q11
                      go_wp2
                      go_roundg k2
                      case measure => have := HK1.out; have := HK2.out; omega
                      case rel => exact ⟨(wrap64 (x6_2 + 1)), (wrap64 (x7_2 + (wrap64 ((((bt a0 x6_2) - 128) % 256) * x8_2)))), (wrap64 (x8_2 * 128)), (by first | rfl | (simp; done) | (simp [*]; done)), (by first | rfl | (simp; done) | (simp [*]; done)), (by first | rfl | (simp; done) | (simp [*]; done)), H', ⟨by have := HK1.out; have := HK2.out; omega⟩, ⟨by (with_reducible repeat (first | apply Kd.R_alloc | apply Kd.R_drewN | apply Kd.R_drew)); exact HO_4.out⟩, ⟨by repeat (first | (with_reducible first | exact HB.out | apply below_alloc | apply pw_below_drewN | apply below_drew1) | exact HB.out)⟩⟩
                    · rw [if_neg c10] at H
                      have c10b0 : decide (x8_2 < 268435456) = false := decide_eq_false c10
                      clear c10
                      have H' := Aside0.mk H
                      clear H
                      have p8 : 0 ≤ (x6_2 : Int) := of_decide_eq_true (by first | (with_reducible assumption) | assumption)
                      have q8 : x6_2 < (a0.size : Int) := of_decide_eq_true (by first | (with_reducible assumption) | assumption)
                      have hx8 := bt_at a0 x6_2
                      replace p8 := eq_true p8
                      replace q8 := eq_true q8
                      go_wp2
                      go_meet
                      case rel => exact ⟨_, (x6_2), (x7_2), (x8_2), (by first | rfl | (simp; done) | (simp [*]; done)), (by first | rfl | (simp; done) | (simp [*]; done)), (by first | rfl | (simp; done) | (simp [*]; done)), H', ⟨by have := HK1.out; have := HK2.out; first | omega | exact Nat.le_refl _⟩, ⟨by (with_reducible repeat (first | apply Kd.R_alloc | apply Kd.R_drewN | apply Kd.R_drew)); exact HO_4.out⟩, ⟨by repeat (first | (with_reducible first | exact HB.out | apply below_alloc | apply pw_below_drewN | apply below_drew1) | exact HB.out)⟩⟩
                  · rw [if_neg c9] at H
                    have c9b0 : decide (128 ≤ (bt a0 x6_2)) = false := decide_eq_false c9
                    clear c9
                    have H' := Aside0.mk H
                    clear H
                    have p8 : 0 ≤ (x6_2 : Int) := of_decide_eq_true (by first | (with_reducible assumption) | assumption)
                    have q8 : x6_2 < (a0.size : Int) := of_decide_eq_true (by first | (with_reducible assumption) | assumption)
                    have hx8 := bt_at a0 x6_2
                    replace p8 := eq_true p8
                    replace q8 := eq_true q8
                    go_wp2
                    go_meet
                    case rel => exact ⟨_, (x6_2), (x7_2), (x8_2), (by first | rfl | (simp; done) | (simp [*]; done)), (by first | rfl | (simp; done) | (simp [*]; done)), (by first | rfl | (simp; done) | (simp [*]; done)), H', ⟨by have := HK1.out; have := HK2.out; first | omega | exact Nat.le_refl _⟩, ⟨by (with_reducible repeat (first | apply Kd.R_alloc | apply Kd.R_drewN | apply Kd.R_drew)); exact HO_4.out⟩, ⟨by repeat (first | (with_reducible first | exact HB.out | apply below_alloc | apply pw_below_drewN | apply below_drew1) | exact HB.out)⟩⟩
                · rw [if_neg c7] at H
                  exact absurd H (by simp)
              · rw [if_neg c6] at H
                have c6b0 : decide (x6_2 < (a0.size : Int)) = false := decide_eq_false c6
                clear c6
                (first | rw [c6b0] | (simp only [i64_w, i32_w]; rw [c6b0]) | skip)
                have H' := Aside0.mk H
                clear H
                go_wp2
                go_meet
                case rel => exact ⟨_, (x6_2), (x7_2), (x8_2), (by first | rfl | (simp; done) | (simp [*]; done)), (by first | rfl | (simp; done) | (simp [*]; done)), (by first | rfl | (simp; done) | (simp [*]; done)), H', ⟨by have := HK1.out; have := HK2.out; first | omega | exact Nat.le_refl _⟩, ⟨by (with_reducible repeat (first | apply Kd.R_alloc | apply Kd.R_drewN | apply Kd.R_drew)); exact HO_4.out⟩, ⟨by repeat (first | (with_reducible first | exact HB.out | apply below_alloc | apply pw_below_drewN | apply below_drew1) | exact HB.out)⟩⟩
        case rest =>
          clear HC5
          try clear c1
          try clear p1
          try clear q1
          try clear hx1
          try clear p2
          try clear c4
          try clear c4b0
          try clear c5
          try clear c6
          try clear c6b0
          try clear p6
          try clear c7
          try clear c7b0
          try clear p8
          try clear q8
          try clear hx8
          try clear c9
          try clear c9b0
          try clear c10
          try clear c10b0
          try clear p11
          try clear q11
          try clear hx11
          try clear p11
          try clear p2
          try clear p8
          try clear q11
          try clear q8
          obtain ⟨kq, x6_4, x7_4, x8_4, rfl, rfl, rfl, HA, HJ4, HO_4, HB⟩ := hcut
          cases kq with
          | zero => exact absurd HA.out (by simp [spec_l07Unpack.j2])
          | succ kj4 =>
            have H := HA.out
            clear HA
            simp only [spec_l07Unpack.j2] at H
            have HC12 := Aside0.mk H
            clear H
            go_upto_region 11 with (fail)
            go_cut [51] (fun v51 wc => ∃ (kq : Nat) (x51_11 : Bool), v51 = .bool x51_11 ∧ Aside0 (spec_l07Unpack.j3 kq a0 x4_1 x5_1 x6_4 x7_4 x8_4 x51_11 = some (r1, r2)) ∧ Aside0 (kq ≤ kj4) ∧ Aside0 (Kd.R (Kd.float .f32) 65 wc w.heap.size (fun _ => True) u4 x4_1) ∧ Aside0 (Below w.heap.size w wc))
            case first =>
              have H := HC12.out
              clear HC12
              by_cases c13 : x6_4 = (a0.size : Int)
              · rw [if_pos c13] at H
                have c13b0 : (x6_4 == (a0.size : Int)) = true := beq_iff_eq.mpr c13
                have c13b1 : (x6_4 != (a0.size : Int)) = false := bne_eq_false_iff_eq.mpr c13
                clear c13
                (first | rw [c13b0] | (simp only [i64_w, i32_w]; rw [c13b0]) | skip)
                have H' := Aside0.mk H
                clear H
                go_wp2
                go_meet
                case rel => exact ⟨_, (true), (by first | rfl | (simp; done) | (simp [*]; done)), H', ⟨by have := HK1.out; have := HJ4.out; first | omega | exact Nat.le_refl _⟩, ⟨by (with_reducible repeat (first | apply Kd.R_alloc | apply Kd.R_drewN | apply Kd.R_drew)); exact HO_4.out⟩, ⟨by repeat (first | (with_reducible first | exact HB.out | apply below_alloc | apply pw_below_drewN | apply below_drew1) | exact HB.out)⟩⟩
              · rw [if_neg c13] at H
                have c13b0 : (x6_4 == (a0.size : Int)) = false := beq_eq_false_iff_ne.mpr c13
                have c13b1 : (x6_4 != (a0.size : Int)) = true := bne_iff_ne.mpr c13
                (first | rw [c13b0] | (simp only [i64_w, i32_w]; rw [c13b0]) | skip)
                by_cases c14 : 0 ≤ x6_4
                · rw [if_pos c14] at H
                  have c14b0 : decide (0 ≤ x6_4) = true := decide_eq_true c14
                  clear c14
                  by_cases c15 : x6_4 < (a0.size : Int)
                  · rw [if_pos c15] at H
                    have c15b0 : decide (x6_4 < (a0.size : Int)) = true := decide_eq_true c15
                    clear c15
                    have H' := Aside0.mk H
                    clear H
                    have p16 : 0 ≤ (x6_4 : Int) := of_decide_eq_true (by first | (with_reducible assumption) | assumption)
                    have q16 : x6_4 < (a0.size : Int) := of_decide_eq_true (by first | (with_reducible assumption) | assumption)
                    have hx16 := bt_at a0 x6_4
                    replace p16 := eq_true p16
                    replace q16 := eq_true q16
                    go_wp2
                    go_meet
                    case rel => exact ⟨_, (decide ((bt a0 x6_4) ≥ 128)), (by first | rfl | (simp; done) | (simp [*]; done)), H', ⟨by have := HK1.out; have := HJ4.out; first | omega | exact Nat.le_refl _⟩, ⟨by (with_reducible repeat (first | apply Kd.R_alloc | apply Kd.R_drewN | apply Kd.R_drew)); exact HO_4.out⟩, ⟨by repeat (first | (with_reducible first | exact HB.out | apply below_alloc | apply pw_below_drewN | apply below_drew1) | exact HB.out)⟩⟩
                  · rw [if_neg c15] at H
                    exact absurd H (by simp)
                · rw [if_neg c14] at H
                  exact absurd H (by simp)
            case rest =>
              clear HC12
              try clear c1
              try clear p1
              try clear q1
              try clear hx1
              try clear p2
              try clear c4
              try clear c4b0
              try clear c5
              try clear c6
              try clear c6b0
              try clear p6
              try clear c7
              try clear c7b0
              try clear p8
              try clear q8
              try clear hx8
              try clear c9
              try clear c9b0
              try clear c10
              try clear c10b0
              try clear p11
              try clear q11
              try clear hx11
              try clear c13
              try clear c13b0
              try clear c13b1
              try clear c14
              try clear c14b0
              try clear c15
              try clear c15b0
              try clear p16
              try clear q16
              try clear hx16
              try clear p1
              try clear p11
              try clear p16
              try clear p2
              try clear p6
              try clear p8
              try clear q1
              try clear q11
              try clear q16
              try clear q8
              obtain ⟨kq, x51_11, rfl, HA, HJ11, HO_4, HB⟩ := hcut
              cases kq with
              | zero => exact absurd HA.out (by simp [spec_l07Unpack.j3])
              | succ kj11 =>
                have H := HA.out
                clear HA
                simp only [spec_l07Unpack.j3] at H
                by_cases c17 : x51_11 = true
                · subst c17
                  have H1 : (some (([] : List Nat), false)) = some (r1, r2) := by rw [if_pos rfl] at H; exact H
                  clear H
                  have H := H1
                  clear H1
                  simp only [Option.some.injEq, Prod.mk.injEq] at H
                  obtain ⟨rfl, rfl⟩ := H
                  go_wp2
                  go_ret2
                  exact ⟨_, by first | rfl | (simp [errW_none, errW_some] <;> rfl) | (simp [*, errW_none, errW_some] <;> rfl), by first | exact Kd.R_nil _ _ _ _ _ | exact Kd.N_nil _ _ _ _ _ | exact Kd.V_nil _ _ _ _ _ | exact Kd.Q_nil _ _ _ _ _ | exact Kd.S_nil _ _ _ _ _, by repeat (first | (with_reducible first | exact HB.out | apply below_alloc | apply pw_below_drewN | apply below_drew1) | exact HB.out)⟩
                · replace c17 := Bool.eq_false_iff.mpr c17
                  subst c17
                  have H1 : (if 0 ≤ x6_4 then (if x6_4 < (a0.size : Int) then (if (Int.tmod (wrap64 (x7_4 + (wrap64 ((wrap64 (bt a0 x6_4)) * x8_4)))) 2) = 1 then ((spec_l01From.f (Int.tmod (wrap64 ((Int.tmod (wrap64 (x5_1 + (wrap64 (Int.tdiv (wrap64 (-(wrap64 ((wrap64 (x7_4 + (wrap64 ((wrap64 (bt a0 x6_4)) * x8_4)))) + 1)))) 2)))) 4294967296) + 4294967296)) 4294967296)).bind fun t176 => (if x4_1.length < 35184372088832 then ((some (x4_1 ++ [t176] : List Nat)).bind fun y177 => (if (y177.length : Int) > 256 then (some (([] : List Nat), false)) else (spec_l07Unpack.l0 kj11 a0 y177 (Int.tmod (wrap64 ((Int.tmod (wrap64 (x5_1 + (wrap64 (Int.tdiv (wrap64 (-(wrap64 ((wrap64 (x7_4 + (wrap64 ((wrap64 (bt a0 x6_4)) * x8_4)))) + 1)))) 2)))) 4294967296) + 4294967296)) 4294967296) (wrap64 (x6_4 + 1))))) else (none))) else ((spec_l01From.f (Int.tmod (wrap64 ((Int.tmod (wrap64 (x5_1 + (wrap64 (Int.tdiv (wrap64 (x7_4 + (wrap64 ((wrap64 (bt a0 x6_4)) * x8_4)))) 2)))) 4294967296) + 4294967296)) 4294967296)).bind fun t180 => (if x4_1.length < 35184372088832 then ((some (x4_1 ++ [t180] : List Nat)).bind fun y181 => (if (y181.length : Int) > 256 then (some (([] : List Nat), false)) else (spec_l07Unpack.l0 kj11 a0 y181 (Int.tmod (wrap64 ((Int.tmod (wrap64 (x5_1 + (wrap64 (Int.tdiv (wrap64 (x7_4 + (wrap64 ((wrap64 (bt a0 x6_4)) * x8_4)))) 2)))) 4294967296) + 4294967296)) 4294967296) (wrap64 (x6_4 + 1))))) else (none)))) else (none)) else (none)) = some (r1, r2) := by rw [if_neg (show ¬ (false = true) by decide)] at H; exact H
                  clear H
                  have H := H1
                  clear H1
                  by_cases c18 : 0 ≤ x6_4
                  · rw [if_pos c18] at H
                    have c18b0 : decide (0 ≤ x6_4) = true := decide_eq_true c18
                    clear c18
                    by_cases c19 : x6_4 < (a0.size : Int)
                    · rw [if_pos c19] at H
                      have c19b0 : decide (x6_4 < (a0.size : Int)) = true := decide_eq_true c19
                      clear c19
                      by_cases c21 : (Int.tmod (wrap64 (x7_4 + (wrap64 ((wrap64 (bt a0 x6_4)) * x8_4)))) 2) = 1
                      · rw [if_pos c21] at H
                        have c21b0 : ((Int.tmod (wrap64 (x7_4 + (wrap64 ((wrap64 (bt a0 x6_4)) * x8_4)))) 2) == 1) = true := beq_iff_eq.mpr c21
                        have c21b1 : ((Int.tmod (wrap64 (x7_4 + (wrap64 ((wrap64 (bt a0 x6_4)) * x8_4)))) 2) != 1) = false := bne_eq_false_iff_eq.mpr c21
                        clear c21
                        replace H := Option.bind_eq_some_iff.mp H
                        obtain ⟨t176, A220, H⟩ := H
                        replace H : (if x4_1.length < 35184372088832 then ((some (x4_1 ++ [t176] : List Nat)).bind fun y177 => (if (y177.length : Int) > 256 then (some (([] : List Nat), false)) else (spec_l07Unpack.l0 kj11 a0 y177 (Int.tmod (wrap64 ((Int.tmod (wrap64 (x5_1 + (wrap64 (Int.tdiv (wrap64 (-(wrap64 ((wrap64 (x7_4 + (wrap64 ((wrap64 (bt a0 x6_4)) * x8_4)))) + 1)))) 2)))) 4294967296) + 4294967296)) 4294967296) (wrap64 (x6_4 + 1))))) else (none)) = some (r1, r2) := H
                        have A22 := Aside0.mk A220
                        clear A220
                        by_cases c23 : x4_1.length < 35184372088832
                        · rw [if_pos c23] at H
                          have LMc23 := Aside0.mk c23
                          clear c23
                          obtain ⟨y177, hy177⟩ : ∃ y_ : List Nat, y_ = (x4_1 ++ [t176]) := ⟨_, rfl⟩
                          replace H : (if (y177.length : Int) > 256 then (some (([] : List Nat), false)) else (spec_l07Unpack.l0 kj11 a0 y177 (Int.tmod (wrap64 ((Int.tmod (wrap64 (x5_1 + (wrap64 (Int.tdiv (wrap64 (-(wrap64 ((wrap64 (x7_4 + (wrap64 ((wrap64 (bt a0 x6_4)) * x8_4)))) + 1)))) 2)))) 4294967296) + 4294967296)) 4294967296) (wrap64 (x6_4 + 1)))) = some (r1, r2) := by first | (rw [hy177]; with_reducible exact H) | (have H2_ := (Option.bind_some _ _).symm.trans H; rw [hy177]; with_reducible exact H2_) | (have H2_ := (Option.bind_some _ _).symm.trans H; with_reducible exact H2_) | with_reducible exact H | (rw [hy177]; exact H) | exact H
                          have Ny177 := Aside0.mk hy177
                          clear hy177
                          by_cases c24 : (y177.length : Int) > 256
                          · rw [if_pos c24] at H
                            have c24b0 : decide (256 < (y177.length : Int)) = true := decide_eq_true c24
                            have c24b1 : decide (256 < y177.length) = true := decide_eq_true (by omega)
                            clear c24
                            simp only [Option.some.injEq, Prod.mk.injEq] at H
                            obtain ⟨rfl, rfl⟩ := H
                            have p20 : 0 ≤ (x6_4 : Int) := of_decide_eq_true (by first | (with_reducible assumption) | assumption)
                            have q20 : x6_4 < (a0.size : Int) := of_decide_eq_true (by first | (with_reducible assumption) | assumption)
                            have hx20 := bt_at a0 x6_4
                            replace p20 := eq_true p20
                            replace q20 := eq_true q20
                            go_wp2_with (first | ((with_reducible refine gate_callee (f := 73) rfl ?_); refine goesL_ (some 79) rfl rfl Try.func73 (by kernel_rfl) rfl #[.int .i64 (Int.tmod (wrap64 ((Int.tmod (wrap64 (x5_1 + (wrap64 (Int.tdiv (wrap64 (-(wrap64 ((wrap64 (x7_4 + (wrap64 ((wrap64 (bt a0 x6_4)) * x8_4)))) + 1)))) 2)))) 4294967296) + 4294967296)) 4294967296)] rfl (by (try simp only [List.map_toArray, List.map_cons, List.map_nil]); first | done | rfl | (simp only [List.length_drop, List.length_take]; rfl)) ?_; (with_reducible refine (spec_l01From.calls (Int.tmod (wrap64 ((Int.tmod (wrap64 (x5_1 + (wrap64 (Int.tdiv (wrap64 (-(wrap64 ((wrap64 (x7_4 + (wrap64 ((wrap64 (bt a0 x6_4)) * x8_4)))) + 1)))) 2)))) 4294967296) + 4294967296)) 4294967296) t176 _ A22.out).mono ?_); rintro e w' ⟨rfl, ⟨nd, rfl⟩⟩; refine ⟨_, rfl, ?_⟩) | ((with_reducible refine gate_builtin (b := .append) (xs := #[.tmp 77, .tmp 80]) rfl ?_); at_builtin; refine Kd.R_append (Kd.float .f32) (w0 := w) w.heap.size rfl (.tmp 77) (.tmp 80) 22 65 (.float .f32 0) 4 rfl Try.underlying22 info65 rfl (by decide) (by omega) u4 x4_1 t176 [.float .f32 t176] (fun _ => True) (fun _ => False) rfl rfl ?aP (fun _ hk => hk.elim) ?aF ?aO ?aB ?aS ?aL ?_; (case aP => exact rfl); (case aB => exact (by repeat (first | (with_reducible first | exact HB.out | apply below_alloc | apply pw_below_drewN | apply below_drew1) | exact HB.out))); (case aF => exact (fun _ _ => trivial)); (case aO => exact (by (with_reducible repeat (first | apply Kd.R_alloc | apply Kd.R_drewN | apply Kd.R_drew)); exact HO_4.out)); (case aS => exact (below_size (by repeat (first | (with_reducible first | exact HB.out | apply below_alloc | apply pw_below_drewN | apply below_drew1) | exact HB.out)))); (case aL => have := LMc23.out; omega); intro v178 w25 ho hb hg hat; rw [← Ny177.out] at ho; have n0_ := Aside0.mk (hb); have n1_ := Aside0.mk (ho); clear HB; clear HO_4; have HB := n0_; have HO179 := n1_; clear n0_ n1_; clear ho hb hg hat; obtain ⟨Ao26, co26, eo26⟩ := Kd.R_slice HO179.out; subst eo26))
                            go_ret2
                            exact ⟨_, by first | rfl | (simp [errW_none, errW_some] <;> rfl) | (simp [*, errW_none, errW_some] <;> rfl), by first | exact Kd.R_nil _ _ _ _ _ | exact Kd.N_nil _ _ _ _ _ | exact Kd.V_nil _ _ _ _ _ | exact Kd.Q_nil _ _ _ _ _ | exact Kd.S_nil _ _ _ _ _, by repeat (first | (with_reducible first | exact HB.out | apply below_alloc | apply pw_below_drewN | apply below_drew1) | exact HB.out)⟩
                          · rw [if_neg c24] at H
                            have c24b0 : decide (256 < (y177.length : Int)) = false := decide_eq_false c24
                            have c24b1 : decide (256 < y177.length) = false := decide_eq_false (by omega)
                            clear c24
                            have H' := Aside0.mk H
                            clear H
                            have p20 : 0 ≤ (x6_4 : Int) := of_decide_eq_true (by first | (with_reducible assumption) | assumption)
                            have q20 : x6_4 < (a0.size : Int) := of_decide_eq_true (by first | (with_reducible assumption) | assumption)
                            have hx20 := bt_at a0 x6_4
                            replace p20 := eq_true p20
                            replace q20 := eq_true q20
                            go_wp2_with (first | ((with_reducible refine gate_callee (f := 73) rfl ?_); refine goesL_ (some 79) rfl rfl Try.func73 (by kernel_rfl) rfl #[.int .i64 (Int.tmod (wrap64 ((Int.tmod (wrap64 (x5_1 + (wrap64 (Int.tdiv (wrap64 (-(wrap64 ((wrap64 (x7_4 + (wrap64 ((wrap64 (bt a0 x6_4)) * x8_4)))) + 1)))) 2)))) 4294967296) + 4294967296)) 4294967296)] rfl (by (try simp only [List.map_toArray, List.map_cons, List.map_nil]); first | done | rfl | (simp only [List.length_drop, List.length_take]; rfl)) ?_; (with_reducible refine (spec_l01From.calls (Int.tmod (wrap64 ((Int.tmod (wrap64 (x5_1 + (wrap64 (Int.tdiv (wrap64 (-(wrap64 ((wrap64 (x7_4 + (wrap64 ((wrap64 (bt a0 x6_4)) * x8_4)))) + 1)))) 2)))) 4294967296) + 4294967296)) 4294967296) t176 _ A22.out).mono ?_); rintro e w' ⟨rfl, ⟨nd, rfl⟩⟩; refine ⟨_, rfl, ?_⟩) | ((with_reducible refine gate_builtin (b := .append) (xs := #[.tmp 77, .tmp 80]) rfl ?_); at_builtin; refine Kd.R_append (Kd.float .f32) (w0 := w) w.heap.size rfl (.tmp 77) (.tmp 80) 22 65 (.float .f32 0) 4 rfl Try.underlying22 info65 rfl (by decide) (by omega) u4 x4_1 t176 [.float .f32 t176] (fun _ => True) (fun _ => False) rfl rfl ?aP (fun _ hk => hk.elim) ?aF ?aO ?aB ?aS ?aL ?_; (case aP => exact rfl); (case aB => exact (by repeat (first | (with_reducible first | exact HB.out | apply below_alloc | apply pw_below_drewN | apply below_drew1) | exact HB.out))); (case aF => exact (fun _ _ => trivial)); (case aO => exact (by (with_reducible repeat (first | apply Kd.R_alloc | apply Kd.R_drewN | apply Kd.R_drew)); exact HO_4.out)); (case aS => exact (below_size (by repeat (first | (with_reducible first | exact HB.out | apply below_alloc | apply pw_below_drewN | apply below_drew1) | exact HB.out)))); (case aL => have := LMc23.out; omega); intro v178 w27 ho hb hg hat; rw [← Ny177.out] at ho; have n0_ := Aside0.mk (hb); have n1_ := Aside0.mk (ho); clear HB; clear HO_4; have HB := n0_; have HO179 := n1_; clear n0_ n1_; clear ho hb hg hat; obtain ⟨Ao28, co28, eo28⟩ := Kd.R_slice HO179.out; subst eo28))
                            go_roundg kj11
                            case measure => have := HK1.out; have := HJ4.out; have := HJ11.out; omega
                            case rel => exact ⟨(y177), (Int.tmod (wrap64 ((Int.tmod (wrap64 (x5_1 + (wrap64 (Int.tdiv (wrap64 (-(wrap64 ((wrap64 (x7_4 + (wrap64 ((wrap64 (bt a0 x6_4)) * x8_4)))) + 1)))) 2)))) 4294967296) + 4294967296)) 4294967296), (wrap64 (x6_4 + 1)), (by first | rfl | (simp; done) | (simp [*]; done)), (by first | rfl | (simp; done) | (simp [*]; done)), H', ⟨by have := HK1.out; have := HJ4.out; have := HJ11.out; omega⟩, ⟨by (with_reducible repeat (first | apply Kd.R_alloc | apply Kd.R_drewN | apply Kd.R_drew)); exact HO179.out⟩, ⟨by repeat (first | (with_reducible first | exact HB.out | apply below_alloc | apply pw_below_drewN | apply below_drew1) | exact HB.out)⟩⟩
                        · rw [if_neg c23] at H
                          exact absurd H (by simp)
                      · rw [if_neg c21] at H
                        have c21b0 : ((Int.tmod (wrap64 (x7_4 + (wrap64 ((wrap64 (bt a0 x6_4)) * x8_4)))) 2) == 1) = false := beq_eq_false_iff_ne.mpr c21
                        have c21b1 : ((Int.tmod (wrap64 (x7_4 + (wrap64 ((wrap64 (bt a0 x6_4)) * x8_4)))) 2) != 1) = true := bne_iff_ne.mpr c21
                        replace H := Option.bind_eq_some_iff.mp H
                        obtain ⟨t180, A290, H⟩ := H
                        replace H : (if x4_1.length < 35184372088832 then ((some (x4_1 ++ [t180] : List Nat)).bind fun y181 => (if (y181.length : Int) > 256 then (some (([] : List Nat), false)) else (spec_l07Unpack.l0 kj11 a0 y181 (Int.tmod (wrap64 ((Int.tmod (wrap64 (x5_1 + (wrap64 (Int.tdiv (wrap64 (x7_4 + (wrap64 ((wrap64 (bt a0 x6_4)) * x8_4)))) 2)))) 4294967296) + 4294967296)) 4294967296) (wrap64 (x6_4 + 1))))) else (none)) = some (r1, r2) := H
                        have A29 := Aside0.mk A290
                        clear A290
                        by_cases c30 : x4_1.length < 35184372088832
                        · rw [if_pos c30] at H
                          have LMc30 := Aside0.mk c30
                          clear c30
                          obtain ⟨y181, hy181⟩ : ∃ y_ : List Nat, y_ = (x4_1 ++ [t180]) := ⟨_, rfl⟩
                          replace H : (if (y181.length : Int) > 256 then (some (([] : List Nat), false)) else (spec_l07Unpack.l0 kj11 a0 y181 (Int.tmod (wrap64 ((Int.tmod (wrap64 (x5_1 + (wrap64 (Int.tdiv (wrap64 (x7_4 + (wrap64 ((wrap64 (bt a0 x6_4)) * x8_4)))) 2)))) 4294967296) + 4294967296)) 4294967296) (wrap64 (x6_4 + 1)))) = some (r1, r2) := by first | (rw [hy181]; with_reducible exact H) | (have H2_ := (Option.bind_some _ _).symm.trans H; rw [hy181]; with_reducible exact H2_) | (have H2_ := (Option.bind_some _ _).symm.trans H; with_reducible exact H2_) | with_reducible exact H | (rw [hy181]; exact H) | exact H
                          have Ny181 := Aside0.mk hy181
                          clear hy181
                          by_cases c31 : (y181.length : Int) > 256
                          · rw [if_pos c31] at H
                            have c31b0 : decide (256 < (y181.length : Int)) = true := decide_eq_true c31
                            have c31b1 : decide (256 < y181.length) = true := decide_eq_true (by omega)
                            clear c31
                            simp only [Option.some.injEq, Prod.mk.injEq] at H
                            obtain ⟨rfl, rfl⟩ := H
                            have p20 : 0 ≤ (x6_4 : Int) := of_decide_eq_true (by first | (with_reducible assumption) | assumption)
                            have q20 : x6_4 < (a0.size : Int) := of_decide_eq_true (by first | (with_reducible assumption) | assumption)
                            have hx20 := bt_at a0 x6_4
                            replace p20 := eq_true p20
                            replace q20 := eq_true q20
                            go_wp2_with (first | ((with_reducible refine gate_callee (f := 73) rfl ?_); refine goesL_ (some 79) rfl rfl Try.func73 (by kernel_rfl) rfl #[.int .i64 (Int.tmod (wrap64 ((Int.tmod (wrap64 (x5_1 + (wrap64 (Int.tdiv (wrap64 (x7_4 + (wrap64 ((wrap64 (bt a0 x6_4)) * x8_4)))) 2)))) 4294967296) + 4294967296)) 4294967296)] rfl (by (try simp only [List.map_toArray, List.map_cons, List.map_nil]); first | done | rfl | (simp only [List.length_drop, List.length_take]; rfl)) ?_; (with_reducible refine (spec_l01From.calls (Int.tmod (wrap64 ((Int.tmod (wrap64 (x5_1 + (wrap64 (Int.tdiv (wrap64 (x7_4 + (wrap64 ((wrap64 (bt a0 x6_4)) * x8_4)))) 2)))) 4294967296) + 4294967296)) 4294967296) t180 _ A29.out).mono ?_); rintro e w' ⟨rfl, ⟨nd, rfl⟩⟩; refine ⟨_, rfl, ?_⟩) | ((with_reducible refine gate_builtin (b := .append) (xs := #[.tmp 77, .tmp 80]) rfl ?_); at_builtin; refine Kd.R_append (Kd.float .f32) (w0 := w) w.heap.size rfl (.tmp 77) (.tmp 80) 22 65 (.float .f32 0) 4 rfl Try.underlying22 info65 rfl (by decide) (by omega) u4 x4_1 t180 [.float .f32 t180] (fun _ => True) (fun _ => False) rfl rfl ?aP (fun _ hk => hk.elim) ?aF ?aO ?aB ?aS ?aL ?_; (case aP => exact rfl); (case aB => exact (by repeat (first | (with_reducible first | exact HB.out | apply below_alloc | apply pw_below_drewN | apply below_drew1) | exact HB.out))); (case aF => exact (fun _ _ => trivial)); (case aO => exact (by (with_reducible repeat (first | apply Kd.R_alloc | apply Kd.R_drewN | apply Kd.R_drew)); exact HO_4.out)); (case aS => exact (below_size (by repeat (first | (with_reducible first | exact HB.out | apply below_alloc | apply pw_below_drewN | apply below_drew1) | exact HB.out)))); (case aL => have := LMc30.out; omega); intro v182 w32 ho hb hg hat; rw [← Ny181.out] at ho; have n0_ := Aside0.mk (hb); have n1_ := Aside0.mk (ho); clear HB; clear HO_4; have HB := n0_; have HO183 := n1_; clear n0_ n1_; clear ho hb hg hat; obtain ⟨Ao33, co33, eo33⟩ := Kd.R_slice HO183.out; subst eo33))
                            go_ret2
                            exact ⟨_, by first | rfl | (simp [errW_none, errW_some] <;> rfl) | (simp [*, errW_none, errW_some] <;> rfl), by first | exact Kd.R_nil _ _ _ _ _ | exact Kd.N_nil _ _ _ _ _ | exact Kd.V_nil _ _ _ _ _ | exact Kd.Q_nil _ _ _ _ _ | exact Kd.S_nil _ _ _ _ _, by repeat (first | (with_reducible first | exact HB.out | apply below_alloc | apply pw_below_drewN | apply below_drew1) | exact HB.out)⟩
                          · rw [if_neg c31] at H
                            have c31b0 : decide (256 < (y181.length : Int)) = false := decide_eq_false c31
                            have c31b1 : decide (256 < y181.length) = false := decide_eq_false (by omega)
                            clear c31
                            have H' := Aside0.mk H
                            clear H
                            have p20 : 0 ≤ (x6_4 : Int) := of_decide_eq_true (by first | (with_reducible assumption) | assumption)
                            have q20 : x6_4 < (a0.size : Int) := of_decide_eq_true (by first | (with_reducible assumption) | assumption)
                            have hx20 := bt_at a0 x6_4
                            replace p20 := eq_true p20
                            replace q20 := eq_true q20
                            go_wp2_with (first | ((with_reducible refine gate_callee (f := 73) rfl ?_); refine goesL_ (some 79) rfl rfl Try.func73 (by kernel_rfl) rfl #[.int .i64 (Int.tmod (wrap64 ((Int.tmod (wrap64 (x5_1 + (wrap64 (Int.tdiv (wrap64 (x7_4 + (wrap64 ((wrap64 (bt a0 x6_4)) * x8_4)))) 2)))) 4294967296) + 4294967296)) 4294967296)] rfl (by (try simp only [List.map_toArray, List.map_cons, List.map_nil]); first | done | rfl | (simp only [List.length_drop, List.length_take]; rfl)) ?_; (with_reducible refine (spec_l01From.calls (Int.tmod (wrap64 ((Int.tmod (wrap64 (x5_1 + (wrap64 (Int.tdiv (wrap64 (x7_4 + (wrap64 ((wrap64 (bt a0 x6_4)) * x8_4)))) 2)))) 4294967296) + 4294967296)) 4294967296) t180 _ A29.out).mono ?_); rintro e w' ⟨rfl, ⟨nd, rfl⟩⟩; refine ⟨_, rfl, ?_⟩) | ((with_reducible refine gate_builtin (b := .append) (xs := #[.tmp 77, .tmp 80]) rfl ?_); at_builtin; refine Kd.R_append (Kd.float .f32) (w0 := w) w.heap.size rfl (.tmp 77) (.tmp 80) 22 65 (.float .f32 0) 4 rfl Try.underlying22 info65 rfl (by decide) (by omega) u4 x4_1 t180 [.float .f32 t180] (fun _ => True) (fun _ => False) rfl rfl ?aP (fun _ hk => hk.elim) ?aF ?aO ?aB ?aS ?aL ?_; (case aP => exact rfl); (case aB => exact (by repeat (first | (with_reducible first | exact HB.out | apply below_alloc | apply pw_below_drewN | apply below_drew1) | exact HB.out))); (case aF => exact (fun _ _ => trivial)); (case aO => exact (by (with_reducible repeat (first | apply Kd.R_alloc | apply Kd.R_drewN | apply Kd.R_drew)); exact HO_4.out)); (case aS => exact (below_size (by repeat (first | (with_reducible first | exact HB.out | apply below_alloc | apply pw_below_drewN | apply below_drew1) | exact HB.out)))); (case aL => have := LMc30.out; omega); intro v182 w34 ho hb hg hat; rw [← Ny181.out] at ho; have n0_ := Aside0.mk (hb); have n1_ := Aside0.mk (ho); clear HB; clear HO_4; have HB := n0_; have HO183 := n1_; clear n0_ n1_; clear ho hb hg hat; obtain ⟨Ao35, co35, eo35⟩ := Kd.R_slice HO183.out; subst eo35))
                            go_roundg kj11
                            case measure => have := HK1.out; have := HJ4.out; have := HJ11.out; omega
                            case rel => exact ⟨(y181), (Int.tmod (wrap64 ((Int.tmod (wrap64 (x5_1 + (wrap64 (Int.tdiv (wrap64 (x7_4 + (wrap64 ((wrap64 (bt a0 x6_4)) * x8_4)))) 2)))) 4294967296) + 4294967296)) 4294967296), (wrap64 (x6_4 + 1)), (by first | rfl | (simp; done) | (simp [*]; done)), (by first | rfl | (simp; done) | (simp [*]; done)), H', ⟨by have := HK1.out; have := HJ4.out; have := HJ11.out; omega⟩, ⟨by (with_reducible repeat (first | apply Kd.R_alloc | apply Kd.R_drewN | apply Kd.R_drew)); exact HO183.out⟩, ⟨by repeat (first | (with_reducible first | exact HB.out | apply below_alloc | apply pw_below_drewN | apply below_drew1) | exact HB.out)⟩⟩
                        · rw [if_neg c30] at H
                          exact absurd H (by simp)
                    · rw [if_neg c19] at H
                      exact absurd H (by simp)
                  · rw [if_neg c18] at H
                    exact absurd H (by simp)
      · rw [if_neg c4] at H
        have c4b0 : decide (x6_1 < (a0.size : Int)) = false := decide_eq_false c4
        clear c4
        replace H := Option.bind_eq_some_iff.mp H
        obtain ⟨t184, A360, H⟩ := H
        replace H : (if t184 = true then ((spec_l07Pack.f k1 x4_1).bind fun t185 => (if t185.toList = a0.toList then (some (x4_1, true)) else (some (([] : List Nat), false)))) else (some (([] : List Nat), false))) = some (r1, r2) := H
        have A36 := Aside0.mk A360
        clear A360
        by_cases c37 : t184 = true
        · subst c37
          have H1 : ((spec_l07Pack.f k1 x4_1).bind fun t185 => (if t185.toList = a0.toList then (some (x4_1, true)) else (some (([] : List Nat), false)))) = some (r1, r2) := by rw [if_pos rfl] at H; exact H
          clear H
          have H := H1
          clear H1
          replace H := Option.bind_eq_some_iff.mp H
          obtain ⟨t185, A380, H⟩ := H
          replace H : (if t185.toList = a0.toList then (some (x4_1, true)) else (some (([] : List Nat), false))) = some (r1, r2) := H
          have A38 := Aside0.mk A380
          clear A380
          by_cases c39 : t185.toList = a0.toList
          · rw [if_pos c39] at H
            have c39b0 : (t185.toList == a0.toList) = true := beq_iff_eq.mpr c39
            have c39b1 : (t185.toList != a0.toList) = false := bne_eq_false_iff_eq.mpr c39
            clear c39
            simp only [Option.some.injEq, Prod.mk.injEq] at H
            obtain ⟨rfl, rfl⟩ := H
            obtain ⟨Ao40, co40, eo40⟩ := Kd.R_slice HO_4.out
            subst eo40
            go_wp2_with (first | ((with_reducible refine gate_callee (f := 50) rfl ?_); refine goesL_ (some 86) rfl rfl Try.func50 (by kernel_rfl) rfl #[.slice Ao40 x4_1.length co40] rfl (by (try simp only [List.map_toArray, List.map_cons, List.map_nil]); first | done | rfl | (simp only [List.length_drop, List.length_take]; rfl)) ?_; (with_reducible refine (spec_l07Values.calls _ _ x4_1 true _ ?side1 ?side2 A36.out).mono ?_); (case side1 => repeat (first | exact (Kd.R_reads' HO_4.out).2.2 | (with_reducible refine Kd.C_alloc ?_ _) | (with_reducible refine Kd.C_drewN ?_ _) | (with_reducible refine Kd.C_drew ?_))); (case side2 => exact (Kd.R_reads' HO_4.out).2.1); rintro e w' ⟨rfl, ⟨nd, rfl⟩⟩; refine ⟨_, rfl, ?_⟩) | (go_at_call 51; (with_reducible refine (spec_l07Pack.calls k1 _ _ x4_1 t185 _ ?side1 ?side2 A38.out).mono ?_); (case side1 => repeat (first | exact (Kd.R_reads' HO_4.out).2.2 | (with_reducible refine Kd.C_alloc ?_ _) | (with_reducible refine Kd.C_drewN ?_ _) | (with_reducible refine Kd.C_drew ?_))); (case side2 => exact (Kd.R_reads' HO_4.out).2.1); rintro e w41 ⟨rfl, hb⟩; have n0_ := Aside0.mk (Kd.R_below (by (with_reducible repeat (first | apply Kd.R_alloc | apply Kd.R_drewN | apply Kd.R_drew)); exact HO_4.out) hb); have n1_ := Aside0.mk (below_step (by repeat (first | (with_reducible first | exact HB.out | apply below_alloc | apply pw_below_drewN | apply below_drew1) | exact HB.out)) hb); clear HO_4; clear HB; have HO_4 := n0_; have HB := n1_; clear n0_ n1_; (try clear hb); (try clear hb2); (try clear hk); (try clear hi)))
            go_ret2
            exact ⟨_, by first | rfl | (simp [errW_none, errW_some] <;> rfl) | (simp [*, errW_none, errW_some] <;> rfl), by (with_reducible repeat (first | apply Kd.R_alloc | apply Kd.R_drewN | apply Kd.R_drew)); exact HO_4.out, by repeat (first | (with_reducible first | exact HB.out | apply below_alloc | apply pw_below_drewN | apply below_drew1) | exact HB.out)⟩
          · rw [if_neg c39] at H
            have c39b0 : (t185.toList == a0.toList) = false := beq_eq_false_iff_ne.mpr c39
            have c39b1 : (t185.toList != a0.toList) = true := bne_iff_ne.mpr c39
            simp only [Option.some.injEq, Prod.mk.injEq] at H
            obtain ⟨rfl, rfl⟩ := H
            obtain ⟨Ao42, co42, eo42⟩ := Kd.R_slice HO_4.out
            subst eo42
            go_wp2_with (first | ((with_reducible refine gate_callee (f := 50) rfl ?_); refine goesL_ (some 86) rfl rfl Try.func50 (by kernel_rfl) rfl #[.slice Ao42 x4_1.length co42] rfl (by (try simp only [List.map_toArray, List.map_cons, List.map_nil]); first | done | rfl | (simp only [List.length_drop, List.length_take]; rfl)) ?_; (with_reducible refine (spec_l07Values.calls _ _ x4_1 true _ ?side1 ?side2 A36.out).mono ?_); (case side1 => repeat (first | exact (Kd.R_reads' HO_4.out).2.2 | (with_reducible refine Kd.C_alloc ?_ _) | (with_reducible refine Kd.C_drewN ?_ _) | (with_reducible refine Kd.C_drew ?_))); (case side2 => exact (Kd.R_reads' HO_4.out).2.1); rintro e w' ⟨rfl, ⟨nd, rfl⟩⟩; refine ⟨_, rfl, ?_⟩) | (go_at_call 51; (with_reducible refine (spec_l07Pack.calls k1 _ _ x4_1 t185 _ ?side1 ?side2 A38.out).mono ?_); (case side1 => repeat (first | exact (Kd.R_reads' HO_4.out).2.2 | (with_reducible refine Kd.C_alloc ?_ _) | (with_reducible refine Kd.C_drewN ?_ _) | (with_reducible refine Kd.C_drew ?_))); (case side2 => exact (Kd.R_reads' HO_4.out).2.1); rintro e w43 ⟨rfl, hb⟩; have n0_ := Aside0.mk (Kd.R_below (by (with_reducible repeat (first | apply Kd.R_alloc | apply Kd.R_drewN | apply Kd.R_drew)); exact HO_4.out) hb); have n1_ := Aside0.mk (below_step (by repeat (first | (with_reducible first | exact HB.out | apply below_alloc | apply pw_below_drewN | apply below_drew1) | exact HB.out)) hb); clear HO_4; clear HB; have HO_4 := n0_; have HB := n1_; clear n0_ n1_; (try clear hb); (try clear hb2); (try clear hk); (try clear hi)))
            go_ret2
            exact ⟨_, by first | rfl | (simp [errW_none, errW_some] <;> rfl) | (simp [*, errW_none, errW_some] <;> rfl), by first | exact Kd.R_nil _ _ _ _ _ | exact Kd.N_nil _ _ _ _ _ | exact Kd.V_nil _ _ _ _ _ | exact Kd.Q_nil _ _ _ _ _ | exact Kd.S_nil _ _ _ _ _, by repeat (first | (with_reducible first | exact HB.out | apply below_alloc | apply pw_below_drewN | apply below_drew1) | exact HB.out)⟩
        · replace c37 := Bool.eq_false_iff.mpr c37
          subst c37
          have H1 : (some (([] : List Nat), false)) = some (r1, r2) := by rw [if_neg (show ¬ (false = true) by decide)] at H; exact H
          clear H
          have H := H1
          clear H1
          simp only [Option.some.injEq, Prod.mk.injEq] at H
          obtain ⟨rfl, rfl⟩ := H
          obtain ⟨Ao44, co44, eo44⟩ := Kd.R_slice HO_4.out
          subst eo44
          go_wp2_with (first | ((with_reducible refine gate_callee (f := 50) rfl ?_); refine goesL_ (some 86) rfl rfl Try.func50 (by kernel_rfl) rfl #[.slice Ao44 x4_1.length co44] rfl (by (try simp only [List.map_toArray, List.map_cons, List.map_nil]); first | done | rfl | (simp only [List.length_drop, List.length_take]; rfl)) ?_; (with_reducible refine (spec_l07Values.calls _ _ x4_1 false _ ?side1 ?side2 A36.out).mono ?_); (case side1 => repeat (first | exact (Kd.R_reads' HO_4.out).2.2 | (with_reducible refine Kd.C_alloc ?_ _) | (with_reducible refine Kd.C_drewN ?_ _) | (with_reducible refine Kd.C_drew ?_))); (case side2 => exact (Kd.R_reads' HO_4.out).2.1); rintro e w' ⟨rfl, ⟨nd, rfl⟩⟩; refine ⟨_, rfl, ?_⟩))
          go_ret2
          exact ⟨_, by first | rfl | (simp [errW_none, errW_some] <;> rfl) | (simp [*, errW_none, errW_some] <;> rfl), by first | exact Kd.R_nil _ _ _ _ _ | exact Kd.N_nil _ _ _ _ _ | exact Kd.V_nil _ _ _ _ _ | exact Kd.Q_nil _ _ _ _ _ | exact Kd.S_nil _ _ _ _ _, by repeat (first | (with_reducible first | exact HB.out | apply below_alloc | apply pw_below_drewN | apply below_drew1) | exact HB.out)⟩

/-! ### spec_l01Check: function 75 -/
def spec_l01Check.l0 : Nat → Int → ByteArray → Int → Option (Int)
  | 0, _, _, _ => none
  | k + 1, x0, x1, x5 => if x5 < (x1.size : Int) then (if 0 ≤ x5 then (spec_l01Check.l0 k (Int.tmod (wrap64 ((wrap64 ((wrap64 (797 * x0)) + (wrap64 (bt x1 x5)))) + 101)) 65003) x1 (wrap64 (x5 + 1))) else (none)) else (some x0)
def spec_l01Check.f (k : Nat) (a0 : Int) (a1 : ByteArray) : Option (Int) := spec_l01Check.l0 k a0 a1 0
theorem spec_l01Check.mono_l : ∀ k, (∀ y0 y1 y2, LeO (spec_l01Check.l0 k y0 y1 y2) (spec_l01Check.l0 (k + 1) y0 y1 y2))
  | 0 => fun _ _ _ r h => by simp [spec_l01Check.l0] at h
  | k + 1 => by
    have ih0 := spec_l01Check.mono_l k
    · intro y0 y1 y2
      unfold spec_l01Check.l0
      repeat' first
      | (with_reducible exact ih0 _ _ _)
      | (with_reducible exact LeO.refl _)
      | (with_reducible exact LeO.none _)
      | (with_reducible refine LeO.ite ?_ ?_)
      | (with_reducible refine LeO.bind ?_ (fun _ => ?_))
      | exact ih0 _ _ _
      | exact LeO.none _
      | refine LeO.ite ?_ ?_
      | refine LeO.bind ?_ (fun _ => ?_)
theorem spec_l01Check.mono : ∀ a0 a1 k, LeO (spec_l01Check.f k a0 a1) (spec_l01Check.f (k + 1) a0 a1) := by
  intro a0 a1 k
  have ih0 := spec_l01Check.mono_l k
  unfold spec_l01Check.f
  repeat' first
      | (with_reducible exact ih0 _ _ _)
      | (with_reducible exact LeO.refl _)
      | (with_reducible exact LeO.none _)
      | (with_reducible refine LeO.ite ?_ ?_)
      | (with_reducible refine LeO.bind ?_ (fun _ => ?_))
      | exact ih0 _ _ _
      | exact LeO.none _
      | refine LeO.ite ?_ ?_
      | refine LeO.bind ?_ (fun _ => ?_)
set_option maxHeartbeats 8000000 in
set_option maxRecDepth 100000 in
theorem spec_l01Check.calls (k : Nat) (a0 : Int) (a1 : ByteArray) (r : Int) (w : World) (h : spec_l01Check.f k a0 a1 = some r) :
    Calls Try.prog 75 #[.int .i64 a0, .string a1] w fun e w' => e = .returned (.int .i64 r) ∧ Drawn0 w w' := by
  have H : (spec_l01Check.l0 k a0 a1 0) = some r := h
  clear h
  have H' := Aside0.mk H
  clear H
  go_enter Try.func75, Try.ntmps75
  go_wp2
  go_loopg [0, 5] k (fun kq v0 v5 w' => ∃ (x0_1 : Int) (x5_1 : Int), v0 = .int .i64 x0_1 ∧ v5 = .int .i64 x5_1 ∧ Aside0 (spec_l01Check.l0 kq x0_1 a1 x5_1 = some r) ∧ Aside0 (kq ≤ k) ∧ Drawn0 w w')
  case atStart => exact ⟨(a0), (0), (by first | rfl | (simp; done) | (simp [*]; done)), (by first | rfl | (simp; done) | (simp [*]; done)), H', ⟨Nat.le_refl _⟩, by repeat (first | exact Drawn0.refl _ | apply Drawn0.step)⟩
  case round =>
    clear H'
    try clear p2
    obtain ⟨x0_1, x5_1, rfl, rfl, HA, HK1, ⟨m1, rfl⟩⟩ := hrel
    cases gk with
    | zero => exact absurd HA.out (by simp [spec_l01Check.l0])
    | succ k1 =>
      have H := HA.out
      clear HA
      simp only [spec_l01Check.l0] at H
      by_cases c3 : x5_1 < (a1.size : Int)
      · rw [if_pos c3] at H
        have c3b0 : decide (x5_1 < (a1.size : Int)) = true := decide_eq_true c3
        clear c3
        by_cases c4 : 0 ≤ x5_1
        · rw [if_pos c4] at H
          have c4b0 : decide (0 ≤ x5_1) = true := decide_eq_true c4
          clear c4
          have H' := Aside0.mk H
          clear H
          have p5 : 0 ≤ (x5_1 : Int) := of_decide_eq_true (by first | (with_reducible assumption) | assumption)
          have q5 : x5_1 < (a1.size : Int) := of_decide_eq_true (by first | (with_reducible assumption) | assumption)
          have hx5 := bt_at a1 x5_1
          replace p5 := eq_true p5
          replace q5 := eq_true q5
          go_wp2
          go_roundg k1
          case measure => have := HK1.out; omega
          case rel => exact ⟨(Int.tmod (wrap64 ((wrap64 ((wrap64 (797 * x0_1)) + (wrap64 (bt a1 x5_1)))) + 101)) 65003), (wrap64 (x5_1 + 1)), (by first | rfl | (simp; done) | (simp [*]; done)), (by first | rfl | (simp; done) | (simp [*]; done)), H', ⟨by have := HK1.out; omega⟩, by repeat (first | exact Drawn0.refl _ | apply Drawn0.step)⟩
        · rw [if_neg c4] at H
          exact absurd H (by simp)
      · rw [if_neg c3] at H
        have c3b0 : decide (x5_1 < (a1.size : Int)) = false := decide_eq_false c3
        clear c3
        obtain rfl := Option.some.inj H
        go_wp2
        go_ret
        exact ⟨by first | rfl | (simp; done) | (simp [*]; done), by repeat (first | exact Drawn0.refl _ | apply Drawn0.step)⟩

/-! ### spec_l07Store: function 58 -/
def spec_l07Store.f (k : Nat) (l0 : List (S27)) : Option (ByteArray) := if 0 < (l0.length : Int) then ((spec_l07Pack.f k ((rd_T27 l0 0).f1)).bind fun t190 => ((some (([(Int.tmod ((rd_T27 l0 0).f0) 256) % 256, (Int.tmod (wrap64 (Int.tdiv ((rd_T27 l0 0).f0) 256)) 256) % 256, (Int.tmod (wrap64 (Int.tdiv ((rd_T27 l0 0).f0) 65536)) 256) % 256, (wrap64 (Int.tdiv ((rd_T27 l0 0).f0) 16777216)) % 256, (t190.size : Int) % 256, (wrap64 ((t190.size : Int) / 256)) % 256] : List Int) : List Int)).bind fun y191 => (if 4 + (strOfNums y191).size ≤ 9223372036854775807 then (if ((⟨#[86, 79, 88, 49]⟩ : ByteArray) ++ (strOfNums y191)).size + t190.size ≤ 9223372036854775807 then ((spec_l01Check.f k 0 (((⟨#[86, 79, 88, 49]⟩ : ByteArray) ++ (strOfNums y191)) ++ t190)).bind fun t194 => ((some (([(Int.tmod t194 256) % 256, (wrap64 (Int.tdiv t194 256)) % 256] : List Int) : List Int)).bind fun y195 => (if (((⟨#[86, 79, 88, 49]⟩ : ByteArray) ++ (strOfNums y191)) ++ t190).size + (strOfNums y195).size ≤ 9223372036854775807 then (some ((((⟨#[86, 79, 88, 49]⟩ : ByteArray) ++ (strOfNums y191)) ++ t190) ++ (strOfNums y195))) else (none)))) else (none)) else (none)))) else (none)
theorem spec_l07Store.mono : ∀ a0 k, LeO (spec_l07Store.f k a0) (spec_l07Store.f (k + 1) a0) := by
  intro a0 k
  unfold spec_l07Store.f
  repeat' first
      | (with_reducible exact spec_l01Check.mono _ _ _)
      | (with_reducible exact spec_l07Pack.mono _ _)
      | (with_reducible exact LeO.refl _)
      | (with_reducible exact LeO.none _)
      | (with_reducible refine LeO.ite ?_ ?_)
      | (with_reducible refine LeO.bind ?_ (fun _ => ?_))
      | exact spec_l01Check.mono _ _ _
      | exact spec_l07Pack.mono _ _
      | exact LeO.none _
      | refine LeO.ite ?_ ?_
      | refine LeO.bind ?_ (fun _ => ?_)
set_option maxHeartbeats 8000000 in
set_option maxRecDepth 100000 in
theorem spec_l07Store.calls (k : Nat) (A0 : Option Addr) (l0 : List (S27)) (r : ByteArray) (w : World) (hr0 : Kd.C k27 w A0 l0.length l0) (h : spec_l07Store.f k l0 = some r) :
    Calls Try.prog 58 #[.pointer A0] w fun e w' => e = .returned (.string r) ∧ Below w.heap.size w w' := by
  have HR0 := Aside0.mk hr0
  clear hr0
  have HB := Aside0.mk (Below.refl w.heap.size w)
  have H : (if 0 < (l0.length : Int) then ((spec_l07Pack.f k ((rd_T27 l0 0).f1)).bind fun t190 => ((some (([(Int.tmod ((rd_T27 l0 0).f0) 256) % 256, (Int.tmod (wrap64 (Int.tdiv ((rd_T27 l0 0).f0) 256)) 256) % 256, (Int.tmod (wrap64 (Int.tdiv ((rd_T27 l0 0).f0) 65536)) 256) % 256, (wrap64 (Int.tdiv ((rd_T27 l0 0).f0) 16777216)) % 256, (t190.size : Int) % 256, (wrap64 ((t190.size : Int) / 256)) % 256] : List Int) : List Int)).bind fun y191 => (if 4 + (strOfNums y191).size ≤ 9223372036854775807 then (if ((⟨#[86, 79, 88, 49]⟩ : ByteArray) ++ (strOfNums y191)).size + t190.size ≤ 9223372036854775807 then ((spec_l01Check.f k 0 (((⟨#[86, 79, 88, 49]⟩ : ByteArray) ++ (strOfNums y191)) ++ t190)).bind fun t194 => ((some (([(Int.tmod t194 256) % 256, (wrap64 (Int.tdiv t194 256)) % 256] : List Int) : List Int)).bind fun y195 => (if (((⟨#[86, 79, 88, 49]⟩ : ByteArray) ++ (strOfNums y191)) ++ t190).size + (strOfNums y195).size ≤ 9223372036854775807 then (some ((((⟨#[86, 79, 88, 49]⟩ : ByteArray) ++ (strOfNums y191)) ++ t190) ++ (strOfNums y195))) else (none)))) else (none)) else (none)))) else (none)) = some r := h
  clear h
  by_cases c2 : 0 < (l0.length : Int)
  · rw [if_pos c2] at H
    have c2b0 : decide (0 < (l0.length : Int)) = true := decide_eq_true c2
    have c2b1 : decide (0 < l0.length) = true := decide_eq_true (by omega)
    clear c2
    replace H := Option.bind_eq_some_iff.mp H
    obtain ⟨t190, A30, H⟩ := H
    replace H : ((some (([(Int.tmod ((rd_T27 l0 0).f0) 256) % 256, (Int.tmod (wrap64 (Int.tdiv ((rd_T27 l0 0).f0) 256)) 256) % 256, (Int.tmod (wrap64 (Int.tdiv ((rd_T27 l0 0).f0) 65536)) 256) % 256, (wrap64 (Int.tdiv ((rd_T27 l0 0).f0) 16777216)) % 256, (t190.size : Int) % 256, (wrap64 ((t190.size : Int) / 256)) % 256] : List Int) : List Int)).bind fun y191 => (if 4 + (strOfNums y191).size ≤ 9223372036854775807 then (if ((⟨#[86, 79, 88, 49]⟩ : ByteArray) ++ (strOfNums y191)).size + t190.size ≤ 9223372036854775807 then ((spec_l01Check.f k 0 (((⟨#[86, 79, 88, 49]⟩ : ByteArray) ++ (strOfNums y191)) ++ t190)).bind fun t194 => ((some (([(Int.tmod t194 256) % 256, (wrap64 (Int.tdiv t194 256)) % 256] : List Int) : List Int)).bind fun y195 => (if (((⟨#[86, 79, 88, 49]⟩ : ByteArray) ++ (strOfNums y191)) ++ t190).size + (strOfNums y195).size ≤ 9223372036854775807 then (some ((((⟨#[86, 79, 88, 49]⟩ : ByteArray) ++ (strOfNums y191)) ++ t190) ++ (strOfNums y195))) else (none)))) else (none)) else (none))) = some r := H
    have A3 := Aside0.mk A30
    clear A30
    obtain ⟨y191, hy191⟩ : ∃ y_ : List Int, y_ = (([(Int.tmod ((rd_T27 l0 0).f0) 256) % 256, (Int.tmod (wrap64 (Int.tdiv ((rd_T27 l0 0).f0) 256)) 256) % 256, (Int.tmod (wrap64 (Int.tdiv ((rd_T27 l0 0).f0) 65536)) 256) % 256, (wrap64 (Int.tdiv ((rd_T27 l0 0).f0) 16777216)) % 256, (t190.size : Int) % 256, (wrap64 ((t190.size : Int) / 256)) % 256] : List Int)) := ⟨_, rfl⟩
    replace H : (if 4 + (strOfNums y191).size ≤ 9223372036854775807 then (if ((⟨#[86, 79, 88, 49]⟩ : ByteArray) ++ (strOfNums y191)).size + t190.size ≤ 9223372036854775807 then ((spec_l01Check.f k 0 (((⟨#[86, 79, 88, 49]⟩ : ByteArray) ++ (strOfNums y191)) ++ t190)).bind fun t194 => ((some (([(Int.tmod t194 256) % 256, (wrap64 (Int.tdiv t194 256)) % 256] : List Int) : List Int)).bind fun y195 => (if (((⟨#[86, 79, 88, 49]⟩ : ByteArray) ++ (strOfNums y191)) ++ t190).size + (strOfNums y195).size ≤ 9223372036854775807 then (some ((((⟨#[86, 79, 88, 49]⟩ : ByteArray) ++ (strOfNums y191)) ++ t190) ++ (strOfNums y195))) else (none)))) else (none)) else (none)) = some r := by first | (rw [hy191]; with_reducible exact H) | (have H2_ := (Option.bind_some _ _).symm.trans H; rw [hy191]; with_reducible exact H2_) | (have H2_ := (Option.bind_some _ _).symm.trans H; with_reducible exact H2_) | with_reducible exact H | (rw [hy191]; exact H) | exact H
    have Ny191 := Aside0.mk hy191
    clear hy191
    by_cases c4 : 4 + (strOfNums y191).size ≤ 9223372036854775807
    · rw [if_pos c4] at H
      have c4b0 := eq_true c4
      have c4b1 : decide (4 + (strOfNums y191).size ≤ 9223372036854775807) = true := decide_eq_true c4
      try have c4b2 : (9223372036854775807 < 4 + (strOfNums y191).size) = False := eq_false (Nat.not_lt.2 c4)
      by_cases c5 : ((⟨#[86, 79, 88, 49]⟩ : ByteArray) ++ (strOfNums y191)).size + t190.size ≤ 9223372036854775807
      · rw [if_pos c5] at H
        have c5b0 := eq_true c5
        have c5b1 : decide (((⟨#[86, 79, 88, 49]⟩ : ByteArray) ++ (strOfNums y191)).size + t190.size ≤ 9223372036854775807) = true := decide_eq_true c5
        try have c5b2 : (9223372036854775807 < ((⟨#[86, 79, 88, 49]⟩ : ByteArray) ++ (strOfNums y191)).size + t190.size) = False := eq_false (Nat.not_lt.2 c5)
        try have c5b3 : (9223372036854775807 < (4 + (strOfNums y191).size) + t190.size) = False := eq_false (Nat.not_lt.2 (by have h_ := c5; (repeat rw [ByteArray.size_append] at h_); exact h_))
        replace H := Option.bind_eq_some_iff.mp H
        obtain ⟨t194, A60, H⟩ := H
        replace H : ((some (([(Int.tmod t194 256) % 256, (wrap64 (Int.tdiv t194 256)) % 256] : List Int) : List Int)).bind fun y195 => (if (((⟨#[86, 79, 88, 49]⟩ : ByteArray) ++ (strOfNums y191)) ++ t190).size + (strOfNums y195).size ≤ 9223372036854775807 then (some ((((⟨#[86, 79, 88, 49]⟩ : ByteArray) ++ (strOfNums y191)) ++ t190) ++ (strOfNums y195))) else (none))) = some r := H
        have A6 := Aside0.mk A60
        clear A60
        obtain ⟨y195, hy195⟩ : ∃ y_ : List Int, y_ = (([(Int.tmod t194 256) % 256, (wrap64 (Int.tdiv t194 256)) % 256] : List Int)) := ⟨_, rfl⟩
        replace H : (if (((⟨#[86, 79, 88, 49]⟩ : ByteArray) ++ (strOfNums y191)) ++ t190).size + (strOfNums y195).size ≤ 9223372036854775807 then (some ((((⟨#[86, 79, 88, 49]⟩ : ByteArray) ++ (strOfNums y191)) ++ t190) ++ (strOfNums y195))) else (none)) = some r := by first | (rw [hy195]; with_reducible exact H) | (have H2_ := (Option.bind_some _ _).symm.trans H; rw [hy195]; with_reducible exact H2_) | (have H2_ := (Option.bind_some _ _).symm.trans H; with_reducible exact H2_) | with_reducible exact H | (rw [hy195]; exact H) | exact H
        have Ny195 := Aside0.mk hy195
        clear hy195
        by_cases c7 : (((⟨#[86, 79, 88, 49]⟩ : ByteArray) ++ (strOfNums y191)) ++ t190).size + (strOfNums y195).size ≤ 9223372036854775807
        · rw [if_pos c7] at H
          have c7b0 := eq_true c7
          have c7b1 : decide ((((⟨#[86, 79, 88, 49]⟩ : ByteArray) ++ (strOfNums y191)) ++ t190).size + (strOfNums y195).size ≤ 9223372036854775807) = true := decide_eq_true c7
          try have c7b2 : (9223372036854775807 < (((⟨#[86, 79, 88, 49]⟩ : ByteArray) ++ (strOfNums y191)) ++ t190).size + (strOfNums y195).size) = False := eq_false (Nat.not_lt.2 c7)
          try have c7b3 : (9223372036854775807 < ((4 + (strOfNums y191).size) + t190.size) + (strOfNums y195).size) = False := eq_false (Nat.not_lt.2 (by have h_ := c7; (repeat rw [ByteArray.size_append] at h_); exact h_))
          obtain rfl := Option.some.inj H
          have p186 : 0 ≤ (0 : Int) := (by omega)
          have q186 : 0 < (l0.length : Int) := of_decide_eq_true (by first | (with_reducible assumption) | assumption)
          obtain ⟨ad186, A186_1, c186_1, e186, hx186_0, hx186_1, hl186_1, hi186_1⟩ := at_T27 HR0.out 0 p186 q186
          cases e186
          have qi186 : (0 < l0.length) = True := eq_true (by omega)
          (try rw [show ((0 : Int)).toNat = 0 from rfl] at hx186_0)
          (try rw [show 0 * 2 = 0 from rfl] at hx186_0)
          (try rw [Addr.add_zero'] at hx186_0)
          (try rw [show ((0 : Int)).toNat = 0 from rfl] at hx186_1)
          (try rw [show 0 * 2 = 0 from rfl] at hx186_1)
          (try rw [Addr.add_zero'] at hx186_1)
          have HR186_1 := Aside0.mk hi186_1
          have HC186_1 := Aside0.mk hl186_1
          clear hi186_1 hl186_1
          replace p186 := eq_true p186
          replace q186 := eq_true q186
          have p187 : 0 ≤ (0 : Int) := (by omega)
          have q187 : 0 < (l0.length : Int) := of_decide_eq_true (by first | (with_reducible assumption) | assumption)
          obtain ⟨ad187, A187_1, c187_1, e187, hx187_0, hx187_1, hl187_1, hi187_1⟩ := at_T27 HR0.out 0 p187 q187
          obtain rfl : ad186 = ad187 := (by injection e187)
          have qi187 : (0 < l0.length) = True := eq_true (by omega)
          (try rw [show ((0 : Int)).toNat = 0 from rfl] at hx187_0)
          (try rw [show 0 * 2 = 0 from rfl] at hx187_0)
          (try rw [Addr.add_zero'] at hx187_0)
          (try rw [show ((0 : Int)).toNat = 0 from rfl] at hx187_1)
          (try rw [show 0 * 2 = 0 from rfl] at hx187_1)
          (try rw [Addr.add_zero'] at hx187_1)
          have HR187_1 := Aside0.mk hi187_1
          have HC187_1 := Aside0.mk hl187_1
          clear hi187_1 hl187_1
          replace p187 := eq_true p187
          replace q187 := eq_true q187
          have ea_ := Option.some.inj (hx186_1.symm.trans hx187_1)
          injection ea_ with ea_ en_ ec_
          subst ea_
          subst ec_
          clear en_
          have p188 : 0 ≤ (0 : Int) := (by omega)
          have q188 : 0 < (l0.length : Int) := of_decide_eq_true (by first | (with_reducible assumption) | assumption)
          obtain ⟨ad188, A188_1, c188_1, e188, hx188_0, hx188_1, hl188_1, hi188_1⟩ := at_T27 HR0.out 0 p188 q188
          obtain rfl : ad186 = ad188 := (by injection e188)
          have qi188 : (0 < l0.length) = True := eq_true (by omega)
          (try rw [show ((0 : Int)).toNat = 0 from rfl] at hx188_0)
          (try rw [show 0 * 2 = 0 from rfl] at hx188_0)
          (try rw [Addr.add_zero'] at hx188_0)
          (try rw [show ((0 : Int)).toNat = 0 from rfl] at hx188_1)
          (try rw [show 0 * 2 = 0 from rfl] at hx188_1)
          (try rw [Addr.add_zero'] at hx188_1)
          have HR188_1 := Aside0.mk hi188_1
          have HC188_1 := Aside0.mk hl188_1
          clear hi188_1 hl188_1
          replace p188 := eq_true p188
          replace q188 := eq_true q188
          have ea_ := Option.some.inj (hx186_1.symm.trans hx188_1)
          injection ea_ with ea_ en_ ec_
          subst ea_
          subst ec_
          clear en_
          have p189 : 0 ≤ (0 : Int) := (by omega)
          have q189 : 0 < (l0.length : Int) := of_decide_eq_true (by first | (with_reducible assumption) | assumption)
          obtain ⟨ad189, A189_1, c189_1, e189, hx189_0, hx189_1, hl189_1, hi189_1⟩ := at_T27 HR0.out 0 p189 q189
          obtain rfl : ad186 = ad189 := (by injection e189)
          have qi189 : (0 < l0.length) = True := eq_true (by omega)
          (try rw [show ((0 : Int)).toNat = 0 from rfl] at hx189_0)
          (try rw [show 0 * 2 = 0 from rfl] at hx189_0)
          (try rw [Addr.add_zero'] at hx189_0)
          (try rw [show ((0 : Int)).toNat = 0 from rfl] at hx189_1)
          (try rw [show 0 * 2 = 0 from rfl] at hx189_1)
          (try rw [Addr.add_zero'] at hx189_1)
          have HR189_1 := Aside0.mk hi189_1
          have HC189_1 := Aside0.mk hl189_1
          clear hi189_1 hl189_1
          replace p189 := eq_true p189
          replace q189 := eq_true q189
          have ea_ := Option.some.inj (hx186_1.symm.trans hx189_1)
          injection ea_ with ea_ en_ ec_
          subst ea_
          subst ec_
          clear en_
          go_enter Try.func58, Try.ntmps58
          go_wp2_with (first | ((with_reducible refine gate_callee (f := 51) rfl ?_); refine goesL_ (some 15) rfl rfl Try.func51 (by kernel_rfl) rfl #[.slice A186_1 ((rd_T27 l0 0).f1).length c186_1] rfl (by (try simp only [List.map_toArray, List.map_cons, List.map_nil]); first | done | rfl | (simp only [List.length_drop, List.length_take]; rfl)) ?_; (with_reducible refine (spec_l07Pack.calls k _ _ ((rd_T27 l0 0).f1) t190 _ ?side1 ?side2 A3.out).mono ?_); (case side1 => repeat (first | exact HR189_1.out | (with_reducible refine Kd.C_alloc ?_ _) | (with_reducible refine Kd.C_drewN ?_ _) | (with_reducible refine Kd.C_drew ?_))); (case side2 => exact HC189_1.out); rintro e w8 ⟨rfl, hb⟩; refine ⟨_, rfl, ?_⟩; have n0_ := Aside0.mk (below_step (by repeat (first | (with_reducible first | exact HB.out | apply below_alloc | apply pw_below_drewN | apply below_drew1) | exact HB.out)) hb); clear HB; have HB := n0_; clear n0_; (try clear hb); (try clear hb2); (try clear hk); (try clear hi)) | ((with_reducible refine gate_dst (N := 38) rfl ?_); refine Kd.R_lit (Kd.int .u8) _ 5 ?hg (N := 38) ?hd (xs := ([(Int.tmod ((rd_T27 l0 0).f0) 256) % 256, (Int.tmod (wrap64 (Int.tdiv ((rd_T27 l0 0).f0) 256)) 256) % 256, (Int.tmod (wrap64 (Int.tdiv ((rd_T27 l0 0).f0) 65536)) 256) % 256, (wrap64 (Int.tdiv ((rd_T27 l0 0).f0) 16777216)) % 256, (t190.size : Int) % 256, (wrap64 ((t190.size : Int) / 256)) % 256] : List Int)) (inner := [.int .u8 ((Int.tmod ((rd_T27 l0 0).f0) 256) % 256), .int .u8 ((Int.tmod (wrap64 (Int.tdiv ((rd_T27 l0 0).f0) 256)) 256) % 256), .int .u8 ((Int.tmod (wrap64 (Int.tdiv ((rd_T27 l0 0).f0) 65536)) 256) % 256), .int .u8 ((wrap64 (Int.tdiv ((rd_T27 l0 0).f0) 16777216)) % 256), .int .u8 ((t190.size : Int) % 256), .int .u8 ((wrap64 ((t190.size : Int) / 256)) % 256)]) (ok := fun _ => True) (okp := fun _ => True) ?hr ?hp (fun _ hk => hk) trivial (Below.refl _ _) (Nat.le_refl _) (by simp) ?_; (case hd => rfl); (case hg => rfl); (case hr => first | (go_simp; done) | (go_simp; rfl) | (simp (disch := omega) only [w64_id]; go_simp; done) | (go_simp; simp (disch := omega) only [w64_id]; done)); (case hp => exact (Reps.one (show Kd.M (Kd.int .u8) _ _ _ ((Int.tmod ((rd_T27 l0 0).f0) 256) % 256) [.int .u8 ((Int.tmod ((rd_T27 l0 0).f0) 256) % 256)] from rfl) (Reps.one (show Kd.M (Kd.int .u8) _ _ _ ((Int.tmod (wrap64 (Int.tdiv ((rd_T27 l0 0).f0) 256)) 256) % 256) [.int .u8 ((Int.tmod (wrap64 (Int.tdiv ((rd_T27 l0 0).f0) 256)) 256) % 256)] from rfl) (Reps.one (show Kd.M (Kd.int .u8) _ _ _ ((Int.tmod (wrap64 (Int.tdiv ((rd_T27 l0 0).f0) 65536)) 256) % 256) [.int .u8 ((Int.tmod (wrap64 (Int.tdiv ((rd_T27 l0 0).f0) 65536)) 256) % 256)] from rfl) (Reps.one (show Kd.M (Kd.int .u8) _ _ _ ((wrap64 (Int.tdiv ((rd_T27 l0 0).f0) 16777216)) % 256) [.int .u8 ((wrap64 (Int.tdiv ((rd_T27 l0 0).f0) 16777216)) % 256)] from rfl) (Reps.one (show Kd.M (Kd.int .u8) _ _ _ ((t190.size : Int) % 256) [.int .u8 ((t190.size : Int) % 256)] from rfl) (Reps.one (show Kd.M (Kd.int .u8) _ _ _ ((wrap64 ((t190.size : Int) / 256)) % 256) [.int .u8 ((wrap64 ((t190.size : Int) / 256)) % 256)] from rfl) (Reps.none _ _)))))))); intro v192 w9 ho10 hb hg_ hnew_; clear hg_ hnew_; (first | rw [← Ny191.out] at ho10 | (simp only [Int.reduceToNat] at ho10; rw [← Ny191.out] at ho10)); have n0_ := Aside0.mk (Kd.R_lower ho10 (below_size (by repeat (first | (with_reducible first | exact HB.out | apply below_alloc | apply pw_below_drewN | apply below_drew1) | exact HB.out)))); have n1_ := Aside0.mk (below_step (by repeat (first | (with_reducible first | exact HB.out | apply below_alloc | apply pw_below_drewN | apply below_drew1) | exact HB.out)) hb); clear HB; have HO193 := n0_; have HB := n1_; clear n0_ n1_; clear hb ho10; have hcv11 := own_string (P := Try.prog) Try.underlying49 Try.underlying5 Try.underlying9 (Kd.own_of_R HO193.out)) | ((with_reducible refine gate_callee (f := 75) rfl ?_); refine goesL_ (some 44) rfl rfl Try.func75 (by kernel_rfl) rfl #[.int .i64 0, .string (((⟨#[86, 79, 88, 49]⟩ : ByteArray) ++ (strOfNums y191)) ++ t190)] rfl (by (try simp only [List.map_toArray, List.map_cons, List.map_nil]); first | done | rfl | (simp only [List.length_drop, List.length_take]; rfl)) ?_; (with_reducible refine (spec_l01Check.calls k 0 (((⟨#[86, 79, 88, 49]⟩ : ByteArray) ++ (strOfNums y191)) ++ t190) t194 _ A6.out).mono ?_); rintro e w' ⟨rfl, ⟨nd, rfl⟩⟩; refine ⟨_, rfl, ?_⟩) | ((with_reducible refine gate_dst (N := 52) rfl ?_); refine Kd.R_lit (Kd.int .u8) _ 5 ?hg (N := 52) ?hd (xs := ([(Int.tmod t194 256) % 256, (wrap64 (Int.tdiv t194 256)) % 256] : List Int)) (inner := [.int .u8 ((Int.tmod t194 256) % 256), .int .u8 ((wrap64 (Int.tdiv t194 256)) % 256)]) (ok := fun _ => True) (okp := fun _ => True) ?hr ?hp (fun _ hk => hk) trivial (Below.refl _ _) (Nat.le_refl _) (by simp) ?_; (case hd => rfl); (case hg => rfl); (case hr => first | (go_simp; done) | (go_simp; rfl) | (simp (disch := omega) only [w64_id]; go_simp; done) | (go_simp; simp (disch := omega) only [w64_id]; done)); (case hp => exact (Reps.one (show Kd.M (Kd.int .u8) _ _ _ ((Int.tmod t194 256) % 256) [.int .u8 ((Int.tmod t194 256) % 256)] from rfl) (Reps.one (show Kd.M (Kd.int .u8) _ _ _ ((wrap64 (Int.tdiv t194 256)) % 256) [.int .u8 ((wrap64 (Int.tdiv t194 256)) % 256)] from rfl) (Reps.none _ _)))); intro v196 w12 ho13 hb hg_ hnew_; clear hg_ hnew_; (first | rw [← Ny195.out] at ho13 | (simp only [Int.reduceToNat] at ho13; rw [← Ny195.out] at ho13)); have n0_ := Aside0.mk (Kd.R_elder' (by (with_reducible repeat (first | apply Kd.R_alloc | apply Kd.R_drewN | apply Kd.R_drew)); exact HO193.out) (Kd.R_base ho13) hb); have n1_ := Aside0.mk (Kd.R_lower (Kd.R_new' ho13 (Kd.R_lt (by (with_reducible repeat (first | apply Kd.R_alloc | apply Kd.R_drewN | apply Kd.R_drew)); exact HO193.out))) (below_size (by repeat (first | (with_reducible first | exact HB.out | apply below_alloc | apply pw_below_drewN | apply below_drew1) | exact HB.out)))); have n2_ := Aside0.mk (below_step (by repeat (first | (with_reducible first | exact HB.out | apply below_alloc | apply pw_below_drewN | apply below_drew1) | exact HB.out)) hb); clear HO193; clear HB; have HO193 := n0_; have HO197 := n1_; have HB := n2_; clear n0_ n1_ n2_; clear hb ho13; have hcv14 := own_string (P := Try.prog) Try.underlying49 Try.underlying5 Try.underlying9 (Kd.own_of_R HO197.out)))
          go_ret
          exact ⟨by first | rfl | (simp [errW_none, errW_some] <;> rfl) | (simp [*, errW_none, errW_some] <;> rfl), by repeat (first | (with_reducible first | exact HB.out | apply below_alloc | apply pw_below_drewN | apply below_drew1) | exact HB.out)⟩
        · rw [if_neg c7] at H
          exact absurd H (by simp)
      · rw [if_neg c5] at H
        exact absurd H (by simp)
    · rw [if_neg c4] at H
      exact absurd H (by simp)
  · rw [if_neg c2] at H
    exact absurd H (by simp)

/-! ### spec_l07Long: function 66 -/
def spec_l07Long.f (a0 : ByteArray) : Option (Int) := if (a0.size : Int) < 10 then (some 0) else (if 8 < (a0.size : Int) then (if 9 < (a0.size : Int) then (if (wrap64 ((wrap64 (12 + (wrap64 (bt a0 8)))) + (wrap64 (256 * (wrap64 (bt a0 9)))))) > (a0.size : Int) then (some 0) else (some (wrap64 ((wrap64 (12 + (wrap64 (bt a0 8)))) + (wrap64 (256 * (wrap64 (bt a0 9)))))))) else (none)) else (none))
set_option maxHeartbeats 8000000 in
set_option maxRecDepth 100000 in
theorem spec_l07Long.calls (a0 : ByteArray) (r : Int) (w : World) (h : spec_l07Long.f a0 = some r) :
    Calls Try.prog 66 #[.string a0] w fun e w' => e = .returned (.int .i64 r) ∧ Drawn0 w w' := by
  have H : (if (a0.size : Int) < 10 then (some 0) else (if 8 < (a0.size : Int) then (if 9 < (a0.size : Int) then (if (wrap64 ((wrap64 (12 + (wrap64 (bt a0 8)))) + (wrap64 (256 * (wrap64 (bt a0 9)))))) > (a0.size : Int) then (some 0) else (some (wrap64 ((wrap64 (12 + (wrap64 (bt a0 8)))) + (wrap64 (256 * (wrap64 (bt a0 9)))))))) else (none)) else (none))) = some r := h
  clear h
  by_cases c2 : (a0.size : Int) < 10
  · rw [if_pos c2] at H
    have c2b0 : decide ((a0.size : Int) < 10) = true := decide_eq_true c2
    have c2b1 : decide (a0.size < 10) = true := decide_eq_true (by omega)
    clear c2
    obtain rfl := Option.some.inj H
    go_enter Try.func66, Try.ntmps66
    go_wp2
    repeat (go_quiet (fail); try go_wp2)
    go_ret
    exact ⟨by first | rfl | (simp; done) | (simp [*]; done), by repeat (first | exact Drawn0.refl _ | apply Drawn0.step)⟩
  · rw [if_neg c2] at H
    have c2b0 : decide ((a0.size : Int) < 10) = false := decide_eq_false c2
    have c2b1 : decide (a0.size < 10) = false := decide_eq_false (by omega)
    clear c2
    by_cases c3 : 8 < (a0.size : Int)
    · rw [if_pos c3] at H
      have c3b0 : decide (8 < (a0.size : Int)) = true := decide_eq_true c3
      have c3b1 : decide (8 < a0.size) = true := decide_eq_true (by omega)
      clear c3
      by_cases c5 : 9 < (a0.size : Int)
      · rw [if_pos c5] at H
        have c5b0 : decide (9 < (a0.size : Int)) = true := decide_eq_true c5
        have c5b1 : decide (9 < a0.size) = true := decide_eq_true (by omega)
        clear c5
        by_cases c7 : (wrap64 ((wrap64 (12 + (wrap64 (bt a0 8)))) + (wrap64 (256 * (wrap64 (bt a0 9)))))) > (a0.size : Int)
        · rw [if_pos c7] at H
          have c7b0 : decide ((a0.size : Int) < (wrap64 ((wrap64 (12 + (wrap64 (bt a0 8)))) + (wrap64 (256 * (wrap64 (bt a0 9))))))) = true := decide_eq_true c7
          clear c7
          obtain rfl := Option.some.inj H
          have p4 : 0 ≤ (8 : Int) := (by omega)
          have q4 : 8 < a0.size := (by have : (8 : Int) < (a0.size : Int) := of_decide_eq_true (by first | (with_reducible assumption) | assumption); omega)
          have hx4 : ∀ h : 8 < a0.size, ((a0[8]'h).toNat : Int) = bt a0 8 := bt_at a0 8
          clear p4
          have qi4 : (8 < (a0.size : Int)) = True := eq_true (of_decide_eq_true (by first | (with_reducible assumption) | assumption))
          replace q4 := eq_true q4
          have p6 : 0 ≤ (9 : Int) := (by omega)
          have q6 : 9 < a0.size := (by have : (9 : Int) < (a0.size : Int) := of_decide_eq_true (by first | (with_reducible assumption) | assumption); omega)
          have hx6 : ∀ h : 9 < a0.size, ((a0[9]'h).toNat : Int) = bt a0 9 := bt_at a0 9
          clear p6
          have qi6 : (9 < (a0.size : Int)) = True := eq_true (of_decide_eq_true (by first | (with_reducible assumption) | assumption))
          replace q6 := eq_true q6
          go_enter Try.func66, Try.ntmps66
          go_wp2
          repeat (go_quiet (fail); try go_wp2)
          go_ret
          exact ⟨by first | rfl | (simp; done) | (simp [*]; done), by repeat (first | exact Drawn0.refl _ | apply Drawn0.step)⟩
        · rw [if_neg c7] at H
          have c7b0 : decide ((a0.size : Int) < (wrap64 ((wrap64 (12 + (wrap64 (bt a0 8)))) + (wrap64 (256 * (wrap64 (bt a0 9))))))) = false := decide_eq_false c7
          clear c7
          obtain rfl := Option.some.inj H
          have p4 : 0 ≤ (8 : Int) := (by omega)
          have q4 : 8 < a0.size := (by have : (8 : Int) < (a0.size : Int) := of_decide_eq_true (by first | (with_reducible assumption) | assumption); omega)
          have hx4 : ∀ h : 8 < a0.size, ((a0[8]'h).toNat : Int) = bt a0 8 := bt_at a0 8
          clear p4
          have qi4 : (8 < (a0.size : Int)) = True := eq_true (of_decide_eq_true (by first | (with_reducible assumption) | assumption))
          replace q4 := eq_true q4
          have p6 : 0 ≤ (9 : Int) := (by omega)
          have q6 : 9 < a0.size := (by have : (9 : Int) < (a0.size : Int) := of_decide_eq_true (by first | (with_reducible assumption) | assumption); omega)
          have hx6 : ∀ h : 9 < a0.size, ((a0[9]'h).toNat : Int) = bt a0 9 := bt_at a0 9
          clear p6
          have qi6 : (9 < (a0.size : Int)) = True := eq_true (of_decide_eq_true (by first | (with_reducible assumption) | assumption))
          replace q6 := eq_true q6
          go_enter Try.func66, Try.ntmps66
          go_wp2
          repeat (go_quiet (fail); try go_wp2)
          go_ret
          exact ⟨by first | rfl | (simp; done) | (simp [*]; done), by repeat (first | exact Drawn0.refl _ | apply Drawn0.step)⟩
      · rw [if_neg c5] at H
        exact absurd H (by simp)
    · rw [if_neg c3] at H
      exact absurd H (by simp)

end Go.Proofs.Ytgiednkailakgaa.PFnExactLoadBlock
