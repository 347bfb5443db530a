import Derived.Test.YteooifighndmkaaPFnExactFrameAtx0
import Derived.Test.YteooifighndmkaaPFnExactFrameAtx12
import Derived.Test.YteooifighndmkaaFra
import Derived.Deep.RegionHeldLaw
import Derived.Lib.Hide
namespace Go.Proofs.Yteooifighndmkaa.PFnExactFrameAt
open Go.RowKit Go.Proofs.YteooifighndmkaaW.PrintWords Go.Proofs.YteooifighndmkaaW.PrintLast Go.Proofs.YteooifighndmkaaW.PrintMore
open Go.Proofs.YteooifighndmkaaW.PrintFl
attribute [local go_sem high] binOp_feq binOp_fne binOp_fls binOp_fle binOp_fgr binOp_fge binOp_sle binOp_sgt
attribute [local go_sem] run_fopr run_fconv run_fint run_stf run_stc
attribute [local go_sem] max2_int min2_int max_two min_two max_three min_three max_four min_four
set_option linter.unusedVariables false
set_option linter.unusedSimpArgs false
abbrev impl_AreSounds.z0 : Array Bool := #[false, false, false, false, false, false, false, false, false, false, false, false, false, false, false, false, false, false, false, false, false, false, false, false, false, false, false, false, false]
abbrev impl_AreSounds.z1 : Array Bool := #[true, false, false, false, false, false, false, false, false, false, false, false, false, false, false, false, false, false, false, false, false, false, false, false, false, false, false, false, false]
abbrev impl_AreSounds.z2 : Array Bool := #[true, true, false, false, false, false, false, false, false, false, false, false, false, false, false, false, false, false, false, false, false, false, false, false, false, false, false, false, false]
abbrev impl_AreSounds.z3 : Array Bool := #[true, true, true, false, false, false, false, false, false, false, false, false, false, false, false, false, false, false, false, false, false, false, false, false, false, false, false, false, false]
abbrev impl_AreSounds.z4 : Array Bool := #[true, true, true, true, false, false, false, false, false, false, false, false, false, false, false, false, false, false, false, false, false, false, false, false, false, false, false, false, false]
abbrev impl_AreSounds.z5 : Array Bool := #[true, true, true, true, true, false, false, false, false, false, false, false, false, false, false, false, false, false, false, false, false, false, false, false, false, false, false, false, false]
abbrev impl_AreSounds.z6 : Array Bool := #[true, true, true, true, true, false, false, true, false, false, false, false, false, false, false, false, false, false, false, false, false, false, false, false, false, false, false, false, false]
abbrev impl_AreSounds.z7 : Array Bool := #[true, true, true, true, true, false, false, true, true, false, false, false, false, false, false, false, false, false, false, false, false, false, false, false, false, false, false, false, false]
abbrev impl_AreSounds.z8 : Array Bool := #[true, true, true, true, true, false, false, true, true, true, false, false, false, false, false, false, false, false, false, false, false, false, false, false, false, false, false, false, false]
abbrev impl_AreSounds.z9 : Array Bool := #[true, true, true, true, true, true, false, true, true, true, false, false, false, false, false, false, false, false, false, false, false, false, false, false, false, false, false, false, false]
abbrev impl_AreSounds.z10 : Array Bool := #[true, true, true, true, true, true, true, true, true, true, false, false, false, false, false, false, false, false, false, false, false, false, false, false, false, false, false, false, false]
abbrev impl_AreSounds.z11 : Array Bool := #[true, true, true, true, true, true, true, true, true, true, true, false, false, false, false, false, false, false, false, false, false, false, false, false, false, false, false, false, false]
abbrev impl_AreSounds.z12 : Array Bool := #[true, true, true, true, true, true, true, true, true, true, true, true, false, false, false, false, false, false, false, false, false, false, false, false, false, false, false, false, false]
abbrev impl_AreSounds.z13 : Array Bool := #[true, true, true, true, true, true, true, true, true, true, true, true, true, false, false, false, false, false, false, false, false, false, false, false, false, false, false, false, false]
abbrev impl_AreSounds.z14 : Array Bool := #[true, true, true, true, true, true, true, true, true, true, true, true, true, true, false, false, false, false, false, false, false, false, false, false, false, false, false, false, false]
abbrev impl_AreSounds.z15 : Array Bool := #[true, true, true, true, true, true, true, true, true, true, true, true, true, true, true, false, false, false, false, false, false, false, false, false, false, false, false, false, false]
abbrev impl_AreSounds.z16 : Array Bool := #[true, true, true, true, true, true, true, true, true, true, true, true, true, true, true, true, false, false, false, false, false, false, false, false, false, false, false, false, false]
abbrev impl_AreSounds.z17 : Array Bool := #[true, true, true, true, true, true, true, true, true, true, true, true, true, true, true, true, true, false, false, false, false, false, false, false, false, false, false, false, false]
abbrev impl_AreSounds.z18 : Array Bool := #[true, true, true, true, true, true, true, true, true, true, true, true, true, true, true, true, true, true, false, false, false, false, false, false, false, false, false, false, false]
abbrev impl_AreSounds.z19 : Array Bool := #[true, true, true, true, true, true, true, true, true, true, true, true, true, true, true, true, true, true, true, false, false, false, false, false, false, false, false, false, false]
abbrev impl_AreSounds.z20 : Array Bool := #[true, true, true, true, true, true, true, true, true, true, true, true, true, true, true, true, true, true, true, true, false, false, false, false, false, false, false, false, false]
abbrev impl_AreSounds.z21 : Array Bool := #[true, true, true, true, true, true, true, true, true, true, true, true, true, true, true, true, true, true, true, true, true, false, false, false, false, false, false, false, false]
abbrev impl_AreSounds.z22 : Array Bool := #[true, true, true, true, true, true, true, true, true, true, true, true, true, true, true, true, true, true, true, true, true, true, false, false, false, false, false, false, false]
abbrev impl_AreSounds.z23 : Array Bool := #[true, true, true, true, true, true, true, true, true, true, true, true, true, true, true, true, true, true, true, true, true, true, true, false, false, false, false, false, false]
abbrev impl_AreSounds.z25 : Array Bool := #[true, true, true, true, true, true, true, true, true, true, true, true, true, true, true, true, true, true, true, true, true, true, true, true, true, false, false, false, false]
abbrev impl_AreSounds.z26 : Array Bool := #[true, true, true, true, true, true, true, true, true, true, true, true, true, true, true, true, true, true, true, true, true, true, true, true, true, true, false, false, false]
abbrev impl_AreSounds.z27 : Array Bool := #[true, true, true, true, true, true, true, true, true, true, true, true, true, true, true, true, true, true, true, true, true, true, true, true, true, true, true, false, false]
abbrev impl_AreSounds.z28 : Array Bool := #[true, true, true, true, true, true, true, true, true, true, true, true, true, true, true, true, true, true, true, true, true, true, true, true, true, true, true, true, false]
abbrev impl_AreSounds.z29 : Array Bool := #[true, true, true, true, true, true, true, true, true, true, true, true, true, true, true, true, true, true, true, true, true, true, true, true, true, true, true, true, true]
abbrev impl_AreSounds.z30 : Array Bool := #[true, true, true, true, true, true, true, true, true, true, true, true, true, true, true, true, true, true, true, true, true, true, true, true, false, false, false, false, false]
abbrev impl_AreSounds.z31 : Array Bool := #[true, true, true, true, true, true, false, false, false, false, false, false, false, false, false, false, false, false, false, false, false, false, false, false, false, false, false, false, false]
abbrev impl_AreSounds.z32 : Array Bool := #[true, true, true, true, true, true, true, false, false, false, false, false, false, false, false, false, false, false, false, false, false, false, false, false, false, false, false, false, false]
abbrev impl_AreSounds.z33 : Array Bool := #[true, true, true, true, true, true, true, true, false, false, false, false, false, false, false, false, false, false, false, false, false, false, false, false, false, false, false, false, false]
abbrev impl_AreSounds.z34 : Array Bool := #[true, true, true, true, true, true, true, true, true, false, false, false, false, false, false, false, false, false, false, false, false, false, false, false, false, false, false, false, false]
def impl_AreSounds.l0 : Nat → List (S49) → List (S49) → Int → Int → Option (Bool)
 | 0, _, _, _, _ => none
 | k + 1, x0, x5, x6, x7 => if x7 < x6 then (if 0 ≤ x7 then (if x7 < (x5.length : Int) then ((impl_ValidSound.f k ((rd_T49 x5 x7).f0) ((rd_T49 x5 x7).f1) ((rd_T49 x5 x7).f2) ((rd_T49 x5 x7).f3) ((rd_T49 x5 x7).f4) ((rd_T49 x5 x7).f5)).bind fun t278 => (if t278 = true then (if 0 < (x0.length : Int) then (if (((rd_T49 x5 x7).f1).length : Int) = (((rd_T49 x0 0).f1).length : Int) then (if x7 > 0 then (if 0 ≤ (wrap64 (x7 - 1)) then (if (wrap64 (x7 - 1)) < (x0.length : Int) then (if ((Op.bytesLess (((rd_T49 x0 (wrap64 (x7 - 1))).f0).toList) (((rd_T49 x5 x7).f0).toList)) = true) then (impl_AreSounds.l0 k x0 x5 x6 (wrap64 (x7 + 1))) else (some false)) else (none)) else (none)) else (impl_AreSounds.l0 k x0 x5 x6 (wrap64 (x7 + 1)))) else (some false)) else (none)) else (some false))) else (none)) else (none)) else (some (decide ((x0.length : Int) ≤ 16)))
def impl_AreSounds.f (k : Nat) (l0 : List (S49)) : Option (Bool) := impl_AreSounds.l0 k l0 l0 (l0.length : Int) 0
theorem impl_AreSounds.mono_l : ∀ k, (∀ y0 y1 y2 y3, LeO (impl_AreSounds.l0 k y0 y1 y2 y3) (impl_AreSounds.l0 (k + 1) y0 y1 y2 y3))
 | 0 => fun _ _ _ _ r h => by simp [impl_AreSounds.l0] at h
 | k + 1 => by
  have ih0 := impl_AreSounds.mono_l k
  ·intro y0 y1 y2 y3
   unfold impl_AreSounds.l0
   repeat' first
   | (with_reducible exact ih0 _ _ _ _)
   | (with_reducible exact impl_ValidSound.mono _ _ _ _ _ _ _)
   | (with_reducible exact LeO.refl _)
   | (with_reducible exact LeO.none _)
   | (with_reducible refine LeO.ite ?_ ?_)
   | (with_reducible refine LeO.bind ?_ (fun _ => ?_))
   | exact ih0 _ _ _ _
   | exact impl_ValidSound.mono _ _ _ _ _ _ _
   | exact LeO.none _
   | refine LeO.ite ?_ ?_
   | refine LeO.bind ?_ (fun _ => ?_)
theorem impl_AreSounds.mono : ∀ a0 k, LeO (impl_AreSounds.f k a0) (impl_AreSounds.f (k + 1) a0) := by
 intro a0 k
 have ih0 := impl_AreSounds.mono_l k
 unfold impl_AreSounds.f
 repeat' first
   | (with_reducible exact ih0 _ _ _ _)
   | (with_reducible exact impl_ValidSound.mono _ _ _ _ _ _ _)
   | (with_reducible exact LeO.refl _)
   | (with_reducible exact LeO.none _)
   | (with_reducible refine LeO.ite ?_ ?_)
   | (with_reducible refine LeO.bind ?_ (fun _ => ?_))
   | exact ih0 _ _ _ _
   | exact impl_ValidSound.mono _ _ _ _ _ _ _
   | exact LeO.none _
   | refine LeO.ite ?_ ?_
   | refine LeO.bind ?_ (fun _ => ?_)
def impl_AreSounds.T4 : Bool × List (List Nat × List Nat) := (true, [([], []), ([0], [0]), ([1], [1]), ([2, 1], [2]), ([3], [3]), ([4, 3], [3, 4]), ([5, 3], [3, 5]), ([3], [3]), ([7, 3], [3, 7]), ([8, 3], [3, 8]), ([9, 3], [3, 9]), ([10, 3], [3, 10]), ([6, 11, 3], [3, 6, 11]), ([3, 12], [3, 12]), ([13, 3], [13]), ([14], [14]), ([15, 14], [14, 15]), ([16, 14, 14], [14, 16]), ([17], [17]), ([17], [17]), ([19, 17], [17, 19]), ([18, 20, 17], [17, 18, 20]), ([21, 17], [17, 21]), ([22, 17], [17, 22]), ([17], [17]), ([24, 17], [17, 24]), ([23, 25, 17], [17, 23, 25]), ([17, 26, 14], [14, 17, 26]), ([14, 27], [14, 27])])
def impl_AreSounds.B4 : List Nat := [0, 1, 3, 7, 15, 31, 63, 15, 143, 399, 911, 1935, 4095, 8191, 16383, 32767, 65535, 131071, 262143, 262143, 786431, 2097151, 4194303, 8388607, 262143, 17039359, 67108863, 134217727, 268435455]
theorem impl_AreSounds.tab4 : rtab .any (opsOf Try.f57 4) = impl_AreSounds.T4 := by kernel_rfl
theorem impl_AreSounds.bits4 : waitsOk impl_AreSounds.T4.2 impl_AreSounds.B4 = true := by kernel_rfl
set_option maxHeartbeats 8000000 in
set_option maxRecDepth 100000 in
theorem impl_AreSounds.calls (k : Nat) (A0 : Option Addr) (c0 : Nat) (l0 : List (S49)) (r : Bool) (w : World) (hr0 : Kd.C k49 w A0 l0.length l0) (hc0 : l0.length ≤ c0) (h : impl_AreSounds.f k l0 = some r) :
  Calls Try.prog 57 #[.slice A0 l0.length c0] w fun e w' => e = .returned (.bool r) ∧ Below w.heap.size w w' := by
 have hu49 := Try.underlying49
 have hu24 := Try.underlying24
 have hu9 := Try.underlying9
 have HR0 := Aside0.mk hr0
 have HC0 := Aside0.mk hc0
 clear hr0 hc0
 have HB := Aside0.mk (Below.refl w.heap.size w)
 have H : (impl_AreSounds.l0 k l0 l0 (l0.length : Int) 0) = some r := h
 clear h
 have H' := Aside0.mk H
 clear H
 go_enter Try.func57, Try.ntmps57
 go_wp2
 go_loopg [7] k (fun kq v7 w' => ∃ (x7_1 : Int), v7 = .int .i64 x7_1 ∧ Aside0 (impl_AreSounds.l0 kq l0 l0 (l0.length : Int) x7_1 = some r) ∧ Aside0 (kq ≤ k) ∧ Aside0 (Below w.heap.size w w'))
 case atStart => exact ⟨(0), (by first | rfl | (simp; done) | (simp [*]; done)), H', ⟨Nat.le_refl _⟩, ⟨by repeat (first | (with_reducible first | exact HB.out | apply below_alloc | apply pw_below_drewN | apply below_drew1) | exact HB.out)⟩⟩
 case round =>
  clear H'
  obtain ⟨x7_1, rfl, HA, HK1, HB⟩ := hrel
  cases gk with
  | zero => exact absurd HA.out (by simp [impl_AreSounds.l0])
  | succ k1 =>
   have H := HA.out
   clear HA
   simp only [impl_AreSounds.l0] at H
   by_cases c2 : x7_1 < (l0.length : Int)
   ·rw [if_pos c2] at H
    have c2b0 : decide (x7_1 < (l0.length : Int)) = true := decide_eq_true c2
    clear c2
    by_cases c3 : 0 ≤ x7_1
    ·rw [if_pos c3] at H
     have c3b0 : decide (0 ≤ x7_1) = true := decide_eq_true c3
     clear c3
     by_cases c4 : x7_1 < (l0.length : Int)
     ·rw [if_pos c4] at H
      have c4b0 : decide (x7_1 < (l0.length : Int)) = true := decide_eq_true c4
      clear c4
      replace H := Option.bind_eq_some_iff.mp H
      obtain ⟨t278, A50, H⟩ := H
      replace H : (if t278 = true then (if 0 < (l0.length : Int) then (if (((rd_T49 l0 x7_1).f1).length : Int) = (((rd_T49 l0 0).f1).length : Int) then (if x7_1 > 0 then (if 0 ≤ (wrap64 (x7_1 - 1)) then (if (wrap64 (x7_1 - 1)) < (l0.length : Int) then (if ((Op.bytesLess (((rd_T49 l0 (wrap64 (x7_1 - 1))).f0).toList) (((rd_T49 l0 x7_1).f0).toList)) = true) then (impl_AreSounds.l0 k1 l0 l0 (l0.length : Int) (wrap64 (x7_1 + 1))) else (some false)) else (none)) else (none)) else (impl_AreSounds.l0 k1 l0 l0 (l0.length : Int) (wrap64 (x7_1 + 1)))) else (some false)) else (none)) else (some false)) = some r := H
      have A5 := Aside0.mk A50
      clear A50
      by_cases c6 : t278 = true
      ·subst c6
       have H1 : (if 0 < (l0.length : Int) then (if (((rd_T49 l0 x7_1).f1).length : Int) = (((rd_T49 l0 0).f1).length : Int) then (if x7_1 > 0 then (if 0 ≤ (wrap64 (x7_1 - 1)) then (if (wrap64 (x7_1 - 1)) < (l0.length : Int) then (if ((Op.bytesLess (((rd_T49 l0 (wrap64 (x7_1 - 1))).f0).toList) (((rd_T49 l0 x7_1).f0).toList)) = true) then (impl_AreSounds.l0 k1 l0 l0 (l0.length : Int) (wrap64 (x7_1 + 1))) else (some false)) else (none)) else (none)) else (impl_AreSounds.l0 k1 l0 l0 (l0.length : Int) (wrap64 (x7_1 + 1)))) else (some false)) else (none)) = some r := by rw [if_pos rfl] at H; exact H
       clear H
       have H := H1
       clear H1
       by_cases c7 : 0 < (l0.length : Int)
       ·rw [if_pos c7] at H
        have c7b0 : decide (0 < (l0.length : Int)) = true := decide_eq_true c7
        have c7b1 : decide (0 < l0.length) = true := decide_eq_true (by omega)
        clear c7
        by_cases c8 : (((rd_T49 l0 x7_1).f1).length : Int) = (((rd_T49 l0 0).f1).length : Int)
        ·rw [if_pos c8] at H
         have c8b0 : ((((rd_T49 l0 x7_1).f1).length : Int) == (((rd_T49 l0 0).f1).length : Int)) = true := beq_iff_eq.mpr c8
         have c8b1 : ((((rd_T49 l0 x7_1).f1).length : Int) != (((rd_T49 l0 0).f1).length : Int)) = false := bne_eq_false_iff_eq.mpr c8
         have c8b2 : (((rd_T49 l0 x7_1).f1).length == ((rd_T49 l0 0).f1).length) = true := by first | simpa using c8 | (simp at c8 ⊢; omega)
         clear c8
         by_cases c9 : x7_1 > 0
         ·rw [if_pos c9] at H
          have p1 : 0 ≤ (x7_1 : Int) := of_decide_eq_true c3b0
          have p2 : x7_1 < (l0.length : Int) := of_decide_eq_true c2b0
          obtain ⟨ad, A1, c1, rfl, x0, x1, x2, x3, x4, x5, hl1, hi1⟩ := at_T49 HR0.out x7_1 p1 p2
          have HS := Lib.hid (show ∀ W, Below w.heap.size w W → Calls Try.prog 88 #[.agg #[.string (rd_T49 l0 x7_1).f0, .slice A1 (rd_T49 l0 x7_1).f1.length c1, .float .f32 (rd_T49 l0 x7_1).f2, .float .f32 (rd_T49 l0 x7_1).f3, .float .f32 (rd_T49 l0 x7_1).f4, .float .f32 (rd_T49 l0 x7_1).f5]] W fun e w' => e = .returned (.bool true) ∧ Below W.heap.size W w' from fun W hW => impl_ValidSound.calls k1 _ A1 c1 _ _ _ _ _ true W (Kd.C_below hi1 hW) hl1 A5.out)
          clear hl1 hi1
          have x1' := x1
          replace x0 := (HB.out.cell (World.block_lt_of_cell? w _ x0)).trans x0
          replace x1 := (HB.out.cell (World.block_lt_of_cell? w _ x1)).trans x1
          replace x2 := (HB.out.cell (World.block_lt_of_cell? w _ x2)).trans x2
          replace x3 := (HB.out.cell (World.block_lt_of_cell? w _ x3)).trans x3
          replace x4 := (HB.out.cell (World.block_lt_of_cell? w _ x4)).trans x4
          replace x5 := (HB.out.cell (World.block_lt_of_cell? w _ x5)).trans x5
          replace p1 := eq_true p1
          replace p2 := eq_true p2
          have c7' : (0 : Int) < (l0.length : Int) := by have h1_ := of_decide_eq_true c3b0; have h2_ := of_decide_eq_true c2b0; omega
          obtain ⟨ad', A2, c2, e2, y0, y1, y2, y3, y4, y5, -, -⟩ := at_T49 HR0.out 0 (by decide) c7'
          obtain rfl : ad = ad' := (by injection e2)
          rw [show ((0 : Int)).toNat * 6 = 0 from rfl, Addr.add_zero'] at y1
          clear e2 y0 y2 y3 y4 y5
          have q7 := eq_true c7'
          have q8 : (0 < l0.length) = True := eq_true (by clear H; omega)
          generalize hsx : rd_T49 l0 x7_1 = sx at x0 x1 x2 x3 x4 x5 HS H c8b1
          clear x1'
          go_wp2
          refine Fra.genw (Pw := fun W => Below w.heap.size w W ∧ Fra.Bx 49 W wr.heap.size (Fra.scs sx A1 c1)) ⟨below_alloc HB.out _, heap_alloc_new wr _⟩ ?_
          rintro W1 ⟨hb1, hx1⟩
          have HB1 := Lib.hid hb1
          have HX1 := Lib.hid hx1
          obtain ⟨s0, s1, s2, s3, s4, s5⟩ := Fra.bx6 hx1
          clear hb1 hx1 x0 x1 x2 x3 x4 x5
          have Y1 := Lib.hid y1
          replace y1 : W1.cell? ⟨ad.block, ad.off + 1, none⟩ = some (.slice A2 (rd_T49 l0 0).f1.length c2) := (HB1.out.cell (World.block_lt_of_cell? w _ y1)).trans y1
          have q9 : ((sx.f1.length : Int) != (((rd_T49 l0 0).f1).length : Int)) = false := c8b1
          obtain ⟨j, hj⟩ : ∃ j, wrap64 (x7_1 - 1) = j := ⟨_, rfl⟩
          have hjw : IntKind.i64.wrap (x7_1 - 1) = j := (i64_w _).trans hj
          rw [hj] at H
          have q10 : decide (0 < x7_1) = true := decide_eq_true c9
          by_cases c10 : 0 ≤ j
          · rw [if_pos c10] at H
            by_cases c11 : j < (l0.length : Int)
            · rw [if_pos c11] at H
              obtain ⟨ad', A3, c3', e3, v0, v1, v2, v3, v4, v5, -, -⟩ := at_T49 HR0.out j c10 c11
              obtain rfl : ad = ad' := (by injection e3)
              clear e3 v1 v2 v3 v4 v5
              have Z0 := Lib.hid v0
              replace v0 : W1.cell? (ad.add (j.toNat * 6)) = some (.string (rd_T49 l0 j).f0) := (HB1.out.cell (World.block_lt_of_cell? w _ v0)).trans v0
              have q11 := eq_true c10
              have q12 := eq_true c11
              clear c9 c10 c11 hj
              by_cases c12 : (Op.bytesLess (((rd_T49 l0 j).f0).toList) (sx.f0.toList)) = true
              · rw [if_pos c12] at H
                have HH := Lib.hid H
                clear H
                go_region_held_law (fun w' => w'.cell? ⟨wr.heap.size, 0, none⟩ = some (.string sx.f0) ∧ w'.cell? ⟨wr.heap.size, 1, none⟩ = some (.slice A1 sx.f1.length c1) ∧ w'.cell? ⟨wr.heap.size, 2, none⟩ = some (.float .f32 sx.f2) ∧ w'.cell? ⟨wr.heap.size, 3, none⟩ = some (.float .f32 sx.f3) ∧ w'.cell? ⟨wr.heap.size, 4, none⟩ = some (.float .f32 sx.f4) ∧ w'.cell? ⟨wr.heap.size, 5, none⟩ = some (.float .f32 sx.f5) ∧ w'.cell? ⟨ad.block, ad.off + 1, none⟩ = some (.slice A2 (rd_T49 l0 0).f1.length c2) ∧ w'.cell? (ad.add (j.toNat * 6)) = some (.string (rd_T49 l0 j).f0)) (first | (with_reducible exact ⟨u0, u1, u2, u3, u4, u5, v1, v2⟩) | go_keep) (first | (go_at_call 88; (with_reducible refine (HS.out _ (by repeat (first | exact HB1.out | apply pw_below_drewN | apply below_drew1))).mono ?_); rintro e_ w_ ⟨rfl, hb_⟩; have HB2 := Lib.hid (Fra.bl2 (w2 := w_) (by repeat (first | exact HB1.out | apply pw_below_drewN | apply below_drew1)) hb_); have HX2 := Lib.hid (show Fra.Bx 49 w_ wr.heap.size (Fra.scs sx A1 c1) from blk_below (by repeat (first | exact HX1.out | apply blk_drewN | apply blk_drew)) hb_); obtain ⟨u0, u1, u2, u3, u4, u5⟩ := Fra.bx6 HX2.out; have v1 : w_.cell? ⟨ad.block, ad.off + 1, none⟩ = some (.slice A2 (rd_T49 l0 0).f1.length c2) := (HB2.out.cell (World.block_lt_of_cell? w _ Y1.out)).trans Y1.out; have v2 : w_.cell? (ad.add (j.toNat * 6)) = some (.string (rd_T49 l0 j).f0) := (HB2.out.cell (World.block_lt_of_cell? w _ Z0.out)).trans Z0.out))
                go_wp2
                go_roundg k1
                case measure => exact Nat.lt_succ_self _
                case rel => exact ⟨_, rfl, ⟨HH.out⟩, ⟨Nat.le_trans (Nat.le_succ _) HK1.out⟩, ⟨(by repeat (first | exact HB2.out | apply pw_below_drewN | apply below_drew1))⟩⟩
              · rw [if_neg c12] at H
                replace c12 := Bool.eq_false_iff.mpr c12
                obtain rfl := Option.some.inj H
                clear H
                go_region_held_law (fun w' => w'.cell? ⟨wr.heap.size, 0, none⟩ = some (.string sx.f0) ∧ w'.cell? ⟨wr.heap.size, 1, none⟩ = some (.slice A1 sx.f1.length c1) ∧ w'.cell? ⟨wr.heap.size, 2, none⟩ = some (.float .f32 sx.f2) ∧ w'.cell? ⟨wr.heap.size, 3, none⟩ = some (.float .f32 sx.f3) ∧ w'.cell? ⟨wr.heap.size, 4, none⟩ = some (.float .f32 sx.f4) ∧ w'.cell? ⟨wr.heap.size, 5, none⟩ = some (.float .f32 sx.f5) ∧ w'.cell? ⟨ad.block, ad.off + 1, none⟩ = some (.slice A2 (rd_T49 l0 0).f1.length c2) ∧ w'.cell? (ad.add (j.toNat * 6)) = some (.string (rd_T49 l0 j).f0)) (first | (with_reducible exact ⟨u0, u1, u2, u3, u4, u5, v1, v2⟩) | go_keep) (first | (go_at_call 88; (with_reducible refine (HS.out _ (by repeat (first | exact HB1.out | apply pw_below_drewN | apply below_drew1))).mono ?_); rintro e_ w_ ⟨rfl, hb_⟩; have HB2 := Lib.hid (Fra.bl2 (w2 := w_) (by repeat (first | exact HB1.out | apply pw_below_drewN | apply below_drew1)) hb_); have HX2 := Lib.hid (show Fra.Bx 49 w_ wr.heap.size (Fra.scs sx A1 c1) from blk_below (by repeat (first | exact HX1.out | apply blk_drewN | apply blk_drew)) hb_); obtain ⟨u0, u1, u2, u3, u4, u5⟩ := Fra.bx6 HX2.out; have v1 : w_.cell? ⟨ad.block, ad.off + 1, none⟩ = some (.slice A2 (rd_T49 l0 0).f1.length c2) := (HB2.out.cell (World.block_lt_of_cell? w _ Y1.out)).trans Y1.out; have v2 : w_.cell? (ad.add (j.toNat * 6)) = some (.string (rd_T49 l0 j).f0) := (HB2.out.cell (World.block_lt_of_cell? w _ Z0.out)).trans Z0.out))
                go_wp2
                go_ret
                exact ⟨rfl, by repeat (first | exact HB2.out | apply pw_below_drewN | apply below_drew1)⟩
            · rw [if_neg c11] at H; cases H
          · rw [if_neg c10] at H; cases H
         ·rw [if_neg c9] at H
          have c9b0 : decide (0 < x7_1) = false := decide_eq_false c9
          clear c9
          have H' := Aside0.mk H
          clear H
          have p276 : 0 ≤ (x7_1 : Int) := of_decide_eq_true (by first | (with_reducible assumption) | assumption)
          have q276 : x7_1 < (l0.length : Int) := of_decide_eq_true (by first | (with_reducible assumption) | assumption)
          obtain ⟨ad276, A276_1, c276_1, e276, hx276_0, hx276_1, hx276_2, hx276_3, hx276_4, hx276_5, hl276_1, hi276_1⟩ := at_T49 HR0.out x7_1 p276 q276
          have hw276_5 := hx276_5
          have hw276_4 := hx276_4
          have hw276_3 := hx276_3
          have hw276_2 := hx276_2
          have hw276_1 := hx276_1
          have hw276_0 := hx276_0
          cases e276
          replace hx276_0 := (HB.out.cell (World.block_lt_of_cell? w _ hx276_0)).trans hx276_0
          replace hx276_1 := (HB.out.cell (World.block_lt_of_cell? w _ hx276_1)).trans hx276_1
          replace hx276_2 := (HB.out.cell (World.block_lt_of_cell? w _ hx276_2)).trans hx276_2
          replace hx276_3 := (HB.out.cell (World.block_lt_of_cell? w _ hx276_3)).trans hx276_3
          replace hx276_4 := (HB.out.cell (World.block_lt_of_cell? w _ hx276_4)).trans hx276_4
          replace hx276_5 := (HB.out.cell (World.block_lt_of_cell? w _ hx276_5)).trans hx276_5
          have HR276_1 := Aside0.mk hi276_1
          have HC276_1 := Aside0.mk hl276_1
          clear hi276_1 hl276_1
          replace p276 := eq_true p276
          replace q276 := eq_true q276
          try go_wp2_with (first | ((with_reducible refine gate_dst (N := 4) rfl ?_); (try (refine gate_guard (by rfl) ?_; dsimp only)); refine box_event ?hg (N := 4) ?hd (cs := #[.string (⟨#[]⟩ : ByteArray), .slice none 0 0, .float .f32 0, .float .f32 0, .float .f32 0, .float .f32 0]) (t := 49) ?hr ?_; (case hd => rfl); (case hg => rfl); (case hr => first | (go_simp; done) | (go_simp; rfl) | (simp (disch := omega) only [w64_id]; go_simp; done) | (go_simp; simp (disch := omega) only [w64_id]; done)); intro gb277 hg w24 hbox hb; have n0_ := Aside0.mk (below_step (by repeat (first | (with_reducible first | exact HB.out | apply below_alloc | apply pw_below_drewN | apply below_drew1) | exact HB.out)) hb); have n1_ := Aside0.mk (hbox); have n2_ := Aside0.mk ((by rw [hg]; exact (below_size (by repeat (first | (with_reducible first | exact HB.out | apply below_alloc | apply pw_below_drewN | apply below_drew1) | exact HB.out))) : w.heap.size ≤ gb277)); have n3_ := Aside0.mk ((by rw [hg]; exact (below_size (by repeat (first | (with_reducible first | exact HB.out | apply below_alloc | apply pw_below_drewN | apply below_drew1) | exact HB.out))) : w.heap.size ≤ gb277)); clear HB; have HB := n0_; have BK277 := n1_; have GW277 := n2_; have GE277 := n3_; clear n0_ n1_ n2_ n3_; clear hb hbox hg; have hcz25_0 : w24.cell? ⟨gb277, 0, none⟩ = some (.string (⟨#[]⟩ : ByteArray)) := (blk_cell BK277.out 0).trans rfl; have hcz25_1 : w24.cell? ⟨gb277, 1, none⟩ = some (.slice none 0 0) := (blk_cell BK277.out 1).trans rfl; have hcz25_2 : w24.cell? ⟨gb277, 2, none⟩ = some (.float .f32 0) := (blk_cell BK277.out 2).trans rfl; have hcz25_3 : w24.cell? ⟨gb277, 3, none⟩ = some (.float .f32 0) := (blk_cell BK277.out 3).trans rfl; have hcz25_4 : w24.cell? ⟨gb277, 4, none⟩ = some (.float .f32 0) := (blk_cell BK277.out 4).trans rfl; have hcz25_5 : w24.cell? ⟨gb277, 5, none⟩ = some (.float .f32 0) := (blk_cell BK277.out 5).trans rfl; have hfz25_0 := blk_frozen BK277.out 0; have hfz25_1 := blk_frozen BK277.out 1; have hfz25_2 := blk_frozen BK277.out 2; have hfz25_3 := blk_frozen BK277.out 3; have hfz25_4 := blk_frozen BK277.out 4; have hfz25_5 := blk_frozen BK277.out 5))
          have n0_ : Aside0 (((((((w24.setCell ⟨gb277, 0, none⟩ (.string ((rd_T49 l0 x7_1).f0))).setCell ⟨gb277, 1, none⟩ (.slice A276_1 ((rd_T49 l0 x7_1).f1).length c276_1)).setCell ⟨gb277, 2, none⟩ (.float .f32 ((rd_T49 l0 x7_1).f2))).setCell ⟨gb277, 3, none⟩ (.float .f32 ((rd_T49 l0 x7_1).f3))).setCell ⟨gb277, 4, none⟩ (.float .f32 ((rd_T49 l0 x7_1).f4))).setCell ⟨gb277, 5, none⟩ (.float .f32 ((rd_T49 l0 x7_1).f5))).heap[gb277]? = some (.cells #[.string ((rd_T49 l0 x7_1).f0), .slice A276_1 ((rd_T49 l0 x7_1).f1).length c276_1, .float .f32 ((rd_T49 l0 x7_1).f2), .float .f32 ((rd_T49 l0 x7_1).f3), .float .f32 ((rd_T49 l0 x7_1).f4), .float .f32 ((rd_T49 l0 x7_1).f5)] 49 (0, 0))) := ⟨by (with_reducible repeat (first | refine blk_drewN ?_ _ | refine blk_drew ?_ | refine blk_alloc ?_ _)); refine blk_put (cs := #[.string ((rd_T49 l0 x7_1).f0), .slice A276_1 ((rd_T49 l0 x7_1).f1).length c276_1, .float .f32 ((rd_T49 l0 x7_1).f2), .float .f32 ((rd_T49 l0 x7_1).f3), .float .f32 ((rd_T49 l0 x7_1).f4), .float .f32 0]) ?_ 5 _ rfl; (with_reducible repeat (first | refine blk_drewN ?_ _ | refine blk_drew ?_ | refine blk_alloc ?_ _)); refine blk_put (cs := #[.string ((rd_T49 l0 x7_1).f0), .slice A276_1 ((rd_T49 l0 x7_1).f1).length c276_1, .float .f32 ((rd_T49 l0 x7_1).f2), .float .f32 ((rd_T49 l0 x7_1).f3), .float .f32 0, .float .f32 0]) ?_ 4 _ rfl; (with_reducible repeat (first | refine blk_drewN ?_ _ | refine blk_drew ?_ | refine blk_alloc ?_ _)); refine blk_put (cs := #[.string ((rd_T49 l0 x7_1).f0), .slice A276_1 ((rd_T49 l0 x7_1).f1).length c276_1, .float .f32 ((rd_T49 l0 x7_1).f2), .float .f32 0, .float .f32 0, .float .f32 0]) ?_ 3 _ rfl; (with_reducible repeat (first | refine blk_drewN ?_ _ | refine blk_drew ?_ | refine blk_alloc ?_ _)); refine blk_put (cs := #[.string ((rd_T49 l0 x7_1).f0), .slice A276_1 ((rd_T49 l0 x7_1).f1).length c276_1, .float .f32 0, .float .f32 0, .float .f32 0, .float .f32 0]) ?_ 2 _ rfl; (with_reducible repeat (first | refine blk_drewN ?_ _ | refine blk_drew ?_ | refine blk_alloc ?_ _)); refine blk_put (cs := #[.string ((rd_T49 l0 x7_1).f0), .slice none 0 0, .float .f32 0, .float .f32 0, .float .f32 0, .float .f32 0]) ?_ 1 _ rfl; (with_reducible repeat (first | refine blk_drewN ?_ _ | refine blk_drew ?_ | refine blk_alloc ?_ _)); refine blk_put (cs := #[.string (⟨#[]⟩ : ByteArray), .slice none 0 0, .float .f32 0, .float .f32 0, .float .f32 0, .float .f32 0]) ?_ 0 _ rfl; (with_reducible repeat (first | refine blk_drewN ?_ _ | refine blk_drew ?_ | refine blk_alloc ?_ _)); exact BK277.out⟩
          have n1_ : Aside0 (Below w.heap.size w ((((((w24.setCell ⟨gb277, 0, none⟩ (.string ((rd_T49 l0 x7_1).f0))).setCell ⟨gb277, 1, none⟩ (.slice A276_1 ((rd_T49 l0 x7_1).f1).length c276_1)).setCell ⟨gb277, 2, none⟩ (.float .f32 ((rd_T49 l0 x7_1).f2))).setCell ⟨gb277, 3, none⟩ (.float .f32 ((rd_T49 l0 x7_1).f3))).setCell ⟨gb277, 4, none⟩ (.float .f32 ((rd_T49 l0 x7_1).f4))).setCell ⟨gb277, 5, none⟩ (.float .f32 ((rd_T49 l0 x7_1).f5)))) := ⟨by repeat (first | (with_reducible first | exact HB.out | apply below_alloc | apply pw_below_drewN | apply below_drew1 | refine below_set ?_ GE277.out) | exact HB.out)⟩
          (try clear BK277)
          (try clear HB)
          generalize ((((((w24.setCell ⟨gb277, 0, none⟩ (.string ((rd_T49 l0 x7_1).f0))).setCell ⟨gb277, 1, none⟩ (.slice A276_1 ((rd_T49 l0 x7_1).f1).length c276_1)).setCell ⟨gb277, 2, none⟩ (.float .f32 ((rd_T49 l0 x7_1).f2))).setCell ⟨gb277, 3, none⟩ (.float .f32 ((rd_T49 l0 x7_1).f3))).setCell ⟨gb277, 4, none⟩ (.float .f32 ((rd_T49 l0 x7_1).f4))).setCell ⟨gb277, 5, none⟩ (.float .f32 ((rd_T49 l0 x7_1).f5))) = w26 at n0_ n1_ ⊢
          have BK277 := n0_
          have HB := n1_
          clear n0_ n1_
          have n0_ := Aside0.mk (blk_drew BK277.out)
          have n1_ := Aside0.mk (below_drew1 HB.out)
          clear BK277
          clear HB
          have BK277 := n0_
          have HB := n1_
          clear n0_ n1_
          have p279 : 0 ≤ (0 : Int) := (by omega)
          have q279 : 0 < (l0.length : Int) := of_decide_eq_true (by first | (with_reducible assumption) | assumption)
          obtain ⟨ad279, A279_1, c279_1, e279, hx279_0, hx279_1, hx279_2, hx279_3, hx279_4, hx279_5, hl279_1, hi279_1⟩ := at_T49 HR0.out 0 p279 q279
          have hw279_5 := hx279_5
          (try rw [show ((0 : Int)).toNat = 0 from rfl] at hw279_5)
          (try rw [show 0 * 6 = 0 from rfl] at hw279_5)
          (try rw [Addr.add_zero'] at hw279_5)
          have hw279_4 := hx279_4
          (try rw [show ((0 : Int)).toNat = 0 from rfl] at hw279_4)
          (try rw [show 0 * 6 = 0 from rfl] at hw279_4)
          (try rw [Addr.add_zero'] at hw279_4)
          have hw279_3 := hx279_3
          (try rw [show ((0 : Int)).toNat = 0 from rfl] at hw279_3)
          (try rw [show 0 * 6 = 0 from rfl] at hw279_3)
          (try rw [Addr.add_zero'] at hw279_3)
          have hw279_2 := hx279_2
          (try rw [show ((0 : Int)).toNat = 0 from rfl] at hw279_2)
          (try rw [show 0 * 6 = 0 from rfl] at hw279_2)
          (try rw [Addr.add_zero'] at hw279_2)
          have hw279_1 := hx279_1
          (try rw [show ((0 : Int)).toNat = 0 from rfl] at hw279_1)
          (try rw [show 0 * 6 = 0 from rfl] at hw279_1)
          (try rw [Addr.add_zero'] at hw279_1)
          have hw279_0 := hx279_0
          (try rw [show ((0 : Int)).toNat = 0 from rfl] at hw279_0)
          (try rw [show 0 * 6 = 0 from rfl] at hw279_0)
          (try rw [Addr.add_zero'] at hw279_0)
          obtain rfl : ad276 = ad279 := (by injection e279)
          have qi279 : (0 < l0.length) = True := eq_true (by omega)
          (try rw [show ((0 : Int)).toNat = 0 from rfl] at hx279_0)
          (try rw [show 0 * 6 = 0 from rfl] at hx279_0)
          (try rw [Addr.add_zero'] at hx279_0)
          (try rw [show ((0 : Int)).toNat = 0 from rfl] at hx279_1)
          (try rw [show 0 * 6 = 0 from rfl] at hx279_1)
          (try rw [Addr.add_zero'] at hx279_1)
          (try rw [show ((0 : Int)).toNat = 0 from rfl] at hx279_2)
          (try rw [show 0 * 6 = 0 from rfl] at hx279_2)
          (try rw [Addr.add_zero'] at hx279_2)
          (try rw [show ((0 : Int)).toNat = 0 from rfl] at hx279_3)
          (try rw [show 0 * 6 = 0 from rfl] at hx279_3)
          (try rw [Addr.add_zero'] at hx279_3)
          (try rw [show ((0 : Int)).toNat = 0 from rfl] at hx279_4)
          (try rw [show 0 * 6 = 0 from rfl] at hx279_4)
          (try rw [Addr.add_zero'] at hx279_4)
          (try rw [show ((0 : Int)).toNat = 0 from rfl] at hx279_5)
          (try rw [show 0 * 6 = 0 from rfl] at hx279_5)
          (try rw [Addr.add_zero'] at hx279_5)
          replace hx279_0 := (HB.out.cell (World.block_lt_of_cell? w _ hx279_0)).trans hx279_0
          replace hx279_1 := (HB.out.cell (World.block_lt_of_cell? w _ hx279_1)).trans hx279_1
          replace hx279_2 := (HB.out.cell (World.block_lt_of_cell? w _ hx279_2)).trans hx279_2
          replace hx279_3 := (HB.out.cell (World.block_lt_of_cell? w _ hx279_3)).trans hx279_3
          replace hx279_4 := (HB.out.cell (World.block_lt_of_cell? w _ hx279_4)).trans hx279_4
          replace hx279_5 := (HB.out.cell (World.block_lt_of_cell? w _ hx279_5)).trans hx279_5
          have HR279_1 := Aside0.mk hi279_1
          have HC279_1 := Aside0.mk hl279_1
          clear hi279_1 hl279_1
          replace p279 := eq_true p279
          replace q279 := eq_true q279
          refine start_ (n := 29) (S := fun w' => w'.cell? ⟨gb277, 0, none⟩ = some (.string ((rd_T49 l0 x7_1).f0)) ∧ w'.cell? ⟨gb277, 1, none⟩ = some (.slice A276_1 ((rd_T49 l0 x7_1).f1).length c276_1) ∧ w'.cell? ⟨gb277, 2, none⟩ = some (.float .f32 ((rd_T49 l0 x7_1).f2)) ∧ w'.cell? ⟨gb277, 3, none⟩ = some (.float .f32 ((rd_T49 l0 x7_1).f3)) ∧ w'.cell? ⟨gb277, 4, none⟩ = some (.float .f32 ((rd_T49 l0 x7_1).f4)) ∧ w'.cell? ⟨gb277, 5, none⟩ = some (.float .f32 ((rd_T49 l0 x7_1).f5)) ∧ w'.cell? (ad276.add ((x7_1).toNat * 6)) = some (.string ((rd_T49 l0 x7_1).f0)) ∧ w'.cell? ⟨(ad276.add ((x7_1).toNat * 6)).block, (ad276.add ((x7_1).toNat * 6)).off + 1, none⟩ = some (.slice A276_1 ((rd_T49 l0 x7_1).f1).length c276_1) ∧ w'.cell? ⟨(ad276.add ((x7_1).toNat * 6)).block, (ad276.add ((x7_1).toNat * 6)).off + 2, none⟩ = some (.float .f32 ((rd_T49 l0 x7_1).f2)) ∧ w'.cell? ⟨(ad276.add ((x7_1).toNat * 6)).block, (ad276.add ((x7_1).toNat * 6)).off + 3, none⟩ = some (.float .f32 ((rd_T49 l0 x7_1).f3)) ∧ w'.cell? ⟨(ad276.add ((x7_1).toNat * 6)).block, (ad276.add ((x7_1).toNat * 6)).off + 4, none⟩ = some (.float .f32 ((rd_T49 l0 x7_1).f4)) ∧ w'.cell? ⟨(ad276.add ((x7_1).toNat * 6)).block, (ad276.add ((x7_1).toNat * 6)).off + 5, none⟩ = some (.float .f32 ((rd_T49 l0 x7_1).f5)) ∧ w'.cell? ad276 = some (.string ((rd_T49 l0 0).f0)) ∧ w'.cell? ⟨ad276.block, ad276.off + 1, none⟩ = some (.slice A279_1 ((rd_T49 l0 0).f1).length c279_1) ∧ w'.cell? ⟨ad276.block, ad276.off + 2, none⟩ = some (.float .f32 ((rd_T49 l0 0).f2)) ∧ w'.cell? ⟨ad276.block, ad276.off + 3, none⟩ = some (.float .f32 ((rd_T49 l0 0).f3)) ∧ w'.cell? ⟨ad276.block, ad276.off + 4, none⟩ = some (.float .f32 ((rd_T49 l0 0).f4)) ∧ w'.cell? ⟨ad276.block, ad276.off + 5, none⟩ = some (.float .f32 ((rd_T49 l0 0).f5))) (ds := []) impl_AreSounds.z0 (by kernel_rfl) rfl rfl ⟨(blk_cell BK277.out 0).trans rfl, (blk_cell BK277.out 1).trans rfl, (blk_cell BK277.out 2).trans rfl, (blk_cell BK277.out 3).trans rfl, (blk_cell BK277.out 4).trans rfl, (blk_cell BK277.out 5).trans rfl, (cu_ HB.out hw276_0), (cu_ HB.out hw276_1), (cu_ HB.out hw276_2), (cu_ HB.out hw276_3), (cu_ HB.out hw276_4), (cu_ HB.out hw276_5), (cu_ HB.out hw279_0), (cu_ HB.out hw279_1), (cu_ HB.out hw279_2), (cu_ HB.out hw279_3), (cu_ HB.out hw279_4), (cu_ HB.out hw279_5)⟩ (fun hHeld => ?_); refine with_tabW impl_AreSounds.tab4 impl_AreSounds.bits4 (fun HT_ HW_ => ?_)
          generalize w26.drew = w27 at BK277 HB HR279_1 hx279_0 hx279_1 hx279_2 hx279_3 hx279_4 hx279_5 hHeld ⊢
          refine take_ (i := 0) (N := some 12) (v := ?_) (a' := ?_) impl_AreSounds.z1 rfl rfl (take_ofW HT_.out HW_.out (by kernel_rfl)) (fun _ _ _ h => h) (Or.inl ⟨by rfl, ?_⟩) hHeld ?_ ?_
          rotate_left
          ·rintro w' ⟨s0, s1, s2, s3, s4, s5, s6, s7, s8, s9, s10, s11, s12, s13, s14, s15, s16, s17⟩
           go_simp
           with_reducible rfl
          rotate_left
          ·pw_
          refine one_ (i := 1) (N := some 13) impl_AreSounds.z2 rfl rfl (one_of HT_.out (by kernel_rfl)) (by decide) (fun K hK => ?_)
          refine goes_ Try.func88 (by kernel_rfl) rfl #[.agg #[.string ((rd_T49 l0 x7_1).f0), .slice A276_1 ((rd_T49 l0 x7_1).f1).length c276_1, .float .f32 ((rd_T49 l0 x7_1).f2), .float .f32 ((rd_T49 l0 x7_1).f3), .float .f32 ((rd_T49 l0 x7_1).f4), .float .f32 ((rd_T49 l0 x7_1).f5)]] (by rfl) rfl rfl (by (try simp only [List.map_toArray, List.map_cons, List.map_nil]); first | done | rfl | (simp only [List.length_drop, List.length_take]; rfl)) ?_
          with_reducible refine (impl_ValidSound.calls k1 ((rd_T49 l0 x7_1).f0) _ _ ((rd_T49 l0 x7_1).f1) ((rd_T49 l0 x7_1).f2) ((rd_T49 l0 x7_1).f3) ((rd_T49 l0 x7_1).f4) ((rd_T49 l0 x7_1).f5) true _ ?side1 ?side2 A5.out).mono ?_
          (case side1 => repeat (first | exact (Kd.C_below HR276_1.out HB.out) | (with_reducible refine Kd.C_alloc ?_ _) | (with_reducible refine Kd.C_drewN ?_ _) | (with_reducible refine Kd.C_drew ?_)))
          (case side2 => exact HC276_1.out)
          rintro e w28 ⟨rfl, hb⟩
          refine ⟨_, rfl, ?_⟩
          have n0_ := Aside0.mk (blk_below (g := gb277) (o := .cells #[.string ((rd_T49 l0 x7_1).f0), .slice A276_1 ((rd_T49 l0 x7_1).f1).length c276_1, .float .f32 ((rd_T49 l0 x7_1).f2), .float .f32 ((rd_T49 l0 x7_1).f3), .float .f32 ((rd_T49 l0 x7_1).f4), .float .f32 ((rd_T49 l0 x7_1).f5)] 49 (0, 0)) (by (with_reducible repeat (first | refine blk_drewN ?_ _ | refine blk_drew ?_ | refine blk_alloc ?_ _)); exact BK277.out) hb)
          have n1_ := Aside0.mk (below_step (by repeat (first | (with_reducible first | exact HB.out | apply below_alloc | apply pw_below_drewN | apply below_drew1 | refine below_set ?_ GE277.out) | exact HB.out)) hb)
          clear BK277
          clear HB
          have BK277 := n0_
          have HB := n1_
          clear n0_ n1_
          (try clear hb)
          (try clear hb2)
          (try clear hk)
          (try clear hi)
          refine hK.out _ _ ⟨(blk_cell BK277.out 0).trans rfl, (blk_cell BK277.out 1).trans rfl, (blk_cell BK277.out 2).trans rfl, (blk_cell BK277.out 3).trans rfl, (blk_cell BK277.out 4).trans rfl, (blk_cell BK277.out 5).trans rfl, (cu_ HB.out hw276_0), (cu_ HB.out hw276_1), (cu_ HB.out hw276_2), (cu_ HB.out hw276_3), (cu_ HB.out hw276_4), (cu_ HB.out hw276_5), (cu_ HB.out hw279_0), (cu_ HB.out hw279_1), (cu_ HB.out hw279_2), (cu_ HB.out hw279_3), (cu_ HB.out hw279_4), (cu_ HB.out hw279_5)⟩ (fun hHeld => ?_)
          clear hK K
          refine norm_ (a' := ?_) ?_ ?_
          rotate_left
          ·show Act.put _ (some 13) _ = _
           pw_
          refine pure_ (i := 2) (N := some 14) (v := ?_) (a' := ?_) impl_AreSounds.z3 rfl rfl (any_of HT_.out (by kernel_rfl)) (fun _ _ _ h => h) (Or.inl ⟨by rfl, ?_⟩) ?_ ?_
          pv_
          refine pure_ (i := 3) (N := some 15) (v := ?_) (a' := ?_) impl_AreSounds.z4 rfl rfl (any_of HT_.out (by kernel_rfl)) (fun _ _ _ h => h) (Or.inl ⟨by rfl, ?_⟩) ?_ ?_
          pv_
          refine pure_ (i := 4) (N := some 16) (v := ?_) (a' := ?_) impl_AreSounds.z5 rfl rfl (any_of HT_.out (by kernel_rfl)) (fun _ _ _ h => h) (Or.inl ⟨by rfl, ?_⟩) ?_ ?_
          pv_
          refine pure_ (i := 7) (N := some 19) (v := ?_) (a' := ?_) impl_AreSounds.z6 rfl rfl (any_of HT_.out (by kernel_rfl)) (fun _ _ _ h => h) (Or.inl ⟨by rfl, ?_⟩) ?_ ?_
          pv_
          refine pure_ (i := 8) (N := some 20) (v := ?_) (a' := ?_) impl_AreSounds.z7 rfl rfl (any_of HT_.out (by kernel_rfl)) (fun _ _ _ h => h) (Or.inl ⟨by rfl, ?_⟩) ?_ ?_
          pv_
          refine pure_ (i := 9) (N := some 21) (v := ?_) (a' := ?_) impl_AreSounds.z8 rfl rfl (any_of HT_.out (by kernel_rfl)) (fun _ _ _ h => h) (Or.inl ⟨by rfl, ?_⟩) ?_ ?_
          pv_
          refine take_ (i := 5) (N := some 17) (v := ?_) (a' := ?_) impl_AreSounds.z9 rfl rfl (take_ofW HT_.out HW_.out (by kernel_rfl)) (fun _ _ _ h => h) (Or.inl ⟨by rfl, ?_⟩) hHeld ?_ ?_
          rotate_left
          ·rintro w' ⟨s0, s1, s2, s3, s4, s5, s6, s7, s8, s9, s10, s11, s12, s13, s14, s15, s16, s17⟩
           go_simp
           with_reducible rfl
          rotate_left
          ·pw_
          refine pure_ (i := 6) (N := some 18) (v := ?_) (a' := ?_) impl_AreSounds.z10 rfl rfl (any_of HT_.out (by kernel_rfl)) (fun _ _ _ h => h) (Or.inl ⟨by rfl, ?_⟩) ?_ ?_
          pv_
          refine take_ (i := 10) (N := some 22) (v := ?_) (a' := ?_) impl_AreSounds.z11 rfl rfl (take_ofW HT_.out HW_.out (by kernel_rfl)) (fun _ _ _ h => h) (Or.inl ⟨by rfl, ?_⟩) hHeld ?_ ?_
          rotate_left
          ·rintro w' ⟨s0, s1, s2, s3, s4, s5, s6, s7, s8, s9, s10, s11, s12, s13, s14, s15, s16, s17⟩
           go_simp
           with_reducible rfl
          rotate_left
          ·pw_
          refine pure_ (i := 11) (N := some 23) (v := ?_) (a' := ?_) impl_AreSounds.z12 rfl rfl (any_of HT_.out (by kernel_rfl)) (fun _ _ _ h => h) (Or.inl ⟨by rfl, ?_⟩) ?_ ?_
          pv_
          refine pure_ (i := 12) (N := some 24) (v := ?_) (a' := ?_) impl_AreSounds.z13 rfl rfl (any_of HT_.out (by kernel_rfl)) (fun _ _ _ h => h) (Or.inl ⟨by rfl, ?_⟩) ?_ ?_
          pv_
          refine pure_ (i := 13) (N := some 25) (v := ?_) (a' := ?_) impl_AreSounds.z14 rfl rfl (any_of HT_.out (by kernel_rfl)) (fun _ _ _ h => h) (Or.inl ⟨by rfl, ?_⟩) ?_ ?_
          pv_
          refine pure_ (i := 14) (N := some 26) (v := ?_) (a' := ?_) impl_AreSounds.z15 rfl rfl (any_of HT_.out (by kernel_rfl)) (fun _ _ _ h => h) (Or.inl ⟨by rfl, ?_⟩) ?_ ?_
          pv_
          refine pure_ (i := 15) (N := some 27) (v := ?_) (a' := ?_) impl_AreSounds.z16 rfl rfl (any_of HT_.out (by kernel_rfl)) (fun _ _ _ h => h) (Or.inl ⟨by rfl, ?_⟩) ?_ ?_
          pv_
          refine pure_ (i := 16) (N := some 28) (v := ?_) (a' := ?_) impl_AreSounds.z17 rfl rfl (any_of HT_.out (by kernel_rfl)) (fun _ _ _ h => h) (Or.inl ⟨by rfl, ?_⟩) ?_ ?_
          pv_
          refine pure_ (i := 17) (N := some 29) (v := ?_) (a' := ?_) impl_AreSounds.z18 rfl rfl (any_of HT_.out (by kernel_rfl)) (fun _ _ _ h => h) (Or.inl ⟨by rfl, ?_⟩) ?_ ?_
          pv_
          refine pure_ (i := 18) (N := some 30) (v := undef) (a' := ?_) impl_AreSounds.z19 rfl rfl (any_of HT_.out (by kernel_rfl)) (fun _ _ _ h => h) (Or.inr ⟨by rfl, rfl⟩) ?_ ?_
          rotate_left
          ·pw_
          refine pure_ (i := 19) (N := some 31) (v := undef) (a' := ?_) impl_AreSounds.z20 rfl rfl (any_of HT_.out (by kernel_rfl)) (fun _ _ _ h => h) (Or.inr ⟨by rfl, rfl⟩) ?_ ?_
          rotate_left
          ·pw_
          refine pure_ (i := 20) (N := some 32) (v := undef) (a' := ?_) impl_AreSounds.z21 rfl rfl (any_of HT_.out (by kernel_rfl)) (fun _ _ _ h => h) (Or.inr ⟨by rfl, rfl⟩) ?_ ?_
          rotate_left
          ·pw_
          refine pure_ (i := 21) (N := some 33) (v := undef) (a' := ?_) impl_AreSounds.z22 rfl rfl (any_of HT_.out (by kernel_rfl)) (fun _ _ _ h => h) (Or.inr ⟨by rfl, rfl⟩) ?_ ?_
          rotate_left
          ·pw_
          refine pure_ (i := 22) (N := some 34) (v := undef) (a' := ?_) impl_AreSounds.z23 rfl rfl (any_of HT_.out (by kernel_rfl)) (fun _ _ _ h => h) (Or.inr ⟨by rfl, rfl⟩) ?_ ?_
          rotate_left
          ·pw_
          refine pure_ (i := 23) (N := some 35) (v := undef) (a' := ?_) impl_AreSounds.z30 rfl rfl (any_of HT_.out (by kernel_rfl)) (fun _ _ _ h => h) (Or.inr ⟨by rfl, rfl⟩) ?_ ?_
          rotate_left
          ·pw_
          refine pure_ (i := 24) (N := some 36) (v := undef) (a' := ?_) impl_AreSounds.z25 rfl rfl (any_of HT_.out (by kernel_rfl)) (fun _ _ _ h => h) (Or.inr ⟨by rfl, rfl⟩) ?_ ?_
          rotate_left
          ·pw_
          refine pure_ (i := 25) (N := some 37) (v := undef) (a' := ?_) impl_AreSounds.z26 rfl rfl (any_of HT_.out (by kernel_rfl)) (fun _ _ _ h => h) (Or.inr ⟨by rfl, rfl⟩) ?_ ?_
          rotate_left
          ·pw_
          refine pure_ (i := 26) (N := some 38) (v := undef) (a' := ?_) impl_AreSounds.z27 rfl rfl (any_of HT_.out (by kernel_rfl)) (fun _ _ _ h => h) (Or.inr ⟨by rfl, rfl⟩) ?_ ?_
          rotate_left
          ·pw_
          refine pure_ (i := 27) (N := some 39) (v := ?_) (a' := ?_) impl_AreSounds.z28 rfl rfl (any_of HT_.out (by kernel_rfl)) (fun _ _ _ h => h) (Or.inl ⟨by rfl, ?_⟩) ?_ ?_
          pv_
          refine pure_ (i := 28) (N := some 40) (v := ?_) (a' := ?_) impl_AreSounds.z29 rfl rfl (any_of HT_.out (by kernel_rfl)) (fun _ _ _ h => h) (Or.inl ⟨by rfl, ?_⟩) ?_ ?_
          pv_
          refine done_ (done_of HT_.out (by kernel_rfl)) ?_
          try go_wp2
          go_roundg k1
          case measure => have := HK1.out; omega
          case rel => exact ⟨(wrap64 (x7_1 + 1)), (by first | rfl | (simp; done) | (simp [*]; done)), H', ⟨by have := HK1.out; omega⟩, ⟨by repeat (first | (with_reducible first | exact HB.out | apply below_alloc | apply pw_below_drewN | apply below_drew1 | refine below_set ?_ GE277.out) | exact HB.out)⟩⟩
        ·rw [if_neg c8] at H
         have c8b0 : ((((rd_T49 l0 x7_1).f1).length : Int) == (((rd_T49 l0 0).f1).length : Int)) = false := beq_eq_false_iff_ne.mpr c8
         have c8b1 : ((((rd_T49 l0 x7_1).f1).length : Int) != (((rd_T49 l0 0).f1).length : Int)) = true := bne_iff_ne.mpr c8
         have c8b2 : (((rd_T49 l0 x7_1).f1).length == ((rd_T49 l0 0).f1).length) = false := by first | simpa using c8 | (simp at c8 ⊢; omega)
         obtain rfl := Option.some.inj H
         have p276 : 0 ≤ (x7_1 : Int) := of_decide_eq_true (by first | (with_reducible assumption) | assumption)
         have q276 : x7_1 < (l0.length : Int) := of_decide_eq_true (by first | (with_reducible assumption) | assumption)
         obtain ⟨ad276, A276_1, c276_1, e276, hx276_0, hx276_1, hx276_2, hx276_3, hx276_4, hx276_5, hl276_1, hi276_1⟩ := at_T49 HR0.out x7_1 p276 q276
         have hw276_5 := hx276_5
         have hw276_4 := hx276_4
         have hw276_3 := hx276_3
         have hw276_2 := hx276_2
         have hw276_1 := hx276_1
         have hw276_0 := hx276_0
         cases e276
         replace hx276_0 := (HB.out.cell (World.block_lt_of_cell? w _ hx276_0)).trans hx276_0
         replace hx276_1 := (HB.out.cell (World.block_lt_of_cell? w _ hx276_1)).trans hx276_1
         replace hx276_2 := (HB.out.cell (World.block_lt_of_cell? w _ hx276_2)).trans hx276_2
         replace hx276_3 := (HB.out.cell (World.block_lt_of_cell? w _ hx276_3)).trans hx276_3
         replace hx276_4 := (HB.out.cell (World.block_lt_of_cell? w _ hx276_4)).trans hx276_4
         replace hx276_5 := (HB.out.cell (World.block_lt_of_cell? w _ hx276_5)).trans hx276_5
         have HR276_1 := Aside0.mk hi276_1
         have HC276_1 := Aside0.mk hl276_1
         clear hi276_1 hl276_1
         replace p276 := eq_true p276
         replace q276 := eq_true q276
         try go_wp2_with (first | ((with_reducible refine gate_dst (N := 4) rfl ?_); (try (refine gate_guard (by rfl) ?_; dsimp only)); refine box_event ?hg (N := 4) ?hd (cs := #[.string (⟨#[]⟩ : ByteArray), .slice none 0 0, .float .f32 0, .float .f32 0, .float .f32 0, .float .f32 0]) (t := 49) ?hr ?_; (case hd => rfl); (case hg => rfl); (case hr => first | (go_simp; done) | (go_simp; rfl) | (simp (disch := omega) only [w64_id]; go_simp; done) | (go_simp; simp (disch := omega) only [w64_id]; done)); intro gb277 hg w29 hbox hb; have n0_ := Aside0.mk (below_step (by repeat (first | (with_reducible first | exact HB.out | apply below_alloc | apply pw_below_drewN | apply below_drew1) | exact HB.out)) hb); have n1_ := Aside0.mk (hbox); have n2_ := Aside0.mk ((by rw [hg]; exact (below_size (by repeat (first | (with_reducible first | exact HB.out | apply below_alloc | apply pw_below_drewN | apply below_drew1) | exact HB.out))) : w.heap.size ≤ gb277)); have n3_ := Aside0.mk ((by rw [hg]; exact (below_size (by repeat (first | (with_reducible first | exact HB.out | apply below_alloc | apply pw_below_drewN | apply below_drew1) | exact HB.out))) : w.heap.size ≤ gb277)); clear HB; have HB := n0_; have BK277 := n1_; have GW277 := n2_; have GE277 := n3_; clear n0_ n1_ n2_ n3_; clear hb hbox hg; have hcz30_0 : w29.cell? ⟨gb277, 0, none⟩ = some (.string (⟨#[]⟩ : ByteArray)) := (blk_cell BK277.out 0).trans rfl; have hcz30_1 : w29.cell? ⟨gb277, 1, none⟩ = some (.slice none 0 0) := (blk_cell BK277.out 1).trans rfl; have hcz30_2 : w29.cell? ⟨gb277, 2, none⟩ = some (.float .f32 0) := (blk_cell BK277.out 2).trans rfl; have hcz30_3 : w29.cell? ⟨gb277, 3, none⟩ = some (.float .f32 0) := (blk_cell BK277.out 3).trans rfl; have hcz30_4 : w29.cell? ⟨gb277, 4, none⟩ = some (.float .f32 0) := (blk_cell BK277.out 4).trans rfl; have hcz30_5 : w29.cell? ⟨gb277, 5, none⟩ = some (.float .f32 0) := (blk_cell BK277.out 5).trans rfl; have hfz30_0 := blk_frozen BK277.out 0; have hfz30_1 := blk_frozen BK277.out 1; have hfz30_2 := blk_frozen BK277.out 2; have hfz30_3 := blk_frozen BK277.out 3; have hfz30_4 := blk_frozen BK277.out 4; have hfz30_5 := blk_frozen BK277.out 5))
         have n0_ : Aside0 (((((((w29.setCell ⟨gb277, 0, none⟩ (.string ((rd_T49 l0 x7_1).f0))).setCell ⟨gb277, 1, none⟩ (.slice A276_1 ((rd_T49 l0 x7_1).f1).length c276_1)).setCell ⟨gb277, 2, none⟩ (.float .f32 ((rd_T49 l0 x7_1).f2))).setCell ⟨gb277, 3, none⟩ (.float .f32 ((rd_T49 l0 x7_1).f3))).setCell ⟨gb277, 4, none⟩ (.float .f32 ((rd_T49 l0 x7_1).f4))).setCell ⟨gb277, 5, none⟩ (.float .f32 ((rd_T49 l0 x7_1).f5))).heap[gb277]? = some (.cells #[.string ((rd_T49 l0 x7_1).f0), .slice A276_1 ((rd_T49 l0 x7_1).f1).length c276_1, .float .f32 ((rd_T49 l0 x7_1).f2), .float .f32 ((rd_T49 l0 x7_1).f3), .float .f32 ((rd_T49 l0 x7_1).f4), .float .f32 ((rd_T49 l0 x7_1).f5)] 49 (0, 0))) := ⟨by (with_reducible repeat (first | refine blk_drewN ?_ _ | refine blk_drew ?_ | refine blk_alloc ?_ _)); refine blk_put (cs := #[.string ((rd_T49 l0 x7_1).f0), .slice A276_1 ((rd_T49 l0 x7_1).f1).length c276_1, .float .f32 ((rd_T49 l0 x7_1).f2), .float .f32 ((rd_T49 l0 x7_1).f3), .float .f32 ((rd_T49 l0 x7_1).f4), .float .f32 0]) ?_ 5 _ rfl; (with_reducible repeat (first | refine blk_drewN ?_ _ | refine blk_drew ?_ | refine blk_alloc ?_ _)); refine blk_put (cs := #[.string ((rd_T49 l0 x7_1).f0), .slice A276_1 ((rd_T49 l0 x7_1).f1).length c276_1, .float .f32 ((rd_T49 l0 x7_1).f2), .float .f32 ((rd_T49 l0 x7_1).f3), .float .f32 0, .float .f32 0]) ?_ 4 _ rfl; (with_reducible repeat (first | refine blk_drewN ?_ _ | refine blk_drew ?_ | refine blk_alloc ?_ _)); refine blk_put (cs := #[.string ((rd_T49 l0 x7_1).f0), .slice A276_1 ((rd_T49 l0 x7_1).f1).length c276_1, .float .f32 ((rd_T49 l0 x7_1).f2), .float .f32 0, .float .f32 0, .float .f32 0]) ?_ 3 _ rfl; (with_reducible repeat (first | refine blk_drewN ?_ _ | refine blk_drew ?_ | refine blk_alloc ?_ _)); refine blk_put (cs := #[.string ((rd_T49 l0 x7_1).f0), .slice A276_1 ((rd_T49 l0 x7_1).f1).length c276_1, .float .f32 0, .float .f32 0, .float .f32 0, .float .f32 0]) ?_ 2 _ rfl; (with_reducible repeat (first | refine blk_drewN ?_ _ | refine blk_drew ?_ | refine blk_alloc ?_ _)); refine blk_put (cs := #[.string ((rd_T49 l0 x7_1).f0), .slice none 0 0, .float .f32 0, .float .f32 0, .float .f32 0, .float .f32 0]) ?_ 1 _ rfl; (with_reducible repeat (first | refine blk_drewN ?_ _ | refine blk_drew ?_ | refine blk_alloc ?_ _)); refine blk_put (cs := #[.string (⟨#[]⟩ : ByteArray), .slice none 0 0, .float .f32 0, .float .f32 0, .float .f32 0, .float .f32 0]) ?_ 0 _ rfl; (with_reducible repeat (first | refine blk_drewN ?_ _ | refine blk_drew ?_ | refine blk_alloc ?_ _)); exact BK277.out⟩
         have n1_ : Aside0 (Below w.heap.size w ((((((w29.setCell ⟨gb277, 0, none⟩ (.string ((rd_T49 l0 x7_1).f0))).setCell ⟨gb277, 1, none⟩ (.slice A276_1 ((rd_T49 l0 x7_1).f1).length c276_1)).setCell ⟨gb277, 2, none⟩ (.float .f32 ((rd_T49 l0 x7_1).f2))).setCell ⟨gb277, 3, none⟩ (.float .f32 ((rd_T49 l0 x7_1).f3))).setCell ⟨gb277, 4, none⟩ (.float .f32 ((rd_T49 l0 x7_1).f4))).setCell ⟨gb277, 5, none⟩ (.float .f32 ((rd_T49 l0 x7_1).f5)))) := ⟨by repeat (first | (with_reducible first | exact HB.out | apply below_alloc | apply pw_below_drewN | apply below_drew1 | refine below_set ?_ GE277.out) | exact HB.out)⟩
         (try clear BK277)
         (try clear HB)
         generalize ((((((w29.setCell ⟨gb277, 0, none⟩ (.string ((rd_T49 l0 x7_1).f0))).setCell ⟨gb277, 1, none⟩ (.slice A276_1 ((rd_T49 l0 x7_1).f1).length c276_1)).setCell ⟨gb277, 2, none⟩ (.float .f32 ((rd_T49 l0 x7_1).f2))).setCell ⟨gb277, 3, none⟩ (.float .f32 ((rd_T49 l0 x7_1).f3))).setCell ⟨gb277, 4, none⟩ (.float .f32 ((rd_T49 l0 x7_1).f4))).setCell ⟨gb277, 5, none⟩ (.float .f32 ((rd_T49 l0 x7_1).f5))) = w31 at n0_ n1_ ⊢
         have BK277 := n0_
         have HB := n1_
         clear n0_ n1_
         have n0_ := Aside0.mk (blk_drew BK277.out)
         have n1_ := Aside0.mk (below_drew1 HB.out)
         clear BK277
         clear HB
         have BK277 := n0_
         have HB := n1_
         clear n0_ n1_
         have p279 : 0 ≤ (0 : Int) := (by omega)
         have q279 : 0 < (l0.length : Int) := of_decide_eq_true (by first | (with_reducible assumption) | assumption)
         obtain ⟨ad279, A279_1, c279_1, e279, hx279_0, hx279_1, hx279_2, hx279_3, hx279_4, hx279_5, hl279_1, hi279_1⟩ := at_T49 HR0.out 0 p279 q279
         have hw279_5 := hx279_5
         (try rw [show ((0 : Int)).toNat = 0 from rfl] at hw279_5)
         (try rw [show 0 * 6 = 0 from rfl] at hw279_5)
         (try rw [Addr.add_zero'] at hw279_5)
         have hw279_4 := hx279_4
         (try rw [show ((0 : Int)).toNat = 0 from rfl] at hw279_4)
         (try rw [show 0 * 6 = 0 from rfl] at hw279_4)
         (try rw [Addr.add_zero'] at hw279_4)
         have hw279_3 := hx279_3
         (try rw [show ((0 : Int)).toNat = 0 from rfl] at hw279_3)
         (try rw [show 0 * 6 = 0 from rfl] at hw279_3)
         (try rw [Addr.add_zero'] at hw279_3)
         have hw279_2 := hx279_2
         (try rw [show ((0 : Int)).toNat = 0 from rfl] at hw279_2)
         (try rw [show 0 * 6 = 0 from rfl] at hw279_2)
         (try rw [Addr.add_zero'] at hw279_2)
         have hw279_1 := hx279_1
         (try rw [show ((0 : Int)).toNat = 0 from rfl] at hw279_1)
         (try rw [show 0 * 6 = 0 from rfl] at hw279_1)
         (try rw [Addr.add_zero'] at hw279_1)
         have hw279_0 := hx279_0
         (try rw [show ((0 : Int)).toNat = 0 from rfl] at hw279_0)
         (try rw [show 0 * 6 = 0 from rfl] at hw279_0)
         (try rw [Addr.add_zero'] at hw279_0)
         obtain rfl : ad276 = ad279 := (by injection e279)
         have qi279 : (0 < l0.length) = True := eq_true (by omega)
         (try rw [show ((0 : Int)).toNat = 0 from rfl] at hx279_0)
         (try rw [show 0 * 6 = 0 from rfl] at hx279_0)
         (try rw [Addr.add_zero'] at hx279_0)
         (try rw [show ((0 : Int)).toNat = 0 from rfl] at hx279_1)
         (try rw [show 0 * 6 = 0 from rfl] at hx279_1)
         (try rw [Addr.add_zero'] at hx279_1)
         (try rw [show ((0 : Int)).toNat = 0 from rfl] at hx279_2)
         (try rw [show 0 * 6 = 0 from rfl] at hx279_2)
         (try rw [Addr.add_zero'] at hx279_2)
         (try rw [show ((0 : Int)).toNat = 0 from rfl] at hx279_3)
         (try rw [show 0 * 6 = 0 from rfl] at hx279_3)
         (try rw [Addr.add_zero'] at hx279_3)
         (try rw [show ((0 : Int)).toNat = 0 from rfl] at hx279_4)
         (try rw [show 0 * 6 = 0 from rfl] at hx279_4)
         (try rw [Addr.add_zero'] at hx279_4)
         (try rw [show ((0 : Int)).toNat = 0 from rfl] at hx279_5)
         (try rw [show 0 * 6 = 0 from rfl] at hx279_5)
         (try rw [Addr.add_zero'] at hx279_5)
         replace hx279_0 := (HB.out.cell (World.block_lt_of_cell? w _ hx279_0)).trans hx279_0
         replace hx279_1 := (HB.out.cell (World.block_lt_of_cell? w _ hx279_1)).trans hx279_1
         replace hx279_2 := (HB.out.cell (World.block_lt_of_cell? w _ hx279_2)).trans hx279_2
         replace hx279_3 := (HB.out.cell (World.block_lt_of_cell? w _ hx279_3)).trans hx279_3
         replace hx279_4 := (HB.out.cell (World.block_lt_of_cell? w _ hx279_4)).trans hx279_4
         replace hx279_5 := (HB.out.cell (World.block_lt_of_cell? w _ hx279_5)).trans hx279_5
         have HR279_1 := Aside0.mk hi279_1
         have HC279_1 := Aside0.mk hl279_1
         clear hi279_1 hl279_1
         replace p279 := eq_true p279
         replace q279 := eq_true q279
         refine start_ (n := 29) (S := fun w' => w'.cell? ⟨gb277, 0, none⟩ = some (.string ((rd_T49 l0 x7_1).f0)) ∧ w'.cell? ⟨gb277, 1, none⟩ = some (.slice A276_1 ((rd_T49 l0 x7_1).f1).length c276_1) ∧ w'.cell? ⟨gb277, 2, none⟩ = some (.float .f32 ((rd_T49 l0 x7_1).f2)) ∧ w'.cell? ⟨gb277, 3, none⟩ = some (.float .f32 ((rd_T49 l0 x7_1).f3)) ∧ w'.cell? ⟨gb277, 4, none⟩ = some (.float .f32 ((rd_T49 l0 x7_1).f4)) ∧ w'.cell? ⟨gb277, 5, none⟩ = some (.float .f32 ((rd_T49 l0 x7_1).f5)) ∧ w'.cell? (ad276.add ((x7_1).toNat * 6)) = some (.string ((rd_T49 l0 x7_1).f0)) ∧ w'.cell? ⟨(ad276.add ((x7_1).toNat * 6)).block, (ad276.add ((x7_1).toNat * 6)).off + 1, none⟩ = some (.slice A276_1 ((rd_T49 l0 x7_1).f1).length c276_1) ∧ w'.cell? ⟨(ad276.add ((x7_1).toNat * 6)).block, (ad276.add ((x7_1).toNat * 6)).off + 2, none⟩ = some (.float .f32 ((rd_T49 l0 x7_1).f2)) ∧ w'.cell? ⟨(ad276.add ((x7_1).toNat * 6)).block, (ad276.add ((x7_1).toNat * 6)).off + 3, none⟩ = some (.float .f32 ((rd_T49 l0 x7_1).f3)) ∧ w'.cell? ⟨(ad276.add ((x7_1).toNat * 6)).block, (ad276.add ((x7_1).toNat * 6)).off + 4, none⟩ = some (.float .f32 ((rd_T49 l0 x7_1).f4)) ∧ w'.cell? ⟨(ad276.add ((x7_1).toNat * 6)).block, (ad276.add ((x7_1).toNat * 6)).off + 5, none⟩ = some (.float .f32 ((rd_T49 l0 x7_1).f5)) ∧ w'.cell? ad276 = some (.string ((rd_T49 l0 0).f0)) ∧ w'.cell? ⟨ad276.block, ad276.off + 1, none⟩ = some (.slice A279_1 ((rd_T49 l0 0).f1).length c279_1) ∧ w'.cell? ⟨ad276.block, ad276.off + 2, none⟩ = some (.float .f32 ((rd_T49 l0 0).f2)) ∧ w'.cell? ⟨ad276.block, ad276.off + 3, none⟩ = some (.float .f32 ((rd_T49 l0 0).f3)) ∧ w'.cell? ⟨ad276.block, ad276.off + 4, none⟩ = some (.float .f32 ((rd_T49 l0 0).f4)) ∧ w'.cell? ⟨ad276.block, ad276.off + 5, none⟩ = some (.float .f32 ((rd_T49 l0 0).f5))) (ds := []) impl_AreSounds.z0 (by kernel_rfl) rfl rfl ⟨(blk_cell BK277.out 0).trans rfl, (blk_cell BK277.out 1).trans rfl, (blk_cell BK277.out 2).trans rfl, (blk_cell BK277.out 3).trans rfl, (blk_cell BK277.out 4).trans rfl, (blk_cell BK277.out 5).trans rfl, (cu_ HB.out hw276_0), (cu_ HB.out hw276_1), (cu_ HB.out hw276_2), (cu_ HB.out hw276_3), (cu_ HB.out hw276_4), (cu_ HB.out hw276_5), (cu_ HB.out hw279_0), (cu_ HB.out hw279_1), (cu_ HB.out hw279_2), (cu_ HB.out hw279_3), (cu_ HB.out hw279_4), (cu_ HB.out hw279_5)⟩ (fun hHeld => ?_); refine with_tabW impl_AreSounds.tab4 impl_AreSounds.bits4 (fun HT_ HW_ => ?_)
         generalize w31.drew = w32 at BK277 HB HR279_1 hx279_0 hx279_1 hx279_2 hx279_3 hx279_4 hx279_5 hHeld ⊢
         refine take_ (i := 0) (N := some 12) (v := ?_) (a' := ?_) impl_AreSounds.z1 rfl rfl (take_ofW HT_.out HW_.out (by kernel_rfl)) (fun _ _ _ h => h) (Or.inl ⟨by rfl, ?_⟩) hHeld ?_ ?_
         rotate_left
         ·rintro w' ⟨s0, s1, s2, s3, s4, s5, s6, s7, s8, s9, s10, s11, s12, s13, s14, s15, s16, s17⟩
          go_simp
          with_reducible rfl
         rotate_left
         ·pw_
         refine one_ (i := 1) (N := some 13) impl_AreSounds.z2 rfl rfl (one_of HT_.out (by kernel_rfl)) (by decide) (fun K hK => ?_)
         refine goes_ Try.func88 (by kernel_rfl) rfl #[.agg #[.string ((rd_T49 l0 x7_1).f0), .slice A276_1 ((rd_T49 l0 x7_1).f1).length c276_1, .float .f32 ((rd_T49 l0 x7_1).f2), .float .f32 ((rd_T49 l0 x7_1).f3), .float .f32 ((rd_T49 l0 x7_1).f4), .float .f32 ((rd_T49 l0 x7_1).f5)]] (by rfl) rfl rfl (by (try simp only [List.map_toArray, List.map_cons, List.map_nil]); first | done | rfl | (simp only [List.length_drop, List.length_take]; rfl)) ?_
         with_reducible refine (impl_ValidSound.calls k1 ((rd_T49 l0 x7_1).f0) _ _ ((rd_T49 l0 x7_1).f1) ((rd_T49 l0 x7_1).f2) ((rd_T49 l0 x7_1).f3) ((rd_T49 l0 x7_1).f4) ((rd_T49 l0 x7_1).f5) true _ ?side1 ?side2 A5.out).mono ?_
         (case side1 => repeat (first | exact (Kd.C_below HR276_1.out HB.out) | (with_reducible refine Kd.C_alloc ?_ _) | (with_reducible refine Kd.C_drewN ?_ _) | (with_reducible refine Kd.C_drew ?_)))
         (case side2 => exact HC276_1.out)
         rintro e w33 ⟨rfl, hb⟩
         refine ⟨_, rfl, ?_⟩
         have n0_ := Aside0.mk (blk_below (g := gb277) (o := .cells #[.string ((rd_T49 l0 x7_1).f0), .slice A276_1 ((rd_T49 l0 x7_1).f1).length c276_1, .float .f32 ((rd_T49 l0 x7_1).f2), .float .f32 ((rd_T49 l0 x7_1).f3), .float .f32 ((rd_T49 l0 x7_1).f4), .float .f32 ((rd_T49 l0 x7_1).f5)] 49 (0, 0)) (by (with_reducible repeat (first | refine blk_drewN ?_ _ | refine blk_drew ?_ | refine blk_alloc ?_ _)); exact BK277.out) hb)
         have n1_ := Aside0.mk (below_step (by repeat (first | (with_reducible first | exact HB.out | apply below_alloc | apply pw_below_drewN | apply below_drew1 | refine below_set ?_ GE277.out) | exact HB.out)) hb)
         clear BK277
         clear HB
         have BK277 := n0_
         have HB := n1_
         clear n0_ n1_
         (try clear hb)
         (try clear hb2)
         (try clear hk)
         (try clear hi)
         refine hK.out _ _ ⟨(blk_cell BK277.out 0).trans rfl, (blk_cell BK277.out 1).trans rfl, (blk_cell BK277.out 2).trans rfl, (blk_cell BK277.out 3).trans rfl, (blk_cell BK277.out 4).trans rfl, (blk_cell BK277.out 5).trans rfl, (cu_ HB.out hw276_0), (cu_ HB.out hw276_1), (cu_ HB.out hw276_2), (cu_ HB.out hw276_3), (cu_ HB.out hw276_4), (cu_ HB.out hw276_5), (cu_ HB.out hw279_0), (cu_ HB.out hw279_1), (cu_ HB.out hw279_2), (cu_ HB.out hw279_3), (cu_ HB.out hw279_4), (cu_ HB.out hw279_5)⟩ (fun hHeld => ?_)
         clear hK K
         refine norm_ (a' := ?_) ?_ ?_
         rotate_left
         ·show Act.put _ (some 13) _ = _
          pw_
         refine pure_ (i := 2) (N := some 14) (v := ?_) (a' := ?_) impl_AreSounds.z3 rfl rfl (any_of HT_.out (by kernel_rfl)) (fun _ _ _ h => h) (Or.inl ⟨by rfl, ?_⟩) ?_ ?_
         pv_
         refine pure_ (i := 3) (N := some 15) (v := ?_) (a' := ?_) impl_AreSounds.z4 rfl rfl (any_of HT_.out (by kernel_rfl)) (fun _ _ _ h => h) (Or.inl ⟨by rfl, ?_⟩) ?_ ?_
         pv_
         refine pure_ (i := 4) (N := some 16) (v := ?_) (a' := ?_) impl_AreSounds.z5 rfl rfl (any_of HT_.out (by kernel_rfl)) (fun _ _ _ h => h) (Or.inl ⟨by rfl, ?_⟩) ?_ ?_
         pv_
         refine pure_ (i := 7) (N := some 19) (v := ?_) (a' := ?_) impl_AreSounds.z6 rfl rfl (any_of HT_.out (by kernel_rfl)) (fun _ _ _ h => h) (Or.inl ⟨by rfl, ?_⟩) ?_ ?_
         pv_
         refine pure_ (i := 8) (N := some 20) (v := ?_) (a' := ?_) impl_AreSounds.z7 rfl rfl (any_of HT_.out (by kernel_rfl)) (fun _ _ _ h => h) (Or.inl ⟨by rfl, ?_⟩) ?_ ?_
         pv_
         refine pure_ (i := 9) (N := some 21) (v := ?_) (a' := ?_) impl_AreSounds.z8 rfl rfl (any_of HT_.out (by kernel_rfl)) (fun _ _ _ h => h) (Or.inl ⟨by rfl, ?_⟩) ?_ ?_
         pv_
         refine take_ (i := 5) (N := some 17) (v := ?_) (a' := ?_) impl_AreSounds.z9 rfl rfl (take_ofW HT_.out HW_.out (by kernel_rfl)) (fun _ _ _ h => h) (Or.inl ⟨by rfl, ?_⟩) hHeld ?_ ?_
         rotate_left
         ·rintro w' ⟨s0, s1, s2, s3, s4, s5, s6, s7, s8, s9, s10, s11, s12, s13, s14, s15, s16, s17⟩
          go_simp
          with_reducible rfl
         rotate_left
         ·pw_
         refine pure_ (i := 6) (N := some 18) (v := ?_) (a' := ?_) impl_AreSounds.z10 rfl rfl (any_of HT_.out (by kernel_rfl)) (fun _ _ _ h => h) (Or.inl ⟨by rfl, ?_⟩) ?_ ?_
         pv_
         refine take_ (i := 10) (N := some 22) (v := ?_) (a' := ?_) impl_AreSounds.z11 rfl rfl (take_ofW HT_.out HW_.out (by kernel_rfl)) (fun _ _ _ h => h) (Or.inl ⟨by rfl, ?_⟩) hHeld ?_ ?_
         rotate_left
         ·rintro w' ⟨s0, s1, s2, s3, s4, s5, s6, s7, s8, s9, s10, s11, s12, s13, s14, s15, s16, s17⟩
          go_simp
          with_reducible rfl
         rotate_left
         ·pw_
         refine pure_ (i := 11) (N := some 23) (v := ?_) (a' := ?_) impl_AreSounds.z12 rfl rfl (any_of HT_.out (by kernel_rfl)) (fun _ _ _ h => h) (Or.inl ⟨by rfl, ?_⟩) ?_ ?_
         pv_
         refine pure_ (i := 12) (N := some 24) (v := ?_) (a' := ?_) impl_AreSounds.z13 rfl rfl (any_of HT_.out (by kernel_rfl)) (fun _ _ _ h => h) (Or.inl ⟨by rfl, ?_⟩) ?_ ?_
         pv_
         refine pure_ (i := 13) (N := some 25) (v := ?_) (a' := ?_) impl_AreSounds.z14 rfl rfl (any_of HT_.out (by kernel_rfl)) (fun _ _ _ h => h) (Or.inl ⟨by rfl, ?_⟩) ?_ ?_
         pv_
         refine pure_ (i := 14) (N := some 26) (v := ?_) (a' := ?_) impl_AreSounds.z15 rfl rfl (any_of HT_.out (by kernel_rfl)) (fun _ _ _ h => h) (Or.inl ⟨by rfl, ?_⟩) ?_ ?_
         pv_
         refine pure_ (i := 15) (N := some 27) (v := undef) (a' := ?_) impl_AreSounds.z16 rfl rfl (any_of HT_.out (by kernel_rfl)) (fun _ _ _ h => h) (Or.inr ⟨by rfl, rfl⟩) ?_ ?_
         rotate_left
         ·pw_
         refine pure_ (i := 16) (N := some 28) (v := undef) (a' := ?_) impl_AreSounds.z17 rfl rfl (any_of HT_.out (by kernel_rfl)) (fun _ _ _ h => h) (Or.inr ⟨by rfl, rfl⟩) ?_ ?_
         rotate_left
         ·pw_
         refine pure_ (i := 17) (N := some 29) (v := undef) (a' := ?_) impl_AreSounds.z18 rfl rfl (any_of HT_.out (by kernel_rfl)) (fun _ _ _ h => h) (Or.inr ⟨by rfl, rfl⟩) ?_ ?_
         rotate_left
         ·pw_
         refine pure_ (i := 18) (N := some 30) (v := undef) (a' := ?_) impl_AreSounds.z19 rfl rfl (any_of HT_.out (by kernel_rfl)) (fun _ _ _ h => h) (Or.inr ⟨by rfl, rfl⟩) ?_ ?_
         rotate_left
         ·pw_
         refine pure_ (i := 19) (N := some 31) (v := undef) (a' := ?_) impl_AreSounds.z20 rfl rfl (any_of HT_.out (by kernel_rfl)) (fun _ _ _ h => h) (Or.inr ⟨by rfl, rfl⟩) ?_ ?_
         rotate_left
         ·pw_
         refine pure_ (i := 20) (N := some 32) (v := undef) (a' := ?_) impl_AreSounds.z21 rfl rfl (any_of HT_.out (by kernel_rfl)) (fun _ _ _ h => h) (Or.inr ⟨by rfl, rfl⟩) ?_ ?_
         rotate_left
         ·pw_
         refine pure_ (i := 21) (N := some 33) (v := undef) (a' := ?_) impl_AreSounds.z22 rfl rfl (any_of HT_.out (by kernel_rfl)) (fun _ _ _ h => h) (Or.inr ⟨by rfl, rfl⟩) ?_ ?_
         rotate_left
         ·pw_
         refine pure_ (i := 22) (N := some 34) (v := undef) (a' := ?_) impl_AreSounds.z23 rfl rfl (any_of HT_.out (by kernel_rfl)) (fun _ _ _ h => h) (Or.inr ⟨by rfl, rfl⟩) ?_ ?_
         rotate_left
         ·pw_
         refine pure_ (i := 23) (N := some 35) (v := undef) (a' := ?_) impl_AreSounds.z30 rfl rfl (any_of HT_.out (by kernel_rfl)) (fun _ _ _ h => h) (Or.inr ⟨by rfl, rfl⟩) ?_ ?_
         rotate_left
         ·pw_
         refine pure_ (i := 24) (N := some 36) (v := undef) (a' := ?_) impl_AreSounds.z25 rfl rfl (any_of HT_.out (by kernel_rfl)) (fun _ _ _ h => h) (Or.inr ⟨by rfl, rfl⟩) ?_ ?_
         rotate_left
         ·pw_
         refine pure_ (i := 25) (N := some 37) (v := undef) (a' := ?_) impl_AreSounds.z26 rfl rfl (any_of HT_.out (by kernel_rfl)) (fun _ _ _ h => h) (Or.inr ⟨by rfl, rfl⟩) ?_ ?_
         rotate_left
         ·pw_
         refine pure_ (i := 26) (N := some 38) (v := undef) (a' := ?_) impl_AreSounds.z27 rfl rfl (any_of HT_.out (by kernel_rfl)) (fun _ _ _ h => h) (Or.inr ⟨by rfl, rfl⟩) ?_ ?_
         rotate_left
         ·pw_
         refine pure_ (i := 27) (N := some 39) (v := undef) (a' := ?_) impl_AreSounds.z28 rfl rfl (any_of HT_.out (by kernel_rfl)) (fun _ _ _ h => h) (Or.inr ⟨by rfl, rfl⟩) ?_ ?_
         rotate_left
         ·pw_
         refine pure_ (i := 28) (N := some 40) (v := ?_) (a' := ?_) impl_AreSounds.z29 rfl rfl (any_of HT_.out (by kernel_rfl)) (fun _ _ _ h => h) (Or.inl ⟨by rfl, ?_⟩) ?_ ?_
         pv_
         refine done_ (done_of HT_.out (by kernel_rfl)) ?_
         try go_wp2
         go_ret
         exact ⟨by first | rfl | (simp [errW_none, errW_some] <;> rfl) | (simp [*, errW_none, errW_some] <;> rfl), by repeat (first | (with_reducible first | exact HB.out | apply below_alloc | apply pw_below_drewN | apply below_drew1 | refine below_set ?_ GE277.out) | exact HB.out)⟩
       ·rw [if_neg c7] at H
        exact absurd H (by simp)
      ·replace c6 := Bool.eq_false_iff.mpr c6
       subst c6
       have H1 : (some false) = some r := by rw [if_neg (show ¬ (false = true) by decide)] at H; exact H
       clear H
       have H := H1
       clear H1
       obtain rfl := Option.some.inj H
       have p276 : 0 ≤ (x7_1 : Int) := of_decide_eq_true (by first | (with_reducible assumption) | assumption)
       have q276 : x7_1 < (l0.length : Int) := of_decide_eq_true (by first | (with_reducible assumption) | assumption)
       obtain ⟨ad276, A276_1, c276_1, e276, hx276_0, hx276_1, hx276_2, hx276_3, hx276_4, hx276_5, hl276_1, hi276_1⟩ := at_T49 HR0.out x7_1 p276 q276
       have hw276_5 := hx276_5
       have hw276_4 := hx276_4
       have hw276_3 := hx276_3
       have hw276_2 := hx276_2
       have hw276_1 := hx276_1
       have hw276_0 := hx276_0
       cases e276
       replace hx276_0 := (HB.out.cell (World.block_lt_of_cell? w _ hx276_0)).trans hx276_0
       replace hx276_1 := (HB.out.cell (World.block_lt_of_cell? w _ hx276_1)).trans hx276_1
       replace hx276_2 := (HB.out.cell (World.block_lt_of_cell? w _ hx276_2)).trans hx276_2
       replace hx276_3 := (HB.out.cell (World.block_lt_of_cell? w _ hx276_3)).trans hx276_3
       replace hx276_4 := (HB.out.cell (World.block_lt_of_cell? w _ hx276_4)).trans hx276_4
       replace hx276_5 := (HB.out.cell (World.block_lt_of_cell? w _ hx276_5)).trans hx276_5
       have HR276_1 := Aside0.mk hi276_1
       have HC276_1 := Aside0.mk hl276_1
       clear hi276_1 hl276_1
       replace p276 := eq_true p276
       replace q276 := eq_true q276
       try go_wp2_with (first | ((with_reducible refine gate_dst (N := 4) rfl ?_); (try (refine gate_guard (by rfl) ?_; dsimp only)); refine box_event ?hg (N := 4) ?hd (cs := #[.string (⟨#[]⟩ : ByteArray), .slice none 0 0, .float .f32 0, .float .f32 0, .float .f32 0, .float .f32 0]) (t := 49) ?hr ?_; (case hd => rfl); (case hg => rfl); (case hr => first | (go_simp; done) | (go_simp; rfl) | (simp (disch := omega) only [w64_id]; go_simp; done) | (go_simp; simp (disch := omega) only [w64_id]; done)); intro gb277 hg w34 hbox hb; have n0_ := Aside0.mk (below_step (by repeat (first | (with_reducible first | exact HB.out | apply below_alloc | apply pw_below_drewN | apply below_drew1) | exact HB.out)) hb); have n1_ := Aside0.mk (hbox); have n2_ := Aside0.mk ((by rw [hg]; exact (below_size (by repeat (first | (with_reducible first | exact HB.out | apply below_alloc | apply pw_below_drewN | apply below_drew1) | exact HB.out))) : w.heap.size ≤ gb277)); have n3_ := Aside0.mk ((by rw [hg]; exact (below_size (by repeat (first | (with_reducible first | exact HB.out | apply below_alloc | apply pw_below_drewN | apply below_drew1) | exact HB.out))) : w.heap.size ≤ gb277)); clear HB; have HB := n0_; have BK277 := n1_; have GW277 := n2_; have GE277 := n3_; clear n0_ n1_ n2_ n3_; clear hb hbox hg; have hcz35_0 : w34.cell? ⟨gb277, 0, none⟩ = some (.string (⟨#[]⟩ : ByteArray)) := (blk_cell BK277.out 0).trans rfl; have hcz35_1 : w34.cell? ⟨gb277, 1, none⟩ = some (.slice none 0 0) := (blk_cell BK277.out 1).trans rfl; have hcz35_2 : w34.cell? ⟨gb277, 2, none⟩ = some (.float .f32 0) := (blk_cell BK277.out 2).trans rfl; have hcz35_3 : w34.cell? ⟨gb277, 3, none⟩ = some (.float .f32 0) := (blk_cell BK277.out 3).trans rfl; have hcz35_4 : w34.cell? ⟨gb277, 4, none⟩ = some (.float .f32 0) := (blk_cell BK277.out 4).trans rfl; have hcz35_5 : w34.cell? ⟨gb277, 5, none⟩ = some (.float .f32 0) := (blk_cell BK277.out 5).trans rfl; have hfz35_0 := blk_frozen BK277.out 0; have hfz35_1 := blk_frozen BK277.out 1; have hfz35_2 := blk_frozen BK277.out 2; have hfz35_3 := blk_frozen BK277.out 3; have hfz35_4 := blk_frozen BK277.out 4; have hfz35_5 := blk_frozen BK277.out 5))
       have n0_ : Aside0 (((((((w34.setCell ⟨gb277, 0, none⟩ (.string ((rd_T49 l0 x7_1).f0))).setCell ⟨gb277, 1, none⟩ (.slice A276_1 ((rd_T49 l0 x7_1).f1).length c276_1)).setCell ⟨gb277, 2, none⟩ (.float .f32 ((rd_T49 l0 x7_1).f2))).setCell ⟨gb277, 3, none⟩ (.float .f32 ((rd_T49 l0 x7_1).f3))).setCell ⟨gb277, 4, none⟩ (.float .f32 ((rd_T49 l0 x7_1).f4))).setCell ⟨gb277, 5, none⟩ (.float .f32 ((rd_T49 l0 x7_1).f5))).heap[gb277]? = some (.cells #[.string ((rd_T49 l0 x7_1).f0), .slice A276_1 ((rd_T49 l0 x7_1).f1).length c276_1, .float .f32 ((rd_T49 l0 x7_1).f2), .float .f32 ((rd_T49 l0 x7_1).f3), .float .f32 ((rd_T49 l0 x7_1).f4), .float .f32 ((rd_T49 l0 x7_1).f5)] 49 (0, 0))) := ⟨by (with_reducible repeat (first | refine blk_drewN ?_ _ | refine blk_drew ?_ | refine blk_alloc ?_ _)); refine blk_put (cs := #[.string ((rd_T49 l0 x7_1).f0), .slice A276_1 ((rd_T49 l0 x7_1).f1).length c276_1, .float .f32 ((rd_T49 l0 x7_1).f2), .float .f32 ((rd_T49 l0 x7_1).f3), .float .f32 ((rd_T49 l0 x7_1).f4), .float .f32 0]) ?_ 5 _ rfl; (with_reducible repeat (first | refine blk_drewN ?_ _ | refine blk_drew ?_ | refine blk_alloc ?_ _)); refine blk_put (cs := #[.string ((rd_T49 l0 x7_1).f0), .slice A276_1 ((rd_T49 l0 x7_1).f1).length c276_1, .float .f32 ((rd_T49 l0 x7_1).f2), .float .f32 ((rd_T49 l0 x7_1).f3), .float .f32 0, .float .f32 0]) ?_ 4 _ rfl; (with_reducible repeat (first | refine blk_drewN ?_ _ | refine blk_drew ?_ | refine blk_alloc ?_ _)); refine blk_put (cs := #[.string ((rd_T49 l0 x7_1).f0), .slice A276_1 ((rd_T49 l0 x7_1).f1).length c276_1, .float .f32 ((rd_T49 l0 x7_1).f2), .float .f32 0, .float .f32 0, .float .f32 0]) ?_ 3 _ rfl; (with_reducible repeat (first | refine blk_drewN ?_ _ | refine blk_drew ?_ | refine blk_alloc ?_ _)); refine blk_put (cs := #[.string ((rd_T49 l0 x7_1).f0), .slice A276_1 ((rd_T49 l0 x7_1).f1).length c276_1, .float .f32 0, .float .f32 0, .float .f32 0, .float .f32 0]) ?_ 2 _ rfl; (with_reducible repeat (first | refine blk_drewN ?_ _ | refine blk_drew ?_ | refine blk_alloc ?_ _)); refine blk_put (cs := #[.string ((rd_T49 l0 x7_1).f0), .slice none 0 0, .float .f32 0, .float .f32 0, .float .f32 0, .float .f32 0]) ?_ 1 _ rfl; (with_reducible repeat (first | refine blk_drewN ?_ _ | refine blk_drew ?_ | refine blk_alloc ?_ _)); refine blk_put (cs := #[.string (⟨#[]⟩ : ByteArray), .slice none 0 0, .float .f32 0, .float .f32 0, .float .f32 0, .float .f32 0]) ?_ 0 _ rfl; (with_reducible repeat (first | refine blk_drewN ?_ _ | refine blk_drew ?_ | refine blk_alloc ?_ _)); exact BK277.out⟩
       have n1_ : Aside0 (Below w.heap.size w ((((((w34.setCell ⟨gb277, 0, none⟩ (.string ((rd_T49 l0 x7_1).f0))).setCell ⟨gb277, 1, none⟩ (.slice A276_1 ((rd_T49 l0 x7_1).f1).length c276_1)).setCell ⟨gb277, 2, none⟩ (.float .f32 ((rd_T49 l0 x7_1).f2))).setCell ⟨gb277, 3, none⟩ (.float .f32 ((rd_T49 l0 x7_1).f3))).setCell ⟨gb277, 4, none⟩ (.float .f32 ((rd_T49 l0 x7_1).f4))).setCell ⟨gb277, 5, none⟩ (.float .f32 ((rd_T49 l0 x7_1).f5)))) := ⟨by repeat (first | (with_reducible first | exact HB.out | apply below_alloc | apply pw_below_drewN | apply below_drew1 | refine below_set ?_ GE277.out) | exact HB.out)⟩
       (try clear BK277)
       (try clear HB)
       generalize ((((((w34.setCell ⟨gb277, 0, none⟩ (.string ((rd_T49 l0 x7_1).f0))).setCell ⟨gb277, 1, none⟩ (.slice A276_1 ((rd_T49 l0 x7_1).f1).length c276_1)).setCell ⟨gb277, 2, none⟩ (.float .f32 ((rd_T49 l0 x7_1).f2))).setCell ⟨gb277, 3, none⟩ (.float .f32 ((rd_T49 l0 x7_1).f3))).setCell ⟨gb277, 4, none⟩ (.float .f32 ((rd_T49 l0 x7_1).f4))).setCell ⟨gb277, 5, none⟩ (.float .f32 ((rd_T49 l0 x7_1).f5))) = w36 at n0_ n1_ ⊢
       have BK277 := n0_
       have HB := n1_
       clear n0_ n1_
       have n0_ := Aside0.mk (blk_drew BK277.out)
       have n1_ := Aside0.mk (below_drew1 HB.out)
       clear BK277
       clear HB
       have BK277 := n0_
       have HB := n1_
       clear n0_ n1_
       refine start_ (n := 29) (S := fun w' => w'.cell? ⟨gb277, 0, none⟩ = some (.string ((rd_T49 l0 x7_1).f0)) ∧ w'.cell? ⟨gb277, 1, none⟩ = some (.slice A276_1 ((rd_T49 l0 x7_1).f1).length c276_1) ∧ w'.cell? ⟨gb277, 2, none⟩ = some (.float .f32 ((rd_T49 l0 x7_1).f2)) ∧ w'.cell? ⟨gb277, 3, none⟩ = some (.float .f32 ((rd_T49 l0 x7_1).f3)) ∧ w'.cell? ⟨gb277, 4, none⟩ = some (.float .f32 ((rd_T49 l0 x7_1).f4)) ∧ w'.cell? ⟨gb277, 5, none⟩ = some (.float .f32 ((rd_T49 l0 x7_1).f5)) ∧ w'.cell? (ad276.add ((x7_1).toNat * 6)) = some (.string ((rd_T49 l0 x7_1).f0)) ∧ w'.cell? ⟨(ad276.add ((x7_1).toNat * 6)).block, (ad276.add ((x7_1).toNat * 6)).off + 1, none⟩ = some (.slice A276_1 ((rd_T49 l0 x7_1).f1).length c276_1) ∧ w'.cell? ⟨(ad276.add ((x7_1).toNat * 6)).block, (ad276.add ((x7_1).toNat * 6)).off + 2, none⟩ = some (.float .f32 ((rd_T49 l0 x7_1).f2)) ∧ w'.cell? ⟨(ad276.add ((x7_1).toNat * 6)).block, (ad276.add ((x7_1).toNat * 6)).off + 3, none⟩ = some (.float .f32 ((rd_T49 l0 x7_1).f3)) ∧ w'.cell? ⟨(ad276.add ((x7_1).toNat * 6)).block, (ad276.add ((x7_1).toNat * 6)).off + 4, none⟩ = some (.float .f32 ((rd_T49 l0 x7_1).f4)) ∧ w'.cell? ⟨(ad276.add ((x7_1).toNat * 6)).block, (ad276.add ((x7_1).toNat * 6)).off + 5, none⟩ = some (.float .f32 ((rd_T49 l0 x7_1).f5))) (ds := []) impl_AreSounds.z0 (by kernel_rfl) rfl rfl ⟨(blk_cell BK277.out 0).trans rfl, (blk_cell BK277.out 1).trans rfl, (blk_cell BK277.out 2).trans rfl, (blk_cell BK277.out 3).trans rfl, (blk_cell BK277.out 4).trans rfl, (blk_cell BK277.out 5).trans rfl, (cu_ HB.out hw276_0), (cu_ HB.out hw276_1), (cu_ HB.out hw276_2), (cu_ HB.out hw276_3), (cu_ HB.out hw276_4), (cu_ HB.out hw276_5)⟩ (fun hHeld => ?_); refine with_tabW impl_AreSounds.tab4 impl_AreSounds.bits4 (fun HT_ HW_ => ?_)
       generalize w36.drew = w37 at BK277 HB hHeld ⊢
       refine take_ (i := 0) (N := some 12) (v := ?_) (a' := ?_) impl_AreSounds.z1 rfl rfl (take_ofW HT_.out HW_.out (by kernel_rfl)) (fun _ _ _ h => h) (Or.inl ⟨by rfl, ?_⟩) hHeld ?_ ?_
       rotate_left
       ·rintro w' ⟨s0, s1, s2, s3, s4, s5, s6, s7, s8, s9, s10, s11⟩
        go_simp
        with_reducible rfl
       rotate_left
       ·pw_
       refine one_ (i := 1) (N := some 13) impl_AreSounds.z2 rfl rfl (one_of HT_.out (by kernel_rfl)) (by decide) (fun K hK => ?_)
       refine goes_ Try.func88 (by kernel_rfl) rfl #[.agg #[.string ((rd_T49 l0 x7_1).f0), .slice A276_1 ((rd_T49 l0 x7_1).f1).length c276_1, .float .f32 ((rd_T49 l0 x7_1).f2), .float .f32 ((rd_T49 l0 x7_1).f3), .float .f32 ((rd_T49 l0 x7_1).f4), .float .f32 ((rd_T49 l0 x7_1).f5)]] (by rfl) rfl rfl (by (try simp only [List.map_toArray, List.map_cons, List.map_nil]); first | done | rfl | (simp only [List.length_drop, List.length_take]; rfl)) ?_
       with_reducible refine (impl_ValidSound.calls k1 ((rd_T49 l0 x7_1).f0) _ _ ((rd_T49 l0 x7_1).f1) ((rd_T49 l0 x7_1).f2) ((rd_T49 l0 x7_1).f3) ((rd_T49 l0 x7_1).f4) ((rd_T49 l0 x7_1).f5) false _ ?side1 ?side2 A5.out).mono ?_
       (case side1 => repeat (first | exact (Kd.C_below HR276_1.out HB.out) | (with_reducible refine Kd.C_alloc ?_ _) | (with_reducible refine Kd.C_drewN ?_ _) | (with_reducible refine Kd.C_drew ?_)))
       (case side2 => exact HC276_1.out)
       rintro e w38 ⟨rfl, hb⟩
       refine ⟨_, rfl, ?_⟩
       have n0_ := Aside0.mk (blk_below (g := gb277) (o := .cells #[.string ((rd_T49 l0 x7_1).f0), .slice A276_1 ((rd_T49 l0 x7_1).f1).length c276_1, .float .f32 ((rd_T49 l0 x7_1).f2), .float .f32 ((rd_T49 l0 x7_1).f3), .float .f32 ((rd_T49 l0 x7_1).f4), .float .f32 ((rd_T49 l0 x7_1).f5)] 49 (0, 0)) (by (with_reducible repeat (first | refine blk_drewN ?_ _ | refine blk_drew ?_ | refine blk_alloc ?_ _)); exact BK277.out) hb)
       have n1_ := Aside0.mk (below_step (by repeat (first | (with_reducible first | exact HB.out | apply below_alloc | apply pw_below_drewN | apply below_drew1 | refine below_set ?_ GE277.out) | exact HB.out)) hb)
       clear BK277
       clear HB
       have BK277 := n0_
       have HB := n1_
       clear n0_ n1_
       (try clear hb)
       (try clear hb2)
       (try clear hk)
       (try clear hi)
       refine hK.out _ _ ⟨(blk_cell BK277.out 0).trans rfl, (blk_cell BK277.out 1).trans rfl, (blk_cell BK277.out 2).trans rfl, (blk_cell BK277.out 3).trans rfl, (blk_cell BK277.out 4).trans rfl, (blk_cell BK277.out 5).trans rfl, (cu_ HB.out hw276_0), (cu_ HB.out hw276_1), (cu_ HB.out hw276_2), (cu_ HB.out hw276_3), (cu_ HB.out hw276_4), (cu_ HB.out hw276_5)⟩ (fun hHeld => ?_)
       clear hK K
       refine norm_ (a' := ?_) ?_ ?_
       rotate_left
       ·show Act.put _ (some 13) _ = _
        pw_
       refine pure_ (i := 2) (N := some 14) (v := ?_) (a' := ?_) impl_AreSounds.z3 rfl rfl (any_of HT_.out (by kernel_rfl)) (fun _ _ _ h => h) (Or.inl ⟨by rfl, ?_⟩) ?_ ?_
       pv_
       refine pure_ (i := 3) (N := some 15) (v := ?_) (a' := ?_) impl_AreSounds.z4 rfl rfl (any_of HT_.out (by kernel_rfl)) (fun _ _ _ h => h) (Or.inl ⟨by rfl, ?_⟩) ?_ ?_
       pv_
       refine pure_ (i := 4) (N := some 16) (v := undef) (a' := ?_) impl_AreSounds.z5 rfl rfl (any_of HT_.out (by kernel_rfl)) (fun _ _ _ h => h) (Or.inr ⟨by rfl, rfl⟩) ?_ ?_
       rotate_left
       ·pw_
       refine pure_ (i := 5) (N := some 17) (v := undef) (a' := ?_) impl_AreSounds.z31 rfl rfl (any_of HT_.out (by kernel_rfl)) (fun _ _ _ h => h) (Or.inr ⟨by rfl, rfl⟩) ?_ ?_
       rotate_left
       ·pw_
       refine pure_ (i := 6) (N := some 18) (v := undef) (a' := ?_) impl_AreSounds.z32 rfl rfl (any_of HT_.out (by kernel_rfl)) (fun _ _ _ h => h) (Or.inr ⟨by rfl, rfl⟩) ?_ ?_
       rotate_left
       ·pw_
       refine pure_ (i := 7) (N := some 19) (v := undef) (a' := ?_) impl_AreSounds.z33 rfl rfl (any_of HT_.out (by kernel_rfl)) (fun _ _ _ h => h) (Or.inr ⟨by rfl, rfl⟩) ?_ ?_
       rotate_left
       ·pw_
       refine pure_ (i := 8) (N := some 20) (v := undef) (a' := ?_) impl_AreSounds.z34 rfl rfl (any_of HT_.out (by kernel_rfl)) (fun _ _ _ h => h) (Or.inr ⟨by rfl, rfl⟩) ?_ ?_
       rotate_left
       ·pw_
       refine pure_ (i := 9) (N := some 21) (v := undef) (a' := ?_) impl_AreSounds.z10 rfl rfl (any_of HT_.out (by kernel_rfl)) (fun _ _ _ h => h) (Or.inr ⟨by rfl, rfl⟩) ?_ ?_
       rotate_left
       ·pw_
       refine pure_ (i := 10) (N := some 22) (v := undef) (a' := ?_) impl_AreSounds.z11 rfl rfl (any_of HT_.out (by kernel_rfl)) (fun _ _ _ h => h) (Or.inr ⟨by rfl, rfl⟩) ?_ ?_
       rotate_left
       ·pw_
       refine pure_ (i := 11) (N := some 23) (v := undef) (a' := ?_) impl_AreSounds.z12 rfl rfl (any_of HT_.out (by kernel_rfl)) (fun _ _ _ h => h) (Or.inr ⟨by rfl, rfl⟩) ?_ ?_
       rotate_left
       ·pw_
       refine pure_ (i := 12) (N := some 24) (v := undef) (a' := ?_) impl_AreSounds.z13 rfl rfl (any_of HT_.out (by kernel_rfl)) (fun _ _ _ h => h) (Or.inr ⟨by rfl, rfl⟩) ?_ ?_
       rotate_left
       ·pw_
       refine pure_ (i := 13) (N := some 25) (v := ?_) (a' := ?_) impl_AreSounds.z14 rfl rfl (any_of HT_.out (by kernel_rfl)) (fun _ _ _ h => h) (Or.inl ⟨by rfl, ?_⟩) ?_ ?_
       pv_
       refine pure_ (i := 14) (N := some 26) (v := ?_) (a' := ?_) impl_AreSounds.z15 rfl rfl (any_of HT_.out (by kernel_rfl)) (fun _ _ _ h => h) (Or.inl ⟨by rfl, ?_⟩) ?_ ?_
       pv_
       refine pure_ (i := 15) (N := some 27) (v := undef) (a' := ?_) impl_AreSounds.z16 rfl rfl (any_of HT_.out (by kernel_rfl)) (fun _ _ _ h => h) (Or.inr ⟨by rfl, rfl⟩) ?_ ?_
       rotate_left
       ·pw_
       refine pure_ (i := 16) (N := some 28) (v := undef) (a' := ?_) impl_AreSounds.z17 rfl rfl (any_of HT_.out (by kernel_rfl)) (fun _ _ _ h => h) (Or.inr ⟨by rfl, rfl⟩) ?_ ?_
       rotate_left
       ·pw_
       refine pure_ (i := 17) (N := some 29) (v := undef) (a' := ?_) impl_AreSounds.z18 rfl rfl (any_of HT_.out (by kernel_rfl)) (fun _ _ _ h => h) (Or.inr ⟨by rfl, rfl⟩) ?_ ?_
       rotate_left
       ·pw_
       refine pure_ (i := 18) (N := some 30) (v := undef) (a' := ?_) impl_AreSounds.z19 rfl rfl (any_of HT_.out (by kernel_rfl)) (fun _ _ _ h => h) (Or.inr ⟨by rfl, rfl⟩) ?_ ?_
       rotate_left
       ·pw_
       refine pure_ (i := 19) (N := some 31) (v := undef) (a' := ?_) impl_AreSounds.z20 rfl rfl (any_of HT_.out (by kernel_rfl)) (fun _ _ _ h => h) (Or.inr ⟨by rfl, rfl⟩) ?_ ?_
       rotate_left
       ·pw_
       refine pure_ (i := 20) (N := some 32) (v := undef) (a' := ?_) impl_AreSounds.z21 rfl rfl (any_of HT_.out (by kernel_rfl)) (fun _ _ _ h => h) (Or.inr ⟨by rfl, rfl⟩) ?_ ?_
       rotate_left
       ·pw_
       refine pure_ (i := 21) (N := some 33) (v := undef) (a' := ?_) impl_AreSounds.z22 rfl rfl (any_of HT_.out (by kernel_rfl)) (fun _ _ _ h => h) (Or.inr ⟨by rfl, rfl⟩) ?_ ?_
       rotate_left
       ·pw_
       refine pure_ (i := 22) (N := some 34) (v := undef) (a' := ?_) impl_AreSounds.z23 rfl rfl (any_of HT_.out (by kernel_rfl)) (fun _ _ _ h => h) (Or.inr ⟨by rfl, rfl⟩) ?_ ?_
       rotate_left
       ·pw_
       refine pure_ (i := 23) (N := some 35) (v := undef) (a' := ?_) impl_AreSounds.z30 rfl rfl (any_of HT_.out (by kernel_rfl)) (fun _ _ _ h => h) (Or.inr ⟨by rfl, rfl⟩) ?_ ?_
       rotate_left
       ·pw_
       refine pure_ (i := 24) (N := some 36) (v := undef) (a' := ?_) impl_AreSounds.z25 rfl rfl (any_of HT_.out (by kernel_rfl)) (fun _ _ _ h => h) (Or.inr ⟨by rfl, rfl⟩) ?_ ?_
       rotate_left
       ·pw_
       refine pure_ (i := 25) (N := some 37) (v := undef) (a' := ?_) impl_AreSounds.z26 rfl rfl (any_of HT_.out (by kernel_rfl)) (fun _ _ _ h => h) (Or.inr ⟨by rfl, rfl⟩) ?_ ?_
       rotate_left
       ·pw_
       refine pure_ (i := 26) (N := some 38) (v := undef) (a' := ?_) impl_AreSounds.z27 rfl rfl (any_of HT_.out (by kernel_rfl)) (fun _ _ _ h => h) (Or.inr ⟨by rfl, rfl⟩) ?_ ?_
       rotate_left
       ·pw_
       refine pure_ (i := 27) (N := some 39) (v := undef) (a' := ?_) impl_AreSounds.z28 rfl rfl (any_of HT_.out (by kernel_rfl)) (fun _ _ _ h => h) (Or.inr ⟨by rfl, rfl⟩) ?_ ?_
       rotate_left
       ·pw_
       refine pure_ (i := 28) (N := some 40) (v := ?_) (a' := ?_) impl_AreSounds.z29 rfl rfl (any_of HT_.out (by kernel_rfl)) (fun _ _ _ h => h) (Or.inl ⟨by rfl, ?_⟩) ?_ ?_
       pv_
       refine done_ (done_of HT_.out (by kernel_rfl)) ?_
       try go_wp2
       go_ret
       exact ⟨by first | rfl | (simp [errW_none, errW_some] <;> rfl) | (simp [*, errW_none, errW_some] <;> rfl), by repeat (first | (with_reducible first | exact HB.out | apply below_alloc | apply pw_below_drewN | apply below_drew1 | refine below_set ?_ GE277.out) | exact HB.out)⟩
     ·rw [if_neg c4] at H
      exact absurd H (by simp)
    ·rw [if_neg c3] at H
     exact absurd H (by simp)
   ·rw [if_neg c2] at H
    have c2b0 : decide (x7_1 < (l0.length : Int)) = false := decide_eq_false c2
    clear c2
    obtain rfl := Option.some.inj H
    go_wp2
    go_ret
    exact ⟨by first | rfl | (simp [errW_none, errW_some] <;> rfl) | (simp [*, errW_none, errW_some] <;> rfl), by repeat (first | (with_reducible first | exact HB.out | apply below_alloc | apply pw_below_drewN | apply below_drew1) | exact HB.out)⟩
end Go.Proofs.Yteooifighndmkaa.PFnExactFrameAt
