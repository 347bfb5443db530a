import Derived.Test.YtdfpfiecpcgffaaDoorPFnExactSoundsTextx0
import Derived.Test.YtdfpfiecpcgffaaDoorPFnExactSoundsTextx4
namespace Go.Proofs.YtdfpfiecpcgffaaDoor.PFnExactSoundsText
open Go.RowKit Go.Proofs.YtdfpfiecpcgffaaDoorW.PrintWords Go.Proofs.YtdfpfiecpcgffaaDoorW.PrintLast Go.Proofs.YtdfpfiecpcgffaaDoorW.PrintMore
open Go.Proofs.YtdfpfiecpcgffaaDoorW.PrintFl
attribute [local go_sem high] binOp_feq binOp_fne binOp_fls binOp_fle binOp_fgr binOp_fge binOp_sle binOp_sgt
attribute [local go_sem] run_fopr run_fconv run_fint run_stf run_stc ext_f32bits ext_f32frombits
attribute [local go_sem] max2_int min2_int max_two min_two max_three min_three max_four min_four
set_option linter.unusedVariables false
set_option linter.unusedSimpArgs false
abbrev spec_l08Sounds.z0 : Array Bool := #[false, false, false, false, false, false, false, false, false, false, false, false, false, false, false, false, false, false, false, false, false, false, false, false, false, false, false, false, false, false, false, false, false, false]
abbrev spec_l08Sounds.z1 : Array Bool := #[true, false, false, false, false, false, false, false, false, false, false, false, false, false, false, false, false, false, false, false, false, false, false, false, false, false, false, false, false, false, false, false, false, false]
abbrev spec_l08Sounds.z2 : Array Bool := #[true, true, false, false, false, false, false, false, false, false, false, false, false, false, false, false, false, false, false, false, false, false, false, false, false, false, false, false, false, false, false, false, false, false]
abbrev spec_l08Sounds.z3 : Array Bool := #[true, true, false, false, false, false, true, false, false, false, false, false, false, false, false, false, false, false, false, false, false, false, false, false, false, false, false, false, false, false, false, false, false, false]
abbrev spec_l08Sounds.z4 : Array Bool := #[true, true, false, false, false, false, true, false, false, false, false, false, false, true, false, false, false, false, false, false, false, false, false, false, false, false, false, false, false, false, false, false, false, false]
abbrev spec_l08Sounds.z5 : Array Bool := #[true, true, false, false, false, false, true, false, false, false, false, false, false, true, false, false, false, true, false, false, false, false, false, false, false, false, false, false, false, false, false, false, false, false]
abbrev spec_l08Sounds.z6 : Array Bool := #[true, true, false, false, false, false, true, false, false, false, false, false, false, true, false, false, false, true, false, false, false, true, false, false, false, false, false, false, false, false, false, false, false, false]
abbrev spec_l08Sounds.z7 : Array Bool := #[true, true, false, false, false, false, true, false, false, false, false, false, false, true, false, false, false, true, false, false, false, true, false, false, false, true, false, false, false, false, false, false, false, false]
def spec_l08Sounds.l0 : Nat → List (S58) → ByteArray → Int → Option (ByteArray)
 | 0, _, _, _ => none
 | k + 1, x0, x3, x4 => if x4 < (x0.length : Int) then (if x4 > 0 then (if x3.size + 1 ≤ 9223372036854775807 then (if 0 ≤ x4 then (if ((rd_T58 x0 x4).f0).size + 1 ≤ 9223372036854775807 then ((spec_l01NText.f k ((rd_T58 x0 x4).f1)).bind fun t145 => (if (((rd_T58 x0 x4).f0) ++ (⟨#[58]⟩ : ByteArray)).size + t145.size ≤ 9223372036854775807 then (if ((((rd_T58 x0 x4).f0) ++ (⟨#[58]⟩ : ByteArray)) ++ t145).size + 1 ≤ 9223372036854775807 then ((spec_l01NText.f k (([(rd_T58 x0 x4).f2, (rd_T58 x0 x4).f3, (rd_T58 x0 x4).f4, (rd_T58 x0 x4).f5] : List Nat))).bind fun t149 => (if (((((rd_T58 x0 x4).f0) ++ (⟨#[58]⟩ : ByteArray)) ++ t145) ++ (⟨#[58]⟩ : ByteArray)).size + t149.size ≤ 9223372036854775807 then (if (x3 ++ (⟨#[47]⟩ : ByteArray)).size + ((((((rd_T58 x0 x4).f0) ++ (⟨#[58]⟩ : ByteArray)) ++ t145) ++ (⟨#[58]⟩ : ByteArray)) ++ t149).size ≤ 9223372036854775807 then (spec_l08Sounds.l0 k x0 ((x3 ++ (⟨#[47]⟩ : ByteArray)) ++ ((((((rd_T58 x0 x4).f0) ++ (⟨#[58]⟩ : ByteArray)) ++ t145) ++ (⟨#[58]⟩ : ByteArray)) ++ t149)) (wrap64 (x4 + 1))) else (none)) else (none))) else (none)) else (none))) else (none)) else (none)) else (none)) else (if 0 ≤ x4 then (if ((rd_T58 x0 x4).f0).size + 1 ≤ 9223372036854775807 then ((spec_l01NText.f k ((rd_T58 x0 x4).f1)).bind fun t151 => (if (((rd_T58 x0 x4).f0) ++ (⟨#[58]⟩ : ByteArray)).size + t151.size ≤ 9223372036854775807 then (if ((((rd_T58 x0 x4).f0) ++ (⟨#[58]⟩ : ByteArray)) ++ t151).size + 1 ≤ 9223372036854775807 then ((spec_l01NText.f k (([(rd_T58 x0 x4).f2, (rd_T58 x0 x4).f3, (rd_T58 x0 x4).f4, (rd_T58 x0 x4).f5] : List Nat))).bind fun t155 => (if (((((rd_T58 x0 x4).f0) ++ (⟨#[58]⟩ : ByteArray)) ++ t151) ++ (⟨#[58]⟩ : ByteArray)).size + t155.size ≤ 9223372036854775807 then (if x3.size + ((((((rd_T58 x0 x4).f0) ++ (⟨#[58]⟩ : ByteArray)) ++ t151) ++ (⟨#[58]⟩ : ByteArray)) ++ t155).size ≤ 9223372036854775807 then (spec_l08Sounds.l0 k x0 (x3 ++ ((((((rd_T58 x0 x4).f0) ++ (⟨#[58]⟩ : ByteArray)) ++ t151) ++ (⟨#[58]⟩ : ByteArray)) ++ t155)) (wrap64 (x4 + 1))) else (none)) else (none))) else (none)) else (none))) else (none)) else (none))) else (some x3)
def spec_l08Sounds.f (k : Nat) (l0 : List (S58)) : Option (ByteArray) := if (l0.length : Int) = 0 then (some (⟨#[110, 111, 110, 101]⟩ : ByteArray)) else (spec_l08Sounds.l0 k l0 (⟨#[]⟩ : ByteArray) 0)
theorem spec_l08Sounds.mono_l : ∀ k, (∀ y0 y1 y2, LeO (spec_l08Sounds.l0 k y0 y1 y2) (spec_l08Sounds.l0 (k + 1) y0 y1 y2))
 | 0 => fun _ _ _ r h => by simp [spec_l08Sounds.l0] at h
 | k + 1 => by
  have ih0 := spec_l08Sounds.mono_l k
  ·intro y0 y1 y2
   unfold spec_l08Sounds.l0
   repeat' first
   | (with_reducible exact ih0 _ _ _)
   | (with_reducible exact spec_l01NText.mono _ _)
   | (with_reducible exact LeO.refl _)
   | (with_reducible exact LeO.none _)
   | (with_reducible refine LeO.ite ?_ ?_)
   | (with_reducible refine LeO.bind ?_ (fun _ => ?_))
   | exact ih0 _ _ _
   | exact spec_l01NText.mono _ _
   | exact LeO.none _
   | refine LeO.ite ?_ ?_
   | refine LeO.bind ?_ (fun _ => ?_)
theorem spec_l08Sounds.mono : ∀ a0 k, LeO (spec_l08Sounds.f k a0) (spec_l08Sounds.f (k + 1) a0) := by
 intro a0 k
 have ih0 := spec_l08Sounds.mono_l k
 unfold spec_l08Sounds.f
 repeat' first
   | (with_reducible exact ih0 _ _ _)
   | (with_reducible exact spec_l01NText.mono _ _)
   | (with_reducible exact LeO.refl _)
   | (with_reducible exact LeO.none _)
   | (with_reducible refine LeO.ite ?_ ?_)
   | (with_reducible refine LeO.bind ?_ (fun _ => ?_))
   | exact ih0 _ _ _
   | exact spec_l01NText.mono _ _
   | exact LeO.none _
   | refine LeO.ite ?_ ?_
   | refine LeO.bind ?_ (fun _ => ?_)
def spec_l08Sounds.T10 : Bool × List (List Nat × List Nat) := (true, [([], []), ([], []), ([1], [1]), ([2], [2]), ([3], [3]), ([4], [4]), ([], []), ([6], [6]), ([7], [7]), ([8], [8]), ([9], [9]), ([5, 10], [5, 10]), ([11], [11]), ([], []), ([13], [13]), ([14], [14]), ([15], [15]), ([], []), ([17], [17]), ([18], [18]), ([19], [19]), ([], []), ([21], [21]), ([22], [22]), ([23], [23]), ([], []), ([25], [25]), ([26], [26]), ([27], [27]), ([16, 20, 24, 28], [16, 20, 24, 28]), ([29, 10], [29]), ([12, 30], [12, 30]), ([0, 31], [0, 31]), ([32, 30, 0, 1, 2, 3, 4, 5, 6, 7, 8, 9, 10, 11, 12, 13, 14, 15, 16, 17, 18, 19, 20, 21, 22, 23, 24, 25, 26, 27, 28, 29, 30, 31, 32], [0, 32])])
def spec_l08Sounds.B10 : List Nat := [0, 0, 2, 6, 14, 30, 0, 64, 192, 448, 960, 2046, 4094, 0, 8192, 24576, 57344, 0, 131072, 393216, 917504, 0, 2097152, 6291456, 14680064, 0, 33554432, 100663296, 234881024, 536862720, 1073735616, 2147483646, 4294967295, 8589934591]
theorem spec_l08Sounds.tab10 : rtab .any (opsOf Tryd.f32 10) = spec_l08Sounds.T10 := by kernel_rfl
theorem spec_l08Sounds.bits10 : waitsOk spec_l08Sounds.T10.2 spec_l08Sounds.B10 = true := by kernel_rfl
set_option maxHeartbeats 8000000 in
set_option maxRecDepth 100000 in
theorem spec_l08Sounds.calls (k : Nat) (A0 : Option Addr) (c0 : Nat) (l0 : List (S58)) (r : ByteArray) (w : World) (hr0 : Kd.C k58 w A0 l0.length l0) (hc0 : l0.length ≤ c0) (h : spec_l08Sounds.f k l0 = some r) :
  Calls Tryd.prog 32 #[.slice A0 l0.length c0] w fun e w' => e = .returned (.string r) ∧ Below w.heap.size w w' := by
 have hu9 := Tryd.underlying9
 have hu37 := Tryd.underlying37
 have hu30 := Tryd.underlying30
 have HR0 := Aside0.mk hr0
 have HC0 := Aside0.mk hc0
 clear hr0 hc0
 have HB := Aside0.mk (Below.refl w.heap.size w)
 have H : (if (l0.length : Int) = 0 then (some (⟨#[110, 111, 110, 101]⟩ : ByteArray)) else (spec_l08Sounds.l0 k l0 (⟨#[]⟩ : ByteArray) 0)) = some r := h
 clear h
 by_cases c2 : (l0.length : Int) = 0
 ·rw [if_pos c2] at H
  have c2b0 : ((l0.length : Int) == 0) = true := beq_iff_eq.mpr c2
  have c2b1 : ((l0.length : Int) != 0) = false := bne_eq_false_iff_eq.mpr c2
  clear c2
  obtain rfl := Option.some.inj H
  go_enter Tryd.func32, Tryd.ntmps32
  go_wp2
  go_ret
  exact ⟨by first | rfl | (simp [errW_none, errW_some] <;> rfl) | (simp [*, errW_none, errW_some] <;> rfl), by repeat (first | (with_reducible first | exact HB.out | apply below_alloc | apply pw_below_drewN | apply below_drew1) | exact HB.out)⟩
 ·rw [if_neg c2] at H
  have c2b0 : ((l0.length : Int) == 0) = false := beq_eq_false_iff_ne.mpr c2
  have c2b1 : ((l0.length : Int) != 0) = true := bne_iff_ne.mpr c2
  have c2b2 : ¬ (l0 = []) := fun h_ => c2 (by rw [h_]; rfl)
  have H' := Aside0.mk H
  clear H
  go_enter Tryd.func32, Tryd.ntmps32
  go_wp2
  go_loopg [3, 4] k (fun kq v3 v4 w' => ∃ (x3_1 : ByteArray) (x4_1 : Int), v3 = .string x3_1 ∧ v4 = .int .i64 x4_1 ∧ Aside0 (spec_l08Sounds.l0 kq l0 x3_1 x4_1 = some r) ∧ Aside0 (kq ≤ k) ∧ Aside0 (Below w.heap.size w w'))
  case atStart => exact ⟨((⟨#[]⟩ : ByteArray)), (0), (by first | rfl | (simp; done) | (simp [*]; done)), (by first | rfl | (simp; done) | (simp [*]; done)), H', ⟨Nat.le_refl _⟩, ⟨by repeat (first | (with_reducible first | exact HB.out | apply below_alloc | apply pw_below_drewN | apply below_drew1) | exact HB.out)⟩⟩
  case round =>
   clear H'
   try clear c2
   try clear c2b0
   try clear c2b1
   try clear c2b2
   try clear p2
   obtain ⟨x3_1, x4_1, rfl, rfl, HA, HK1, HB⟩ := hrel
   cases gk with
   | zero => exact absurd HA.out (by simp [spec_l08Sounds.l0])
   | succ k1 =>
    have H := HA.out
    clear HA
    simp only [spec_l08Sounds.l0] at H
    by_cases c3 : x4_1 < (l0.length : Int)
    ·rw [if_pos c3] at H
     have c3b0 : decide (x4_1 < (l0.length : Int)) = true := decide_eq_true c3
     clear c3
     by_cases c4 : x4_1 > 0
     ·rw [if_pos c4] at H
      have c4b0 : decide (0 < x4_1) = true := decide_eq_true c4
      clear c4
      by_cases c5 : x3_1.size + 1 ≤ 9223372036854775807
      ·rw [if_pos c5] at H
       have c5b0 := eq_true c5
       have c5b1 : decide (x3_1.size + 1 ≤ 9223372036854775807) = true := decide_eq_true c5
       try have c5b2 : (9223372036854775807 < x3_1.size + 1) = False := eq_false (Nat.not_lt.2 c5)
       by_cases c6 : 0 ≤ x4_1
       ·rw [if_pos c6] at H
        have c6b0 : decide (0 ≤ x4_1) = true := decide_eq_true c6
        clear c6
        by_cases c7 : ((rd_T58 l0 x4_1).f0).size + 1 ≤ 9223372036854775807
        ·rw [if_pos c7] at H
         have c7b0 := eq_true c7
         have c7b1 : decide (((rd_T58 l0 x4_1).f0).size + 1 ≤ 9223372036854775807) = true := decide_eq_true c7
         try have c7b2 : (9223372036854775807 < ((rd_T58 l0 x4_1).f0).size + 1) = False := eq_false (Nat.not_lt.2 c7)
         replace H := Option.bind_eq_some_iff.mp H
         obtain ⟨t145, A80, H⟩ := H
         replace H : (if (((rd_T58 l0 x4_1).f0) ++ (⟨#[58]⟩ : ByteArray)).size + t145.size ≤ 9223372036854775807 then (if ((((rd_T58 l0 x4_1).f0) ++ (⟨#[58]⟩ : ByteArray)) ++ t145).size + 1 ≤ 9223372036854775807 then ((spec_l01NText.f k1 (([(rd_T58 l0 x4_1).f2, (rd_T58 l0 x4_1).f3, (rd_T58 l0 x4_1).f4, (rd_T58 l0 x4_1).f5] : List Nat))).bind fun t149 => (if (((((rd_T58 l0 x4_1).f0) ++ (⟨#[58]⟩ : ByteArray)) ++ t145) ++ (⟨#[58]⟩ : ByteArray)).size + t149.size ≤ 9223372036854775807 then (if (x3_1 ++ (⟨#[47]⟩ : ByteArray)).size + ((((((rd_T58 l0 x4_1).f0) ++ (⟨#[58]⟩ : ByteArray)) ++ t145) ++ (⟨#[58]⟩ : ByteArray)) ++ t149).size ≤ 9223372036854775807 then (spec_l08Sounds.l0 k1 l0 ((x3_1 ++ (⟨#[47]⟩ : ByteArray)) ++ ((((((rd_T58 l0 x4_1).f0) ++ (⟨#[58]⟩ : ByteArray)) ++ t145) ++ (⟨#[58]⟩ : ByteArray)) ++ t149)) (wrap64 (x4_1 + 1))) else (none)) else (none))) else (none)) else (none)) = some r := H
         have A8 := Aside0.mk A80
         clear A80
         by_cases c9 : (((rd_T58 l0 x4_1).f0) ++ (⟨#[58]⟩ : ByteArray)).size + t145.size ≤ 9223372036854775807
         ·rw [if_pos c9] at H
          have c9b0 := eq_true c9
          have c9b1 : decide ((((rd_T58 l0 x4_1).f0) ++ (⟨#[58]⟩ : ByteArray)).size + t145.size ≤ 9223372036854775807) = true := decide_eq_true c9
          try have c9b2 : (9223372036854775807 < (((rd_T58 l0 x4_1).f0) ++ (⟨#[58]⟩ : ByteArray)).size + t145.size) = False := eq_false (Nat.not_lt.2 c9)
          try have c9b3 : (9223372036854775807 < (((rd_T58 l0 x4_1).f0).size + 1) + t145.size) = False := eq_false (Nat.not_lt.2 (by have h_ := c9; (repeat rw [ByteArray.size_append] at h_); exact h_))
          by_cases c10 : ((((rd_T58 l0 x4_1).f0) ++ (⟨#[58]⟩ : ByteArray)) ++ t145).size + 1 ≤ 9223372036854775807
          ·rw [if_pos c10] at H
           have c10b0 := eq_true c10
           have c10b1 : decide (((((rd_T58 l0 x4_1).f0) ++ (⟨#[58]⟩ : ByteArray)) ++ t145).size + 1 ≤ 9223372036854775807) = true := decide_eq_true c10
           try have c10b2 : (9223372036854775807 < ((((rd_T58 l0 x4_1).f0) ++ (⟨#[58]⟩ : ByteArray)) ++ t145).size + 1) = False := eq_false (Nat.not_lt.2 c10)
           try have c10b3 : (9223372036854775807 < ((((rd_T58 l0 x4_1).f0).size + 1) + t145.size) + 1) = False := eq_false (Nat.not_lt.2 (by have h_ := c10; (repeat rw [ByteArray.size_append] at h_); exact h_))
           obtain ⟨y146, hy146⟩ : ∃ y_ : List Nat, y_ = (([(rd_T58 l0 x4_1).f2, (rd_T58 l0 x4_1).f3, (rd_T58 l0 x4_1).f4, (rd_T58 l0 x4_1).f5] : List Nat)) := ⟨_, rfl⟩
           replace H : ((spec_l01NText.f k1 y146).bind fun t149 => (if (((((rd_T58 l0 x4_1).f0) ++ (⟨#[58]⟩ : ByteArray)) ++ t145) ++ (⟨#[58]⟩ : ByteArray)).size + t149.size ≤ 9223372036854775807 then (if (x3_1 ++ (⟨#[47]⟩ : ByteArray)).size + ((((((rd_T58 l0 x4_1).f0) ++ (⟨#[58]⟩ : ByteArray)) ++ t145) ++ (⟨#[58]⟩ : ByteArray)) ++ t149).size ≤ 9223372036854775807 then (spec_l08Sounds.l0 k1 l0 ((x3_1 ++ (⟨#[47]⟩ : ByteArray)) ++ ((((((rd_T58 l0 x4_1).f0) ++ (⟨#[58]⟩ : ByteArray)) ++ t145) ++ (⟨#[58]⟩ : ByteArray)) ++ t149)) (wrap64 (x4_1 + 1))) else (none)) else (none))) = some r := by first | (rw [hy146]; with_reducible exact H) | (have H2_ := (Option.bind_some _ _).symm.trans H; rw [hy146]; with_reducible exact H2_) | (have H2_ := (Option.bind_some _ _).symm.trans H; with_reducible exact H2_) | with_reducible exact H | (rw [hy146]; exact H) | exact H
           have Ny146 := Aside0.mk hy146
           clear hy146
           replace H := Option.bind_eq_some_iff.mp H
           obtain ⟨t149, A110, H⟩ := H
           replace H : (if (((((rd_T58 l0 x4_1).f0) ++ (⟨#[58]⟩ : ByteArray)) ++ t145) ++ (⟨#[58]⟩ : ByteArray)).size + t149.size ≤ 9223372036854775807 then (if (x3_1 ++ (⟨#[47]⟩ : ByteArray)).size + ((((((rd_T58 l0 x4_1).f0) ++ (⟨#[58]⟩ : ByteArray)) ++ t145) ++ (⟨#[58]⟩ : ByteArray)) ++ t149).size ≤ 9223372036854775807 then (spec_l08Sounds.l0 k1 l0 ((x3_1 ++ (⟨#[47]⟩ : ByteArray)) ++ ((((((rd_T58 l0 x4_1).f0) ++ (⟨#[58]⟩ : ByteArray)) ++ t145) ++ (⟨#[58]⟩ : ByteArray)) ++ t149)) (wrap64 (x4_1 + 1))) else (none)) else (none)) = some r := H
           have A11 := Aside0.mk A110
           clear A110
           by_cases c12 : (((((rd_T58 l0 x4_1).f0) ++ (⟨#[58]⟩ : ByteArray)) ++ t145) ++ (⟨#[58]⟩ : ByteArray)).size + t149.size ≤ 9223372036854775807
           ·rw [if_pos c12] at H
            have c12b0 := eq_true c12
            have c12b1 : decide ((((((rd_T58 l0 x4_1).f0) ++ (⟨#[58]⟩ : ByteArray)) ++ t145) ++ (⟨#[58]⟩ : ByteArray)).size + t149.size ≤ 9223372036854775807) = true := decide_eq_true c12
            try have c12b2 : (9223372036854775807 < (((((rd_T58 l0 x4_1).f0) ++ (⟨#[58]⟩ : ByteArray)) ++ t145) ++ (⟨#[58]⟩ : ByteArray)).size + t149.size) = False := eq_false (Nat.not_lt.2 c12)
            try have c12b3 : (9223372036854775807 < (((((rd_T58 l0 x4_1).f0).size + 1) + t145.size) + 1) + t149.size) = False := eq_false (Nat.not_lt.2 (by have h_ := c12; (repeat rw [ByteArray.size_append] at h_); exact h_))
            by_cases c13 : (x3_1 ++ (⟨#[47]⟩ : ByteArray)).size + ((((((rd_T58 l0 x4_1).f0) ++ (⟨#[58]⟩ : ByteArray)) ++ t145) ++ (⟨#[58]⟩ : ByteArray)) ++ t149).size ≤ 9223372036854775807
            ·rw [if_pos c13] at H
             have c13b0 := eq_true c13
             have c13b1 : decide ((x3_1 ++ (⟨#[47]⟩ : ByteArray)).size + ((((((rd_T58 l0 x4_1).f0) ++ (⟨#[58]⟩ : ByteArray)) ++ t145) ++ (⟨#[58]⟩ : ByteArray)) ++ t149).size ≤ 9223372036854775807) = true := decide_eq_true c13
             try have c13b2 : (9223372036854775807 < (x3_1 ++ (⟨#[47]⟩ : ByteArray)).size + ((((((rd_T58 l0 x4_1).f0) ++ (⟨#[58]⟩ : ByteArray)) ++ t145) ++ (⟨#[58]⟩ : ByteArray)) ++ t149).size) = False := eq_false (Nat.not_lt.2 c13)
             try have c13b3 : (9223372036854775807 < (x3_1.size + 1) + ((((((rd_T58 l0 x4_1).f0).size + 1) + t145.size) + 1) + t149.size)) = False := eq_false (Nat.not_lt.2 (by have h_ := c13; (repeat rw [ByteArray.size_append] at h_); exact h_))
             have H' := Aside0.mk H
             clear H
             have p144 : 0 ≤ (x4_1 : Int) := of_decide_eq_true (by first | (with_reducible assumption) | assumption)
             have q144 : x4_1 < (l0.length : Int) := of_decide_eq_true (by first | (with_reducible assumption) | assumption)
             obtain ⟨ad144, A144_1, c144_1, e144, hx144_0, hx144_1, hx144_2, hx144_3, hx144_4, hx144_5, hl144_1, hi144_1⟩ := at_T58 HR0.out x4_1 p144 q144
             have hw144_5 := hx144_5
             have hw144_4 := hx144_4
             have hw144_3 := hx144_3
             have hw144_2 := hx144_2
             have hw144_1 := hx144_1
             have hw144_0 := hx144_0
             cases e144
             replace hx144_0 := (HB.out.cell (World.block_lt_of_cell? w _ hx144_0)).trans hx144_0
             replace hx144_1 := (HB.out.cell (World.block_lt_of_cell? w _ hx144_1)).trans hx144_1
             replace hx144_2 := (HB.out.cell (World.block_lt_of_cell? w _ hx144_2)).trans hx144_2
             replace hx144_3 := (HB.out.cell (World.block_lt_of_cell? w _ hx144_3)).trans hx144_3
             replace hx144_4 := (HB.out.cell (World.block_lt_of_cell? w _ hx144_4)).trans hx144_4
             replace hx144_5 := (HB.out.cell (World.block_lt_of_cell? w _ hx144_5)).trans hx144_5
             have HR144_1 := Aside0.mk hi144_1
             have HC144_1 := Aside0.mk hl144_1
             clear hi144_1 hl144_1
             replace p144 := eq_true p144
             replace q144 := eq_true q144
             try go_wp2
             have n0_ := Aside0.mk (below_drew1 HB.out)
             clear HB
             have HB := n0_
             clear n0_
             refine start_ (n := 34) (S := fun w' => True) (ds := []) spec_l08Sounds.z0 (by kernel_rfl) rfl rfl trivial (fun hHeld => ?_); refine with_tabW spec_l08Sounds.tab10 spec_l08Sounds.bits10 (fun HT_ HW_ => ?_)
             generalize wr.drew = w14 at HB hHeld ⊢
             refine pure_ (i := 0) (N := some 22) (v := ?_) (a' := ?_) spec_l08Sounds.z1 rfl rfl (any_of HT_.out (by kernel_rfl)) (fun _ _ _ h => h) (Or.inl ⟨by rfl, ?_⟩) ?_ ?_
             pv_
             refine pure_ (i := 1) (N := some 23) (v := ?_) (a' := ?_) spec_l08Sounds.z2 rfl rfl (any_of HT_.out (by kernel_rfl)) (fun _ _ _ h => h) (Or.inl ⟨by rfl, ?_⟩) ?_ ?_
             pv_
             refine pure_ (i := 6) (N := some 28) (v := ?_) (a' := ?_) spec_l08Sounds.z3 rfl rfl (any_of HT_.out (by kernel_rfl)) (fun _ _ _ h => h) (Or.inl ⟨by rfl, ?_⟩) ?_ ?_
             pv_
             refine pure_ (i := 13) (N := some 35) (v := ?_) (a' := ?_) spec_l08Sounds.z4 rfl rfl (any_of HT_.out (by kernel_rfl)) (fun _ _ _ h => h) (Or.inl ⟨by rfl, ?_⟩) ?_ ?_
             pv_
             refine pure_ (i := 17) (N := some 39) (v := ?_) (a' := ?_) spec_l08Sounds.z5 rfl rfl (any_of HT_.out (by kernel_rfl)) (fun _ _ _ h => h) (Or.inl ⟨by rfl, ?_⟩) ?_ ?_
             pv_
             refine pure_ (i := 21) (N := some 43) (v := ?_) (a' := ?_) spec_l08Sounds.z6 rfl rfl (any_of HT_.out (by kernel_rfl)) (fun _ _ _ h => h) (Or.inl ⟨by rfl, ?_⟩) ?_ ?_
             pv_
             refine pure_ (i := 25) (N := some 47) (v := ?_) (a' := ?_) spec_l08Sounds.z7 rfl rfl (any_of HT_.out (by kernel_rfl)) (fun _ _ _ h => h) (Or.inl ⟨by rfl, ?_⟩) ?_ ?_
             pv_
             refine inv_at [2, 3, 4, 5, 7, 8, 9, 10, 11, 12, 14, 15, 16, 18, 19, 20, 22, 23, 24, 26, 27, 28, 29, 30, 31, 32, 33] (fun a0_ b a w' => ∃ (v147 : Value), a = putSel a0_ b [(2, 24, .pointer (some (ad144.add ((x4_1).toNat * 6)))), (3, 25, .pointer (some (ad144.add ((x4_1).toNat * 6)))), (4, 26, .string ((rd_T58 l0 x4_1).f0)), (5, 27, .string (((rd_T58 l0 x4_1).f0) ++ (⟨#[58]⟩ : ByteArray))), (7, 29, .pointer (some (ad144.add ((x4_1).toNat * 6)))), (8, 30, .pointer (some ⟨(ad144.add ((x4_1).toNat * 6)).block, (ad144.add ((x4_1).toNat * 6)).off + 1, none⟩)), (9, 31, .slice A144_1 ((rd_T58 l0 x4_1).f1).length c144_1), (10, 32, .string t145), (11, 33, .string ((((rd_T58 l0 x4_1).f0) ++ (⟨#[58]⟩ : ByteArray)) ++ t145)), (12, 34, .string (((((rd_T58 l0 x4_1).f0) ++ (⟨#[58]⟩ : ByteArray)) ++ t145) ++ (⟨#[58]⟩ : ByteArray))), (14, 36, .pointer (some (ad144.add ((x4_1).toNat * 6)))), (15, 37, .pointer (some ⟨(ad144.add ((x4_1).toNat * 6)).block, (ad144.add ((x4_1).toNat * 6)).off + 2, none⟩)), (16, 38, .float .f32 ((rd_T58 l0 x4_1).f2)), (18, 40, .pointer (some (ad144.add ((x4_1).toNat * 6)))), (19, 41, .pointer (some ⟨(ad144.add ((x4_1).toNat * 6)).block, (ad144.add ((x4_1).toNat * 6)).off + 3, none⟩)), (20, 42, .float .f32 ((rd_T58 l0 x4_1).f3)), (22, 44, .pointer (some (ad144.add ((x4_1).toNat * 6)))), (23, 45, .pointer (some ⟨(ad144.add ((x4_1).toNat * 6)).block, (ad144.add ((x4_1).toNat * 6)).off + 4, none⟩)), (24, 46, .float .f32 ((rd_T58 l0 x4_1).f4)), (26, 48, .pointer (some (ad144.add ((x4_1).toNat * 6)))), (27, 49, .pointer (some ⟨(ad144.add ((x4_1).toNat * 6)).block, (ad144.add ((x4_1).toNat * 6)).off + 5, none⟩)), (28, 50, .float .f32 ((rd_T58 l0 x4_1).f5)), (29, 51, v147), (30, 52, .string t149), (31, 53, .string ((((((rd_T58 l0 x4_1).f0) ++ (⟨#[58]⟩ : ByteArray)) ++ t145) ++ (⟨#[58]⟩ : ByteArray)) ++ t149)), (32, 54, .string ((x3_1 ++ (⟨#[47]⟩ : ByteArray)) ++ ((((((rd_T58 l0 x4_1).f0) ++ (⟨#[58]⟩ : ByteArray)) ++ t145) ++ (⟨#[58]⟩ : ByteArray)) ++ t149))), (33, 3, .string ((x3_1 ++ (⟨#[47]⟩ : ByteArray)) ++ ((((((rd_T58 l0 x4_1).f0) ++ (⟨#[58]⟩ : ByteArray)) ++ t145) ++ (⟨#[58]⟩ : ByteArray)) ++ t149)))] ∧ (Below w.heap.size w w') ∧ (b 29 = true → Kd.R (Kd.float .f32) 30 w' w.heap.size (fun _ => True) v147 y146)) HT_.out HW_.out (by kernel_rfl) (by kernel_rfl) ?_ ?_ ?_
             ·exact ⟨.bool false, by simp only [putSel, Bool.false_eq_true, if_false], HB.out, fun h_ => absurd h_ (by decide)⟩
             ·skip
              clear HB
              refine steps_cons ?_ ?_
              ·rintro b a w' ⟨v147, ha, Q_HB, Q_HO148⟩ hb_ hon hoff
               refine ⟨_, rfl, fun K hK => ?_⟩
               have e23 : a.tmps[23]? = some (.pointer (some (ad144.add ((x4_1).toNat * 6)))) := by rw [ha]; exact (putSel_off rfl).trans rfl
               replace ha := Aside0.mk ha
               have HB := Aside0.mk Q_HB
               refine value_ (w1 := w') (v := .pointer (some (ad144.add ((x4_1).toNat * 6)))) (by rfl) rfl ?_ ?_
               ·go_simp
                (try simp only [i64_w])
                try rfl
               refine hK.out _ _ ⟨v147, (by rw [ha.out]; exact putSel_upk 0 hb_ rfl rfl rfl), Q_HB, Q_HO148⟩
              refine steps_cons ?_ ?_
              ·rintro b a w' ⟨v147, ha, Q_HB, Q_HO148⟩ hb_ hon hoff
               refine ⟨_, rfl, fun K hK => ?_⟩
               have e24 : a.tmps[24]? = some (.pointer (some (ad144.add ((x4_1).toNat * 6)))) := by rw [ha]; exact putSel_on (e := (2, 24, .pointer (some (ad144.add ((x4_1).toNat * 6))))) 0 rfl rfl (hon 2 (by kernel_rfl)) rfl
               replace ha := Aside0.mk ha
               have HB := Aside0.mk Q_HB
               refine value_ (w1 := w') (v := .pointer (some (ad144.add ((x4_1).toNat * 6)))) (by rfl) rfl ?_ ?_
               ·go_simp
                (try simp only [i64_w])
                try rfl
               refine hK.out _ _ ⟨v147, (by rw [ha.out]; exact putSel_upk 1 hb_ rfl rfl rfl), Q_HB, Q_HO148⟩
              refine steps_cons ?_ ?_
              ·rintro b a w' ⟨v147, ha, Q_HB, Q_HO148⟩ hb_ hon hoff
               refine ⟨_, rfl, fun K hK => ?_⟩
               have e25 : a.tmps[25]? = some (.pointer (some (ad144.add ((x4_1).toNat * 6)))) := by rw [ha]; exact putSel_on (e := (3, 25, .pointer (some (ad144.add ((x4_1).toNat * 6))))) 1 rfl rfl (hon 3 (by kernel_rfl)) rfl
               replace ha := Aside0.mk ha
               have HB := Aside0.mk Q_HB
               have hs0_ : w'.cell? (ad144.add ((x4_1).toNat * 6)) = some (.string ((rd_T58 l0 x4_1).f0)) := (cu_ HB.out hw144_0)
               have hs1_ : w'.cell? ⟨(ad144.add ((x4_1).toNat * 6)).block, (ad144.add ((x4_1).toNat * 6)).off + 1, none⟩ = some (.slice A144_1 ((rd_T58 l0 x4_1).f1).length c144_1) := (cu_ HB.out hw144_1)
               have hs2_ : w'.cell? ⟨(ad144.add ((x4_1).toNat * 6)).block, (ad144.add ((x4_1).toNat * 6)).off + 2, none⟩ = some (.float .f32 ((rd_T58 l0 x4_1).f2)) := (cu_ HB.out hw144_2)
               have hs3_ : w'.cell? ⟨(ad144.add ((x4_1).toNat * 6)).block, (ad144.add ((x4_1).toNat * 6)).off + 3, none⟩ = some (.float .f32 ((rd_T58 l0 x4_1).f3)) := (cu_ HB.out hw144_3)
               have hs4_ : w'.cell? ⟨(ad144.add ((x4_1).toNat * 6)).block, (ad144.add ((x4_1).toNat * 6)).off + 4, none⟩ = some (.float .f32 ((rd_T58 l0 x4_1).f4)) := (cu_ HB.out hw144_4)
               have hs5_ : w'.cell? ⟨(ad144.add ((x4_1).toNat * 6)).block, (ad144.add ((x4_1).toNat * 6)).off + 5, none⟩ = some (.float .f32 ((rd_T58 l0 x4_1).f5)) := (cu_ HB.out hw144_5)
               refine value_ (w1 := w') (v := .string ((rd_T58 l0 x4_1).f0)) (by rfl) rfl ?_ ?_
               ·go_simp
                (try simp only [i64_w])
                try rfl
               refine hK.out _ _ ⟨v147, (by rw [ha.out]; exact putSel_upk 2 hb_ rfl rfl rfl), Q_HB, Q_HO148⟩
              refine steps_cons ?_ ?_
              ·rintro b a w' ⟨v147, ha, Q_HB, Q_HO148⟩ hb_ hon hoff
               refine ⟨_, rfl, fun K hK => ?_⟩
               have e26 : a.tmps[26]? = some (.string ((rd_T58 l0 x4_1).f0)) := by rw [ha]; exact putSel_on (e := (4, 26, .string ((rd_T58 l0 x4_1).f0))) 2 rfl rfl (hon 4 (by kernel_rfl)) rfl
               replace ha := Aside0.mk ha
               have HB := Aside0.mk Q_HB
               refine value_ (w1 := w') (v := .string (((rd_T58 l0 x4_1).f0) ++ (⟨#[58]⟩ : ByteArray))) (by rfl) rfl ?_ ?_
               ·go_simp
                (try simp only [i64_w])
                try rfl
               refine hK.out _ _ ⟨v147, (by rw [ha.out]; exact putSel_upk 3 hb_ rfl rfl rfl), Q_HB, Q_HO148⟩
              refine steps_cons ?_ ?_
              ·rintro b a w' ⟨v147, ha, Q_HB, Q_HO148⟩ hb_ hon hoff
               refine ⟨_, rfl, fun K hK => ?_⟩
               have e28 : a.tmps[28]? = some (.pointer (some (ad144.add ((x4_1).toNat * 6)))) := by rw [ha]; exact (putSel_off rfl).trans rfl
               replace ha := Aside0.mk ha
               have HB := Aside0.mk Q_HB
               refine value_ (w1 := w') (v := .pointer (some (ad144.add ((x4_1).toNat * 6)))) (by rfl) rfl ?_ ?_
               ·go_simp
                (try simp only [i64_w])
                try rfl
               refine hK.out _ _ ⟨v147, (by rw [ha.out]; exact putSel_upk 4 hb_ rfl rfl rfl), Q_HB, Q_HO148⟩
              refine steps_cons ?_ ?_
              ·rintro b a w' ⟨v147, ha, Q_HB, Q_HO148⟩ hb_ hon hoff
               refine ⟨_, rfl, fun K hK => ?_⟩
               have e29 : a.tmps[29]? = some (.pointer (some (ad144.add ((x4_1).toNat * 6)))) := by rw [ha]; exact putSel_on (e := (7, 29, .pointer (some (ad144.add ((x4_1).toNat * 6))))) 4 rfl rfl (hon 7 (by kernel_rfl)) rfl
               replace ha := Aside0.mk ha
               have HB := Aside0.mk Q_HB
               refine value_ (w1 := w') (v := .pointer (some ⟨(ad144.add ((x4_1).toNat * 6)).block, (ad144.add ((x4_1).toNat * 6)).off + 1, none⟩)) (by rfl) rfl ?_ ?_
               ·go_simp
                (try simp only [i64_w])
                try rfl
               refine hK.out _ _ ⟨v147, (by rw [ha.out]; exact putSel_upk 5 hb_ rfl rfl rfl), Q_HB, Q_HO148⟩
              refine steps_cons ?_ ?_
              ·rintro b a w' ⟨v147, ha, Q_HB, Q_HO148⟩ hb_ hon hoff
               refine ⟨_, rfl, fun K hK => ?_⟩
               have e30 : a.tmps[30]? = some (.pointer (some ⟨(ad144.add ((x4_1).toNat * 6)).block, (ad144.add ((x4_1).toNat * 6)).off + 1, none⟩)) := by rw [ha]; exact putSel_on (e := (8, 30, .pointer (some ⟨(ad144.add ((x4_1).toNat * 6)).block, (ad144.add ((x4_1).toNat * 6)).off + 1, none⟩))) 5 rfl rfl (hon 8 (by kernel_rfl)) rfl
               replace ha := Aside0.mk ha
               have HB := Aside0.mk Q_HB
               have hs0_ : w'.cell? (ad144.add ((x4_1).toNat * 6)) = some (.string ((rd_T58 l0 x4_1).f0)) := (cu_ HB.out hw144_0)
               have hs1_ : w'.cell? ⟨(ad144.add ((x4_1).toNat * 6)).block, (ad144.add ((x4_1).toNat * 6)).off + 1, none⟩ = some (.slice A144_1 ((rd_T58 l0 x4_1).f1).length c144_1) := (cu_ HB.out hw144_1)
               have hs2_ : w'.cell? ⟨(ad144.add ((x4_1).toNat * 6)).block, (ad144.add ((x4_1).toNat * 6)).off + 2, none⟩ = some (.float .f32 ((rd_T58 l0 x4_1).f2)) := (cu_ HB.out hw144_2)
               have hs3_ : w'.cell? ⟨(ad144.add ((x4_1).toNat * 6)).block, (ad144.add ((x4_1).toNat * 6)).off + 3, none⟩ = some (.float .f32 ((rd_T58 l0 x4_1).f3)) := (cu_ HB.out hw144_3)
               have hs4_ : w'.cell? ⟨(ad144.add ((x4_1).toNat * 6)).block, (ad144.add ((x4_1).toNat * 6)).off + 4, none⟩ = some (.float .f32 ((rd_T58 l0 x4_1).f4)) := (cu_ HB.out hw144_4)
               have hs5_ : w'.cell? ⟨(ad144.add ((x4_1).toNat * 6)).block, (ad144.add ((x4_1).toNat * 6)).off + 5, none⟩ = some (.float .f32 ((rd_T58 l0 x4_1).f5)) := (cu_ HB.out hw144_5)
               refine value_ (w1 := w') (v := .slice A144_1 ((rd_T58 l0 x4_1).f1).length c144_1) (by rfl) rfl ?_ ?_
               ·go_simp
                (try simp only [i64_w])
                try rfl
               refine hK.out _ _ ⟨v147, (by rw [ha.out]; exact putSel_upk 6 hb_ rfl rfl rfl), Q_HB, Q_HO148⟩
              refine steps_cons ?_ ?_
              ·rintro b a w' ⟨v147, ha, Q_HB, Q_HO148⟩ hb_ hon hoff
               refine ⟨_, rfl, fun K hK => ?_⟩
               have e31 : a.tmps[31]? = some (.slice A144_1 ((rd_T58 l0 x4_1).f1).length c144_1) := by rw [ha]; exact putSel_on (e := (9, 31, .slice A144_1 ((rd_T58 l0 x4_1).f1).length c144_1)) 6 rfl rfl (hon 9 (by kernel_rfl)) rfl
               replace ha := Aside0.mk ha
               have HB := Aside0.mk Q_HB
               refine goes_ Tryd.func55 (by kernel_rfl) rfl #[.slice A144_1 ((rd_T58 l0 x4_1).f1).length c144_1] (by rfl) rfl rfl (by first | (simp only [List.map_toArray, List.map_cons, List.map_nil, Act.eval, Array.getD_eq_getD_getElem?, Option.getD_some, e31]; done) | (simp only [List.map_toArray, List.map_cons, List.map_nil, Act.eval, Array.getD_eq_getD_getElem?, Option.getD_some, e31]; rfl)) ?_
               with_reducible refine (spec_l01NText.calls k1 _ _ ((rd_T58 l0 x4_1).f1) t145 _ ?side1 ?side2 A8.out).mono ?_
               (case side1 => repeat (first | exact (Kd.C_below HR144_1.out HB.out) | (with_reducible refine Kd.C_alloc ?_ _) | (with_reducible refine Kd.C_drewN ?_ _) | (with_reducible refine Kd.C_drew ?_)))
               (case side2 => exact HC144_1.out)
               rintro e w15 ⟨rfl, hb⟩
               refine ⟨_, rfl, ?_⟩
               have n0_ := Aside0.mk (below_step (by repeat (first | (with_reducible first | exact HB.out | apply below_alloc | apply pw_below_drewN | apply below_drew1) | exact HB.out)) hb)
               have z_HO148 := fun (h0_ : b 29 = true) => (show Kd.R (Kd.float .f32) 30 w15 w.heap.size (fun _ => True) v147 y146 from by first | exact (Kd.R_below (by (with_reducible repeat (first | apply Kd.R_alloc | apply Kd.R_drewN | apply Kd.R_drew)); exact (Q_HO148 h0_)) hb) | exact Kd.R_mono (Kd.R_below (by (with_reducible repeat (first | apply Kd.R_alloc | apply Kd.R_drewN | apply Kd.R_drew)); exact (Q_HO148 h0_)) hb) (fun _ h_ => by first | trivial | exact h_ | exact h_.1))
               clear HB
               have HB := n0_
               clear n0_
               (try clear hb)
               (try clear hb2)
               (try clear hk)
               (try clear hi)
               refine hK.out _ _ ⟨v147, (by rw [ha.out]; exact putSel_upk 7 hb_ rfl rfl rfl), (by repeat (first | (with_reducible first | exact HB.out | apply below_alloc | apply pw_below_drewN | apply below_drew1) | exact HB.out)), z_HO148⟩
              refine steps_cons ?_ ?_
              ·rintro b a w' ⟨v147, ha, Q_HB, Q_HO148⟩ hb_ hon hoff
               refine ⟨_, rfl, fun K hK => ?_⟩
               have e27 : a.tmps[27]? = some (.string (((rd_T58 l0 x4_1).f0) ++ (⟨#[58]⟩ : ByteArray))) := by rw [ha]; exact putSel_on (e := (5, 27, .string (((rd_T58 l0 x4_1).f0) ++ (⟨#[58]⟩ : ByteArray)))) 3 rfl rfl (hon 5 (by kernel_rfl)) rfl
               have e32 : a.tmps[32]? = some (.string t145) := by rw [ha]; exact putSel_on (e := (10, 32, .string t145)) 7 rfl rfl (hon 10 (by kernel_rfl)) rfl
               replace ha := Aside0.mk ha
               have HB := Aside0.mk Q_HB
               refine value_ (w1 := w') (v := .string ((((rd_T58 l0 x4_1).f0) ++ (⟨#[58]⟩ : ByteArray)) ++ t145)) (by rfl) rfl ?_ ?_
               ·go_simp
                (try simp only [i64_w])
                try rfl
               refine hK.out _ _ ⟨v147, (by rw [ha.out]; exact putSel_upk 8 hb_ rfl rfl rfl), Q_HB, Q_HO148⟩
              refine steps_cons ?_ ?_
              ·rintro b a w' ⟨v147, ha, Q_HB, Q_HO148⟩ hb_ hon hoff
               refine ⟨_, rfl, fun K hK => ?_⟩
               have e33 : a.tmps[33]? = some (.string ((((rd_T58 l0 x4_1).f0) ++ (⟨#[58]⟩ : ByteArray)) ++ t145)) := by rw [ha]; exact putSel_on (e := (11, 33, .string ((((rd_T58 l0 x4_1).f0) ++ (⟨#[58]⟩ : ByteArray)) ++ t145))) 8 rfl rfl (hon 11 (by kernel_rfl)) rfl
               replace ha := Aside0.mk ha
               have HB := Aside0.mk Q_HB
               refine value_ (w1 := w') (v := .string (((((rd_T58 l0 x4_1).f0) ++ (⟨#[58]⟩ : ByteArray)) ++ t145) ++ (⟨#[58]⟩ : ByteArray))) (by rfl) rfl ?_ ?_
               ·go_simp
                (try simp only [i64_w])
                try rfl
               refine hK.out _ _ ⟨v147, (by rw [ha.out]; exact putSel_upk 9 hb_ rfl rfl rfl), Q_HB, Q_HO148⟩
              refine steps_cons ?_ ?_
              ·rintro b a w' ⟨v147, ha, Q_HB, Q_HO148⟩ hb_ hon hoff
               refine ⟨_, rfl, fun K hK => ?_⟩
               have e35 : a.tmps[35]? = some (.pointer (some (ad144.add ((x4_1).toNat * 6)))) := by rw [ha]; exact (putSel_off rfl).trans rfl
               replace ha := Aside0.mk ha
               have HB := Aside0.mk Q_HB
               refine value_ (w1 := w') (v := .pointer (some (ad144.add ((x4_1).toNat * 6)))) (by rfl) rfl ?_ ?_
               ·go_simp
                (try simp only [i64_w])
                try rfl
               refine hK.out _ _ ⟨v147, (by rw [ha.out]; exact putSel_upk 10 hb_ rfl rfl rfl), Q_HB, fun h0_ => absurd ((hoff 29 (by kernel_rfl)).symm.trans h0_) (by decide)⟩
              refine steps_cons ?_ ?_
              ·rintro b a w' ⟨v147, ha, Q_HB, Q_HO148⟩ hb_ hon hoff
               refine ⟨_, rfl, fun K hK => ?_⟩
               have e36 : a.tmps[36]? = some (.pointer (some (ad144.add ((x4_1).toNat * 6)))) := by rw [ha]; exact putSel_on (e := (14, 36, .pointer (some (ad144.add ((x4_1).toNat * 6))))) 10 rfl rfl (hon 14 (by kernel_rfl)) rfl
               replace ha := Aside0.mk ha
               have HB := Aside0.mk Q_HB
               refine value_ (w1 := w') (v := .pointer (some ⟨(ad144.add ((x4_1).toNat * 6)).block, (ad144.add ((x4_1).toNat * 6)).off + 2, none⟩)) (by rfl) rfl ?_ ?_
               ·go_simp
                (try simp only [i64_w])
                try rfl
               refine hK.out _ _ ⟨v147, (by rw [ha.out]; exact putSel_upk 11 hb_ rfl rfl rfl), Q_HB, fun h0_ => absurd ((hoff 29 (by kernel_rfl)).symm.trans h0_) (by decide)⟩
              refine steps_cons ?_ ?_
              ·rintro b a w' ⟨v147, ha, Q_HB, Q_HO148⟩ hb_ hon hoff
               refine ⟨_, rfl, fun K hK => ?_⟩
               have e37 : a.tmps[37]? = some (.pointer (some ⟨(ad144.add ((x4_1).toNat * 6)).block, (ad144.add ((x4_1).toNat * 6)).off + 2, none⟩)) := by rw [ha]; exact putSel_on (e := (15, 37, .pointer (some ⟨(ad144.add ((x4_1).toNat * 6)).block, (ad144.add ((x4_1).toNat * 6)).off + 2, none⟩))) 11 rfl rfl (hon 15 (by kernel_rfl)) rfl
               replace ha := Aside0.mk ha
               have HB := Aside0.mk Q_HB
               have hs0_ : w'.cell? (ad144.add ((x4_1).toNat * 6)) = some (.string ((rd_T58 l0 x4_1).f0)) := (cu_ HB.out hw144_0)
               have hs1_ : w'.cell? ⟨(ad144.add ((x4_1).toNat * 6)).block, (ad144.add ((x4_1).toNat * 6)).off + 1, none⟩ = some (.slice A144_1 ((rd_T58 l0 x4_1).f1).length c144_1) := (cu_ HB.out hw144_1)
               have hs2_ : w'.cell? ⟨(ad144.add ((x4_1).toNat * 6)).block, (ad144.add ((x4_1).toNat * 6)).off + 2, none⟩ = some (.float .f32 ((rd_T58 l0 x4_1).f2)) := (cu_ HB.out hw144_2)
               have hs3_ : w'.cell? ⟨(ad144.add ((x4_1).toNat * 6)).block, (ad144.add ((x4_1).toNat * 6)).off + 3, none⟩ = some (.float .f32 ((rd_T58 l0 x4_1).f3)) := (cu_ HB.out hw144_3)
               have hs4_ : w'.cell? ⟨(ad144.add ((x4_1).toNat * 6)).block, (ad144.add ((x4_1).toNat * 6)).off + 4, none⟩ = some (.float .f32 ((rd_T58 l0 x4_1).f4)) := (cu_ HB.out hw144_4)
               have hs5_ : w'.cell? ⟨(ad144.add ((x4_1).toNat * 6)).block, (ad144.add ((x4_1).toNat * 6)).off + 5, none⟩ = some (.float .f32 ((rd_T58 l0 x4_1).f5)) := (cu_ HB.out hw144_5)
               refine value_ (w1 := w') (v := .float .f32 ((rd_T58 l0 x4_1).f2)) (by rfl) rfl ?_ ?_
               ·go_simp
                (try simp only [i64_w])
                try rfl
               refine hK.out _ _ ⟨v147, (by rw [ha.out]; exact putSel_upk 12 hb_ rfl rfl rfl), Q_HB, fun h0_ => absurd ((hoff 29 (by kernel_rfl)).symm.trans h0_) (by decide)⟩
              refine steps_cons ?_ ?_
              ·rintro b a w' ⟨v147, ha, Q_HB, Q_HO148⟩ hb_ hon hoff
               refine ⟨_, rfl, fun K hK => ?_⟩
               have e39 : a.tmps[39]? = some (.pointer (some (ad144.add ((x4_1).toNat * 6)))) := by rw [ha]; exact (putSel_off rfl).trans rfl
               replace ha := Aside0.mk ha
               have HB := Aside0.mk Q_HB
               refine value_ (w1 := w') (v := .pointer (some (ad144.add ((x4_1).toNat * 6)))) (by rfl) rfl ?_ ?_
               ·go_simp
                (try simp only [i64_w])
                try rfl
               refine hK.out _ _ ⟨v147, (by rw [ha.out]; exact putSel_upk 13 hb_ rfl rfl rfl), Q_HB, fun h0_ => absurd ((hoff 29 (by kernel_rfl)).symm.trans h0_) (by decide)⟩
              refine steps_cons ?_ ?_
              ·rintro b a w' ⟨v147, ha, Q_HB, Q_HO148⟩ hb_ hon hoff
               refine ⟨_, rfl, fun K hK => ?_⟩
               have e40 : a.tmps[40]? = some (.pointer (some (ad144.add ((x4_1).toNat * 6)))) := by rw [ha]; exact putSel_on (e := (18, 40, .pointer (some (ad144.add ((x4_1).toNat * 6))))) 13 rfl rfl (hon 18 (by kernel_rfl)) rfl
               replace ha := Aside0.mk ha
               have HB := Aside0.mk Q_HB
               refine value_ (w1 := w') (v := .pointer (some ⟨(ad144.add ((x4_1).toNat * 6)).block, (ad144.add ((x4_1).toNat * 6)).off + 3, none⟩)) (by rfl) rfl ?_ ?_
               ·go_simp
                (try simp only [i64_w])
                try rfl
               refine hK.out _ _ ⟨v147, (by rw [ha.out]; exact putSel_upk 14 hb_ rfl rfl rfl), Q_HB, fun h0_ => absurd ((hoff 29 (by kernel_rfl)).symm.trans h0_) (by decide)⟩
              refine steps_cons ?_ ?_
              ·rintro b a w' ⟨v147, ha, Q_HB, Q_HO148⟩ hb_ hon hoff
               refine ⟨_, rfl, fun K hK => ?_⟩
               have e41 : a.tmps[41]? = some (.pointer (some ⟨(ad144.add ((x4_1).toNat * 6)).block, (ad144.add ((x4_1).toNat * 6)).off + 3, none⟩)) := by rw [ha]; exact putSel_on (e := (19, 41, .pointer (some ⟨(ad144.add ((x4_1).toNat * 6)).block, (ad144.add ((x4_1).toNat * 6)).off + 3, none⟩))) 14 rfl rfl (hon 19 (by kernel_rfl)) rfl
               replace ha := Aside0.mk ha
               have HB := Aside0.mk Q_HB
               have hs0_ : w'.cell? (ad144.add ((x4_1).toNat * 6)) = some (.string ((rd_T58 l0 x4_1).f0)) := (cu_ HB.out hw144_0)
               have hs1_ : w'.cell? ⟨(ad144.add ((x4_1).toNat * 6)).block, (ad144.add ((x4_1).toNat * 6)).off + 1, none⟩ = some (.slice A144_1 ((rd_T58 l0 x4_1).f1).length c144_1) := (cu_ HB.out hw144_1)
               have hs2_ : w'.cell? ⟨(ad144.add ((x4_1).toNat * 6)).block, (ad144.add ((x4_1).toNat * 6)).off + 2, none⟩ = some (.float .f32 ((rd_T58 l0 x4_1).f2)) := (cu_ HB.out hw144_2)
               have hs3_ : w'.cell? ⟨(ad144.add ((x4_1).toNat * 6)).block, (ad144.add ((x4_1).toNat * 6)).off + 3, none⟩ = some (.float .f32 ((rd_T58 l0 x4_1).f3)) := (cu_ HB.out hw144_3)
               have hs4_ : w'.cell? ⟨(ad144.add ((x4_1).toNat * 6)).block, (ad144.add ((x4_1).toNat * 6)).off + 4, none⟩ = some (.float .f32 ((rd_T58 l0 x4_1).f4)) := (cu_ HB.out hw144_4)
               have hs5_ : w'.cell? ⟨(ad144.add ((x4_1).toNat * 6)).block, (ad144.add ((x4_1).toNat * 6)).off + 5, none⟩ = some (.float .f32 ((rd_T58 l0 x4_1).f5)) := (cu_ HB.out hw144_5)
               refine value_ (w1 := w') (v := .float .f32 ((rd_T58 l0 x4_1).f3)) (by rfl) rfl ?_ ?_
               ·go_simp
                (try simp only [i64_w])
                try rfl
               refine hK.out _ _ ⟨v147, (by rw [ha.out]; exact putSel_upk 15 hb_ rfl rfl rfl), Q_HB, fun h0_ => absurd ((hoff 29 (by kernel_rfl)).symm.trans h0_) (by decide)⟩
              refine steps_cons ?_ ?_
              ·rintro b a w' ⟨v147, ha, Q_HB, Q_HO148⟩ hb_ hon hoff
               refine ⟨_, rfl, fun K hK => ?_⟩
               have e43 : a.tmps[43]? = some (.pointer (some (ad144.add ((x4_1).toNat * 6)))) := by rw [ha]; exact (putSel_off rfl).trans rfl
               replace ha := Aside0.mk ha
               have HB := Aside0.mk Q_HB
               refine value_ (w1 := w') (v := .pointer (some (ad144.add ((x4_1).toNat * 6)))) (by rfl) rfl ?_ ?_
               ·go_simp
                (try simp only [i64_w])
                try rfl
               refine hK.out _ _ ⟨v147, (by rw [ha.out]; exact putSel_upk 16 hb_ rfl rfl rfl), Q_HB, fun h0_ => absurd ((hoff 29 (by kernel_rfl)).symm.trans h0_) (by decide)⟩
              refine steps_cons ?_ ?_
              ·rintro b a w' ⟨v147, ha, Q_HB, Q_HO148⟩ hb_ hon hoff
               refine ⟨_, rfl, fun K hK => ?_⟩
               have e44 : a.tmps[44]? = some (.pointer (some (ad144.add ((x4_1).toNat * 6)))) := by rw [ha]; exact putSel_on (e := (22, 44, .pointer (some (ad144.add ((x4_1).toNat * 6))))) 16 rfl rfl (hon 22 (by kernel_rfl)) rfl
               replace ha := Aside0.mk ha
               have HB := Aside0.mk Q_HB
               refine value_ (w1 := w') (v := .pointer (some ⟨(ad144.add ((x4_1).toNat * 6)).block, (ad144.add ((x4_1).toNat * 6)).off + 4, none⟩)) (by rfl) rfl ?_ ?_
               ·go_simp
                (try simp only [i64_w])
                try rfl
               refine hK.out _ _ ⟨v147, (by rw [ha.out]; exact putSel_upk 17 hb_ rfl rfl rfl), Q_HB, fun h0_ => absurd ((hoff 29 (by kernel_rfl)).symm.trans h0_) (by decide)⟩
              refine steps_cons ?_ ?_
              ·rintro b a w' ⟨v147, ha, Q_HB, Q_HO148⟩ hb_ hon hoff
               refine ⟨_, rfl, fun K hK => ?_⟩
               have e45 : a.tmps[45]? = some (.pointer (some ⟨(ad144.add ((x4_1).toNat * 6)).block, (ad144.add ((x4_1).toNat * 6)).off + 4, none⟩)) := by rw [ha]; exact putSel_on (e := (23, 45, .pointer (some ⟨(ad144.add ((x4_1).toNat * 6)).block, (ad144.add ((x4_1).toNat * 6)).off + 4, none⟩))) 17 rfl rfl (hon 23 (by kernel_rfl)) rfl
               replace ha := Aside0.mk ha
               have HB := Aside0.mk Q_HB
               have hs0_ : w'.cell? (ad144.add ((x4_1).toNat * 6)) = some (.string ((rd_T58 l0 x4_1).f0)) := (cu_ HB.out hw144_0)
               have hs1_ : w'.cell? ⟨(ad144.add ((x4_1).toNat * 6)).block, (ad144.add ((x4_1).toNat * 6)).off + 1, none⟩ = some (.slice A144_1 ((rd_T58 l0 x4_1).f1).length c144_1) := (cu_ HB.out hw144_1)
               have hs2_ : w'.cell? ⟨(ad144.add ((x4_1).toNat * 6)).block, (ad144.add ((x4_1).toNat * 6)).off + 2, none⟩ = some (.float .f32 ((rd_T58 l0 x4_1).f2)) := (cu_ HB.out hw144_2)
               have hs3_ : w'.cell? ⟨(ad144.add ((x4_1).toNat * 6)).block, (ad144.add ((x4_1).toNat * 6)).off + 3, none⟩ = some (.float .f32 ((rd_T58 l0 x4_1).f3)) := (cu_ HB.out hw144_3)
               have hs4_ : w'.cell? ⟨(ad144.add ((x4_1).toNat * 6)).block, (ad144.add ((x4_1).toNat * 6)).off + 4, none⟩ = some (.float .f32 ((rd_T58 l0 x4_1).f4)) := (cu_ HB.out hw144_4)
               have hs5_ : w'.cell? ⟨(ad144.add ((x4_1).toNat * 6)).block, (ad144.add ((x4_1).toNat * 6)).off + 5, none⟩ = some (.float .f32 ((rd_T58 l0 x4_1).f5)) := (cu_ HB.out hw144_5)
               refine value_ (w1 := w') (v := .float .f32 ((rd_T58 l0 x4_1).f4)) (by rfl) rfl ?_ ?_
               ·go_simp
                (try simp only [i64_w])
                try rfl
               refine hK.out _ _ ⟨v147, (by rw [ha.out]; exact putSel_upk 18 hb_ rfl rfl rfl), Q_HB, fun h0_ => absurd ((hoff 29 (by kernel_rfl)).symm.trans h0_) (by decide)⟩
              refine steps_cons ?_ ?_
              ·rintro b a w' ⟨v147, ha, Q_HB, Q_HO148⟩ hb_ hon hoff
               refine ⟨_, rfl, fun K hK => ?_⟩
               have e47 : a.tmps[47]? = some (.pointer (some (ad144.add ((x4_1).toNat * 6)))) := by rw [ha]; exact (putSel_off rfl).trans rfl
               replace ha := Aside0.mk ha
               have HB := Aside0.mk Q_HB
               refine value_ (w1 := w') (v := .pointer (some (ad144.add ((x4_1).toNat * 6)))) (by rfl) rfl ?_ ?_
               ·go_simp
                (try simp only [i64_w])
                try rfl
               refine hK.out _ _ ⟨v147, (by rw [ha.out]; exact putSel_upk 19 hb_ rfl rfl rfl), Q_HB, fun h0_ => absurd ((hoff 29 (by kernel_rfl)).symm.trans h0_) (by decide)⟩
              refine steps_cons ?_ ?_
              ·rintro b a w' ⟨v147, ha, Q_HB, Q_HO148⟩ hb_ hon hoff
               refine ⟨_, rfl, fun K hK => ?_⟩
               have e48 : a.tmps[48]? = some (.pointer (some (ad144.add ((x4_1).toNat * 6)))) := by rw [ha]; exact putSel_on (e := (26, 48, .pointer (some (ad144.add ((x4_1).toNat * 6))))) 19 rfl rfl (hon 26 (by kernel_rfl)) rfl
               replace ha := Aside0.mk ha
               have HB := Aside0.mk Q_HB
               refine value_ (w1 := w') (v := .pointer (some ⟨(ad144.add ((x4_1).toNat * 6)).block, (ad144.add ((x4_1).toNat * 6)).off + 5, none⟩)) (by rfl) rfl ?_ ?_
               ·go_simp
                (try simp only [i64_w])
                try rfl
               refine hK.out _ _ ⟨v147, (by rw [ha.out]; exact putSel_upk 20 hb_ rfl rfl rfl), Q_HB, fun h0_ => absurd ((hoff 29 (by kernel_rfl)).symm.trans h0_) (by decide)⟩
              refine steps_cons ?_ ?_
              ·rintro b a w' ⟨v147, ha, Q_HB, Q_HO148⟩ hb_ hon hoff
               refine ⟨_, rfl, fun K hK => ?_⟩
               have e49 : a.tmps[49]? = some (.pointer (some ⟨(ad144.add ((x4_1).toNat * 6)).block, (ad144.add ((x4_1).toNat * 6)).off + 5, none⟩)) := by rw [ha]; exact putSel_on (e := (27, 49, .pointer (some ⟨(ad144.add ((x4_1).toNat * 6)).block, (ad144.add ((x4_1).toNat * 6)).off + 5, none⟩))) 20 rfl rfl (hon 27 (by kernel_rfl)) rfl
               replace ha := Aside0.mk ha
               have HB := Aside0.mk Q_HB
               have hs0_ : w'.cell? (ad144.add ((x4_1).toNat * 6)) = some (.string ((rd_T58 l0 x4_1).f0)) := (cu_ HB.out hw144_0)
               have hs1_ : w'.cell? ⟨(ad144.add ((x4_1).toNat * 6)).block, (ad144.add ((x4_1).toNat * 6)).off + 1, none⟩ = some (.slice A144_1 ((rd_T58 l0 x4_1).f1).length c144_1) := (cu_ HB.out hw144_1)
               have hs2_ : w'.cell? ⟨(ad144.add ((x4_1).toNat * 6)).block, (ad144.add ((x4_1).toNat * 6)).off + 2, none⟩ = some (.float .f32 ((rd_T58 l0 x4_1).f2)) := (cu_ HB.out hw144_2)
               have hs3_ : w'.cell? ⟨(ad144.add ((x4_1).toNat * 6)).block, (ad144.add ((x4_1).toNat * 6)).off + 3, none⟩ = some (.float .f32 ((rd_T58 l0 x4_1).f3)) := (cu_ HB.out hw144_3)
               have hs4_ : w'.cell? ⟨(ad144.add ((x4_1).toNat * 6)).block, (ad144.add ((x4_1).toNat * 6)).off + 4, none⟩ = some (.float .f32 ((rd_T58 l0 x4_1).f4)) := (cu_ HB.out hw144_4)
               have hs5_ : w'.cell? ⟨(ad144.add ((x4_1).toNat * 6)).block, (ad144.add ((x4_1).toNat * 6)).off + 5, none⟩ = some (.float .f32 ((rd_T58 l0 x4_1).f5)) := (cu_ HB.out hw144_5)
               refine value_ (w1 := w') (v := .float .f32 ((rd_T58 l0 x4_1).f5)) (by rfl) rfl ?_ ?_
               ·go_simp
                (try simp only [i64_w])
                try rfl
               refine hK.out _ _ ⟨v147, (by rw [ha.out]; exact putSel_upk 21 hb_ rfl rfl rfl), Q_HB, fun h0_ => absurd ((hoff 29 (by kernel_rfl)).symm.trans h0_) (by decide)⟩
              refine steps_cons ?_ ?_
              ·rintro b a w' ⟨v147, ha, Q_HB, Q_HO148⟩ hb_ hon hoff
               refine ⟨_, rfl, fun K hK => ?_⟩
               have e38 : a.tmps[38]? = some (.float .f32 ((rd_T58 l0 x4_1).f2)) := by rw [ha]; exact putSel_on (e := (16, 38, .float .f32 ((rd_T58 l0 x4_1).f2))) 12 rfl rfl (hon 16 (by kernel_rfl)) rfl
               have e42 : a.tmps[42]? = some (.float .f32 ((rd_T58 l0 x4_1).f3)) := by rw [ha]; exact putSel_on (e := (20, 42, .float .f32 ((rd_T58 l0 x4_1).f3))) 15 rfl rfl (hon 20 (by kernel_rfl)) rfl
               have e46 : a.tmps[46]? = some (.float .f32 ((rd_T58 l0 x4_1).f4)) := by rw [ha]; exact putSel_on (e := (24, 46, .float .f32 ((rd_T58 l0 x4_1).f4))) 18 rfl rfl (hon 24 (by kernel_rfl)) rfl
               have e50 : a.tmps[50]? = some (.float .f32 ((rd_T58 l0 x4_1).f5)) := by rw [ha]; exact putSel_on (e := (28, 50, .float .f32 ((rd_T58 l0 x4_1).f5))) 21 rfl rfl (hon 28 (by kernel_rfl)) rfl
               replace ha := Aside0.mk ha
               have HB := Aside0.mk Q_HB
               refine Kd.R_lit_step (Kd.float .f32) _ 30 ?hg (N := 51) ?hd (xs := ([(rd_T58 l0 x4_1).f2, (rd_T58 l0 x4_1).f3, (rd_T58 l0 x4_1).f4, (rd_T58 l0 x4_1).f5] : List Nat)) (inner := [.float .f32 ((rd_T58 l0 x4_1).f2), .float .f32 ((rd_T58 l0 x4_1).f3), .float .f32 ((rd_T58 l0 x4_1).f4), .float .f32 ((rd_T58 l0 x4_1).f5)]) (ok := fun _ => True) (okp := fun _ => True) ?hr ?hp (fun _ hk => hk) trivial (Below.refl _ _) (Nat.le_refl _) (by simp) ?_; (case hd => rfl); (case hg => rfl); (case hr => first | (go_simp; done) | (go_simp; rfl) | (simp (disch := omega) only [w64_id]; go_simp; done) | (go_simp; simp (disch := omega) only [w64_id]; done)); (case hp => exact (Reps.one (show Kd.M (Kd.float .f32) _ _ _ ((rd_T58 l0 x4_1).f2) [.float .f32 ((rd_T58 l0 x4_1).f2)] from rfl) (Reps.one (show Kd.M (Kd.float .f32) _ _ _ ((rd_T58 l0 x4_1).f3) [.float .f32 ((rd_T58 l0 x4_1).f3)] from rfl) (Reps.one (show Kd.M (Kd.float .f32) _ _ _ ((rd_T58 l0 x4_1).f4) [.float .f32 ((rd_T58 l0 x4_1).f4)] from rfl) (Reps.one (show Kd.M (Kd.float .f32) _ _ _ ((rd_T58 l0 x4_1).f5) [.float .f32 ((rd_T58 l0 x4_1).f5)] from rfl) (Reps.none _ _))))))
               intro v147 w15 ho16 hb hg_ hnew_
               clear hg_ hnew_
               (first | rw [← Ny146.out] at ho16 | (simp only [Int.reduceToNat] at ho16; rw [← Ny146.out] at ho16))
               have n0_ := Aside0.mk (Kd.R_lower ho16 (below_size (by repeat (first | (with_reducible first | exact HB.out | apply below_alloc | apply pw_below_drewN | apply below_drew1) | exact HB.out))))
               have n1_ := Aside0.mk (below_step (by repeat (first | (with_reducible first | exact HB.out | apply below_alloc | apply pw_below_drewN | apply below_drew1) | exact HB.out)) hb)
               clear HB
               have HO148 := n0_
               have HB := n1_
               clear n0_ n1_
               clear hb ho16
               refine hK.out _ _ ⟨v147, (by rw [ha.out]; exact putSel_upk 22 hb_ rfl rfl rfl), (by repeat (first | (with_reducible first | exact HB.out | apply below_alloc | apply pw_below_drewN | apply below_drew1) | exact HB.out)), fun _ => (by (with_reducible repeat (first | apply Kd.R_alloc | apply Kd.R_drewN | apply Kd.R_drew)); exact HO148.out)⟩
              refine steps_cons ?_ ?_
              ·rintro b a w' ⟨v147, ha, Q_HB, Q_HO148⟩ hb_ hon hoff
               refine ⟨_, rfl, fun K hK => ?_⟩
               have e51 : a.tmps[51]? = some (v147) := by rw [ha]; exact putSel_on (e := (29, 51, v147)) 22 rfl rfl (hon 29 (by kernel_rfl)) rfl
               replace ha := Aside0.mk ha
               have HB := Aside0.mk Q_HB
               have HO148 := Aside0.mk (Q_HO148 (hon 29 (by kernel_rfl)))
               obtain ⟨Ao19, co19, eo19⟩ := Kd.R_slice HO148.out
               (first | subst eo19 | (injection eo19 with f1_ f2_ f3_; have f4_ := f1_.symm; have f5_ := f3_.symm; clear f1_ f2_ f3_; subst f4_; subst f5_))
               refine goes_ Tryd.func55 (by kernel_rfl) rfl #[.slice Ao19 y146.length co19] (by rfl) rfl rfl (by first | (simp only [List.map_toArray, List.map_cons, List.map_nil, Act.eval, Array.getD_eq_getD_getElem?, Option.getD_some, e51]; done) | (simp only [List.map_toArray, List.map_cons, List.map_nil, Act.eval, Array.getD_eq_getD_getElem?, Option.getD_some, e51]; rfl)) ?_
               with_reducible refine (spec_l01NText.calls k1 _ _ y146 t149 _ ?side1 ?side2 A11.out).mono ?_
               (case side1 => repeat (first | exact (Kd.R_reads' HO148.out).2.2 | (with_reducible refine Kd.C_alloc ?_ _) | (with_reducible refine Kd.C_drewN ?_ _) | (with_reducible refine Kd.C_drew ?_)))
               (case side2 => exact (Kd.R_reads' HO148.out).2.1)
               rintro e w20 ⟨rfl, hb⟩
               refine ⟨_, rfl, ?_⟩
               have n0_ := Aside0.mk (Kd.R_below (by (with_reducible repeat (first | apply Kd.R_alloc | apply Kd.R_drewN | apply Kd.R_drew)); exact HO148.out) hb)
               have n1_ := Aside0.mk (below_step (by repeat (first | (with_reducible first | exact HB.out | apply below_alloc | apply pw_below_drewN | apply below_drew1) | exact HB.out)) hb)
               clear HO148
               clear HB
               have HO148 := n0_
               have HB := n1_
               clear n0_ n1_
               (try clear hb)
               (try clear hb2)
               (try clear hk)
               (try clear hi)
               refine hK.out _ _ ⟨.slice Ao19 y146.length co19, (by rw [ha.out]; exact putSel_upk 23 hb_ rfl rfl rfl), (by repeat (first | (with_reducible first | exact HB.out | apply below_alloc | apply pw_below_drewN | apply below_drew1) | exact HB.out)), fun _ => (by (with_reducible repeat (first | apply Kd.R_alloc | apply Kd.R_drewN | apply Kd.R_drew)); exact HO148.out)⟩
              refine steps_cons ?_ ?_
              ·rintro b a w' ⟨v147, ha, Q_HB, Q_HO148⟩ hb_ hon hoff
               refine ⟨_, rfl, fun K hK => ?_⟩
               have e34 : a.tmps[34]? = some (.string (((((rd_T58 l0 x4_1).f0) ++ (⟨#[58]⟩ : ByteArray)) ++ t145) ++ (⟨#[58]⟩ : ByteArray))) := by rw [ha]; exact putSel_on (e := (12, 34, .string (((((rd_T58 l0 x4_1).f0) ++ (⟨#[58]⟩ : ByteArray)) ++ t145) ++ (⟨#[58]⟩ : ByteArray)))) 9 rfl rfl (hon 12 (by kernel_rfl)) rfl
               have e52 : a.tmps[52]? = some (.string t149) := by rw [ha]; exact putSel_on (e := (30, 52, .string t149)) 23 rfl rfl (hon 30 (by kernel_rfl)) rfl
               replace ha := Aside0.mk ha
               have HB := Aside0.mk Q_HB
               have HO148 := Aside0.mk (Q_HO148 (hon 29 (by kernel_rfl)))
               refine value_ (w1 := w') (v := .string ((((((rd_T58 l0 x4_1).f0) ++ (⟨#[58]⟩ : ByteArray)) ++ t145) ++ (⟨#[58]⟩ : ByteArray)) ++ t149)) (by rfl) rfl ?_ ?_
               ·go_simp
                (try simp only [i64_w])
                try rfl
               refine hK.out _ _ ⟨v147, (by rw [ha.out]; exact putSel_upk 24 hb_ rfl rfl rfl), Q_HB, Q_HO148⟩
              refine steps_cons ?_ ?_
              ·rintro b a w' ⟨v147, ha, Q_HB, Q_HO148⟩ hb_ hon hoff
               refine ⟨_, rfl, fun K hK => ?_⟩
               have e22 : a.tmps[22]? = some (.string (x3_1 ++ (⟨#[47]⟩ : ByteArray))) := by rw [ha]; exact (putSel_off rfl).trans rfl
               have e53 : a.tmps[53]? = some (.string ((((((rd_T58 l0 x4_1).f0) ++ (⟨#[58]⟩ : ByteArray)) ++ t145) ++ (⟨#[58]⟩ : ByteArray)) ++ t149)) := by rw [ha]; exact putSel_on (e := (31, 53, .string ((((((rd_T58 l0 x4_1).f0) ++ (⟨#[58]⟩ : ByteArray)) ++ t145) ++ (⟨#[58]⟩ : ByteArray)) ++ t149))) 24 rfl rfl (hon 31 (by kernel_rfl)) rfl
               replace ha := Aside0.mk ha
               have HB := Aside0.mk Q_HB
               have HO148 := Aside0.mk (Q_HO148 (hon 29 (by kernel_rfl)))
               refine value_ (w1 := w') (v := .string ((x3_1 ++ (⟨#[47]⟩ : ByteArray)) ++ ((((((rd_T58 l0 x4_1).f0) ++ (⟨#[58]⟩ : ByteArray)) ++ t145) ++ (⟨#[58]⟩ : ByteArray)) ++ t149))) (by rfl) rfl ?_ ?_
               ·go_simp
                (try simp only [i64_w])
                try rfl
               refine hK.out _ _ ⟨v147, (by rw [ha.out]; exact putSel_upk 25 hb_ rfl rfl rfl), Q_HB, Q_HO148⟩
              refine steps_cons ?_ ?_
              ·rintro b a w' ⟨v147, ha, Q_HB, Q_HO148⟩ hb_ hon hoff
               refine ⟨_, rfl, fun K hK => ?_⟩
               have e54 : a.tmps[54]? = some (.string ((x3_1 ++ (⟨#[47]⟩ : ByteArray)) ++ ((((((rd_T58 l0 x4_1).f0) ++ (⟨#[58]⟩ : ByteArray)) ++ t145) ++ (⟨#[58]⟩ : ByteArray)) ++ t149))) := by rw [ha]; exact putSel_on (e := (32, 54, .string ((x3_1 ++ (⟨#[47]⟩ : ByteArray)) ++ ((((((rd_T58 l0 x4_1).f0) ++ (⟨#[58]⟩ : ByteArray)) ++ t145) ++ (⟨#[58]⟩ : ByteArray)) ++ t149)))) 25 rfl rfl (hon 32 (by kernel_rfl)) rfl
               replace ha := Aside0.mk ha
               have HB := Aside0.mk Q_HB
               have HO148 := Aside0.mk (Q_HO148 (hon 29 (by kernel_rfl)))
               refine value_ (w1 := w') (v := .string ((x3_1 ++ (⟨#[47]⟩ : ByteArray)) ++ ((((((rd_T58 l0 x4_1).f0) ++ (⟨#[58]⟩ : ByteArray)) ++ t145) ++ (⟨#[58]⟩ : ByteArray)) ++ t149))) (by rfl) rfl ?_ ?_
               ·go_simp
                (try simp only [i64_w])
                try rfl
               refine hK.out _ _ ⟨v147, (by rw [ha.out]; exact putSel_upk 26 hb_ rfl rfl rfl), Q_HB, Q_HO148⟩
              exact steps_nil
             rintro b a w20 hall ⟨v147, ha, Q_HB, Q_HO148⟩
             clear HB
             have hb2_ := hall 2 (by kernel_rfl)
             have hb3_ := hall 3 (by kernel_rfl)
             have hb4_ := hall 4 (by kernel_rfl)
             have hb5_ := hall 5 (by kernel_rfl)
             have hb7_ := hall 7 (by kernel_rfl)
             have hb8_ := hall 8 (by kernel_rfl)
             have hb9_ := hall 9 (by kernel_rfl)
             have hb10_ := hall 10 (by kernel_rfl)
             have hb11_ := hall 11 (by kernel_rfl)
             have hb12_ := hall 12 (by kernel_rfl)
             have hb14_ := hall 14 (by kernel_rfl)
             have hb15_ := hall 15 (by kernel_rfl)
             have hb16_ := hall 16 (by kernel_rfl)
             have hb18_ := hall 18 (by kernel_rfl)
             have hb19_ := hall 19 (by kernel_rfl)
             have hb20_ := hall 20 (by kernel_rfl)
             have hb22_ := hall 22 (by kernel_rfl)
             have hb23_ := hall 23 (by kernel_rfl)
             have hb24_ := hall 24 (by kernel_rfl)
             have hb26_ := hall 26 (by kernel_rfl)
             have hb27_ := hall 27 (by kernel_rfl)
             have hb28_ := hall 28 (by kernel_rfl)
             have hb29_ := hall 29 (by kernel_rfl)
             have hb30_ := hall 30 (by kernel_rfl)
             have hb31_ := hall 31 (by kernel_rfl)
             have hb32_ := hall 32 (by kernel_rfl)
             have hb33_ := hall 33 (by kernel_rfl)
             subst ha
             simp only [putSel, hb2_, hb3_, hb4_, hb5_, hb7_, hb8_, hb9_, hb10_, hb11_, hb12_, hb14_, hb15_, hb16_, hb18_, hb19_, hb20_, hb22_, hb23_, hb24_, hb26_, hb27_, hb28_, hb29_, hb30_, hb31_, hb32_, hb33_, if_true, Act.put, List.setIfInBounds_toArray, List.set_cons_zero, List.set_cons_succ]
             have HB := Aside0.mk Q_HB
             clear Q_HB
             have HO148 := Aside0.mk (Q_HO148 hb29_)
             clear Q_HO148
             clear hall hb2_ hb3_ hb4_ hb5_ hb7_ hb8_ hb9_ hb10_ hb11_ hb12_ hb14_ hb15_ hb16_ hb18_ hb19_ hb20_ hb22_ hb23_ hb24_ hb26_ hb27_ hb28_ hb29_ hb30_ hb31_ hb32_ hb33_
             try go_wp2
             go_roundg k1
             case measure => have := HK1.out; omega
             case rel => exact ⟨((x3_1 ++ (⟨#[47]⟩ : ByteArray)) ++ ((((((rd_T58 l0 x4_1).f0) ++ (⟨#[58]⟩ : ByteArray)) ++ t145) ++ (⟨#[58]⟩ : ByteArray)) ++ t149)), (wrap64 (x4_1 + 1)), (by first | rfl | (simp; done) | (simp [*]; done)), (by first | rfl | (simp; done) | (simp [*]; done)), H', ⟨by have := HK1.out; omega⟩, ⟨by repeat (first | (with_reducible first | exact HB.out | apply below_alloc | apply pw_below_drewN | apply below_drew1) | exact HB.out)⟩⟩
            ·rw [if_neg c13] at H
             exact absurd H (by simp)
           ·rw [if_neg c12] at H
            exact absurd H (by simp)
          ·rw [if_neg c10] at H
           exact absurd H (by simp)
         ·rw [if_neg c9] at H
          exact absurd H (by simp)
        ·rw [if_neg c7] at H
         exact absurd H (by simp)
       ·rw [if_neg c6] at H
        exact absurd H (by simp)
      ·rw [if_neg c5] at H
       exact absurd H (by simp)
     ·rw [if_neg c4] at H
      have c4b0 : decide (0 < x4_1) = false := decide_eq_false c4
      clear c4
      by_cases c21 : 0 ≤ x4_1
      ·rw [if_pos c21] at H
       have c21b0 : decide (0 ≤ x4_1) = true := decide_eq_true c21
       clear c21
       by_cases c22 : ((rd_T58 l0 x4_1).f0).size + 1 ≤ 9223372036854775807
       ·rw [if_pos c22] at H
        have c22b0 := eq_true c22
        have c22b1 : decide (((rd_T58 l0 x4_1).f0).size + 1 ≤ 9223372036854775807) = true := decide_eq_true c22
        try have c22b2 : (9223372036854775807 < ((rd_T58 l0 x4_1).f0).size + 1) = False := eq_false (Nat.not_lt.2 c22)
        replace H := Option.bind_eq_some_iff.mp H
        obtain ⟨t151, A230, H⟩ := H
        replace H : (if (((rd_T58 l0 x4_1).f0) ++ (⟨#[58]⟩ : ByteArray)).size + t151.size ≤ 9223372036854775807 then (if ((((rd_T58 l0 x4_1).f0) ++ (⟨#[58]⟩ : ByteArray)) ++ t151).size + 1 ≤ 9223372036854775807 then ((spec_l01NText.f k1 (([(rd_T58 l0 x4_1).f2, (rd_T58 l0 x4_1).f3, (rd_T58 l0 x4_1).f4, (rd_T58 l0 x4_1).f5] : List Nat))).bind fun t155 => (if (((((rd_T58 l0 x4_1).f0) ++ (⟨#[58]⟩ : ByteArray)) ++ t151) ++ (⟨#[58]⟩ : ByteArray)).size + t155.size ≤ 9223372036854775807 then (if x3_1.size + ((((((rd_T58 l0 x4_1).f0) ++ (⟨#[58]⟩ : ByteArray)) ++ t151) ++ (⟨#[58]⟩ : ByteArray)) ++ t155).size ≤ 9223372036854775807 then (spec_l08Sounds.l0 k1 l0 (x3_1 ++ ((((((rd_T58 l0 x4_1).f0) ++ (⟨#[58]⟩ : ByteArray)) ++ t151) ++ (⟨#[58]⟩ : ByteArray)) ++ t155)) (wrap64 (x4_1 + 1))) else (none)) else (none))) else (none)) else (none)) = some r := H
        have A23 := Aside0.mk A230
        clear A230
        by_cases c24 : (((rd_T58 l0 x4_1).f0) ++ (⟨#[58]⟩ : ByteArray)).size + t151.size ≤ 9223372036854775807
        ·rw [if_pos c24] at H
         have c24b0 := eq_true c24
         have c24b1 : decide ((((rd_T58 l0 x4_1).f0) ++ (⟨#[58]⟩ : ByteArray)).size + t151.size ≤ 9223372036854775807) = true := decide_eq_true c24
         try have c24b2 : (9223372036854775807 < (((rd_T58 l0 x4_1).f0) ++ (⟨#[58]⟩ : ByteArray)).size + t151.size) = False := eq_false (Nat.not_lt.2 c24)
         try have c24b3 : (9223372036854775807 < (((rd_T58 l0 x4_1).f0).size + 1) + t151.size) = False := eq_false (Nat.not_lt.2 (by have h_ := c24; (repeat rw [ByteArray.size_append] at h_); exact h_))
         by_cases c25 : ((((rd_T58 l0 x4_1).f0) ++ (⟨#[58]⟩ : ByteArray)) ++ t151).size + 1 ≤ 9223372036854775807
         ·rw [if_pos c25] at H
          have c25b0 := eq_true c25
          have c25b1 : decide (((((rd_T58 l0 x4_1).f0) ++ (⟨#[58]⟩ : ByteArray)) ++ t151).size + 1 ≤ 9223372036854775807) = true := decide_eq_true c25
          try have c25b2 : (9223372036854775807 < ((((rd_T58 l0 x4_1).f0) ++ (⟨#[58]⟩ : ByteArray)) ++ t151).size + 1) = False := eq_false (Nat.not_lt.2 c25)
          try have c25b3 : (9223372036854775807 < ((((rd_T58 l0 x4_1).f0).size + 1) + t151.size) + 1) = False := eq_false (Nat.not_lt.2 (by have h_ := c25; (repeat rw [ByteArray.size_append] at h_); exact h_))
          obtain ⟨y152, hy152⟩ : ∃ y_ : List Nat, y_ = (([(rd_T58 l0 x4_1).f2, (rd_T58 l0 x4_1).f3, (rd_T58 l0 x4_1).f4, (rd_T58 l0 x4_1).f5] : List Nat)) := ⟨_, rfl⟩
          replace H : ((spec_l01NText.f k1 y152).bind fun t155 => (if (((((rd_T58 l0 x4_1).f0) ++ (⟨#[58]⟩ : ByteArray)) ++ t151) ++ (⟨#[58]⟩ : ByteArray)).size + t155.size ≤ 9223372036854775807 then (if x3_1.size + ((((((rd_T58 l0 x4_1).f0) ++ (⟨#[58]⟩ : ByteArray)) ++ t151) ++ (⟨#[58]⟩ : ByteArray)) ++ t155).size ≤ 9223372036854775807 then (spec_l08Sounds.l0 k1 l0 (x3_1 ++ ((((((rd_T58 l0 x4_1).f0) ++ (⟨#[58]⟩ : ByteArray)) ++ t151) ++ (⟨#[58]⟩ : ByteArray)) ++ t155)) (wrap64 (x4_1 + 1))) else (none)) else (none))) = some r := by first | (rw [hy152]; with_reducible exact H) | (have H2_ := (Option.bind_some _ _).symm.trans H; rw [hy152]; with_reducible exact H2_) | (have H2_ := (Option.bind_some _ _).symm.trans H; with_reducible exact H2_) | with_reducible exact H | (rw [hy152]; exact H) | exact H
          have Ny152 := Aside0.mk hy152
          clear hy152
          replace H := Option.bind_eq_some_iff.mp H
          obtain ⟨t155, A260, H⟩ := H
          replace H : (if (((((rd_T58 l0 x4_1).f0) ++ (⟨#[58]⟩ : ByteArray)) ++ t151) ++ (⟨#[58]⟩ : ByteArray)).size + t155.size ≤ 9223372036854775807 then (if x3_1.size + ((((((rd_T58 l0 x4_1).f0) ++ (⟨#[58]⟩ : ByteArray)) ++ t151) ++ (⟨#[58]⟩ : ByteArray)) ++ t155).size ≤ 9223372036854775807 then (spec_l08Sounds.l0 k1 l0 (x3_1 ++ ((((((rd_T58 l0 x4_1).f0) ++ (⟨#[58]⟩ : ByteArray)) ++ t151) ++ (⟨#[58]⟩ : ByteArray)) ++ t155)) (wrap64 (x4_1 + 1))) else (none)) else (none)) = some r := H
          have A26 := Aside0.mk A260
          clear A260
          by_cases c27 : (((((rd_T58 l0 x4_1).f0) ++ (⟨#[58]⟩ : ByteArray)) ++ t151) ++ (⟨#[58]⟩ : ByteArray)).size + t155.size ≤ 9223372036854775807
          ·rw [if_pos c27] at H
           have c27b0 := eq_true c27
           have c27b1 : decide ((((((rd_T58 l0 x4_1).f0) ++ (⟨#[58]⟩ : ByteArray)) ++ t151) ++ (⟨#[58]⟩ : ByteArray)).size + t155.size ≤ 9223372036854775807) = true := decide_eq_true c27
           try have c27b2 : (9223372036854775807 < (((((rd_T58 l0 x4_1).f0) ++ (⟨#[58]⟩ : ByteArray)) ++ t151) ++ (⟨#[58]⟩ : ByteArray)).size + t155.size) = False := eq_false (Nat.not_lt.2 c27)
           try have c27b3 : (9223372036854775807 < (((((rd_T58 l0 x4_1).f0).size + 1) + t151.size) + 1) + t155.size) = False := eq_false (Nat.not_lt.2 (by have h_ := c27; (repeat rw [ByteArray.size_append] at h_); exact h_))
           by_cases c28 : x3_1.size + ((((((rd_T58 l0 x4_1).f0) ++ (⟨#[58]⟩ : ByteArray)) ++ t151) ++ (⟨#[58]⟩ : ByteArray)) ++ t155).size ≤ 9223372036854775807
           ·rw [if_pos c28] at H
            have c28b0 := eq_true c28
            have c28b1 : decide (x3_1.size + ((((((rd_T58 l0 x4_1).f0) ++ (⟨#[58]⟩ : ByteArray)) ++ t151) ++ (⟨#[58]⟩ : ByteArray)) ++ t155).size ≤ 9223372036854775807) = true := decide_eq_true c28
            try have c28b2 : (9223372036854775807 < x3_1.size + ((((((rd_T58 l0 x4_1).f0) ++ (⟨#[58]⟩ : ByteArray)) ++ t151) ++ (⟨#[58]⟩ : ByteArray)) ++ t155).size) = False := eq_false (Nat.not_lt.2 c28)
            try have c28b3 : (9223372036854775807 < x3_1.size + ((((((rd_T58 l0 x4_1).f0).size + 1) + t151.size) + 1) + t155.size)) = False := eq_false (Nat.not_lt.2 (by have h_ := c28; (repeat rw [ByteArray.size_append] at h_); exact h_))
            have H' := Aside0.mk H
            clear H
            have p150 : 0 ≤ (x4_1 : Int) := of_decide_eq_true (by first | (with_reducible assumption) | assumption)
            have q150 : x4_1 < (l0.length : Int) := of_decide_eq_true (by first | (with_reducible assumption) | assumption)
            obtain ⟨ad150, A150_1, c150_1, e150, hx150_0, hx150_1, hx150_2, hx150_3, hx150_4, hx150_5, hl150_1, hi150_1⟩ := at_T58 HR0.out x4_1 p150 q150
            have hw150_5 := hx150_5
            have hw150_4 := hx150_4
            have hw150_3 := hx150_3
            have hw150_2 := hx150_2
            have hw150_1 := hx150_1
            have hw150_0 := hx150_0
            cases e150
            replace hx150_0 := (HB.out.cell (World.block_lt_of_cell? w _ hx150_0)).trans hx150_0
            replace hx150_1 := (HB.out.cell (World.block_lt_of_cell? w _ hx150_1)).trans hx150_1
            replace hx150_2 := (HB.out.cell (World.block_lt_of_cell? w _ hx150_2)).trans hx150_2
            replace hx150_3 := (HB.out.cell (World.block_lt_of_cell? w _ hx150_3)).trans hx150_3
            replace hx150_4 := (HB.out.cell (World.block_lt_of_cell? w _ hx150_4)).trans hx150_4
            replace hx150_5 := (HB.out.cell (World.block_lt_of_cell? w _ hx150_5)).trans hx150_5
            have HR150_1 := Aside0.mk hi150_1
            have HC150_1 := Aside0.mk hl150_1
            clear hi150_1 hl150_1
            replace p150 := eq_true p150
            replace q150 := eq_true q150
            try go_wp2
            have n0_ := Aside0.mk (below_drew1 HB.out)
            clear HB
            have HB := n0_
            clear n0_
            refine start_ (n := 34) (S := fun w' => True) (ds := []) spec_l08Sounds.z0 (by kernel_rfl) rfl rfl trivial (fun hHeld => ?_); refine with_tabW spec_l08Sounds.tab10 spec_l08Sounds.bits10 (fun HT_ HW_ => ?_)
            generalize wr.drew = w29 at HB hHeld ⊢
            refine pure_ (i := 0) (N := some 22) (v := ?_) (a' := ?_) spec_l08Sounds.z1 rfl rfl (any_of HT_.out (by kernel_rfl)) (fun _ _ _ h => h) (Or.inl ⟨by rfl, ?_⟩) ?_ ?_
            pv_
            refine pure_ (i := 1) (N := some 23) (v := ?_) (a' := ?_) spec_l08Sounds.z2 rfl rfl (any_of HT_.out (by kernel_rfl)) (fun _ _ _ h => h) (Or.inl ⟨by rfl, ?_⟩) ?_ ?_
            pv_
            refine pure_ (i := 6) (N := some 28) (v := ?_) (a' := ?_) spec_l08Sounds.z3 rfl rfl (any_of HT_.out (by kernel_rfl)) (fun _ _ _ h => h) (Or.inl ⟨by rfl, ?_⟩) ?_ ?_
            pv_
            refine pure_ (i := 13) (N := some 35) (v := ?_) (a' := ?_) spec_l08Sounds.z4 rfl rfl (any_of HT_.out (by kernel_rfl)) (fun _ _ _ h => h) (Or.inl ⟨by rfl, ?_⟩) ?_ ?_
            pv_
            refine pure_ (i := 17) (N := some 39) (v := ?_) (a' := ?_) spec_l08Sounds.z5 rfl rfl (any_of HT_.out (by kernel_rfl)) (fun _ _ _ h => h) (Or.inl ⟨by rfl, ?_⟩) ?_ ?_
            pv_
            refine pure_ (i := 21) (N := some 43) (v := ?_) (a' := ?_) spec_l08Sounds.z6 rfl rfl (any_of HT_.out (by kernel_rfl)) (fun _ _ _ h => h) (Or.inl ⟨by rfl, ?_⟩) ?_ ?_
            pv_
            refine pure_ (i := 25) (N := some 47) (v := ?_) (a' := ?_) spec_l08Sounds.z7 rfl rfl (any_of HT_.out (by kernel_rfl)) (fun _ _ _ h => h) (Or.inl ⟨by rfl, ?_⟩) ?_ ?_
            pv_
            refine inv_at [2, 3, 4, 5, 7, 8, 9, 10, 11, 12, 14, 15, 16, 18, 19, 20, 22, 23, 24, 26, 27, 28, 29, 30, 31, 32, 33] (fun a0_ b a w' => ∃ (v153 : Value), a = putSel a0_ b [(2, 24, .pointer (some (ad150.add ((x4_1).toNat * 6)))), (3, 25, .pointer (some (ad150.add ((x4_1).toNat * 6)))), (4, 26, .string ((rd_T58 l0 x4_1).f0)), (5, 27, .string (((rd_T58 l0 x4_1).f0) ++ (⟨#[58]⟩ : ByteArray))), (7, 29, .pointer (some (ad150.add ((x4_1).toNat * 6)))), (8, 30, .pointer (some ⟨(ad150.add ((x4_1).toNat * 6)).block, (ad150.add ((x4_1).toNat * 6)).off + 1, none⟩)), (9, 31, .slice A150_1 ((rd_T58 l0 x4_1).f1).length c150_1), (10, 32, .string t151), (11, 33, .string ((((rd_T58 l0 x4_1).f0) ++ (⟨#[58]⟩ : ByteArray)) ++ t151)), (12, 34, .string (((((rd_T58 l0 x4_1).f0) ++ (⟨#[58]⟩ : ByteArray)) ++ t151) ++ (⟨#[58]⟩ : ByteArray))), (14, 36, .pointer (some (ad150.add ((x4_1).toNat * 6)))), (15, 37, .pointer (some ⟨(ad150.add ((x4_1).toNat * 6)).block, (ad150.add ((x4_1).toNat * 6)).off + 2, none⟩)), (16, 38, .float .f32 ((rd_T58 l0 x4_1).f2)), (18, 40, .pointer (some (ad150.add ((x4_1).toNat * 6)))), (19, 41, .pointer (some ⟨(ad150.add ((x4_1).toNat * 6)).block, (ad150.add ((x4_1).toNat * 6)).off + 3, none⟩)), (20, 42, .float .f32 ((rd_T58 l0 x4_1).f3)), (22, 44, .pointer (some (ad150.add ((x4_1).toNat * 6)))), (23, 45, .pointer (some ⟨(ad150.add ((x4_1).toNat * 6)).block, (ad150.add ((x4_1).toNat * 6)).off + 4, none⟩)), (24, 46, .float .f32 ((rd_T58 l0 x4_1).f4)), (26, 48, .pointer (some (ad150.add ((x4_1).toNat * 6)))), (27, 49, .pointer (some ⟨(ad150.add ((x4_1).toNat * 6)).block, (ad150.add ((x4_1).toNat * 6)).off + 5, none⟩)), (28, 50, .float .f32 ((rd_T58 l0 x4_1).f5)), (29, 51, v153), (30, 52, .string t155), (31, 53, .string ((((((rd_T58 l0 x4_1).f0) ++ (⟨#[58]⟩ : ByteArray)) ++ t151) ++ (⟨#[58]⟩ : ByteArray)) ++ t155)), (32, 54, .string (x3_1 ++ ((((((rd_T58 l0 x4_1).f0) ++ (⟨#[58]⟩ : ByteArray)) ++ t151) ++ (⟨#[58]⟩ : ByteArray)) ++ t155))), (33, 3, .string (x3_1 ++ ((((((rd_T58 l0 x4_1).f0) ++ (⟨#[58]⟩ : ByteArray)) ++ t151) ++ (⟨#[58]⟩ : ByteArray)) ++ t155)))] ∧ (Below w.heap.size w w') ∧ (b 29 = true → Kd.R (Kd.float .f32) 30 w' w.heap.size (fun _ => True) v153 y152)) HT_.out HW_.out (by kernel_rfl) (by kernel_rfl) ?_ ?_ ?_
            ·exact ⟨.bool false, by simp only [putSel, Bool.false_eq_true, if_false], HB.out, fun h_ => absurd h_ (by decide)⟩
            ·skip
             clear HB
             refine steps_cons ?_ ?_
             ·rintro b a w' ⟨v153, ha, Q_HB, Q_HO154⟩ hb_ hon hoff
              refine ⟨_, rfl, fun K hK => ?_⟩
              have e23 : a.tmps[23]? = some (.pointer (some (ad150.add ((x4_1).toNat * 6)))) := by rw [ha]; exact (putSel_off rfl).trans rfl
              replace ha := Aside0.mk ha
              have HB := Aside0.mk Q_HB
              refine value_ (w1 := w') (v := .pointer (some (ad150.add ((x4_1).toNat * 6)))) (by rfl) rfl ?_ ?_
              ·go_simp
               (try simp only [i64_w])
               try rfl
              refine hK.out _ _ ⟨v153, (by rw [ha.out]; exact putSel_upk 0 hb_ rfl rfl rfl), Q_HB, Q_HO154⟩
             refine steps_cons ?_ ?_
             ·rintro b a w' ⟨v153, ha, Q_HB, Q_HO154⟩ hb_ hon hoff
              refine ⟨_, rfl, fun K hK => ?_⟩
              have e24 : a.tmps[24]? = some (.pointer (some (ad150.add ((x4_1).toNat * 6)))) := by rw [ha]; exact putSel_on (e := (2, 24, .pointer (some (ad150.add ((x4_1).toNat * 6))))) 0 rfl rfl (hon 2 (by kernel_rfl)) rfl
              replace ha := Aside0.mk ha
              have HB := Aside0.mk Q_HB
              refine value_ (w1 := w') (v := .pointer (some (ad150.add ((x4_1).toNat * 6)))) (by rfl) rfl ?_ ?_
              ·go_simp
               (try simp only [i64_w])
               try rfl
              refine hK.out _ _ ⟨v153, (by rw [ha.out]; exact putSel_upk 1 hb_ rfl rfl rfl), Q_HB, Q_HO154⟩
             refine steps_cons ?_ ?_
             ·rintro b a w' ⟨v153, ha, Q_HB, Q_HO154⟩ hb_ hon hoff
              refine ⟨_, rfl, fun K hK => ?_⟩
              have e25 : a.tmps[25]? = some (.pointer (some (ad150.add ((x4_1).toNat * 6)))) := by rw [ha]; exact putSel_on (e := (3, 25, .pointer (some (ad150.add ((x4_1).toNat * 6))))) 1 rfl rfl (hon 3 (by kernel_rfl)) rfl
              replace ha := Aside0.mk ha
              have HB := Aside0.mk Q_HB
              have hs0_ : w'.cell? (ad150.add ((x4_1).toNat * 6)) = some (.string ((rd_T58 l0 x4_1).f0)) := (cu_ HB.out hw150_0)
              have hs1_ : w'.cell? ⟨(ad150.add ((x4_1).toNat * 6)).block, (ad150.add ((x4_1).toNat * 6)).off + 1, none⟩ = some (.slice A150_1 ((rd_T58 l0 x4_1).f1).length c150_1) := (cu_ HB.out hw150_1)
              have hs2_ : w'.cell? ⟨(ad150.add ((x4_1).toNat * 6)).block, (ad150.add ((x4_1).toNat * 6)).off + 2, none⟩ = some (.float .f32 ((rd_T58 l0 x4_1).f2)) := (cu_ HB.out hw150_2)
              have hs3_ : w'.cell? ⟨(ad150.add ((x4_1).toNat * 6)).block, (ad150.add ((x4_1).toNat * 6)).off + 3, none⟩ = some (.float .f32 ((rd_T58 l0 x4_1).f3)) := (cu_ HB.out hw150_3)
              have hs4_ : w'.cell? ⟨(ad150.add ((x4_1).toNat * 6)).block, (ad150.add ((x4_1).toNat * 6)).off + 4, none⟩ = some (.float .f32 ((rd_T58 l0 x4_1).f4)) := (cu_ HB.out hw150_4)
              have hs5_ : w'.cell? ⟨(ad150.add ((x4_1).toNat * 6)).block, (ad150.add ((x4_1).toNat * 6)).off + 5, none⟩ = some (.float .f32 ((rd_T58 l0 x4_1).f5)) := (cu_ HB.out hw150_5)
              refine value_ (w1 := w') (v := .string ((rd_T58 l0 x4_1).f0)) (by rfl) rfl ?_ ?_
              ·go_simp
               (try simp only [i64_w])
               try rfl
              refine hK.out _ _ ⟨v153, (by rw [ha.out]; exact putSel_upk 2 hb_ rfl rfl rfl), Q_HB, Q_HO154⟩
             refine steps_cons ?_ ?_
             ·rintro b a w' ⟨v153, ha, Q_HB, Q_HO154⟩ hb_ hon hoff
              refine ⟨_, rfl, fun K hK => ?_⟩
              have e26 : a.tmps[26]? = some (.string ((rd_T58 l0 x4_1).f0)) := by rw [ha]; exact putSel_on (e := (4, 26, .string ((rd_T58 l0 x4_1).f0))) 2 rfl rfl (hon 4 (by kernel_rfl)) rfl
              replace ha := Aside0.mk ha
              have HB := Aside0.mk Q_HB
              refine value_ (w1 := w') (v := .string (((rd_T58 l0 x4_1).f0) ++ (⟨#[58]⟩ : ByteArray))) (by rfl) rfl ?_ ?_
              ·go_simp
               (try simp only [i64_w])
               try rfl
              refine hK.out _ _ ⟨v153, (by rw [ha.out]; exact putSel_upk 3 hb_ rfl rfl rfl), Q_HB, Q_HO154⟩
             refine steps_cons ?_ ?_
             ·rintro b a w' ⟨v153, ha, Q_HB, Q_HO154⟩ hb_ hon hoff
              refine ⟨_, rfl, fun K hK => ?_⟩
              have e28 : a.tmps[28]? = some (.pointer (some (ad150.add ((x4_1).toNat * 6)))) := by rw [ha]; exact (putSel_off rfl).trans rfl
              replace ha := Aside0.mk ha
              have HB := Aside0.mk Q_HB
              refine value_ (w1 := w') (v := .pointer (some (ad150.add ((x4_1).toNat * 6)))) (by rfl) rfl ?_ ?_
              ·go_simp
               (try simp only [i64_w])
               try rfl
              refine hK.out _ _ ⟨v153, (by rw [ha.out]; exact putSel_upk 4 hb_ rfl rfl rfl), Q_HB, Q_HO154⟩
             refine steps_cons ?_ ?_
             ·rintro b a w' ⟨v153, ha, Q_HB, Q_HO154⟩ hb_ hon hoff
              refine ⟨_, rfl, fun K hK => ?_⟩
              have e29 : a.tmps[29]? = some (.pointer (some (ad150.add ((x4_1).toNat * 6)))) := by rw [ha]; exact putSel_on (e := (7, 29, .pointer (some (ad150.add ((x4_1).toNat * 6))))) 4 rfl rfl (hon 7 (by kernel_rfl)) rfl
              replace ha := Aside0.mk ha
              have HB := Aside0.mk Q_HB
              refine value_ (w1 := w') (v := .pointer (some ⟨(ad150.add ((x4_1).toNat * 6)).block, (ad150.add ((x4_1).toNat * 6)).off + 1, none⟩)) (by rfl) rfl ?_ ?_
              ·go_simp
               (try simp only [i64_w])
               try rfl
              refine hK.out _ _ ⟨v153, (by rw [ha.out]; exact putSel_upk 5 hb_ rfl rfl rfl), Q_HB, Q_HO154⟩
             refine steps_cons ?_ ?_
             ·rintro b a w' ⟨v153, ha, Q_HB, Q_HO154⟩ hb_ hon hoff
              refine ⟨_, rfl, fun K hK => ?_⟩
              have e30 : a.tmps[30]? = some (.pointer (some ⟨(ad150.add ((x4_1).toNat * 6)).block, (ad150.add ((x4_1).toNat * 6)).off + 1, none⟩)) := by rw [ha]; exact putSel_on (e := (8, 30, .pointer (some ⟨(ad150.add ((x4_1).toNat * 6)).block, (ad150.add ((x4_1).toNat * 6)).off + 1, none⟩))) 5 rfl rfl (hon 8 (by kernel_rfl)) rfl
              replace ha := Aside0.mk ha
              have HB := Aside0.mk Q_HB
              have hs0_ : w'.cell? (ad150.add ((x4_1).toNat * 6)) = some (.string ((rd_T58 l0 x4_1).f0)) := (cu_ HB.out hw150_0)
              have hs1_ : w'.cell? ⟨(ad150.add ((x4_1).toNat * 6)).block, (ad150.add ((x4_1).toNat * 6)).off + 1, none⟩ = some (.slice A150_1 ((rd_T58 l0 x4_1).f1).length c150_1) := (cu_ HB.out hw150_1)
              have hs2_ : w'.cell? ⟨(ad150.add ((x4_1).toNat * 6)).block, (ad150.add ((x4_1).toNat * 6)).off + 2, none⟩ = some (.float .f32 ((rd_T58 l0 x4_1).f2)) := (cu_ HB.out hw150_2)
              have hs3_ : w'.cell? ⟨(ad150.add ((x4_1).toNat * 6)).block, (ad150.add ((x4_1).toNat * 6)).off + 3, none⟩ = some (.float .f32 ((rd_T58 l0 x4_1).f3)) := (cu_ HB.out hw150_3)
              have hs4_ : w'.cell? ⟨(ad150.add ((x4_1).toNat * 6)).block, (ad150.add ((x4_1).toNat * 6)).off + 4, none⟩ = some (.float .f32 ((rd_T58 l0 x4_1).f4)) := (cu_ HB.out hw150_4)
              have hs5_ : w'.cell? ⟨(ad150.add ((x4_1).toNat * 6)).block, (ad150.add ((x4_1).toNat * 6)).off + 5, none⟩ = some (.float .f32 ((rd_T58 l0 x4_1).f5)) := (cu_ HB.out hw150_5)
              refine value_ (w1 := w') (v := .slice A150_1 ((rd_T58 l0 x4_1).f1).length c150_1) (by rfl) rfl ?_ ?_
              ·go_simp
               (try simp only [i64_w])
               try rfl
              refine hK.out _ _ ⟨v153, (by rw [ha.out]; exact putSel_upk 6 hb_ rfl rfl rfl), Q_HB, Q_HO154⟩
             refine steps_cons ?_ ?_
             ·rintro b a w' ⟨v153, ha, Q_HB, Q_HO154⟩ hb_ hon hoff
              refine ⟨_, rfl, fun K hK => ?_⟩
              have e31 : a.tmps[31]? = some (.slice A150_1 ((rd_T58 l0 x4_1).f1).length c150_1) := by rw [ha]; exact putSel_on (e := (9, 31, .slice A150_1 ((rd_T58 l0 x4_1).f1).length c150_1)) 6 rfl rfl (hon 9 (by kernel_rfl)) rfl
              replace ha := Aside0.mk ha
              have HB := Aside0.mk Q_HB
              refine goes_ Tryd.func55 (by kernel_rfl) rfl #[.slice A150_1 ((rd_T58 l0 x4_1).f1).length c150_1] (by rfl) rfl rfl (by first | (simp only [List.map_toArray, List.map_cons, List.map_nil, Act.eval, Array.getD_eq_getD_getElem?, Option.getD_some, e31]; done) | (simp only [List.map_toArray, List.map_cons, List.map_nil, Act.eval, Array.getD_eq_getD_getElem?, Option.getD_some, e31]; rfl)) ?_
              with_reducible refine (spec_l01NText.calls k1 _ _ ((rd_T58 l0 x4_1).f1) t151 _ ?side1 ?side2 A23.out).mono ?_
              (case side1 => repeat (first | exact (Kd.C_below HR150_1.out HB.out) | (with_reducible refine Kd.C_alloc ?_ _) | (with_reducible refine Kd.C_drewN ?_ _) | (with_reducible refine Kd.C_drew ?_)))
              (case side2 => exact HC150_1.out)
              rintro e w30 ⟨rfl, hb⟩
              refine ⟨_, rfl, ?_⟩
              have n0_ := Aside0.mk (below_step (by repeat (first | (with_reducible first | exact HB.out | apply below_alloc | apply pw_below_drewN | apply below_drew1) | exact HB.out)) hb)
              have z_HO154 := fun (h0_ : b 29 = true) => (show Kd.R (Kd.float .f32) 30 w30 w.heap.size (fun _ => True) v153 y152 from by first | exact (Kd.R_below (by (with_reducible repeat (first | apply Kd.R_alloc | apply Kd.R_drewN | apply Kd.R_drew)); exact (Q_HO154 h0_)) hb) | exact Kd.R_mono (Kd.R_below (by (with_reducible repeat (first | apply Kd.R_alloc | apply Kd.R_drewN | apply Kd.R_drew)); exact (Q_HO154 h0_)) hb) (fun _ h_ => by first | trivial | exact h_ | exact h_.1))
              clear HB
              have HB := n0_
              clear n0_
              (try clear hb)
              (try clear hb2)
              (try clear hk)
              (try clear hi)
              refine hK.out _ _ ⟨v153, (by rw [ha.out]; exact putSel_upk 7 hb_ rfl rfl rfl), (by repeat (first | (with_reducible first | exact HB.out | apply below_alloc | apply pw_below_drewN | apply below_drew1) | exact HB.out)), z_HO154⟩
             refine steps_cons ?_ ?_
             ·rintro b a w' ⟨v153, ha, Q_HB, Q_HO154⟩ hb_ hon hoff
              refine ⟨_, rfl, fun K hK => ?_⟩
              have e27 : a.tmps[27]? = some (.string (((rd_T58 l0 x4_1).f0) ++ (⟨#[58]⟩ : ByteArray))) := by rw [ha]; exact putSel_on (e := (5, 27, .string (((rd_T58 l0 x4_1).f0) ++ (⟨#[58]⟩ : ByteArray)))) 3 rfl rfl (hon 5 (by kernel_rfl)) rfl
              have e32 : a.tmps[32]? = some (.string t151) := by rw [ha]; exact putSel_on (e := (10, 32, .string t151)) 7 rfl rfl (hon 10 (by kernel_rfl)) rfl
              replace ha := Aside0.mk ha
              have HB := Aside0.mk Q_HB
              refine value_ (w1 := w') (v := .string ((((rd_T58 l0 x4_1).f0) ++ (⟨#[58]⟩ : ByteArray)) ++ t151)) (by rfl) rfl ?_ ?_
              ·go_simp
               (try simp only [i64_w])
               try rfl
              refine hK.out _ _ ⟨v153, (by rw [ha.out]; exact putSel_upk 8 hb_ rfl rfl rfl), Q_HB, Q_HO154⟩
             refine steps_cons ?_ ?_
             ·rintro b a w' ⟨v153, ha, Q_HB, Q_HO154⟩ hb_ hon hoff
              refine ⟨_, rfl, fun K hK => ?_⟩
              have e33 : a.tmps[33]? = some (.string ((((rd_T58 l0 x4_1).f0) ++ (⟨#[58]⟩ : ByteArray)) ++ t151)) := by rw [ha]; exact putSel_on (e := (11, 33, .string ((((rd_T58 l0 x4_1).f0) ++ (⟨#[58]⟩ : ByteArray)) ++ t151))) 8 rfl rfl (hon 11 (by kernel_rfl)) rfl
              replace ha := Aside0.mk ha
              have HB := Aside0.mk Q_HB
              refine value_ (w1 := w') (v := .string (((((rd_T58 l0 x4_1).f0) ++ (⟨#[58]⟩ : ByteArray)) ++ t151) ++ (⟨#[58]⟩ : ByteArray))) (by rfl) rfl ?_ ?_
              ·go_simp
               (try simp only [i64_w])
               try rfl
              refine hK.out _ _ ⟨v153, (by rw [ha.out]; exact putSel_upk 9 hb_ rfl rfl rfl), Q_HB, Q_HO154⟩
             refine steps_cons ?_ ?_
             ·rintro b a w' ⟨v153, ha, Q_HB, Q_HO154⟩ hb_ hon hoff
              refine ⟨_, rfl, fun K hK => ?_⟩
              have e35 : a.tmps[35]? = some (.pointer (some (ad150.add ((x4_1).toNat * 6)))) := by rw [ha]; exact (putSel_off rfl).trans rfl
              replace ha := Aside0.mk ha
              have HB := Aside0.mk Q_HB
              refine value_ (w1 := w') (v := .pointer (some (ad150.add ((x4_1).toNat * 6)))) (by rfl) rfl ?_ ?_
              ·go_simp
               (try simp only [i64_w])
               try rfl
              refine hK.out _ _ ⟨v153, (by rw [ha.out]; exact putSel_upk 10 hb_ rfl rfl rfl), Q_HB, fun h0_ => absurd ((hoff 29 (by kernel_rfl)).symm.trans h0_) (by decide)⟩
             refine steps_cons ?_ ?_
             ·rintro b a w' ⟨v153, ha, Q_HB, Q_HO154⟩ hb_ hon hoff
              refine ⟨_, rfl, fun K hK => ?_⟩
              have e36 : a.tmps[36]? = some (.pointer (some (ad150.add ((x4_1).toNat * 6)))) := by rw [ha]; exact putSel_on (e := (14, 36, .pointer (some (ad150.add ((x4_1).toNat * 6))))) 10 rfl rfl (hon 14 (by kernel_rfl)) rfl
              replace ha := Aside0.mk ha
              have HB := Aside0.mk Q_HB
              refine value_ (w1 := w') (v := .pointer (some ⟨(ad150.add ((x4_1).toNat * 6)).block, (ad150.add ((x4_1).toNat * 6)).off + 2, none⟩)) (by rfl) rfl ?_ ?_
              ·go_simp
               (try simp only [i64_w])
               try rfl
              refine hK.out _ _ ⟨v153, (by rw [ha.out]; exact putSel_upk 11 hb_ rfl rfl rfl), Q_HB, fun h0_ => absurd ((hoff 29 (by kernel_rfl)).symm.trans h0_) (by decide)⟩
             refine steps_cons ?_ ?_
             ·rintro b a w' ⟨v153, ha, Q_HB, Q_HO154⟩ hb_ hon hoff
              refine ⟨_, rfl, fun K hK => ?_⟩
              have e37 : a.tmps[37]? = some (.pointer (some ⟨(ad150.add ((x4_1).toNat * 6)).block, (ad150.add ((x4_1).toNat * 6)).off + 2, none⟩)) := by rw [ha]; exact putSel_on (e := (15, 37, .pointer (some ⟨(ad150.add ((x4_1).toNat * 6)).block, (ad150.add ((x4_1).toNat * 6)).off + 2, none⟩))) 11 rfl rfl (hon 15 (by kernel_rfl)) rfl
              replace ha := Aside0.mk ha
              have HB := Aside0.mk Q_HB
              have hs0_ : w'.cell? (ad150.add ((x4_1).toNat * 6)) = some (.string ((rd_T58 l0 x4_1).f0)) := (cu_ HB.out hw150_0)
              have hs1_ : w'.cell? ⟨(ad150.add ((x4_1).toNat * 6)).block, (ad150.add ((x4_1).toNat * 6)).off + 1, none⟩ = some (.slice A150_1 ((rd_T58 l0 x4_1).f1).length c150_1) := (cu_ HB.out hw150_1)
              have hs2_ : w'.cell? ⟨(ad150.add ((x4_1).toNat * 6)).block, (ad150.add ((x4_1).toNat * 6)).off + 2, none⟩ = some (.float .f32 ((rd_T58 l0 x4_1).f2)) := (cu_ HB.out hw150_2)
              have hs3_ : w'.cell? ⟨(ad150.add ((x4_1).toNat * 6)).block, (ad150.add ((x4_1).toNat * 6)).off + 3, none⟩ = some (.float .f32 ((rd_T58 l0 x4_1).f3)) := (cu_ HB.out hw150_3)
              have hs4_ : w'.cell? ⟨(ad150.add ((x4_1).toNat * 6)).block, (ad150.add ((x4_1).toNat * 6)).off + 4, none⟩ = some (.float .f32 ((rd_T58 l0 x4_1).f4)) := (cu_ HB.out hw150_4)
              have hs5_ : w'.cell? ⟨(ad150.add ((x4_1).toNat * 6)).block, (ad150.add ((x4_1).toNat * 6)).off + 5, none⟩ = some (.float .f32 ((rd_T58 l0 x4_1).f5)) := (cu_ HB.out hw150_5)
              refine value_ (w1 := w') (v := .float .f32 ((rd_T58 l0 x4_1).f2)) (by rfl) rfl ?_ ?_
              ·go_simp
               (try simp only [i64_w])
               try rfl
              refine hK.out _ _ ⟨v153, (by rw [ha.out]; exact putSel_upk 12 hb_ rfl rfl rfl), Q_HB, fun h0_ => absurd ((hoff 29 (by kernel_rfl)).symm.trans h0_) (by decide)⟩
             refine steps_cons ?_ ?_
             ·rintro b a w' ⟨v153, ha, Q_HB, Q_HO154⟩ hb_ hon hoff
              refine ⟨_, rfl, fun K hK => ?_⟩
              have e39 : a.tmps[39]? = some (.pointer (some (ad150.add ((x4_1).toNat * 6)))) := by rw [ha]; exact (putSel_off rfl).trans rfl
              replace ha := Aside0.mk ha
              have HB := Aside0.mk Q_HB
              refine value_ (w1 := w') (v := .pointer (some (ad150.add ((x4_1).toNat * 6)))) (by rfl) rfl ?_ ?_
              ·go_simp
               (try simp only [i64_w])
               try rfl
              refine hK.out _ _ ⟨v153, (by rw [ha.out]; exact putSel_upk 13 hb_ rfl rfl rfl), Q_HB, fun h0_ => absurd ((hoff 29 (by kernel_rfl)).symm.trans h0_) (by decide)⟩
             refine steps_cons ?_ ?_
             ·rintro b a w' ⟨v153, ha, Q_HB, Q_HO154⟩ hb_ hon hoff
              refine ⟨_, rfl, fun K hK => ?_⟩
              have e40 : a.tmps[40]? = some (.pointer (some (ad150.add ((x4_1).toNat * 6)))) := by rw [ha]; exact putSel_on (e := (18, 40, .pointer (some (ad150.add ((x4_1).toNat * 6))))) 13 rfl rfl (hon 18 (by kernel_rfl)) rfl
              replace ha := Aside0.mk ha
              have HB := Aside0.mk Q_HB
              refine value_ (w1 := w') (v := .pointer (some ⟨(ad150.add ((x4_1).toNat * 6)).block, (ad150.add ((x4_1).toNat * 6)).off + 3, none⟩)) (by rfl) rfl ?_ ?_
              ·go_simp
               (try simp only [i64_w])
               try rfl
              refine hK.out _ _ ⟨v153, (by rw [ha.out]; exact putSel_upk 14 hb_ rfl rfl rfl), Q_HB, fun h0_ => absurd ((hoff 29 (by kernel_rfl)).symm.trans h0_) (by decide)⟩
             refine steps_cons ?_ ?_
             ·rintro b a w' ⟨v153, ha, Q_HB, Q_HO154⟩ hb_ hon hoff
              refine ⟨_, rfl, fun K hK => ?_⟩
              have e41 : a.tmps[41]? = some (.pointer (some ⟨(ad150.add ((x4_1).toNat * 6)).block, (ad150.add ((x4_1).toNat * 6)).off + 3, none⟩)) := by rw [ha]; exact putSel_on (e := (19, 41, .pointer (some ⟨(ad150.add ((x4_1).toNat * 6)).block, (ad150.add ((x4_1).toNat * 6)).off + 3, none⟩))) 14 rfl rfl (hon 19 (by kernel_rfl)) rfl
              replace ha := Aside0.mk ha
              have HB := Aside0.mk Q_HB
              have hs0_ : w'.cell? (ad150.add ((x4_1).toNat * 6)) = some (.string ((rd_T58 l0 x4_1).f0)) := (cu_ HB.out hw150_0)
              have hs1_ : w'.cell? ⟨(ad150.add ((x4_1).toNat * 6)).block, (ad150.add ((x4_1).toNat * 6)).off + 1, none⟩ = some (.slice A150_1 ((rd_T58 l0 x4_1).f1).length c150_1) := (cu_ HB.out hw150_1)
              have hs2_ : w'.cell? ⟨(ad150.add ((x4_1).toNat * 6)).block, (ad150.add ((x4_1).toNat * 6)).off + 2, none⟩ = some (.float .f32 ((rd_T58 l0 x4_1).f2)) := (cu_ HB.out hw150_2)
              have hs3_ : w'.cell? ⟨(ad150.add ((x4_1).toNat * 6)).block, (ad150.add ((x4_1).toNat * 6)).off + 3, none⟩ = some (.float .f32 ((rd_T58 l0 x4_1).f3)) := (cu_ HB.out hw150_3)
              have hs4_ : w'.cell? ⟨(ad150.add ((x4_1).toNat * 6)).block, (ad150.add ((x4_1).toNat * 6)).off + 4, none⟩ = some (.float .f32 ((rd_T58 l0 x4_1).f4)) := (cu_ HB.out hw150_4)
              have hs5_ : w'.cell? ⟨(ad150.add ((x4_1).toNat * 6)).block, (ad150.add ((x4_1).toNat * 6)).off + 5, none⟩ = some (.float .f32 ((rd_T58 l0 x4_1).f5)) := (cu_ HB.out hw150_5)
              refine value_ (w1 := w') (v := .float .f32 ((rd_T58 l0 x4_1).f3)) (by rfl) rfl ?_ ?_
              ·go_simp
               (try simp only [i64_w])
               try rfl
              refine hK.out _ _ ⟨v153, (by rw [ha.out]; exact putSel_upk 15 hb_ rfl rfl rfl), Q_HB, fun h0_ => absurd ((hoff 29 (by kernel_rfl)).symm.trans h0_) (by decide)⟩
             refine steps_cons ?_ ?_
             ·rintro b a w' ⟨v153, ha, Q_HB, Q_HO154⟩ hb_ hon hoff
              refine ⟨_, rfl, fun K hK => ?_⟩
              have e43 : a.tmps[43]? = some (.pointer (some (ad150.add ((x4_1).toNat * 6)))) := by rw [ha]; exact (putSel_off rfl).trans rfl
              replace ha := Aside0.mk ha
              have HB := Aside0.mk Q_HB
              refine value_ (w1 := w') (v := .pointer (some (ad150.add ((x4_1).toNat * 6)))) (by rfl) rfl ?_ ?_
              ·go_simp
               (try simp only [i64_w])
               try rfl
              refine hK.out _ _ ⟨v153, (by rw [ha.out]; exact putSel_upk 16 hb_ rfl rfl rfl), Q_HB, fun h0_ => absurd ((hoff 29 (by kernel_rfl)).symm.trans h0_) (by decide)⟩
             refine steps_cons ?_ ?_
             ·rintro b a w' ⟨v153, ha, Q_HB, Q_HO154⟩ hb_ hon hoff
              refine ⟨_, rfl, fun K hK => ?_⟩
              have e44 : a.tmps[44]? = some (.pointer (some (ad150.add ((x4_1).toNat * 6)))) := by rw [ha]; exact putSel_on (e := (22, 44, .pointer (some (ad150.add ((x4_1).toNat * 6))))) 16 rfl rfl (hon 22 (by kernel_rfl)) rfl
              replace ha := Aside0.mk ha
              have HB := Aside0.mk Q_HB
              refine value_ (w1 := w') (v := .pointer (some ⟨(ad150.add ((x4_1).toNat * 6)).block, (ad150.add ((x4_1).toNat * 6)).off + 4, none⟩)) (by rfl) rfl ?_ ?_
              ·go_simp
               (try simp only [i64_w])
               try rfl
              refine hK.out _ _ ⟨v153, (by rw [ha.out]; exact putSel_upk 17 hb_ rfl rfl rfl), Q_HB, fun h0_ => absurd ((hoff 29 (by kernel_rfl)).symm.trans h0_) (by decide)⟩
             refine steps_cons ?_ ?_
             ·rintro b a w' ⟨v153, ha, Q_HB, Q_HO154⟩ hb_ hon hoff
              refine ⟨_, rfl, fun K hK => ?_⟩
              have e45 : a.tmps[45]? = some (.pointer (some ⟨(ad150.add ((x4_1).toNat * 6)).block, (ad150.add ((x4_1).toNat * 6)).off + 4, none⟩)) := by rw [ha]; exact putSel_on (e := (23, 45, .pointer (some ⟨(ad150.add ((x4_1).toNat * 6)).block, (ad150.add ((x4_1).toNat * 6)).off + 4, none⟩))) 17 rfl rfl (hon 23 (by kernel_rfl)) rfl
              replace ha := Aside0.mk ha
              have HB := Aside0.mk Q_HB
              have hs0_ : w'.cell? (ad150.add ((x4_1).toNat * 6)) = some (.string ((rd_T58 l0 x4_1).f0)) := (cu_ HB.out hw150_0)
              have hs1_ : w'.cell? ⟨(ad150.add ((x4_1).toNat * 6)).block, (ad150.add ((x4_1).toNat * 6)).off + 1, none⟩ = some (.slice A150_1 ((rd_T58 l0 x4_1).f1).length c150_1) := (cu_ HB.out hw150_1)
              have hs2_ : w'.cell? ⟨(ad150.add ((x4_1).toNat * 6)).block, (ad150.add ((x4_1).toNat * 6)).off + 2, none⟩ = some (.float .f32 ((rd_T58 l0 x4_1).f2)) := (cu_ HB.out hw150_2)
              have hs3_ : w'.cell? ⟨(ad150.add ((x4_1).toNat * 6)).block, (ad150.add ((x4_1).toNat * 6)).off + 3, none⟩ = some (.float .f32 ((rd_T58 l0 x4_1).f3)) := (cu_ HB.out hw150_3)
              have hs4_ : w'.cell? ⟨(ad150.add ((x4_1).toNat * 6)).block, (ad150.add ((x4_1).toNat * 6)).off + 4, none⟩ = some (.float .f32 ((rd_T58 l0 x4_1).f4)) := (cu_ HB.out hw150_4)
              have hs5_ : w'.cell? ⟨(ad150.add ((x4_1).toNat * 6)).block, (ad150.add ((x4_1).toNat * 6)).off + 5, none⟩ = some (.float .f32 ((rd_T58 l0 x4_1).f5)) := (cu_ HB.out hw150_5)
              refine value_ (w1 := w') (v := .float .f32 ((rd_T58 l0 x4_1).f4)) (by rfl) rfl ?_ ?_
              ·go_simp
               (try simp only [i64_w])
               try rfl
              refine hK.out _ _ ⟨v153, (by rw [ha.out]; exact putSel_upk 18 hb_ rfl rfl rfl), Q_HB, fun h0_ => absurd ((hoff 29 (by kernel_rfl)).symm.trans h0_) (by decide)⟩
             refine steps_cons ?_ ?_
             ·rintro b a w' ⟨v153, ha, Q_HB, Q_HO154⟩ hb_ hon hoff
              refine ⟨_, rfl, fun K hK => ?_⟩
              have e47 : a.tmps[47]? = some (.pointer (some (ad150.add ((x4_1).toNat * 6)))) := by rw [ha]; exact (putSel_off rfl).trans rfl
              replace ha := Aside0.mk ha
              have HB := Aside0.mk Q_HB
              refine value_ (w1 := w') (v := .pointer (some (ad150.add ((x4_1).toNat * 6)))) (by rfl) rfl ?_ ?_
              ·go_simp
               (try simp only [i64_w])
               try rfl
              refine hK.out _ _ ⟨v153, (by rw [ha.out]; exact putSel_upk 19 hb_ rfl rfl rfl), Q_HB, fun h0_ => absurd ((hoff 29 (by kernel_rfl)).symm.trans h0_) (by decide)⟩
             refine steps_cons ?_ ?_
             ·rintro b a w' ⟨v153, ha, Q_HB, Q_HO154⟩ hb_ hon hoff
              refine ⟨_, rfl, fun K hK => ?_⟩
              have e48 : a.tmps[48]? = some (.pointer (some (ad150.add ((x4_1).toNat * 6)))) := by rw [ha]; exact putSel_on (e := (26, 48, .pointer (some (ad150.add ((x4_1).toNat * 6))))) 19 rfl rfl (hon 26 (by kernel_rfl)) rfl
              replace ha := Aside0.mk ha
              have HB := Aside0.mk Q_HB
              refine value_ (w1 := w') (v := .pointer (some ⟨(ad150.add ((x4_1).toNat * 6)).block, (ad150.add ((x4_1).toNat * 6)).off + 5, none⟩)) (by rfl) rfl ?_ ?_
              ·go_simp
               (try simp only [i64_w])
               try rfl
              refine hK.out _ _ ⟨v153, (by rw [ha.out]; exact putSel_upk 20 hb_ rfl rfl rfl), Q_HB, fun h0_ => absurd ((hoff 29 (by kernel_rfl)).symm.trans h0_) (by decide)⟩
             refine steps_cons ?_ ?_
             ·rintro b a w' ⟨v153, ha, Q_HB, Q_HO154⟩ hb_ hon hoff
              refine ⟨_, rfl, fun K hK => ?_⟩
              have e49 : a.tmps[49]? = some (.pointer (some ⟨(ad150.add ((x4_1).toNat * 6)).block, (ad150.add ((x4_1).toNat * 6)).off + 5, none⟩)) := by rw [ha]; exact putSel_on (e := (27, 49, .pointer (some ⟨(ad150.add ((x4_1).toNat * 6)).block, (ad150.add ((x4_1).toNat * 6)).off + 5, none⟩))) 20 rfl rfl (hon 27 (by kernel_rfl)) rfl
              replace ha := Aside0.mk ha
              have HB := Aside0.mk Q_HB
              have hs0_ : w'.cell? (ad150.add ((x4_1).toNat * 6)) = some (.string ((rd_T58 l0 x4_1).f0)) := (cu_ HB.out hw150_0)
              have hs1_ : w'.cell? ⟨(ad150.add ((x4_1).toNat * 6)).block, (ad150.add ((x4_1).toNat * 6)).off + 1, none⟩ = some (.slice A150_1 ((rd_T58 l0 x4_1).f1).length c150_1) := (cu_ HB.out hw150_1)
              have hs2_ : w'.cell? ⟨(ad150.add ((x4_1).toNat * 6)).block, (ad150.add ((x4_1).toNat * 6)).off + 2, none⟩ = some (.float .f32 ((rd_T58 l0 x4_1).f2)) := (cu_ HB.out hw150_2)
              have hs3_ : w'.cell? ⟨(ad150.add ((x4_1).toNat * 6)).block, (ad150.add ((x4_1).toNat * 6)).off + 3, none⟩ = some (.float .f32 ((rd_T58 l0 x4_1).f3)) := (cu_ HB.out hw150_3)
              have hs4_ : w'.cell? ⟨(ad150.add ((x4_1).toNat * 6)).block, (ad150.add ((x4_1).toNat * 6)).off + 4, none⟩ = some (.float .f32 ((rd_T58 l0 x4_1).f4)) := (cu_ HB.out hw150_4)
              have hs5_ : w'.cell? ⟨(ad150.add ((x4_1).toNat * 6)).block, (ad150.add ((x4_1).toNat * 6)).off + 5, none⟩ = some (.float .f32 ((rd_T58 l0 x4_1).f5)) := (cu_ HB.out hw150_5)
              refine value_ (w1 := w') (v := .float .f32 ((rd_T58 l0 x4_1).f5)) (by rfl) rfl ?_ ?_
              ·go_simp
               (try simp only [i64_w])
               try rfl
              refine hK.out _ _ ⟨v153, (by rw [ha.out]; exact putSel_upk 21 hb_ rfl rfl rfl), Q_HB, fun h0_ => absurd ((hoff 29 (by kernel_rfl)).symm.trans h0_) (by decide)⟩
             refine steps_cons ?_ ?_
             ·rintro b a w' ⟨v153, ha, Q_HB, Q_HO154⟩ hb_ hon hoff
              refine ⟨_, rfl, fun K hK => ?_⟩
              have e38 : a.tmps[38]? = some (.float .f32 ((rd_T58 l0 x4_1).f2)) := by rw [ha]; exact putSel_on (e := (16, 38, .float .f32 ((rd_T58 l0 x4_1).f2))) 12 rfl rfl (hon 16 (by kernel_rfl)) rfl
              have e42 : a.tmps[42]? = some (.float .f32 ((rd_T58 l0 x4_1).f3)) := by rw [ha]; exact putSel_on (e := (20, 42, .float .f32 ((rd_T58 l0 x4_1).f3))) 15 rfl rfl (hon 20 (by kernel_rfl)) rfl
              have e46 : a.tmps[46]? = some (.float .f32 ((rd_T58 l0 x4_1).f4)) := by rw [ha]; exact putSel_on (e := (24, 46, .float .f32 ((rd_T58 l0 x4_1).f4))) 18 rfl rfl (hon 24 (by kernel_rfl)) rfl
              have e50 : a.tmps[50]? = some (.float .f32 ((rd_T58 l0 x4_1).f5)) := by rw [ha]; exact putSel_on (e := (28, 50, .float .f32 ((rd_T58 l0 x4_1).f5))) 21 rfl rfl (hon 28 (by kernel_rfl)) rfl
              replace ha := Aside0.mk ha
              have HB := Aside0.mk Q_HB
              refine Kd.R_lit_step (Kd.float .f32) _ 30 ?hg (N := 51) ?hd (xs := ([(rd_T58 l0 x4_1).f2, (rd_T58 l0 x4_1).f3, (rd_T58 l0 x4_1).f4, (rd_T58 l0 x4_1).f5] : List Nat)) (inner := [.float .f32 ((rd_T58 l0 x4_1).f2), .float .f32 ((rd_T58 l0 x4_1).f3), .float .f32 ((rd_T58 l0 x4_1).f4), .float .f32 ((rd_T58 l0 x4_1).f5)]) (ok := fun _ => True) (okp := fun _ => True) ?hr ?hp (fun _ hk => hk) trivial (Below.refl _ _) (Nat.le_refl _) (by simp) ?_; (case hd => rfl); (case hg => rfl); (case hr => first | (go_simp; done) | (go_simp; rfl) | (simp (disch := omega) only [w64_id]; go_simp; done) | (go_simp; simp (disch := omega) only [w64_id]; done)); (case hp => exact (Reps.one (show Kd.M (Kd.float .f32) _ _ _ ((rd_T58 l0 x4_1).f2) [.float .f32 ((rd_T58 l0 x4_1).f2)] from rfl) (Reps.one (show Kd.M (Kd.float .f32) _ _ _ ((rd_T58 l0 x4_1).f3) [.float .f32 ((rd_T58 l0 x4_1).f3)] from rfl) (Reps.one (show Kd.M (Kd.float .f32) _ _ _ ((rd_T58 l0 x4_1).f4) [.float .f32 ((rd_T58 l0 x4_1).f4)] from rfl) (Reps.one (show Kd.M (Kd.float .f32) _ _ _ ((rd_T58 l0 x4_1).f5) [.float .f32 ((rd_T58 l0 x4_1).f5)] from rfl) (Reps.none _ _))))))
              intro v153 w30 ho31 hb hg_ hnew_
              clear hg_ hnew_
              (first | rw [← Ny152.out] at ho31 | (simp only [Int.reduceToNat] at ho31; rw [← Ny152.out] at ho31))
              have n0_ := Aside0.mk (Kd.R_lower ho31 (below_size (by repeat (first | (with_reducible first | exact HB.out | apply below_alloc | apply pw_below_drewN | apply below_drew1) | exact HB.out))))
              have n1_ := Aside0.mk (below_step (by repeat (first | (with_reducible first | exact HB.out | apply below_alloc | apply pw_below_drewN | apply below_drew1) | exact HB.out)) hb)
              clear HB
              have HO154 := n0_
              have HB := n1_
              clear n0_ n1_
              clear hb ho31
              refine hK.out _ _ ⟨v153, (by rw [ha.out]; exact putSel_upk 22 hb_ rfl rfl rfl), (by repeat (first | (with_reducible first | exact HB.out | apply below_alloc | apply pw_below_drewN | apply below_drew1) | exact HB.out)), fun _ => (by (with_reducible repeat (first | apply Kd.R_alloc | apply Kd.R_drewN | apply Kd.R_drew)); exact HO154.out)⟩
             refine steps_cons ?_ ?_
             ·rintro b a w' ⟨v153, ha, Q_HB, Q_HO154⟩ hb_ hon hoff
              refine ⟨_, rfl, fun K hK => ?_⟩
              have e51 : a.tmps[51]? = some (v153) := by rw [ha]; exact putSel_on (e := (29, 51, v153)) 22 rfl rfl (hon 29 (by kernel_rfl)) rfl
              replace ha := Aside0.mk ha
              have HB := Aside0.mk Q_HB
              have HO154 := Aside0.mk (Q_HO154 (hon 29 (by kernel_rfl)))
              obtain ⟨Ao34, co34, eo34⟩ := Kd.R_slice HO154.out
              (first | subst eo34 | (injection eo34 with f1_ f2_ f3_; have f4_ := f1_.symm; have f5_ := f3_.symm; clear f1_ f2_ f3_; subst f4_; subst f5_))
              refine goes_ Tryd.func55 (by kernel_rfl) rfl #[.slice Ao34 y152.length co34] (by rfl) rfl rfl (by first | (simp only [List.map_toArray, List.map_cons, List.map_nil, Act.eval, Array.getD_eq_getD_getElem?, Option.getD_some, e51]; done) | (simp only [List.map_toArray, List.map_cons, List.map_nil, Act.eval, Array.getD_eq_getD_getElem?, Option.getD_some, e51]; rfl)) ?_
              with_reducible refine (spec_l01NText.calls k1 _ _ y152 t155 _ ?side1 ?side2 A26.out).mono ?_
              (case side1 => repeat (first | exact (Kd.R_reads' HO154.out).2.2 | (with_reducible refine Kd.C_alloc ?_ _) | (with_reducible refine Kd.C_drewN ?_ _) | (with_reducible refine Kd.C_drew ?_)))
              (case side2 => exact (Kd.R_reads' HO154.out).2.1)
              rintro e w35 ⟨rfl, hb⟩
              refine ⟨_, rfl, ?_⟩
              have n0_ := Aside0.mk (Kd.R_below (by (with_reducible repeat (first | apply Kd.R_alloc | apply Kd.R_drewN | apply Kd.R_drew)); exact HO154.out) hb)
              have n1_ := Aside0.mk (below_step (by repeat (first | (with_reducible first | exact HB.out | apply below_alloc | apply pw_below_drewN | apply below_drew1) | exact HB.out)) hb)
              clear HO154
              clear HB
              have HO154 := n0_
              have HB := n1_
              clear n0_ n1_
              (try clear hb)
              (try clear hb2)
              (try clear hk)
              (try clear hi)
              refine hK.out _ _ ⟨.slice Ao34 y152.length co34, (by rw [ha.out]; exact putSel_upk 23 hb_ rfl rfl rfl), (by repeat (first | (with_reducible first | exact HB.out | apply below_alloc | apply pw_below_drewN | apply below_drew1) | exact HB.out)), fun _ => (by (with_reducible repeat (first | apply Kd.R_alloc | apply Kd.R_drewN | apply Kd.R_drew)); exact HO154.out)⟩
             refine steps_cons ?_ ?_
             ·rintro b a w' ⟨v153, ha, Q_HB, Q_HO154⟩ hb_ hon hoff
              refine ⟨_, rfl, fun K hK => ?_⟩
              have e34 : a.tmps[34]? = some (.string (((((rd_T58 l0 x4_1).f0) ++ (⟨#[58]⟩ : ByteArray)) ++ t151) ++ (⟨#[58]⟩ : ByteArray))) := by rw [ha]; exact putSel_on (e := (12, 34, .string (((((rd_T58 l0 x4_1).f0) ++ (⟨#[58]⟩ : ByteArray)) ++ t151) ++ (⟨#[58]⟩ : ByteArray)))) 9 rfl rfl (hon 12 (by kernel_rfl)) rfl
              have e52 : a.tmps[52]? = some (.string t155) := by rw [ha]; exact putSel_on (e := (30, 52, .string t155)) 23 rfl rfl (hon 30 (by kernel_rfl)) rfl
              replace ha := Aside0.mk ha
              have HB := Aside0.mk Q_HB
              have HO154 := Aside0.mk (Q_HO154 (hon 29 (by kernel_rfl)))
              refine value_ (w1 := w') (v := .string ((((((rd_T58 l0 x4_1).f0) ++ (⟨#[58]⟩ : ByteArray)) ++ t151) ++ (⟨#[58]⟩ : ByteArray)) ++ t155)) (by rfl) rfl ?_ ?_
              ·go_simp
               (try simp only [i64_w])
               try rfl
              refine hK.out _ _ ⟨v153, (by rw [ha.out]; exact putSel_upk 24 hb_ rfl rfl rfl), Q_HB, Q_HO154⟩
             refine steps_cons ?_ ?_
             ·rintro b a w' ⟨v153, ha, Q_HB, Q_HO154⟩ hb_ hon hoff
              refine ⟨_, rfl, fun K hK => ?_⟩
              have e22 : a.tmps[22]? = some (.string x3_1) := by rw [ha]; exact (putSel_off rfl).trans rfl
              have e53 : a.tmps[53]? = some (.string ((((((rd_T58 l0 x4_1).f0) ++ (⟨#[58]⟩ : ByteArray)) ++ t151) ++ (⟨#[58]⟩ : ByteArray)) ++ t155)) := by rw [ha]; exact putSel_on (e := (31, 53, .string ((((((rd_T58 l0 x4_1).f0) ++ (⟨#[58]⟩ : ByteArray)) ++ t151) ++ (⟨#[58]⟩ : ByteArray)) ++ t155))) 24 rfl rfl (hon 31 (by kernel_rfl)) rfl
              replace ha := Aside0.mk ha
              have HB := Aside0.mk Q_HB
              have HO154 := Aside0.mk (Q_HO154 (hon 29 (by kernel_rfl)))
              refine value_ (w1 := w') (v := .string (x3_1 ++ ((((((rd_T58 l0 x4_1).f0) ++ (⟨#[58]⟩ : ByteArray)) ++ t151) ++ (⟨#[58]⟩ : ByteArray)) ++ t155))) (by rfl) rfl ?_ ?_
              ·go_simp
               (try simp only [i64_w])
               try rfl
              refine hK.out _ _ ⟨v153, (by rw [ha.out]; exact putSel_upk 25 hb_ rfl rfl rfl), Q_HB, Q_HO154⟩
             refine steps_cons ?_ ?_
             ·rintro b a w' ⟨v153, ha, Q_HB, Q_HO154⟩ hb_ hon hoff
              refine ⟨_, rfl, fun K hK => ?_⟩
              have e54 : a.tmps[54]? = some (.string (x3_1 ++ ((((((rd_T58 l0 x4_1).f0) ++ (⟨#[58]⟩ : ByteArray)) ++ t151) ++ (⟨#[58]⟩ : ByteArray)) ++ t155))) := by rw [ha]; exact putSel_on (e := (32, 54, .string (x3_1 ++ ((((((rd_T58 l0 x4_1).f0) ++ (⟨#[58]⟩ : ByteArray)) ++ t151) ++ (⟨#[58]⟩ : ByteArray)) ++ t155)))) 25 rfl rfl (hon 32 (by kernel_rfl)) rfl
              replace ha := Aside0.mk ha
              have HB := Aside0.mk Q_HB
              have HO154 := Aside0.mk (Q_HO154 (hon 29 (by kernel_rfl)))
              refine value_ (w1 := w') (v := .string (x3_1 ++ ((((((rd_T58 l0 x4_1).f0) ++ (⟨#[58]⟩ : ByteArray)) ++ t151) ++ (⟨#[58]⟩ : ByteArray)) ++ t155))) (by rfl) rfl ?_ ?_
              ·go_simp
               (try simp only [i64_w])
               try rfl
              refine hK.out _ _ ⟨v153, (by rw [ha.out]; exact putSel_upk 26 hb_ rfl rfl rfl), Q_HB, Q_HO154⟩
             exact steps_nil
            rintro b a w35 hall ⟨v153, ha, Q_HB, Q_HO154⟩
            clear HB
            have hb2_ := hall 2 (by kernel_rfl)
            have hb3_ := hall 3 (by kernel_rfl)
            have hb4_ := hall 4 (by kernel_rfl)
            have hb5_ := hall 5 (by kernel_rfl)
            have hb7_ := hall 7 (by kernel_rfl)
            have hb8_ := hall 8 (by kernel_rfl)
            have hb9_ := hall 9 (by kernel_rfl)
            have hb10_ := hall 10 (by kernel_rfl)
            have hb11_ := hall 11 (by kernel_rfl)
            have hb12_ := hall 12 (by kernel_rfl)
            have hb14_ := hall 14 (by kernel_rfl)
            have hb15_ := hall 15 (by kernel_rfl)
            have hb16_ := hall 16 (by kernel_rfl)
            have hb18_ := hall 18 (by kernel_rfl)
            have hb19_ := hall 19 (by kernel_rfl)
            have hb20_ := hall 20 (by kernel_rfl)
            have hb22_ := hall 22 (by kernel_rfl)
            have hb23_ := hall 23 (by kernel_rfl)
            have hb24_ := hall 24 (by kernel_rfl)
            have hb26_ := hall 26 (by kernel_rfl)
            have hb27_ := hall 27 (by kernel_rfl)
            have hb28_ := hall 28 (by kernel_rfl)
            have hb29_ := hall 29 (by kernel_rfl)
            have hb30_ := hall 30 (by kernel_rfl)
            have hb31_ := hall 31 (by kernel_rfl)
            have hb32_ := hall 32 (by kernel_rfl)
            have hb33_ := hall 33 (by kernel_rfl)
            subst ha
            simp only [putSel, hb2_, hb3_, hb4_, hb5_, hb7_, hb8_, hb9_, hb10_, hb11_, hb12_, hb14_, hb15_, hb16_, hb18_, hb19_, hb20_, hb22_, hb23_, hb24_, hb26_, hb27_, hb28_, hb29_, hb30_, hb31_, hb32_, hb33_, if_true, Act.put, List.setIfInBounds_toArray, List.set_cons_zero, List.set_cons_succ]
            have HB := Aside0.mk Q_HB
            clear Q_HB
            have HO154 := Aside0.mk (Q_HO154 hb29_)
            clear Q_HO154
            clear hall hb2_ hb3_ hb4_ hb5_ hb7_ hb8_ hb9_ hb10_ hb11_ hb12_ hb14_ hb15_ hb16_ hb18_ hb19_ hb20_ hb22_ hb23_ hb24_ hb26_ hb27_ hb28_ hb29_ hb30_ hb31_ hb32_ hb33_
            try go_wp2
            go_roundg k1
            case measure => have := HK1.out; omega
            case rel => exact ⟨(x3_1 ++ ((((((rd_T58 l0 x4_1).f0) ++ (⟨#[58]⟩ : ByteArray)) ++ t151) ++ (⟨#[58]⟩ : ByteArray)) ++ t155)), (wrap64 (x4_1 + 1)), (by first | rfl | (simp; done) | (simp [*]; done)), (by first | rfl | (simp; done) | (simp [*]; done)), H', ⟨by have := HK1.out; omega⟩, ⟨by repeat (first | (with_reducible first | exact HB.out | apply below_alloc | apply pw_below_drewN | apply below_drew1) | exact HB.out)⟩⟩
           ·rw [if_neg c28] at H
            exact absurd H (by simp)
          ·rw [if_neg c27] at H
           exact absurd H (by simp)
         ·rw [if_neg c25] at H
          exact absurd H (by simp)
        ·rw [if_neg c24] at H
         exact absurd H (by simp)
       ·rw [if_neg c22] at H
        exact absurd H (by simp)
      ·rw [if_neg c21] at H
       exact absurd H (by simp)
    ·rw [if_neg c3] at H
     have c3b0 : decide (x4_1 < (l0.length : Int)) = false := decide_eq_false c3
     clear c3
     obtain rfl := Option.some.inj H
     go_wp2
     go_ret
     exact ⟨by first | rfl | (simp [errW_none, errW_some] <;> rfl) | (simp [*, errW_none, errW_some] <;> rfl), by repeat (first | (with_reducible first | exact HB.out | apply below_alloc | apply pw_below_drewN | apply below_drew1) | exact HB.out)⟩
end Go.Proofs.YtdfpfiecpcgffaaDoor.PFnExactSoundsText
