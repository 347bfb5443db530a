/- Printed by a program of this session (the kit's print, with contracts of this session's own): what functions come to, and that their code comes to it. -/
import Derived.Test.YtdfpfiecpcgffaaDoorPFnExactReadThroatx0
import Derived.Test.YtdfpfiecpcgffaaDoorPFnExactReadThroatx3
import Derived.Test.YtdfpfiecpcgffaaDoorPFnExactReadThroatx4
namespace Go.Proofs.YtdfpfiecpcgffaaDoor.PFnExactReadThroat
open Go.RowKit Go.Proofs.YtdfpfiecpcgffaaDoorW.PrintWords Go.Proofs.YtdfpfiecpcgffaaDoorW.PrintLast Go.Proofs.YtdfpfiecpcgffaaDoorW.PrintMore
open Go.Proofs.YtdfpfiecpcgffaaDoorW.PrintFl
attribute [local go_sem high] binOp_feq binOp_fne binOp_fls binOp_fle binOp_fgr binOp_fge binOp_sle binOp_sgt
attribute [local go_sem] run_fopr run_fconv run_fint run_stf run_stc ext_f32bits ext_f32frombits 
attribute [local go_sem] max2_int min2_int max_two min_two max_three min_three max_four min_four   -- for this text's walks alone
set_option linter.unusedVariables false
set_option linter.unusedSimpArgs false

/-! ### impl_ReadThroat: function 14 -/
abbrev impl_ReadThroat.z0 : Array Bool := #[false, false, false, false, false, false, false, false, false, false, false, false, false, false, false, false, false, false]
abbrev impl_ReadThroat.z1 : Array Bool := #[true, false, false, false, false, false, false, false, false, false, false, false, false, false, false, false, false, false]
abbrev impl_ReadThroat.z2 : Array Bool := #[true, true, false, false, false, false, false, false, false, false, false, false, false, false, false, false, false, false]
abbrev impl_ReadThroat.z3 : Array Bool := #[true, true, false, true, false, false, false, false, false, false, false, false, false, false, false, false, false, false]
abbrev impl_ReadThroat.z4 : Array Bool := #[true, true, false, true, true, false, false, false, false, false, false, false, false, false, false, false, false, false]
abbrev impl_ReadThroat.z5 : Array Bool := #[true, true, false, true, true, false, true, false, false, false, false, false, false, false, false, false, false, false]
abbrev impl_ReadThroat.z6 : Array Bool := #[true, true, false, true, true, false, true, true, false, false, false, false, false, false, false, false, false, false]
abbrev impl_ReadThroat.z7 : Array Bool := #[true, true, false, true, true, false, true, true, false, true, false, false, false, false, false, false, false, false]
abbrev impl_ReadThroat.z8 : Array Bool := #[true, true, false, true, true, false, true, true, false, true, true, false, false, false, false, false, false, false]
abbrev impl_ReadThroat.z9 : Array Bool := #[true, true, false, true, true, false, true, true, false, true, true, false, true, false, false, false, false, false]
abbrev impl_ReadThroat.z10 : Array Bool := #[true, true, false, true, true, false, true, true, false, true, true, false, true, true, false, false, false, false]
abbrev impl_ReadThroat.z11 : Array Bool := #[true, true, true, true, true, false, true, true, false, true, true, false, true, true, false, false, false, false]
abbrev impl_ReadThroat.z12 : Array Bool := #[true, true, true, true, true, true, true, true, false, true, true, false, true, true, false, false, false, false]
abbrev impl_ReadThroat.z13 : Array Bool := #[true, true, true, true, true, true, true, true, true, true, true, false, true, true, false, false, false, false]
abbrev impl_ReadThroat.z14 : Array Bool := #[true, true, true, true, true, true, true, true, true, true, true, true, true, true, false, false, false, false]
abbrev impl_ReadThroat.z15 : Array Bool := #[true, true, true, true, true, true, true, true, true, true, true, true, true, true, true, false, false, false]
abbrev impl_ReadThroat.z16 : Array Bool := #[true, true, true, true, true, true, true, true, true, true, true, true, true, true, true, true, false, false]
abbrev impl_ReadThroat.z17 : Array Bool := #[true, true, true, true, true, true, true, true, true, true, true, true, true, true, true, true, true, false]
abbrev impl_ReadThroat.z18 : Array Bool := #[true, true, true, true, true, true, true, true, true, true, true, true, true, true, true, true, true, true]
def impl_ReadThroat.j0 : Nat → List Nat → Bool → Option (Nat × Nat × Nat × Nat × Nat × Bool)
 | 0, _, _ => none
 | k + 1, x4, x18 => if x18 = true then (some (0, 0, 0, 0, 0, false)) else (if 0 < (x4.length : Int) then (if 1 < (x4.length : Int) then (if 2 < (x4.length : Int) then (if 3 < (x4.length : Int) then (if 4 < (x4.length : Int) then ((impl_ValidThroat.f (rdOf (0 : Nat) x4 0) (rdOf (0 : Nat) x4 1) (rdOf (0 : Nat) x4 2) (rdOf (0 : Nat) x4 3) (rdOf (0 : Nat) x4 4)).bind fun t185 => (if t185 = true then (some (rdOf (0 : Nat) x4 0, rdOf (0 : Nat) x4 1, rdOf (0 : Nat) x4 2, rdOf (0 : Nat) x4 3, rdOf (0 : Nat) x4 4, true)) else (some (0, 0, 0, 0, 0, false)))) else (none)) else (none)) else (none)) else (none)) else (none))
def impl_ReadThroat.f (k : Nat) (a0 : ByteArray) : Option (Nat × Nat × Nat × Nat × Nat × Bool) := (impl_ReadNumbers.f k a0).bind fun bt175 => (if bt175.2 = true then (impl_ReadThroat.j0 k bt175.1 ((bt175.1.length : Int) != 5)) else (impl_ReadThroat.j0 k bt175.1 true))
theorem impl_ReadThroat.mono_l : ∀ k, (∀ y0 y1, LeO (impl_ReadThroat.j0 k y0 y1) (impl_ReadThroat.j0 (k + 1) y0 y1))
 | 0 => fun _ _ r h => by simp [impl_ReadThroat.j0] at h
 | k + 1 => by
  have ih0 := impl_ReadThroat.mono_l k
  ·intro y0 y1
   unfold impl_ReadThroat.j0
   repeat' first
   | (with_reducible exact ih0 _ _)
   | (with_reducible exact impl_ReadNumbers.mono _ _)
   | (with_reducible exact LeO.refl _)
   | (with_reducible exact LeO.none _)
   | (with_reducible refine LeO.ite ?_ ?_)
   | (with_reducible refine LeO.bind ?_ (fun _ => ?_))
   | exact ih0 _ _
   | exact impl_ReadNumbers.mono _ _
   | exact LeO.none _
   | refine LeO.ite ?_ ?_
   | refine LeO.bind ?_ (fun _ => ?_)
theorem impl_ReadThroat.mono : ∀ a0 k, LeO (impl_ReadThroat.f k a0) (impl_ReadThroat.f (k + 1) a0) := by
 intro a0 k
 have ih0 := impl_ReadThroat.mono_l k
 unfold impl_ReadThroat.f
 repeat' first
   | (with_reducible exact ih0 _ _)
   | (with_reducible exact impl_ReadNumbers.mono _ _)
   | (with_reducible exact LeO.refl _)
   | (with_reducible exact LeO.none _)
   | (with_reducible refine LeO.ite ?_ ?_)
   | (with_reducible refine LeO.bind ?_ (fun _ => ?_))
   | exact ih0 _ _
   | exact impl_ReadNumbers.mono _ _
   | exact LeO.none _
   | refine LeO.ite ?_ ?_
   | refine LeO.bind ?_ (fun _ => ?_)
def impl_ReadThroat.T4 : Bool × List (List Nat × List Nat) := (true, [([], []), ([0], [0]), ([1], [1]), ([], []), ([3], [3]), ([4], [4]), ([], []), ([6], [6]), ([7], [7]), ([], []), ([9], [9]), ([10], [10]), ([], []), ([12], [12]), ([13], [13]), ([2, 5, 8, 11, 14], [2, 5, 8, 11, 14]), ([], []), ([16, 15, 0, 1, 2, 3, 4, 5, 6, 7, 8, 9, 10, 11, 12, 13, 14, 15, 16], [15, 16])])
def impl_ReadThroat.B4 : List Nat := [0, 1, 3, 0, 8, 24, 0, 64, 192, 0, 512, 1536, 0, 4096, 12288, 32767, 0, 131071]
theorem impl_ReadThroat.tab4 : rtab .any (opsOf Tryd.f14 4) = impl_ReadThroat.T4 := by kernel_rfl
theorem impl_ReadThroat.bits4 : waitsOk impl_ReadThroat.T4.2 impl_ReadThroat.B4 = true := by kernel_rfl
set_option maxHeartbeats 8000000 in
set_option maxRecDepth 100000 in
theorem impl_ReadThroat.calls (k : Nat) (a0 : ByteArray) (r1 : Nat) (r2 : Nat) (r3 : Nat) (r4 : Nat) (r5 : Nat) (r6 : Bool) (w : World) (hT_ : GLt w) (h : impl_ReadThroat.f k a0 = some (r1, r2, r3, r4, r5, r6)) :
  Calls Tryd.prog 14 #[.string a0] w fun e w' => e = .returned (.tuple #[.agg #[.float .f32 r1, .float .f32 r2, .float .f32 r3, .float .f32 r4, .float .f32 r5], .bool r6]) ∧ Below w.heap.size w w' := by
 have hu32 := Tryd.underlying32
 have hu30 := Tryd.underlying30
 have HGT_ := Aside0.mk hT_
 clear hT_
 have HB := Aside0.mk (Below.refl w.heap.size w)
 have H : ((impl_ReadNumbers.f k a0).bind fun bt175 => (if bt175.2 = true then (impl_ReadThroat.j0 k bt175.1 ((bt175.1.length : Int) != 5)) else (impl_ReadThroat.j0 k bt175.1 true))) = some (r1, r2, r3, r4, r5, r6) := h
 clear h
 replace H := Option.bind_eq_some_iff.mp H
 obtain ⟨⟨t175, t176⟩, A20, H⟩ := H
 replace H : (if t176 = true then (impl_ReadThroat.j0 k t175 ((t175.length : Int) != 5)) else (impl_ReadThroat.j0 k t175 true)) = some (r1, r2, r3, r4, r5, r6) := H
 have A2 := Aside0.mk A20
 clear A20
 have HC3 := Aside0.mk H
 clear H
 go_enter Tryd.func14, Tryd.ntmps14
 go_upto_region 2 with (first | ((with_reducible refine gate_dst (N := 2) rfl ?_); (try (refine gate_guard (by rfl) ?_; dsimp only)); refine box_event ?hg (N := 2) ?hd (cs := #[.float .f32 0, .float .f32 0, .float .f32 0, .float .f32 0, .float .f32 0]) (t := 32) ?hr ?_; (case hd => rfl); (case hg => rfl); (case hr => first | (go_simp; done) | (go_simp; rfl) | (simp (disch := omega) only [w64_id]; go_simp; done) | (go_simp; simp (disch := omega) only [w64_id]; done)); intro gb174 hg w4 hbox hb; have n0_ := Aside0.mk (below_step (by repeat (first | (with_reducible first | exact HB.out | apply below_alloc | apply pw_below_drewN | apply below_drew1) | exact HB.out)) hb); have n1_ := Aside0.mk (hbox); have n2_ := Aside0.mk ((by rw [hg]; exact (below_size (by repeat (first | (with_reducible first | exact HB.out | apply below_alloc | apply pw_below_drewN | apply below_drew1) | exact HB.out))) : w.heap.size ≤ gb174)); have n3_ := Aside0.mk ((by rw [hg]; exact (below_size (by repeat (first | (with_reducible first | exact HB.out | apply below_alloc | apply pw_below_drewN | apply below_drew1) | exact HB.out))) : w.heap.size ≤ gb174)); clear HB; have HB := n0_; have BK174 := n1_; have GW174 := n2_; have GE174 := n3_; clear n0_ n1_ n2_ n3_; clear hb hbox hg) | ((with_reducible refine gate_callee (f := 38) rfl ?_); refine goesL_ (some 9) rfl rfl Tryd.func38 (by kernel_rfl) rfl #[.string a0] rfl (by (try simp only [List.map_toArray, List.map_cons, List.map_nil]); first | done | rfl | (simp only [List.length_drop, List.length_take]; rfl)) ?_; (with_reducible refine (impl_ReadNumbers.calls k a0 t175 t176 _ ?side1 A2.out).mono ?_); (case side1 => repeat (first | exact (GLt_below HGT_.out HB.out) | (with_reducible refine GLt_alloc ?_ _) | (with_reducible refine GLt_drewN ?_ _) | (with_reducible refine GLt_drew ?_))); rintro e w5 ⟨v177, rfl, ho0, hb⟩; refine ⟨_, rfl, ?_⟩; have n0_ := Aside0.mk (Kd.R_lower ho0 (below_size (by repeat (first | (with_reducible first | exact HB.out | apply below_alloc | apply pw_below_drewN | apply below_drew1 | refine below_set ?_ GE174.out) | exact HB.out)))); have n1_ := Aside0.mk (blk_below (g := gb174) (o := .cells #[.float .f32 0, .float .f32 0, .float .f32 0, .float .f32 0, .float .f32 0] 32 (0, 0)) (by (with_reducible repeat (first | refine blk_drewN ?_ _ | refine blk_drew ?_ | refine blk_alloc ?_ _)); exact BK174.out) hb); have n2_ := Aside0.mk (below_step (by repeat (first | (with_reducible first | exact HB.out | apply below_alloc | apply pw_below_drewN | apply below_drew1 | refine below_set ?_ GE174.out) | exact HB.out)) hb); clear BK174; clear HB; have HO178 := n0_; have BK174 := n1_; have HB := n2_; clear n0_ n1_ n2_; (try clear hb); (try clear hb2); (try clear hk); (try clear hi); (try clear ho0)))
 (try simp only [Act.put, List.setIfInBounds_toArray, List.set_cons_zero, List.set_cons_succ])
 go_cut [18] (fun v18 wc => ∃ (kq : Nat) (x18_2 : Bool), v18 = .bool x18_2 ∧ Aside0 (impl_ReadThroat.j0 kq t175 x18_2 = some (r1, r2, r3, r4, r5, r6)) ∧ Aside0 (kq ≤ k) ∧ Aside0 (Kd.R (Kd.float .f32) 30 wc w.heap.size (fun _ => True) v177 t175) ∧ Aside0 (wc.heap[gb174]? = some (.cells #[.float .f32 0, .float .f32 0, .float .f32 0, .float .f32 0, .float .f32 0] 32 (0, 0))) ∧ Aside0 (Below w.heap.size w wc))
 case first =>
  have H := HC3.out
  clear HC3
  by_cases c6 : t176 = true
  ·subst c6
   have H1 : (impl_ReadThroat.j0 k t175 ((t175.length : Int) != 5)) = some (r1, r2, r3, r4, r5, r6) := by rw [if_pos rfl] at H; exact H
   clear H
   have H := H1
   clear H1
   have H' := Aside0.mk H
   clear H
   obtain ⟨Ao7, co7, eo7⟩ := Kd.R_slice HO178.out
   subst eo7
   go_wp2
   go_meet
   case rel => exact ⟨_, (((t175.length : Int) != 5)), (by first | rfl | (simp; done) | (simp [*]; done)), H', ⟨by first | omega | exact Nat.le_refl _⟩, ⟨by (with_reducible repeat (first | apply Kd.R_alloc | apply Kd.R_drewN | apply Kd.R_drew)); exact HO178.out⟩, ⟨by (with_reducible repeat (first | refine blk_drewN ?_ _ | refine blk_drew ?_ | refine blk_alloc ?_ _)); exact BK174.out⟩, ⟨by repeat (first | (with_reducible first | exact HB.out | apply below_alloc | apply pw_below_drewN | apply below_drew1 | refine below_set ?_ GE174.out) | exact HB.out)⟩⟩
  ·replace c6 := Bool.eq_false_iff.mpr c6
   subst c6
   have H1 : (impl_ReadThroat.j0 k t175 true) = some (r1, r2, r3, r4, r5, r6) := by rw [if_neg (show ¬ (false = true) by decide)] at H; exact H
   clear H
   have H := H1
   clear H1
   have H' := Aside0.mk H
   clear H
   go_wp2
   go_meet
   case rel => exact ⟨_, (true), (by first | rfl | (simp; done) | (simp [*]; done)), H', ⟨by first | omega | exact Nat.le_refl _⟩, ⟨by (with_reducible repeat (first | apply Kd.R_alloc | apply Kd.R_drewN | apply Kd.R_drew)); exact HO178.out⟩, ⟨by (with_reducible repeat (first | refine blk_drewN ?_ _ | refine blk_drew ?_ | refine blk_alloc ?_ _)); exact BK174.out⟩, ⟨by repeat (first | (with_reducible first | exact HB.out | apply below_alloc | apply pw_below_drewN | apply below_drew1 | refine below_set ?_ GE174.out) | exact HB.out)⟩⟩
 case rest =>
  clear HC3
  try clear c1
  try clear p2
  try clear c3
  try clear c6
  obtain ⟨kq, x18_2, rfl, HA, HJ2, HO_4, BK174, HB⟩ := hcut
  cases kq with
  | zero => exact absurd HA.out (by simp [impl_ReadThroat.j0])
  | succ kj2 =>
   have H := HA.out
   clear HA
   simp only [impl_ReadThroat.j0] at H
   by_cases c8 : x18_2 = true
   ·subst c8
    have H1 : (some (0, 0, 0, 0, 0, false)) = some (r1, r2, r3, r4, r5, r6) := by rw [if_pos rfl] at H; exact H
    clear H
    have H := H1
    clear H1
    simp only [Option.some.injEq, Prod.mk.injEq] at H
    obtain ⟨rfl, rfl, rfl, rfl, rfl, rfl⟩ := H
    have hcz9_0 : wc.cell? ⟨gb174, 0, none⟩ = some (.float .f32 0) := (blk_cell BK174.out 0).trans rfl
    have hcz9_1 : wc.cell? ⟨gb174, 1, none⟩ = some (.float .f32 0) := (blk_cell BK174.out 1).trans rfl
    have hcz9_2 : wc.cell? ⟨gb174, 2, none⟩ = some (.float .f32 0) := (blk_cell BK174.out 2).trans rfl
    have hcz9_3 : wc.cell? ⟨gb174, 3, none⟩ = some (.float .f32 0) := (blk_cell BK174.out 3).trans rfl
    have hcz9_4 : wc.cell? ⟨gb174, 4, none⟩ = some (.float .f32 0) := (blk_cell BK174.out 4).trans rfl
    have hfz9_0 := blk_frozen BK174.out 0
    have hfz9_1 := blk_frozen BK174.out 1
    have hfz9_2 := blk_frozen BK174.out 2
    have hfz9_3 := blk_frozen BK174.out 3
    have hfz9_4 := blk_frozen BK174.out 4
    go_wp2
    refine bodyPost_ret (results_ct rfl _ _ gb174 32 #[.float .f32 0, .float .f32 0, .float .f32 0, .float .f32 0, .float .f32 0] (0, 0) _ rfl (by (with_reducible repeat (first | refine blk_drewN ?_ _ | refine blk_drew ?_ | refine blk_alloc ?_ _)); refine blk_put (cs := #[.float .f32 0, .float .f32 0, .float .f32 0, .float .f32 0, .float .f32 0]) ?_ 4 _ rfl; (with_reducible repeat (first | refine blk_drewN ?_ _ | refine blk_drew ?_ | refine blk_alloc ?_ _)); refine blk_put (cs := #[.float .f32 0, .float .f32 0, .float .f32 0, .float .f32 0, .float .f32 0]) ?_ 3 _ rfl; (with_reducible repeat (first | refine blk_drewN ?_ _ | refine blk_drew ?_ | refine blk_alloc ?_ _)); refine blk_put (cs := #[.float .f32 0, .float .f32 0, .float .f32 0, .float .f32 0, .float .f32 0]) ?_ 2 _ rfl; (with_reducible repeat (first | refine blk_drewN ?_ _ | refine blk_drew ?_ | refine blk_alloc ?_ _)); refine blk_put (cs := #[.float .f32 0, .float .f32 0, .float .f32 0, .float .f32 0, .float .f32 0]) ?_ 1 _ rfl; (with_reducible repeat (first | refine blk_drewN ?_ _ | refine blk_drew ?_ | refine blk_alloc ?_ _)); refine blk_put (cs := #[.float .f32 0, .float .f32 0, .float .f32 0, .float .f32 0, .float .f32 0]) ?_ 0 _ rfl; (with_reducible repeat (first | refine blk_drewN ?_ _ | refine blk_drew ?_ | refine blk_alloc ?_ _)); exact BK174.out) Tryd.underlying32 rfl (by kernel_rfl)) rfl ?_
    exact ⟨by first | rfl | (simp [errW_none, errW_some] <;> rfl) | (simp [*, errW_none, errW_some] <;> rfl), by repeat (first | (with_reducible first | exact HB.out | apply below_alloc | apply pw_below_drewN | apply below_drew1 | refine below_set ?_ GE174.out) | exact HB.out)⟩
   ·replace c8 := Bool.eq_false_iff.mpr c8
    subst c8
    have H1 : (if 0 < (t175.length : Int) then (if 1 < (t175.length : Int) then (if 2 < (t175.length : Int) then (if 3 < (t175.length : Int) then (if 4 < (t175.length : Int) then ((impl_ValidThroat.f (rdOf (0 : Nat) t175 0) (rdOf (0 : Nat) t175 1) (rdOf (0 : Nat) t175 2) (rdOf (0 : Nat) t175 3) (rdOf (0 : Nat) t175 4)).bind fun t185 => (if t185 = true then (some (rdOf (0 : Nat) t175 0, rdOf (0 : Nat) t175 1, rdOf (0 : Nat) t175 2, rdOf (0 : Nat) t175 3, rdOf (0 : Nat) t175 4, true)) else (some (0, 0, 0, 0, 0, false)))) else (none)) else (none)) else (none)) else (none)) else (none)) = some (r1, r2, r3, r4, r5, r6) := by rw [if_neg (show ¬ (false = true) by decide)] at H; exact H
    clear H
    have H := H1
    clear H1
    by_cases c10 : 0 < (t175.length : Int)
    ·rw [if_pos c10] at H
     have c10b0 : decide (0 < (t175.length : Int)) = true := decide_eq_true c10
     have c10b1 : decide (0 < t175.length) = true := decide_eq_true (by omega)
     clear c10
     by_cases c11 : 1 < (t175.length : Int)
     ·rw [if_pos c11] at H
      have c11b0 : decide (1 < (t175.length : Int)) = true := decide_eq_true c11
      have c11b1 : decide (1 < t175.length) = true := decide_eq_true (by omega)
      clear c11
      by_cases c12 : 2 < (t175.length : Int)
      ·rw [if_pos c12] at H
       have c12b0 : decide (2 < (t175.length : Int)) = true := decide_eq_true c12
       have c12b1 : decide (2 < t175.length) = true := decide_eq_true (by omega)
       clear c12
       by_cases c13 : 3 < (t175.length : Int)
       ·rw [if_pos c13] at H
        have c13b0 : decide (3 < (t175.length : Int)) = true := decide_eq_true c13
        have c13b1 : decide (3 < t175.length) = true := decide_eq_true (by omega)
        clear c13
        by_cases c14 : 4 < (t175.length : Int)
        ·rw [if_pos c14] at H
         have c14b0 : decide (4 < (t175.length : Int)) = true := decide_eq_true c14
         have c14b1 : decide (4 < t175.length) = true := decide_eq_true (by omega)
         clear c14
         replace H := Option.bind_eq_some_iff.mp H
         obtain ⟨t185, A150, H⟩ := H
         replace H : (if t185 = true then (some (rdOf (0 : Nat) t175 0, rdOf (0 : Nat) t175 1, rdOf (0 : Nat) t175 2, rdOf (0 : Nat) t175 3, rdOf (0 : Nat) t175 4, true)) else (some (0, 0, 0, 0, 0, false))) = some (r1, r2, r3, r4, r5, r6) := H
         have A15 := Aside0.mk A150
         clear A150
         by_cases c16 : t185 = true
         ·subst c16
          have H1 : (some (rdOf (0 : Nat) t175 0, rdOf (0 : Nat) t175 1, rdOf (0 : Nat) t175 2, rdOf (0 : Nat) t175 3, rdOf (0 : Nat) t175 4, true)) = some (r1, r2, r3, r4, r5, r6) := by rw [if_pos rfl] at H; exact H
          clear H
          have H := H1
          clear H1
          simp only [Option.some.injEq, Prod.mk.injEq] at H
          obtain ⟨rfl, rfl, rfl, rfl, rfl, rfl⟩ := H
          try go_wp2
          have n0_ := Aside0.mk (Kd.R_drew HO_4.out)
          have n1_ := Aside0.mk (blk_drew BK174.out)
          have n2_ := Aside0.mk (below_drew1 HB.out)
          clear HO_4
          clear BK174
          clear HB
          have HO_4 := n0_
          have BK174 := n1_
          have HB := n2_
          clear n0_ n1_ n2_
          obtain ⟨Ao18, co18, eo18⟩ := Kd.R_slice HO_4.out
          (first | subst eo18 | (injection eo18 with f1_ f2_ f3_; have f4_ := f1_.symm; have f5_ := f3_.symm; clear f1_ f2_ f3_; subst f4_; subst f5_))
          have p179 : 0 ≤ (0 : Int) := (by omega)
          have q179 : 0 < (t175.length : Int) := of_decide_eq_true (by first | (with_reducible assumption) | assumption)
          obtain ⟨ad179, e179, hx179_0⟩ := Kd.at_float (Kd.R_reads' HO_4.out).2.2 0 p179 q179
          cases e179
          have qi179 : (0 < t175.length) = True := eq_true (by omega)
          (try rw [show ((0 : Int)).toNat = 0 from rfl] at hx179_0)
          (try rw [Addr.add_zero'] at hx179_0)
          replace p179 := eq_true p179
          replace q179 := eq_true q179
          have p180 : 0 ≤ (1 : Int) := (by omega)
          have q180 : 1 < (t175.length : Int) := of_decide_eq_true (by first | (with_reducible assumption) | assumption)
          obtain ⟨ad180, e180, hx180_0⟩ := Kd.at_float (Kd.R_reads' HO_4.out).2.2 1 p180 q180
          obtain rfl : ad179 = ad180 := (by injection e180)
          (try simp only [show (1 : Int).toNat = 1 from rfl, Nat.reduceMul, Nat.reduceEqDiff, Go.Addr.add, ↓reduceIte] at hx180_0)
          have qi180 : (1 < t175.length) = True := eq_true (by omega)
          (try rw [show ((1 : Int)).toNat = 1 from rfl] at hx180_0)
          replace p180 := eq_true p180
          replace q180 := eq_true q180
          have p181 : 0 ≤ (2 : Int) := (by omega)
          have q181 : 2 < (t175.length : Int) := of_decide_eq_true (by first | (with_reducible assumption) | assumption)
          obtain ⟨ad181, e181, hx181_0⟩ := Kd.at_float (Kd.R_reads' HO_4.out).2.2 2 p181 q181
          obtain rfl : ad179 = ad181 := (by injection e181)
          (try simp only [show (2 : Int).toNat = 2 from rfl, Nat.reduceMul, Nat.reduceEqDiff, Go.Addr.add, ↓reduceIte] at hx181_0)
          have qi181 : (2 < t175.length) = True := eq_true (by omega)
          (try rw [show ((2 : Int)).toNat = 2 from rfl] at hx181_0)
          replace p181 := eq_true p181
          replace q181 := eq_true q181
          have p182 : 0 ≤ (3 : Int) := (by omega)
          have q182 : 3 < (t175.length : Int) := of_decide_eq_true (by first | (with_reducible assumption) | assumption)
          obtain ⟨ad182, e182, hx182_0⟩ := Kd.at_float (Kd.R_reads' HO_4.out).2.2 3 p182 q182
          obtain rfl : ad179 = ad182 := (by injection e182)
          (try simp only [show (3 : Int).toNat = 3 from rfl, Nat.reduceMul, Nat.reduceEqDiff, Go.Addr.add, ↓reduceIte] at hx182_0)
          have qi182 : (3 < t175.length) = True := eq_true (by omega)
          (try rw [show ((3 : Int)).toNat = 3 from rfl] at hx182_0)
          replace p182 := eq_true p182
          replace q182 := eq_true q182
          have p183 : 0 ≤ (4 : Int) := (by omega)
          have q183 : 4 < (t175.length : Int) := of_decide_eq_true (by first | (with_reducible assumption) | assumption)
          obtain ⟨ad183, e183, hx183_0⟩ := Kd.at_float (Kd.R_reads' HO_4.out).2.2 4 p183 q183
          obtain rfl : ad179 = ad183 := (by injection e183)
          (try simp only [show (4 : Int).toNat = 4 from rfl, Nat.reduceMul, Nat.reduceEqDiff, Go.Addr.add, ↓reduceIte] at hx183_0)
          have qi183 : (4 < t175.length) = True := eq_true (by omega)
          (try rw [show ((4 : Int)).toNat = 4 from rfl] at hx183_0)
          replace p183 := eq_true p183
          replace q183 := eq_true q183
          refine start_ (n := 18) (S := fun w' => w'.cell? ad179 = some (.float .f32 (rdOf (0 : Nat) t175 0)) ∧ w'.cell? ⟨ad179.block, ad179.off + 1, none⟩ = some (.float .f32 (rdOf (0 : Nat) t175 1)) ∧ w'.cell? ⟨ad179.block, ad179.off + 2, none⟩ = some (.float .f32 (rdOf (0 : Nat) t175 2)) ∧ w'.cell? ⟨ad179.block, ad179.off + 3, none⟩ = some (.float .f32 (rdOf (0 : Nat) t175 3)) ∧ w'.cell? ⟨ad179.block, ad179.off + 4, none⟩ = some (.float .f32 (rdOf (0 : Nat) t175 4))) (ds := []) impl_ReadThroat.z0 (by kernel_rfl) rfl rfl ⟨hx179_0, hx180_0, hx181_0, hx182_0, hx183_0⟩ (fun hHeld => ?_); refine with_tabW impl_ReadThroat.tab4 impl_ReadThroat.bits4 (fun HT_ HW_ => ?_)
          generalize wc.drew = w17 at HO_4 BK174 HB hx179_0 hx180_0 hx181_0 hx182_0 hx183_0 hHeld ⊢
          refine pure_ (i := 0) (N := some 20) (v := ?_) (a' := ?_) impl_ReadThroat.z1 rfl rfl (any_of HT_.out (by kernel_rfl)) (fun _ _ _ h => h) (Or.inl ⟨by rfl, ?_⟩) ?_ ?_
          pv_
          refine pure_ (i := 1) (N := some 21) (v := ?_) (a' := ?_) impl_ReadThroat.z2 rfl rfl (any_of HT_.out (by kernel_rfl)) (fun _ _ _ h => h) (Or.inl ⟨by rfl, ?_⟩) ?_ ?_
          pv_
          refine pure_ (i := 3) (N := some 23) (v := ?_) (a' := ?_) impl_ReadThroat.z3 rfl rfl (any_of HT_.out (by kernel_rfl)) (fun _ _ _ h => h) (Or.inl ⟨by rfl, ?_⟩) ?_ ?_
          pv_
          refine pure_ (i := 4) (N := some 24) (v := ?_) (a' := ?_) impl_ReadThroat.z4 rfl rfl (any_of HT_.out (by kernel_rfl)) (fun _ _ _ h => h) (Or.inl ⟨by rfl, ?_⟩) ?_ ?_
          pv_
          refine pure_ (i := 6) (N := some 26) (v := ?_) (a' := ?_) impl_ReadThroat.z5 rfl rfl (any_of HT_.out (by kernel_rfl)) (fun _ _ _ h => h) (Or.inl ⟨by rfl, ?_⟩) ?_ ?_
          pv_
          refine pure_ (i := 7) (N := some 27) (v := ?_) (a' := ?_) impl_ReadThroat.z6 rfl rfl (any_of HT_.out (by kernel_rfl)) (fun _ _ _ h => h) (Or.inl ⟨by rfl, ?_⟩) ?_ ?_
          pv_
          refine pure_ (i := 9) (N := some 29) (v := ?_) (a' := ?_) impl_ReadThroat.z7 rfl rfl (any_of HT_.out (by kernel_rfl)) (fun _ _ _ h => h) (Or.inl ⟨by rfl, ?_⟩) ?_ ?_
          pv_
          refine pure_ (i := 10) (N := some 30) (v := ?_) (a' := ?_) impl_ReadThroat.z8 rfl rfl (any_of HT_.out (by kernel_rfl)) (fun _ _ _ h => h) (Or.inl ⟨by rfl, ?_⟩) ?_ ?_
          pv_
          refine pure_ (i := 12) (N := some 32) (v := ?_) (a' := ?_) impl_ReadThroat.z9 rfl rfl (any_of HT_.out (by kernel_rfl)) (fun _ _ _ h => h) (Or.inl ⟨by rfl, ?_⟩) ?_ ?_
          pv_
          refine pure_ (i := 13) (N := some 33) (v := ?_) (a' := ?_) impl_ReadThroat.z10 rfl rfl (any_of HT_.out (by kernel_rfl)) (fun _ _ _ h => h) (Or.inl ⟨by rfl, ?_⟩) ?_ ?_
          pv_
          refine take_ (i := 2) (N := some 22) (v := ?_) (a' := ?_) impl_ReadThroat.z11 rfl rfl (take_ofW HT_.out HW_.out (by kernel_rfl)) (fun _ _ _ h => h) (Or.inl ⟨by rfl, ?_⟩) hHeld ?_ ?_
          rotate_left
          ·rintro w' ⟨s0, s1, s2, s3, s4⟩
           go_simp
           with_reducible rfl
          rotate_left
          ·pw_
          refine take_ (i := 5) (N := some 25) (v := ?_) (a' := ?_) impl_ReadThroat.z12 rfl rfl (take_ofW HT_.out HW_.out (by kernel_rfl)) (fun _ _ _ h => h) (Or.inl ⟨by rfl, ?_⟩) hHeld ?_ ?_
          rotate_left
          ·rintro w' ⟨s0, s1, s2, s3, s4⟩
           go_simp
           with_reducible rfl
          rotate_left
          ·pw_
          refine take_ (i := 8) (N := some 28) (v := ?_) (a' := ?_) impl_ReadThroat.z13 rfl rfl (take_ofW HT_.out HW_.out (by kernel_rfl)) (fun _ _ _ h => h) (Or.inl ⟨by rfl, ?_⟩) hHeld ?_ ?_
          rotate_left
          ·rintro w' ⟨s0, s1, s2, s3, s4⟩
           go_simp
           with_reducible rfl
          rotate_left
          ·pw_
          refine take_ (i := 11) (N := some 31) (v := ?_) (a' := ?_) impl_ReadThroat.z14 rfl rfl (take_ofW HT_.out HW_.out (by kernel_rfl)) (fun _ _ _ h => h) (Or.inl ⟨by rfl, ?_⟩) hHeld ?_ ?_
          rotate_left
          ·rintro w' ⟨s0, s1, s2, s3, s4⟩
           go_simp
           with_reducible rfl
          rotate_left
          ·pw_
          refine take_ (i := 14) (N := some 34) (v := ?_) (a' := ?_) impl_ReadThroat.z15 rfl rfl (take_ofW HT_.out HW_.out (by kernel_rfl)) (fun _ _ _ h => h) (Or.inl ⟨by rfl, ?_⟩) hHeld ?_ ?_
          rotate_left
          ·rintro w' ⟨s0, s1, s2, s3, s4⟩
           go_simp
           with_reducible rfl
          rotate_left
          ·pw_
          refine pure_ (i := 15) (N := some 35) (v := ?_) (a' := ?_) impl_ReadThroat.z16 rfl rfl (any_of HT_.out (by kernel_rfl)) (fun _ _ _ h => h) (Or.inl ⟨by rfl, ?_⟩) ?_ ?_
          pv_
          refine one_ (i := 16) (N := some 6) impl_ReadThroat.z17 rfl rfl (one_of HT_.out (by kernel_rfl)) (by decide) (fun K hK => ?_)
          refine box_step ?hg (N := 6) ?hd (cs := #[.float .f32 0, .float .f32 0, .float .f32 0, .float .f32 0, .float .f32 0]) (t := 32) ?hr ?_; (case hd => rfl); (case hg => rfl); (case hr => first | (go_simp; done) | (go_simp; rfl) | (simp (disch := omega) only [w64_id]; go_simp; done) | (go_simp; simp (disch := omega) only [w64_id]; done))
          intro gb184 hg w19 hbox hb
          have HS0_ := (hb.cell (World.block_lt_of_cell? _ _ (hHeld.1))).trans (hHeld.1)
          have HS1_ := (hb.cell (World.block_lt_of_cell? _ _ (hHeld.2.1))).trans (hHeld.2.1)
          have HS2_ := (hb.cell (World.block_lt_of_cell? _ _ (hHeld.2.2.1))).trans (hHeld.2.2.1)
          have HS3_ := (hb.cell (World.block_lt_of_cell? _ _ (hHeld.2.2.2.1))).trans (hHeld.2.2.2.1)
          have HS4_ := (hb.cell (World.block_lt_of_cell? _ _ (hHeld.2.2.2.2))).trans (hHeld.2.2.2.2)
          have n0_ := Aside0.mk (Kd.R_below (by (with_reducible repeat (first | apply Kd.R_alloc | apply Kd.R_drewN | apply Kd.R_drew)); exact HO_4.out) hb)
          have n1_ := Aside0.mk (blk_below (g := gb174) (o := .cells #[.float .f32 0, .float .f32 0, .float .f32 0, .float .f32 0, .float .f32 0] 32 (0, 0)) (by (with_reducible repeat (first | refine blk_drewN ?_ _ | refine blk_drew ?_ | refine blk_alloc ?_ _)); exact BK174.out) hb)
          have n2_ := Aside0.mk (below_step (by repeat (first | (with_reducible first | exact HB.out | apply below_alloc | apply pw_below_drewN | apply below_drew1 | refine below_set ?_ GE174.out) | exact HB.out)) hb)
          have n3_ := Aside0.mk (hbox)
          have n4_ := Aside0.mk ((by rw [hg]; exact (below_size (by repeat (first | (with_reducible first | exact HB.out | apply below_alloc | apply pw_below_drewN | apply below_drew1 | refine below_set ?_ GE174.out) | exact HB.out))) : w.heap.size ≤ gb184))
          have n5_ := Aside0.mk ((by rw [hg]; exact (below_size (by repeat (first | (with_reducible first | exact HB.out | apply below_alloc | apply pw_below_drewN | apply below_drew1 | refine below_set ?_ GE174.out) | exact HB.out))) : w.heap.size ≤ gb184))
          have n6_ := Aside0.mk ((by rw [hg]; exact Nat.ne_of_lt (blk_lt (g := gb174) (o := .cells #[.float .f32 0, .float .f32 0, .float .f32 0, .float .f32 0, .float .f32 0] 32 (0, 0)) (by (with_reducible repeat (first | refine blk_drewN ?_ _ | refine blk_drew ?_ | refine blk_alloc ?_ _)); exact BK174.out)) : gb174 ≠ gb184))
          have n7_ := Aside0.mk ((by rw [hg]; exact Nat.ne_of_gt (blk_lt (g := gb174) (o := .cells #[.float .f32 0, .float .f32 0, .float .f32 0, .float .f32 0, .float .f32 0] 32 (0, 0)) (by (with_reducible repeat (first | refine blk_drewN ?_ _ | refine blk_drew ?_ | refine blk_alloc ?_ _)); exact BK174.out)) : gb184 ≠ gb174))
          clear HO_4
          clear BK174
          clear HB
          have HO_4 := n0_
          have BK174 := n1_
          have HB := n2_
          have BK184 := n3_
          have GW184 := n4_
          have GE184 := n5_
          have NB174_184 := n6_
          have NB184_174 := n7_
          clear n0_ n1_ n2_ n3_ n4_ n5_ n6_ n7_
          clear hb hbox hg
          refine hK.out _ _ ⟨HS0_, HS1_, HS2_, HS3_, HS4_⟩ (fun hHeld => ?_)
          clear hK K
          refine norm_ (a' := ?_) ?_ ?_
          rotate_left
          ·show Act.put _ (some 6) _ = _
           pw_
          refine one_ (i := 17) (N := none) impl_ReadThroat.z18 rfl rfl (one_of HT_.out (by kernel_rfl)) (by decide) (fun K hK => ?_)
          have hs20 : w19.cell? ⟨gb184, 0, none⟩ = some (.float .f32 0) := (blk_cell BK184.out 0).trans rfl
          have hfs20 := blk_frozen BK184.out 0
          have hns20_0 := NB174_184.out
          have hms20_0 := NB184_174.out
          have hs21 : w19.cell? ⟨gb184, 1, none⟩ = some (.float .f32 0) := (blk_cell BK184.out 1).trans rfl
          have hfs21 := blk_frozen BK184.out 1
          have hns21_0 := NB174_184.out
          have hms21_0 := NB184_174.out
          have hs22 : w19.cell? ⟨gb184, 2, none⟩ = some (.float .f32 0) := (blk_cell BK184.out 2).trans rfl
          have hfs22 := blk_frozen BK184.out 2
          have hns22_0 := NB174_184.out
          have hms22_0 := NB184_174.out
          have hs23 : w19.cell? ⟨gb184, 3, none⟩ = some (.float .f32 0) := (blk_cell BK184.out 3).trans rfl
          have hfs23 := blk_frozen BK184.out 3
          have hns23_0 := NB174_184.out
          have hms23_0 := NB184_174.out
          have hs24 : w19.cell? ⟨gb184, 4, none⟩ = some (.float .f32 0) := (blk_cell BK184.out 4).trans rfl
          have hfs24 := blk_frozen BK184.out 4
          have hns24_0 := NB174_184.out
          have hms24_0 := NB184_174.out
          refine skip_ (w1 := ?_) (by rfl) rfl ?_ ?_
          rotate_left
          ·go_simp
           rfl
          refine hK.out _ _ ⟨((cell_far (p := ⟨gb184, _, none⟩) (by first | exact Kd.own_blk (Kd.R_ne HO_4.out BK184.out (by decide)) | (rw [add_block]; exact Kd.own_blk (Kd.R_ne HO_4.out BK184.out (by decide))) | (show (Addr.add _ _).block ≠ _; rw [add_block]; exact Kd.own_blk (Kd.R_ne HO_4.out BK184.out (by decide))) | (dsimp only; exact Kd.own_blk (Kd.R_ne HO_4.out BK184.out (by decide)))) _).trans (((cell_far (p := ⟨gb184, _, none⟩) (by first | exact Kd.own_blk (Kd.R_ne HO_4.out BK184.out (by decide)) | (rw [add_block]; exact Kd.own_blk (Kd.R_ne HO_4.out BK184.out (by decide))) | (show (Addr.add _ _).block ≠ _; rw [add_block]; exact Kd.own_blk (Kd.R_ne HO_4.out BK184.out (by decide))) | (dsimp only; exact Kd.own_blk (Kd.R_ne HO_4.out BK184.out (by decide)))) _).trans (((cell_far (p := ⟨gb184, _, none⟩) (by first | exact Kd.own_blk (Kd.R_ne HO_4.out BK184.out (by decide)) | (rw [add_block]; exact Kd.own_blk (Kd.R_ne HO_4.out BK184.out (by decide))) | (show (Addr.add _ _).block ≠ _; rw [add_block]; exact Kd.own_blk (Kd.R_ne HO_4.out BK184.out (by decide))) | (dsimp only; exact Kd.own_blk (Kd.R_ne HO_4.out BK184.out (by decide)))) _).trans (((cell_far (p := ⟨gb184, _, none⟩) (by first | exact Kd.own_blk (Kd.R_ne HO_4.out BK184.out (by decide)) | (rw [add_block]; exact Kd.own_blk (Kd.R_ne HO_4.out BK184.out (by decide))) | (show (Addr.add _ _).block ≠ _; rw [add_block]; exact Kd.own_blk (Kd.R_ne HO_4.out BK184.out (by decide))) | (dsimp only; exact Kd.own_blk (Kd.R_ne HO_4.out BK184.out (by decide)))) _).trans (((cell_far (p := ⟨gb184, _, none⟩) (by first | exact Kd.own_blk (Kd.R_ne HO_4.out BK184.out (by decide)) | (rw [add_block]; exact Kd.own_blk (Kd.R_ne HO_4.out BK184.out (by decide))) | (show (Addr.add _ _).block ≠ _; rw [add_block]; exact Kd.own_blk (Kd.R_ne HO_4.out BK184.out (by decide))) | (dsimp only; exact Kd.own_blk (Kd.R_ne HO_4.out BK184.out (by decide)))) _).trans (hHeld.1)))))))))), ((cell_far (p := ⟨gb184, _, none⟩) (by first | exact Kd.own_blk (Kd.R_ne HO_4.out BK184.out (by decide)) | (rw [add_block]; exact Kd.own_blk (Kd.R_ne HO_4.out BK184.out (by decide))) | (show (Addr.add _ _).block ≠ _; rw [add_block]; exact Kd.own_blk (Kd.R_ne HO_4.out BK184.out (by decide))) | (dsimp only; exact Kd.own_blk (Kd.R_ne HO_4.out BK184.out (by decide)))) _).trans (((cell_far (p := ⟨gb184, _, none⟩) (by first | exact Kd.own_blk (Kd.R_ne HO_4.out BK184.out (by decide)) | (rw [add_block]; exact Kd.own_blk (Kd.R_ne HO_4.out BK184.out (by decide))) | (show (Addr.add _ _).block ≠ _; rw [add_block]; exact Kd.own_blk (Kd.R_ne HO_4.out BK184.out (by decide))) | (dsimp only; exact Kd.own_blk (Kd.R_ne HO_4.out BK184.out (by decide)))) _).trans (((cell_far (p := ⟨gb184, _, none⟩) (by first | exact Kd.own_blk (Kd.R_ne HO_4.out BK184.out (by decide)) | (rw [add_block]; exact Kd.own_blk (Kd.R_ne HO_4.out BK184.out (by decide))) | (show (Addr.add _ _).block ≠ _; rw [add_block]; exact Kd.own_blk (Kd.R_ne HO_4.out BK184.out (by decide))) | (dsimp only; exact Kd.own_blk (Kd.R_ne HO_4.out BK184.out (by decide)))) _).trans (((cell_far (p := ⟨gb184, _, none⟩) (by first | exact Kd.own_blk (Kd.R_ne HO_4.out BK184.out (by decide)) | (rw [add_block]; exact Kd.own_blk (Kd.R_ne HO_4.out BK184.out (by decide))) | (show (Addr.add _ _).block ≠ _; rw [add_block]; exact Kd.own_blk (Kd.R_ne HO_4.out BK184.out (by decide))) | (dsimp only; exact Kd.own_blk (Kd.R_ne HO_4.out BK184.out (by decide)))) _).trans (((cell_far (p := ⟨gb184, _, none⟩) (by first | exact Kd.own_blk (Kd.R_ne HO_4.out BK184.out (by decide)) | (rw [add_block]; exact Kd.own_blk (Kd.R_ne HO_4.out BK184.out (by decide))) | (show (Addr.add _ _).block ≠ _; rw [add_block]; exact Kd.own_blk (Kd.R_ne HO_4.out BK184.out (by decide))) | (dsimp only; exact Kd.own_blk (Kd.R_ne HO_4.out BK184.out (by decide)))) _).trans (hHeld.2.1)))))))))), ((cell_far (p := ⟨gb184, _, none⟩) (by first | exact Kd.own_blk (Kd.R_ne HO_4.out BK184.out (by decide)) | (rw [add_block]; exact Kd.own_blk (Kd.R_ne HO_4.out BK184.out (by decide))) | (show (Addr.add _ _).block ≠ _; rw [add_block]; exact Kd.own_blk (Kd.R_ne HO_4.out BK184.out (by decide))) | (dsimp only; exact Kd.own_blk (Kd.R_ne HO_4.out BK184.out (by decide)))) _).trans (((cell_far (p := ⟨gb184, _, none⟩) (by first | exact Kd.own_blk (Kd.R_ne HO_4.out BK184.out (by decide)) | (rw [add_block]; exact Kd.own_blk (Kd.R_ne HO_4.out BK184.out (by decide))) | (show (Addr.add _ _).block ≠ _; rw [add_block]; exact Kd.own_blk (Kd.R_ne HO_4.out BK184.out (by decide))) | (dsimp only; exact Kd.own_blk (Kd.R_ne HO_4.out BK184.out (by decide)))) _).trans (((cell_far (p := ⟨gb184, _, none⟩) (by first | exact Kd.own_blk (Kd.R_ne HO_4.out BK184.out (by decide)) | (rw [add_block]; exact Kd.own_blk (Kd.R_ne HO_4.out BK184.out (by decide))) | (show (Addr.add _ _).block ≠ _; rw [add_block]; exact Kd.own_blk (Kd.R_ne HO_4.out BK184.out (by decide))) | (dsimp only; exact Kd.own_blk (Kd.R_ne HO_4.out BK184.out (by decide)))) _).trans (((cell_far (p := ⟨gb184, _, none⟩) (by first | exact Kd.own_blk (Kd.R_ne HO_4.out BK184.out (by decide)) | (rw [add_block]; exact Kd.own_blk (Kd.R_ne HO_4.out BK184.out (by decide))) | (show (Addr.add _ _).block ≠ _; rw [add_block]; exact Kd.own_blk (Kd.R_ne HO_4.out BK184.out (by decide))) | (dsimp only; exact Kd.own_blk (Kd.R_ne HO_4.out BK184.out (by decide)))) _).trans (((cell_far (p := ⟨gb184, _, none⟩) (by first | exact Kd.own_blk (Kd.R_ne HO_4.out BK184.out (by decide)) | (rw [add_block]; exact Kd.own_blk (Kd.R_ne HO_4.out BK184.out (by decide))) | (show (Addr.add _ _).block ≠ _; rw [add_block]; exact Kd.own_blk (Kd.R_ne HO_4.out BK184.out (by decide))) | (dsimp only; exact Kd.own_blk (Kd.R_ne HO_4.out BK184.out (by decide)))) _).trans (hHeld.2.2.1)))))))))), ((cell_far (p := ⟨gb184, _, none⟩) (by first | exact Kd.own_blk (Kd.R_ne HO_4.out BK184.out (by decide)) | (rw [add_block]; exact Kd.own_blk (Kd.R_ne HO_4.out BK184.out (by decide))) | (show (Addr.add _ _).block ≠ _; rw [add_block]; exact Kd.own_blk (Kd.R_ne HO_4.out BK184.out (by decide))) | (dsimp only; exact Kd.own_blk (Kd.R_ne HO_4.out BK184.out (by decide)))) _).trans (((cell_far (p := ⟨gb184, _, none⟩) (by first | exact Kd.own_blk (Kd.R_ne HO_4.out BK184.out (by decide)) | (rw [add_block]; exact Kd.own_blk (Kd.R_ne HO_4.out BK184.out (by decide))) | (show (Addr.add _ _).block ≠ _; rw [add_block]; exact Kd.own_blk (Kd.R_ne HO_4.out BK184.out (by decide))) | (dsimp only; exact Kd.own_blk (Kd.R_ne HO_4.out BK184.out (by decide)))) _).trans (((cell_far (p := ⟨gb184, _, none⟩) (by first | exact Kd.own_blk (Kd.R_ne HO_4.out BK184.out (by decide)) | (rw [add_block]; exact Kd.own_blk (Kd.R_ne HO_4.out BK184.out (by decide))) | (show (Addr.add _ _).block ≠ _; rw [add_block]; exact Kd.own_blk (Kd.R_ne HO_4.out BK184.out (by decide))) | (dsimp only; exact Kd.own_blk (Kd.R_ne HO_4.out BK184.out (by decide)))) _).trans (((cell_far (p := ⟨gb184, _, none⟩) (by first | exact Kd.own_blk (Kd.R_ne HO_4.out BK184.out (by decide)) | (rw [add_block]; exact Kd.own_blk (Kd.R_ne HO_4.out BK184.out (by decide))) | (show (Addr.add _ _).block ≠ _; rw [add_block]; exact Kd.own_blk (Kd.R_ne HO_4.out BK184.out (by decide))) | (dsimp only; exact Kd.own_blk (Kd.R_ne HO_4.out BK184.out (by decide)))) _).trans (((cell_far (p := ⟨gb184, _, none⟩) (by first | exact Kd.own_blk (Kd.R_ne HO_4.out BK184.out (by decide)) | (rw [add_block]; exact Kd.own_blk (Kd.R_ne HO_4.out BK184.out (by decide))) | (show (Addr.add _ _).block ≠ _; rw [add_block]; exact Kd.own_blk (Kd.R_ne HO_4.out BK184.out (by decide))) | (dsimp only; exact Kd.own_blk (Kd.R_ne HO_4.out BK184.out (by decide)))) _).trans (hHeld.2.2.2.1)))))))))), ((cell_far (p := ⟨gb184, _, none⟩) (by first | exact Kd.own_blk (Kd.R_ne HO_4.out BK184.out (by decide)) | (rw [add_block]; exact Kd.own_blk (Kd.R_ne HO_4.out BK184.out (by decide))) | (show (Addr.add _ _).block ≠ _; rw [add_block]; exact Kd.own_blk (Kd.R_ne HO_4.out BK184.out (by decide))) | (dsimp only; exact Kd.own_blk (Kd.R_ne HO_4.out BK184.out (by decide)))) _).trans (((cell_far (p := ⟨gb184, _, none⟩) (by first | exact Kd.own_blk (Kd.R_ne HO_4.out BK184.out (by decide)) | (rw [add_block]; exact Kd.own_blk (Kd.R_ne HO_4.out BK184.out (by decide))) | (show (Addr.add _ _).block ≠ _; rw [add_block]; exact Kd.own_blk (Kd.R_ne HO_4.out BK184.out (by decide))) | (dsimp only; exact Kd.own_blk (Kd.R_ne HO_4.out BK184.out (by decide)))) _).trans (((cell_far (p := ⟨gb184, _, none⟩) (by first | exact Kd.own_blk (Kd.R_ne HO_4.out BK184.out (by decide)) | (rw [add_block]; exact Kd.own_blk (Kd.R_ne HO_4.out BK184.out (by decide))) | (show (Addr.add _ _).block ≠ _; rw [add_block]; exact Kd.own_blk (Kd.R_ne HO_4.out BK184.out (by decide))) | (dsimp only; exact Kd.own_blk (Kd.R_ne HO_4.out BK184.out (by decide)))) _).trans (((cell_far (p := ⟨gb184, _, none⟩) (by first | exact Kd.own_blk (Kd.R_ne HO_4.out BK184.out (by decide)) | (rw [add_block]; exact Kd.own_blk (Kd.R_ne HO_4.out BK184.out (by decide))) | (show (Addr.add _ _).block ≠ _; rw [add_block]; exact Kd.own_blk (Kd.R_ne HO_4.out BK184.out (by decide))) | (dsimp only; exact Kd.own_blk (Kd.R_ne HO_4.out BK184.out (by decide)))) _).trans (((cell_far (p := ⟨gb184, _, none⟩) (by first | exact Kd.own_blk (Kd.R_ne HO_4.out BK184.out (by decide)) | (rw [add_block]; exact Kd.own_blk (Kd.R_ne HO_4.out BK184.out (by decide))) | (show (Addr.add _ _).block ≠ _; rw [add_block]; exact Kd.own_blk (Kd.R_ne HO_4.out BK184.out (by decide))) | (dsimp only; exact Kd.own_blk (Kd.R_ne HO_4.out BK184.out (by decide)))) _).trans (hHeld.2.2.2.2))))))))))⟩ (fun hHeld => ?_)
          clear hK K
          refine done_ (done_of HT_.out (by kernel_rfl)) ?_
          have hnb25 := NB184_174.out
          have hnc25 := NB174_184.out
          have hcz26_0 : w19.cell? ⟨gb184, 0, none⟩ = some (.float .f32 0) := (blk_cell BK184.out 0).trans rfl
          have hcz26_1 : w19.cell? ⟨gb184, 1, none⟩ = some (.float .f32 0) := (blk_cell BK184.out 1).trans rfl
          have hcz26_2 : w19.cell? ⟨gb184, 2, none⟩ = some (.float .f32 0) := (blk_cell BK184.out 2).trans rfl
          have hcz26_3 : w19.cell? ⟨gb184, 3, none⟩ = some (.float .f32 0) := (blk_cell BK184.out 3).trans rfl
          have hcz26_4 : w19.cell? ⟨gb184, 4, none⟩ = some (.float .f32 0) := (blk_cell BK184.out 4).trans rfl
          have hfz26_0 := blk_frozen BK184.out 0
          have hfz26_1 := blk_frozen BK184.out 1
          have hfz26_2 := blk_frozen BK184.out 2
          have hfz26_3 := blk_frozen BK184.out 3
          have hfz26_4 := blk_frozen BK184.out 4
          try go_wp2_with (first | ((with_reducible refine gate_callee (f := 39) rfl ?_); refine goesL_ (some 37) rfl rfl Tryd.func39 (by kernel_rfl) rfl #[.agg #[.float .f32 (rdOf (0 : Nat) t175 0), .float .f32 (rdOf (0 : Nat) t175 1), .float .f32 (rdOf (0 : Nat) t175 2), .float .f32 (rdOf (0 : Nat) t175 3), .float .f32 (rdOf (0 : Nat) t175 4)]] rfl (by (try simp only [List.map_toArray, List.map_cons, List.map_nil]); first | done | rfl | (simp only [List.length_drop, List.length_take]; rfl)) ?_; (with_reducible refine (impl_ValidThroat.calls (rdOf (0 : Nat) t175 0) (rdOf (0 : Nat) t175 1) (rdOf (0 : Nat) t175 2) (rdOf (0 : Nat) t175 3) (rdOf (0 : Nat) t175 4) true _ A15.out).mono ?_); rintro e w27 ⟨rfl, hb⟩; refine ⟨_, rfl, ?_⟩; have n0_ := Aside0.mk (Kd.R_below (by (with_reducible repeat (first | apply Kd.R_alloc | apply Kd.R_drewN | apply Kd.R_drew)); exact (Kd.R_mono (Kd.R_far (p := ⟨gb184, 4, none⟩) (Kd.R_far (p := ⟨gb184, 3, none⟩) (Kd.R_far (p := ⟨gb184, 2, none⟩) (Kd.R_far (p := ⟨gb184, 1, none⟩) (Kd.R_far (p := ⟨gb184, 0, none⟩) (Kd.R_types HO_4.out BK184.out (by decide)) (fun _ hk => hk.2) (.float .f32 (rdOf (0 : Nat) t175 0))) (fun _ hk => hk.2) (.float .f32 (rdOf (0 : Nat) t175 1))) (fun _ hk => hk.2) (.float .f32 (rdOf (0 : Nat) t175 2))) (fun _ hk => hk.2) (.float .f32 (rdOf (0 : Nat) t175 3))) (fun _ hk => hk.2) (.float .f32 (rdOf (0 : Nat) t175 4))) (fun _ h_ => h_.1))) hb); have n1_ := Aside0.mk (blk_below (g := gb174) (o := .cells #[.float .f32 0, .float .f32 0, .float .f32 0, .float .f32 0, .float .f32 0] 32 (0, 0)) (by (with_reducible repeat (first | refine blk_drewN ?_ _ | refine blk_drew ?_ | refine blk_alloc ?_ _)); refine blk_far ?_ NB174_184.out _; (with_reducible repeat (first | refine blk_drewN ?_ _ | refine blk_drew ?_ | refine blk_alloc ?_ _)); refine blk_far ?_ NB174_184.out _; (with_reducible repeat (first | refine blk_drewN ?_ _ | refine blk_drew ?_ | refine blk_alloc ?_ _)); refine blk_far ?_ NB174_184.out _; (with_reducible repeat (first | refine blk_drewN ?_ _ | refine blk_drew ?_ | refine blk_alloc ?_ _)); refine blk_far ?_ NB174_184.out _; (with_reducible repeat (first | refine blk_drewN ?_ _ | refine blk_drew ?_ | refine blk_alloc ?_ _)); refine blk_far ?_ NB174_184.out _; (with_reducible repeat (first | refine blk_drewN ?_ _ | refine blk_drew ?_ | refine blk_alloc ?_ _)); exact BK174.out) hb); have n2_ := Aside0.mk (blk_below (g := gb184) (o := .cells #[.float .f32 (rdOf (0 : Nat) t175 0), .float .f32 (rdOf (0 : Nat) t175 1), .float .f32 (rdOf (0 : Nat) t175 2), .float .f32 (rdOf (0 : Nat) t175 3), .float .f32 (rdOf (0 : Nat) t175 4)] 32 (0, 0)) (by (with_reducible repeat (first | refine blk_drewN ?_ _ | refine blk_drew ?_ | refine blk_alloc ?_ _)); refine blk_put (cs := #[.float .f32 (rdOf (0 : Nat) t175 0), .float .f32 (rdOf (0 : Nat) t175 1), .float .f32 (rdOf (0 : Nat) t175 2), .float .f32 (rdOf (0 : Nat) t175 3), .float .f32 0]) ?_ 4 _ rfl; (with_reducible repeat (first | refine blk_drewN ?_ _ | refine blk_drew ?_ | refine blk_alloc ?_ _)); refine blk_put (cs := #[.float .f32 (rdOf (0 : Nat) t175 0), .float .f32 (rdOf (0 : Nat) t175 1), .float .f32 (rdOf (0 : Nat) t175 2), .float .f32 0, .float .f32 0]) ?_ 3 _ rfl; (with_reducible repeat (first | refine blk_drewN ?_ _ | refine blk_drew ?_ | refine blk_alloc ?_ _)); refine blk_put (cs := #[.float .f32 (rdOf (0 : Nat) t175 0), .float .f32 (rdOf (0 : Nat) t175 1), .float .f32 0, .float .f32 0, .float .f32 0]) ?_ 2 _ rfl; (with_reducible repeat (first | refine blk_drewN ?_ _ | refine blk_drew ?_ | refine blk_alloc ?_ _)); refine blk_put (cs := #[.float .f32 (rdOf (0 : Nat) t175 0), .float .f32 0, .float .f32 0, .float .f32 0, .float .f32 0]) ?_ 1 _ rfl; (with_reducible repeat (first | refine blk_drewN ?_ _ | refine blk_drew ?_ | refine blk_alloc ?_ _)); refine blk_put (cs := #[.float .f32 0, .float .f32 0, .float .f32 0, .float .f32 0, .float .f32 0]) ?_ 0 _ rfl; (with_reducible repeat (first | refine blk_drewN ?_ _ | refine blk_drew ?_ | refine blk_alloc ?_ _)); exact BK184.out) hb); have n3_ := Aside0.mk (below_step (by repeat (first | (with_reducible first | exact HB.out | apply below_alloc | apply pw_below_drewN | apply below_drew1 | refine below_set ?_ GE174.out | refine below_set ?_ GE184.out) | exact HB.out)) hb); clear HO_4; clear BK174; clear BK184; clear HB; have HO_4 := n0_; have BK174 := n1_; have BK184 := n2_; have HB := n3_; clear n0_ n1_ n2_ n3_; (try clear hb); (try clear hb2); (try clear hk); (try clear hi); have hcz28_0 : w27.cell? ⟨gb184, 0, none⟩ = some (.float .f32 (rdOf (0 : Nat) t175 0)) := (blk_cell BK184.out 0).trans rfl; have hcz28_1 : w27.cell? ⟨gb184, 1, none⟩ = some (.float .f32 (rdOf (0 : Nat) t175 1)) := (blk_cell BK184.out 1).trans rfl; have hcz28_2 : w27.cell? ⟨gb184, 2, none⟩ = some (.float .f32 (rdOf (0 : Nat) t175 2)) := (blk_cell BK184.out 2).trans rfl; have hcz28_3 : w27.cell? ⟨gb184, 3, none⟩ = some (.float .f32 (rdOf (0 : Nat) t175 3)) := (blk_cell BK184.out 3).trans rfl; have hcz28_4 : w27.cell? ⟨gb184, 4, none⟩ = some (.float .f32 (rdOf (0 : Nat) t175 4)) := (blk_cell BK184.out 4).trans rfl; have hfz28_0 := blk_frozen BK184.out 0; have hfz28_1 := blk_frozen BK184.out 1; have hfz28_2 := blk_frozen BK184.out 2; have hfz28_3 := blk_frozen BK184.out 3; have hfz28_4 := blk_frozen BK184.out 4; have hcz29_0 : w27.cell? ⟨gb174, 0, none⟩ = some (.float .f32 0) := (blk_cell BK174.out 0).trans rfl; have hcz29_1 : w27.cell? ⟨gb174, 1, none⟩ = some (.float .f32 0) := (blk_cell BK174.out 1).trans rfl; have hcz29_2 : w27.cell? ⟨gb174, 2, none⟩ = some (.float .f32 0) := (blk_cell BK174.out 2).trans rfl; have hcz29_3 : w27.cell? ⟨gb174, 3, none⟩ = some (.float .f32 0) := (blk_cell BK174.out 3).trans rfl; have hcz29_4 : w27.cell? ⟨gb174, 4, none⟩ = some (.float .f32 0) := (blk_cell BK174.out 4).trans rfl; have hfz29_0 := blk_frozen BK174.out 0; have hfz29_1 := blk_frozen BK174.out 1; have hfz29_2 := blk_frozen BK174.out 2; have hfz29_3 := blk_frozen BK174.out 3; have hfz29_4 := blk_frozen BK174.out 4))
          refine bodyPost_ret (results_ct rfl _ _ gb174 32 #[.float .f32 (rdOf (0 : Nat) t175 0), .float .f32 (rdOf (0 : Nat) t175 1), .float .f32 (rdOf (0 : Nat) t175 2), .float .f32 (rdOf (0 : Nat) t175 3), .float .f32 (rdOf (0 : Nat) t175 4)] (0, 0) _ rfl (by (with_reducible repeat (first | refine blk_drewN ?_ _ | refine blk_drew ?_ | refine blk_alloc ?_ _)); refine blk_put (cs := #[.float .f32 (rdOf (0 : Nat) t175 0), .float .f32 (rdOf (0 : Nat) t175 1), .float .f32 (rdOf (0 : Nat) t175 2), .float .f32 (rdOf (0 : Nat) t175 3), .float .f32 0]) ?_ 4 _ rfl; (with_reducible repeat (first | refine blk_drewN ?_ _ | refine blk_drew ?_ | refine blk_alloc ?_ _)); refine blk_put (cs := #[.float .f32 (rdOf (0 : Nat) t175 0), .float .f32 (rdOf (0 : Nat) t175 1), .float .f32 (rdOf (0 : Nat) t175 2), .float .f32 0, .float .f32 0]) ?_ 3 _ rfl; (with_reducible repeat (first | refine blk_drewN ?_ _ | refine blk_drew ?_ | refine blk_alloc ?_ _)); refine blk_put (cs := #[.float .f32 (rdOf (0 : Nat) t175 0), .float .f32 (rdOf (0 : Nat) t175 1), .float .f32 0, .float .f32 0, .float .f32 0]) ?_ 2 _ rfl; (with_reducible repeat (first | refine blk_drewN ?_ _ | refine blk_drew ?_ | refine blk_alloc ?_ _)); refine blk_put (cs := #[.float .f32 (rdOf (0 : Nat) t175 0), .float .f32 0, .float .f32 0, .float .f32 0, .float .f32 0]) ?_ 1 _ rfl; (with_reducible repeat (first | refine blk_drewN ?_ _ | refine blk_drew ?_ | refine blk_alloc ?_ _)); refine blk_put (cs := #[.float .f32 0, .float .f32 0, .float .f32 0, .float .f32 0, .float .f32 0]) ?_ 0 _ rfl; (with_reducible repeat (first | refine blk_drewN ?_ _ | refine blk_drew ?_ | refine blk_alloc ?_ _)); exact BK174.out) Tryd.underlying32 rfl (by kernel_rfl)) rfl ?_
          exact ⟨by first | rfl | (simp [errW_none, errW_some] <;> rfl) | (simp [*, errW_none, errW_some] <;> rfl), by repeat (first | (with_reducible first | exact HB.out | apply below_alloc | apply pw_below_drewN | apply below_drew1 | refine below_set ?_ GE174.out | refine below_set ?_ GE184.out) | exact HB.out)⟩
         ·replace c16 := Bool.eq_false_iff.mpr c16
          subst c16
          have H1 : (some (0, 0, 0, 0, 0, false)) = some (r1, r2, r3, r4, r5, r6) := by rw [if_neg (show ¬ (false = true) by decide)] at H; exact H
          clear H
          have H := H1
          clear H1
          simp only [Option.some.injEq, Prod.mk.injEq] at H
          obtain ⟨rfl, rfl, rfl, rfl, rfl, rfl⟩ := H
          try go_wp2
          have n0_ := Aside0.mk (Kd.R_drew HO_4.out)
          have n1_ := Aside0.mk (blk_drew BK174.out)
          have n2_ := Aside0.mk (below_drew1 HB.out)
          clear HO_4
          clear BK174
          clear HB
          have HO_4 := n0_
          have BK174 := n1_
          have HB := n2_
          clear n0_ n1_ n2_
          obtain ⟨Ao31, co31, eo31⟩ := Kd.R_slice HO_4.out
          (first | subst eo31 | (injection eo31 with f1_ f2_ f3_; have f4_ := f1_.symm; have f5_ := f3_.symm; clear f1_ f2_ f3_; subst f4_; subst f5_))
          have p179 : 0 ≤ (0 : Int) := (by omega)
          have q179 : 0 < (t175.length : Int) := of_decide_eq_true (by first | (with_reducible assumption) | assumption)
          obtain ⟨ad179, e179, hx179_0⟩ := Kd.at_float (Kd.R_reads' HO_4.out).2.2 0 p179 q179
          cases e179
          have qi179 : (0 < t175.length) = True := eq_true (by omega)
          (try rw [show ((0 : Int)).toNat = 0 from rfl] at hx179_0)
          (try rw [Addr.add_zero'] at hx179_0)
          replace p179 := eq_true p179
          replace q179 := eq_true q179
          have p180 : 0 ≤ (1 : Int) := (by omega)
          have q180 : 1 < (t175.length : Int) := of_decide_eq_true (by first | (with_reducible assumption) | assumption)
          obtain ⟨ad180, e180, hx180_0⟩ := Kd.at_float (Kd.R_reads' HO_4.out).2.2 1 p180 q180
          obtain rfl : ad179 = ad180 := (by injection e180)
          (try simp only [show (1 : Int).toNat = 1 from rfl, Nat.reduceMul, Nat.reduceEqDiff, Go.Addr.add, ↓reduceIte] at hx180_0)
          have qi180 : (1 < t175.length) = True := eq_true (by omega)
          (try rw [show ((1 : Int)).toNat = 1 from rfl] at hx180_0)
          replace p180 := eq_true p180
          replace q180 := eq_true q180
          have p181 : 0 ≤ (2 : Int) := (by omega)
          have q181 : 2 < (t175.length : Int) := of_decide_eq_true (by first | (with_reducible assumption) | assumption)
          obtain ⟨ad181, e181, hx181_0⟩ := Kd.at_float (Kd.R_reads' HO_4.out).2.2 2 p181 q181
          obtain rfl : ad179 = ad181 := (by injection e181)
          (try simp only [show (2 : Int).toNat = 2 from rfl, Nat.reduceMul, Nat.reduceEqDiff, Go.Addr.add, ↓reduceIte] at hx181_0)
          have qi181 : (2 < t175.length) = True := eq_true (by omega)
          (try rw [show ((2 : Int)).toNat = 2 from rfl] at hx181_0)
          replace p181 := eq_true p181
          replace q181 := eq_true q181
          have p182 : 0 ≤ (3 : Int) := (by omega)
          have q182 : 3 < (t175.length : Int) := of_decide_eq_true (by first | (with_reducible assumption) | assumption)
          obtain ⟨ad182, e182, hx182_0⟩ := Kd.at_float (Kd.R_reads' HO_4.out).2.2 3 p182 q182
          obtain rfl : ad179 = ad182 := (by injection e182)
          (try simp only [show (3 : Int).toNat = 3 from rfl, Nat.reduceMul, Nat.reduceEqDiff, Go.Addr.add, ↓reduceIte] at hx182_0)
          have qi182 : (3 < t175.length) = True := eq_true (by omega)
          (try rw [show ((3 : Int)).toNat = 3 from rfl] at hx182_0)
          replace p182 := eq_true p182
          replace q182 := eq_true q182
          have p183 : 0 ≤ (4 : Int) := (by omega)
          have q183 : 4 < (t175.length : Int) := of_decide_eq_true (by first | (with_reducible assumption) | assumption)
          obtain ⟨ad183, e183, hx183_0⟩ := Kd.at_float (Kd.R_reads' HO_4.out).2.2 4 p183 q183
          obtain rfl : ad179 = ad183 := (by injection e183)
          (try simp only [show (4 : Int).toNat = 4 from rfl, Nat.reduceMul, Nat.reduceEqDiff, Go.Addr.add, ↓reduceIte] at hx183_0)
          have qi183 : (4 < t175.length) = True := eq_true (by omega)
          (try rw [show ((4 : Int)).toNat = 4 from rfl] at hx183_0)
          replace p183 := eq_true p183
          replace q183 := eq_true q183
          refine start_ (n := 18) (S := fun w' => w'.cell? ad179 = some (.float .f32 (rdOf (0 : Nat) t175 0)) ∧ w'.cell? ⟨ad179.block, ad179.off + 1, none⟩ = some (.float .f32 (rdOf (0 : Nat) t175 1)) ∧ w'.cell? ⟨ad179.block, ad179.off + 2, none⟩ = some (.float .f32 (rdOf (0 : Nat) t175 2)) ∧ w'.cell? ⟨ad179.block, ad179.off + 3, none⟩ = some (.float .f32 (rdOf (0 : Nat) t175 3)) ∧ w'.cell? ⟨ad179.block, ad179.off + 4, none⟩ = some (.float .f32 (rdOf (0 : Nat) t175 4))) (ds := []) impl_ReadThroat.z0 (by kernel_rfl) rfl rfl ⟨hx179_0, hx180_0, hx181_0, hx182_0, hx183_0⟩ (fun hHeld => ?_); refine with_tabW impl_ReadThroat.tab4 impl_ReadThroat.bits4 (fun HT_ HW_ => ?_)
          generalize wc.drew = w30 at HO_4 BK174 HB hx179_0 hx180_0 hx181_0 hx182_0 hx183_0 hHeld ⊢
          refine pure_ (i := 0) (N := some 20) (v := ?_) (a' := ?_) impl_ReadThroat.z1 rfl rfl (any_of HT_.out (by kernel_rfl)) (fun _ _ _ h => h) (Or.inl ⟨by rfl, ?_⟩) ?_ ?_
          pv_
          refine pure_ (i := 1) (N := some 21) (v := ?_) (a' := ?_) impl_ReadThroat.z2 rfl rfl (any_of HT_.out (by kernel_rfl)) (fun _ _ _ h => h) (Or.inl ⟨by rfl, ?_⟩) ?_ ?_
          pv_
          refine pure_ (i := 3) (N := some 23) (v := ?_) (a' := ?_) impl_ReadThroat.z3 rfl rfl (any_of HT_.out (by kernel_rfl)) (fun _ _ _ h => h) (Or.inl ⟨by rfl, ?_⟩) ?_ ?_
          pv_
          refine pure_ (i := 4) (N := some 24) (v := ?_) (a' := ?_) impl_ReadThroat.z4 rfl rfl (any_of HT_.out (by kernel_rfl)) (fun _ _ _ h => h) (Or.inl ⟨by rfl, ?_⟩) ?_ ?_
          pv_
          refine pure_ (i := 6) (N := some 26) (v := ?_) (a' := ?_) impl_ReadThroat.z5 rfl rfl (any_of HT_.out (by kernel_rfl)) (fun _ _ _ h => h) (Or.inl ⟨by rfl, ?_⟩) ?_ ?_
          pv_
          refine pure_ (i := 7) (N := some 27) (v := ?_) (a' := ?_) impl_ReadThroat.z6 rfl rfl (any_of HT_.out (by kernel_rfl)) (fun _ _ _ h => h) (Or.inl ⟨by rfl, ?_⟩) ?_ ?_
          pv_
          refine pure_ (i := 9) (N := some 29) (v := ?_) (a' := ?_) impl_ReadThroat.z7 rfl rfl (any_of HT_.out (by kernel_rfl)) (fun _ _ _ h => h) (Or.inl ⟨by rfl, ?_⟩) ?_ ?_
          pv_
          refine pure_ (i := 10) (N := some 30) (v := ?_) (a' := ?_) impl_ReadThroat.z8 rfl rfl (any_of HT_.out (by kernel_rfl)) (fun _ _ _ h => h) (Or.inl ⟨by rfl, ?_⟩) ?_ ?_
          pv_
          refine pure_ (i := 12) (N := some 32) (v := ?_) (a' := ?_) impl_ReadThroat.z9 rfl rfl (any_of HT_.out (by kernel_rfl)) (fun _ _ _ h => h) (Or.inl ⟨by rfl, ?_⟩) ?_ ?_
          pv_
          refine pure_ (i := 13) (N := some 33) (v := ?_) (a' := ?_) impl_ReadThroat.z10 rfl rfl (any_of HT_.out (by kernel_rfl)) (fun _ _ _ h => h) (Or.inl ⟨by rfl, ?_⟩) ?_ ?_
          pv_
          refine take_ (i := 2) (N := some 22) (v := ?_) (a' := ?_) impl_ReadThroat.z11 rfl rfl (take_ofW HT_.out HW_.out (by kernel_rfl)) (fun _ _ _ h => h) (Or.inl ⟨by rfl, ?_⟩) hHeld ?_ ?_
          rotate_left
          ·rintro w' ⟨s0, s1, s2, s3, s4⟩
           go_simp
           with_reducible rfl
          rotate_left
          ·pw_
          refine take_ (i := 5) (N := some 25) (v := ?_) (a' := ?_) impl_ReadThroat.z12 rfl rfl (take_ofW HT_.out HW_.out (by kernel_rfl)) (fun _ _ _ h => h) (Or.inl ⟨by rfl, ?_⟩) hHeld ?_ ?_
          rotate_left
          ·rintro w' ⟨s0, s1, s2, s3, s4⟩
           go_simp
           with_reducible rfl
          rotate_left
          ·pw_
          refine take_ (i := 8) (N := some 28) (v := ?_) (a' := ?_) impl_ReadThroat.z13 rfl rfl (take_ofW HT_.out HW_.out (by kernel_rfl)) (fun _ _ _ h => h) (Or.inl ⟨by rfl, ?_⟩) hHeld ?_ ?_
          rotate_left
          ·rintro w' ⟨s0, s1, s2, s3, s4⟩
           go_simp
           with_reducible rfl
          rotate_left
          ·pw_
          refine take_ (i := 11) (N := some 31) (v := ?_) (a' := ?_) impl_ReadThroat.z14 rfl rfl (take_ofW HT_.out HW_.out (by kernel_rfl)) (fun _ _ _ h => h) (Or.inl ⟨by rfl, ?_⟩) hHeld ?_ ?_
          rotate_left
          ·rintro w' ⟨s0, s1, s2, s3, s4⟩
           go_simp
           with_reducible rfl
          rotate_left
          ·pw_
          refine take_ (i := 14) (N := some 34) (v := ?_) (a' := ?_) impl_ReadThroat.z15 rfl rfl (take_ofW HT_.out HW_.out (by kernel_rfl)) (fun _ _ _ h => h) (Or.inl ⟨by rfl, ?_⟩) hHeld ?_ ?_
          rotate_left
          ·rintro w' ⟨s0, s1, s2, s3, s4⟩
           go_simp
           with_reducible rfl
          rotate_left
          ·pw_
          refine pure_ (i := 15) (N := some 35) (v := ?_) (a' := ?_) impl_ReadThroat.z16 rfl rfl (any_of HT_.out (by kernel_rfl)) (fun _ _ _ h => h) (Or.inl ⟨by rfl, ?_⟩) ?_ ?_
          pv_
          refine one_ (i := 16) (N := some 6) impl_ReadThroat.z17 rfl rfl (one_of HT_.out (by kernel_rfl)) (by decide) (fun K hK => ?_)
          refine box_step ?hg (N := 6) ?hd (cs := #[.float .f32 0, .float .f32 0, .float .f32 0, .float .f32 0, .float .f32 0]) (t := 32) ?hr ?_; (case hd => rfl); (case hg => rfl); (case hr => first | (go_simp; done) | (go_simp; rfl) | (simp (disch := omega) only [w64_id]; go_simp; done) | (go_simp; simp (disch := omega) only [w64_id]; done))
          intro gb184 hg w32 hbox hb
          have HS0_ := (hb.cell (World.block_lt_of_cell? _ _ (hHeld.1))).trans (hHeld.1)
          have HS1_ := (hb.cell (World.block_lt_of_cell? _ _ (hHeld.2.1))).trans (hHeld.2.1)
          have HS2_ := (hb.cell (World.block_lt_of_cell? _ _ (hHeld.2.2.1))).trans (hHeld.2.2.1)
          have HS3_ := (hb.cell (World.block_lt_of_cell? _ _ (hHeld.2.2.2.1))).trans (hHeld.2.2.2.1)
          have HS4_ := (hb.cell (World.block_lt_of_cell? _ _ (hHeld.2.2.2.2))).trans (hHeld.2.2.2.2)
          have n0_ := Aside0.mk (Kd.R_below (by (with_reducible repeat (first | apply Kd.R_alloc | apply Kd.R_drewN | apply Kd.R_drew)); exact HO_4.out) hb)
          have n1_ := Aside0.mk (blk_below (g := gb174) (o := .cells #[.float .f32 0, .float .f32 0, .float .f32 0, .float .f32 0, .float .f32 0] 32 (0, 0)) (by (with_reducible repeat (first | refine blk_drewN ?_ _ | refine blk_drew ?_ | refine blk_alloc ?_ _)); exact BK174.out) hb)
          have n2_ := Aside0.mk (below_step (by repeat (first | (with_reducible first | exact HB.out | apply below_alloc | apply pw_below_drewN | apply below_drew1 | refine below_set ?_ GE174.out) | exact HB.out)) hb)
          have n3_ := Aside0.mk (hbox)
          have n4_ := Aside0.mk ((by rw [hg]; exact (below_size (by repeat (first | (with_reducible first | exact HB.out | apply below_alloc | apply pw_below_drewN | apply below_drew1 | refine below_set ?_ GE174.out) | exact HB.out))) : w.heap.size ≤ gb184))
          have n5_ := Aside0.mk ((by rw [hg]; exact (below_size (by repeat (first | (with_reducible first | exact HB.out | apply below_alloc | apply pw_below_drewN | apply below_drew1 | refine below_set ?_ GE174.out) | exact HB.out))) : w.heap.size ≤ gb184))
          have n6_ := Aside0.mk ((by rw [hg]; exact Nat.ne_of_lt (blk_lt (g := gb174) (o := .cells #[.float .f32 0, .float .f32 0, .float .f32 0, .float .f32 0, .float .f32 0] 32 (0, 0)) (by (with_reducible repeat (first | refine blk_drewN ?_ _ | refine blk_drew ?_ | refine blk_alloc ?_ _)); exact BK174.out)) : gb174 ≠ gb184))
          have n7_ := Aside0.mk ((by rw [hg]; exact Nat.ne_of_gt (blk_lt (g := gb174) (o := .cells #[.float .f32 0, .float .f32 0, .float .f32 0, .float .f32 0, .float .f32 0] 32 (0, 0)) (by (with_reducible repeat (first | refine blk_drewN ?_ _ | refine blk_drew ?_ | refine blk_alloc ?_ _)); exact BK174.out)) : gb184 ≠ gb174))
          clear HO_4
          clear BK174
          clear HB
          have HO_4 := n0_
          have BK174 := n1_
          have HB := n2_
          have BK184 := n3_
          have GW184 := n4_
          have GE184 := n5_
          have NB174_184 := n6_
          have NB184_174 := n7_
          clear n0_ n1_ n2_ n3_ n4_ n5_ n6_ n7_
          clear hb hbox hg
          refine hK.out _ _ ⟨HS0_, HS1_, HS2_, HS3_, HS4_⟩ (fun hHeld => ?_)
          clear hK K
          refine norm_ (a' := ?_) ?_ ?_
          rotate_left
          ·show Act.put _ (some 6) _ = _
           pw_
          refine one_ (i := 17) (N := none) impl_ReadThroat.z18 rfl rfl (one_of HT_.out (by kernel_rfl)) (by decide) (fun K hK => ?_)
          have hs33 : w32.cell? ⟨gb184, 0, none⟩ = some (.float .f32 0) := (blk_cell BK184.out 0).trans rfl
          have hfs33 := blk_frozen BK184.out 0
          have hns33_0 := NB174_184.out
          have hms33_0 := NB184_174.out
          have hs34 : w32.cell? ⟨gb184, 1, none⟩ = some (.float .f32 0) := (blk_cell BK184.out 1).trans rfl
          have hfs34 := blk_frozen BK184.out 1
          have hns34_0 := NB174_184.out
          have hms34_0 := NB184_174.out
          have hs35 : w32.cell? ⟨gb184, 2, none⟩ = some (.float .f32 0) := (blk_cell BK184.out 2).trans rfl
          have hfs35 := blk_frozen BK184.out 2
          have hns35_0 := NB174_184.out
          have hms35_0 := NB184_174.out
          have hs36 : w32.cell? ⟨gb184, 3, none⟩ = some (.float .f32 0) := (blk_cell BK184.out 3).trans rfl
          have hfs36 := blk_frozen BK184.out 3
          have hns36_0 := NB174_184.out
          have hms36_0 := NB184_174.out
          have hs37 : w32.cell? ⟨gb184, 4, none⟩ = some (.float .f32 0) := (blk_cell BK184.out 4).trans rfl
          have hfs37 := blk_frozen BK184.out 4
          have hns37_0 := NB174_184.out
          have hms37_0 := NB184_174.out
          refine skip_ (w1 := ?_) (by rfl) rfl ?_ ?_
          rotate_left
          ·go_simp
           rfl
          refine hK.out _ _ ⟨((cell_far (p := ⟨gb184, _, none⟩) (by first | exact Kd.own_blk (Kd.R_ne HO_4.out BK184.out (by decide)) | (rw [add_block]; exact Kd.own_blk (Kd.R_ne HO_4.out BK184.out (by decide))) | (show (Addr.add _ _).block ≠ _; rw [add_block]; exact Kd.own_blk (Kd.R_ne HO_4.out BK184.out (by decide))) | (dsimp only; exact Kd.own_blk (Kd.R_ne HO_4.out BK184.out (by decide)))) _).trans (((cell_far (p := ⟨gb184, _, none⟩) (by first | exact Kd.own_blk (Kd.R_ne HO_4.out BK184.out (by decide)) | (rw [add_block]; exact Kd.own_blk (Kd.R_ne HO_4.out BK184.out (by decide))) | (show (Addr.add _ _).block ≠ _; rw [add_block]; exact Kd.own_blk (Kd.R_ne HO_4.out BK184.out (by decide))) | (dsimp only; exact Kd.own_blk (Kd.R_ne HO_4.out BK184.out (by decide)))) _).trans (((cell_far (p := ⟨gb184, _, none⟩) (by first | exact Kd.own_blk (Kd.R_ne HO_4.out BK184.out (by decide)) | (rw [add_block]; exact Kd.own_blk (Kd.R_ne HO_4.out BK184.out (by decide))) | (show (Addr.add _ _).block ≠ _; rw [add_block]; exact Kd.own_blk (Kd.R_ne HO_4.out BK184.out (by decide))) | (dsimp only; exact Kd.own_blk (Kd.R_ne HO_4.out BK184.out (by decide)))) _).trans (((cell_far (p := ⟨gb184, _, none⟩) (by first | exact Kd.own_blk (Kd.R_ne HO_4.out BK184.out (by decide)) | (rw [add_block]; exact Kd.own_blk (Kd.R_ne HO_4.out BK184.out (by decide))) | (show (Addr.add _ _).block ≠ _; rw [add_block]; exact Kd.own_blk (Kd.R_ne HO_4.out BK184.out (by decide))) | (dsimp only; exact Kd.own_blk (Kd.R_ne HO_4.out BK184.out (by decide)))) _).trans (((cell_far (p := ⟨gb184, _, none⟩) (by first | exact Kd.own_blk (Kd.R_ne HO_4.out BK184.out (by decide)) | (rw [add_block]; exact Kd.own_blk (Kd.R_ne HO_4.out BK184.out (by decide))) | (show (Addr.add _ _).block ≠ _; rw [add_block]; exact Kd.own_blk (Kd.R_ne HO_4.out BK184.out (by decide))) | (dsimp only; exact Kd.own_blk (Kd.R_ne HO_4.out BK184.out (by decide)))) _).trans (hHeld.1)))))))))), ((cell_far (p := ⟨gb184, _, none⟩) (by first | exact Kd.own_blk (Kd.R_ne HO_4.out BK184.out (by decide)) | (rw [add_block]; exact Kd.own_blk (Kd.R_ne HO_4.out BK184.out (by decide))) | (show (Addr.add _ _).block ≠ _; rw [add_block]; exact Kd.own_blk (Kd.R_ne HO_4.out BK184.out (by decide))) | (dsimp only; exact Kd.own_blk (Kd.R_ne HO_4.out BK184.out (by decide)))) _).trans (((cell_far (p := ⟨gb184, _, none⟩) (by first | exact Kd.own_blk (Kd.R_ne HO_4.out BK184.out (by decide)) | (rw [add_block]; exact Kd.own_blk (Kd.R_ne HO_4.out BK184.out (by decide))) | (show (Addr.add _ _).block ≠ _; rw [add_block]; exact Kd.own_blk (Kd.R_ne HO_4.out BK184.out (by decide))) | (dsimp only; exact Kd.own_blk (Kd.R_ne HO_4.out BK184.out (by decide)))) _).trans (((cell_far (p := ⟨gb184, _, none⟩) (by first | exact Kd.own_blk (Kd.R_ne HO_4.out BK184.out (by decide)) | (rw [add_block]; exact Kd.own_blk (Kd.R_ne HO_4.out BK184.out (by decide))) | (show (Addr.add _ _).block ≠ _; rw [add_block]; exact Kd.own_blk (Kd.R_ne HO_4.out BK184.out (by decide))) | (dsimp only; exact Kd.own_blk (Kd.R_ne HO_4.out BK184.out (by decide)))) _).trans (((cell_far (p := ⟨gb184, _, none⟩) (by first | exact Kd.own_blk (Kd.R_ne HO_4.out BK184.out (by decide)) | (rw [add_block]; exact Kd.own_blk (Kd.R_ne HO_4.out BK184.out (by decide))) | (show (Addr.add _ _).block ≠ _; rw [add_block]; exact Kd.own_blk (Kd.R_ne HO_4.out BK184.out (by decide))) | (dsimp only; exact Kd.own_blk (Kd.R_ne HO_4.out BK184.out (by decide)))) _).trans (((cell_far (p := ⟨gb184, _, none⟩) (by first | exact Kd.own_blk (Kd.R_ne HO_4.out BK184.out (by decide)) | (rw [add_block]; exact Kd.own_blk (Kd.R_ne HO_4.out BK184.out (by decide))) | (show (Addr.add _ _).block ≠ _; rw [add_block]; exact Kd.own_blk (Kd.R_ne HO_4.out BK184.out (by decide))) | (dsimp only; exact Kd.own_blk (Kd.R_ne HO_4.out BK184.out (by decide)))) _).trans (hHeld.2.1)))))))))), ((cell_far (p := ⟨gb184, _, none⟩) (by first | exact Kd.own_blk (Kd.R_ne HO_4.out BK184.out (by decide)) | (rw [add_block]; exact Kd.own_blk (Kd.R_ne HO_4.out BK184.out (by decide))) | (show (Addr.add _ _).block ≠ _; rw [add_block]; exact Kd.own_blk (Kd.R_ne HO_4.out BK184.out (by decide))) | (dsimp only; exact Kd.own_blk (Kd.R_ne HO_4.out BK184.out (by decide)))) _).trans (((cell_far (p := ⟨gb184, _, none⟩) (by first | exact Kd.own_blk (Kd.R_ne HO_4.out BK184.out (by decide)) | (rw [add_block]; exact Kd.own_blk (Kd.R_ne HO_4.out BK184.out (by decide))) | (show (Addr.add _ _).block ≠ _; rw [add_block]; exact Kd.own_blk (Kd.R_ne HO_4.out BK184.out (by decide))) | (dsimp only; exact Kd.own_blk (Kd.R_ne HO_4.out BK184.out (by decide)))) _).trans (((cell_far (p := ⟨gb184, _, none⟩) (by first | exact Kd.own_blk (Kd.R_ne HO_4.out BK184.out (by decide)) | (rw [add_block]; exact Kd.own_blk (Kd.R_ne HO_4.out BK184.out (by decide))) | (show (Addr.add _ _).block ≠ _; rw [add_block]; exact Kd.own_blk (Kd.R_ne HO_4.out BK184.out (by decide))) | (dsimp only; exact Kd.own_blk (Kd.R_ne HO_4.out BK184.out (by decide)))) _).trans (((cell_far (p := ⟨gb184, _, none⟩) (by first | exact Kd.own_blk (Kd.R_ne HO_4.out BK184.out (by decide)) | (rw [add_block]; exact Kd.own_blk (Kd.R_ne HO_4.out BK184.out (by decide))) | (show (Addr.add _ _).block ≠ _; rw [add_block]; exact Kd.own_blk (Kd.R_ne HO_4.out BK184.out (by decide))) | (dsimp only; exact Kd.own_blk (Kd.R_ne HO_4.out BK184.out (by decide)))) _).trans (((cell_far (p := ⟨gb184, _, none⟩) (by first | exact Kd.own_blk (Kd.R_ne HO_4.out BK184.out (by decide)) | (rw [add_block]; exact Kd.own_blk (Kd.R_ne HO_4.out BK184.out (by decide))) | (show (Addr.add _ _).block ≠ _; rw [add_block]; exact Kd.own_blk (Kd.R_ne HO_4.out BK184.out (by decide))) | (dsimp only; exact Kd.own_blk (Kd.R_ne HO_4.out BK184.out (by decide)))) _).trans (hHeld.2.2.1)))))))))), ((cell_far (p := ⟨gb184, _, none⟩) (by first | exact Kd.own_blk (Kd.R_ne HO_4.out BK184.out (by decide)) | (rw [add_block]; exact Kd.own_blk (Kd.R_ne HO_4.out BK184.out (by decide))) | (show (Addr.add _ _).block ≠ _; rw [add_block]; exact Kd.own_blk (Kd.R_ne HO_4.out BK184.out (by decide))) | (dsimp only; exact Kd.own_blk (Kd.R_ne HO_4.out BK184.out (by decide)))) _).trans (((cell_far (p := ⟨gb184, _, none⟩) (by first | exact Kd.own_blk (Kd.R_ne HO_4.out BK184.out (by decide)) | (rw [add_block]; exact Kd.own_blk (Kd.R_ne HO_4.out BK184.out (by decide))) | (show (Addr.add _ _).block ≠ _; rw [add_block]; exact Kd.own_blk (Kd.R_ne HO_4.out BK184.out (by decide))) | (dsimp only; exact Kd.own_blk (Kd.R_ne HO_4.out BK184.out (by decide)))) _).trans (((cell_far (p := ⟨gb184, _, none⟩) (by first | exact Kd.own_blk (Kd.R_ne HO_4.out BK184.out (by decide)) | (rw [add_block]; exact Kd.own_blk (Kd.R_ne HO_4.out BK184.out (by decide))) | (show (Addr.add _ _).block ≠ _; rw [add_block]; exact Kd.own_blk (Kd.R_ne HO_4.out BK184.out (by decide))) | (dsimp only; exact Kd.own_blk (Kd.R_ne HO_4.out BK184.out (by decide)))) _).trans (((cell_far (p := ⟨gb184, _, none⟩) (by first | exact Kd.own_blk (Kd.R_ne HO_4.out BK184.out (by decide)) | (rw [add_block]; exact Kd.own_blk (Kd.R_ne HO_4.out BK184.out (by decide))) | (show (Addr.add _ _).block ≠ _; rw [add_block]; exact Kd.own_blk (Kd.R_ne HO_4.out BK184.out (by decide))) | (dsimp only; exact Kd.own_blk (Kd.R_ne HO_4.out BK184.out (by decide)))) _).trans (((cell_far (p := ⟨gb184, _, none⟩) (by first | exact Kd.own_blk (Kd.R_ne HO_4.out BK184.out (by decide)) | (rw [add_block]; exact Kd.own_blk (Kd.R_ne HO_4.out BK184.out (by decide))) | (show (Addr.add _ _).block ≠ _; rw [add_block]; exact Kd.own_blk (Kd.R_ne HO_4.out BK184.out (by decide))) | (dsimp only; exact Kd.own_blk (Kd.R_ne HO_4.out BK184.out (by decide)))) _).trans (hHeld.2.2.2.1)))))))))), ((cell_far (p := ⟨gb184, _, none⟩) (by first | exact Kd.own_blk (Kd.R_ne HO_4.out BK184.out (by decide)) | (rw [add_block]; exact Kd.own_blk (Kd.R_ne HO_4.out BK184.out (by decide))) | (show (Addr.add _ _).block ≠ _; rw [add_block]; exact Kd.own_blk (Kd.R_ne HO_4.out BK184.out (by decide))) | (dsimp only; exact Kd.own_blk (Kd.R_ne HO_4.out BK184.out (by decide)))) _).trans (((cell_far (p := ⟨gb184, _, none⟩) (by first | exact Kd.own_blk (Kd.R_ne HO_4.out BK184.out (by decide)) | (rw [add_block]; exact Kd.own_blk (Kd.R_ne HO_4.out BK184.out (by decide))) | (show (Addr.add _ _).block ≠ _; rw [add_block]; exact Kd.own_blk (Kd.R_ne HO_4.out BK184.out (by decide))) | (dsimp only; exact Kd.own_blk (Kd.R_ne HO_4.out BK184.out (by decide)))) _).trans (((cell_far (p := ⟨gb184, _, none⟩) (by first | exact Kd.own_blk (Kd.R_ne HO_4.out BK184.out (by decide)) | (rw [add_block]; exact Kd.own_blk (Kd.R_ne HO_4.out BK184.out (by decide))) | (show (Addr.add _ _).block ≠ _; rw [add_block]; exact Kd.own_blk (Kd.R_ne HO_4.out BK184.out (by decide))) | (dsimp only; exact Kd.own_blk (Kd.R_ne HO_4.out BK184.out (by decide)))) _).trans (((cell_far (p := ⟨gb184, _, none⟩) (by first | exact Kd.own_blk (Kd.R_ne HO_4.out BK184.out (by decide)) | (rw [add_block]; exact Kd.own_blk (Kd.R_ne HO_4.out BK184.out (by decide))) | (show (Addr.add _ _).block ≠ _; rw [add_block]; exact Kd.own_blk (Kd.R_ne HO_4.out BK184.out (by decide))) | (dsimp only; exact Kd.own_blk (Kd.R_ne HO_4.out BK184.out (by decide)))) _).trans (((cell_far (p := ⟨gb184, _, none⟩) (by first | exact Kd.own_blk (Kd.R_ne HO_4.out BK184.out (by decide)) | (rw [add_block]; exact Kd.own_blk (Kd.R_ne HO_4.out BK184.out (by decide))) | (show (Addr.add _ _).block ≠ _; rw [add_block]; exact Kd.own_blk (Kd.R_ne HO_4.out BK184.out (by decide))) | (dsimp only; exact Kd.own_blk (Kd.R_ne HO_4.out BK184.out (by decide)))) _).trans (hHeld.2.2.2.2))))))))))⟩ (fun hHeld => ?_)
          clear hK K
          refine done_ (done_of HT_.out (by kernel_rfl)) ?_
          have hnb38 := NB184_174.out
          have hnc38 := NB174_184.out
          have hcz39_0 : w32.cell? ⟨gb184, 0, none⟩ = some (.float .f32 0) := (blk_cell BK184.out 0).trans rfl
          have hcz39_1 : w32.cell? ⟨gb184, 1, none⟩ = some (.float .f32 0) := (blk_cell BK184.out 1).trans rfl
          have hcz39_2 : w32.cell? ⟨gb184, 2, none⟩ = some (.float .f32 0) := (blk_cell BK184.out 2).trans rfl
          have hcz39_3 : w32.cell? ⟨gb184, 3, none⟩ = some (.float .f32 0) := (blk_cell BK184.out 3).trans rfl
          have hcz39_4 : w32.cell? ⟨gb184, 4, none⟩ = some (.float .f32 0) := (blk_cell BK184.out 4).trans rfl
          have hfz39_0 := blk_frozen BK184.out 0
          have hfz39_1 := blk_frozen BK184.out 1
          have hfz39_2 := blk_frozen BK184.out 2
          have hfz39_3 := blk_frozen BK184.out 3
          have hfz39_4 := blk_frozen BK184.out 4
          try go_wp2_with (first | ((with_reducible refine gate_callee (f := 39) rfl ?_); refine goesL_ (some 37) rfl rfl Tryd.func39 (by kernel_rfl) rfl #[.agg #[.float .f32 (rdOf (0 : Nat) t175 0), .float .f32 (rdOf (0 : Nat) t175 1), .float .f32 (rdOf (0 : Nat) t175 2), .float .f32 (rdOf (0 : Nat) t175 3), .float .f32 (rdOf (0 : Nat) t175 4)]] rfl (by (try simp only [List.map_toArray, List.map_cons, List.map_nil]); first | done | rfl | (simp only [List.length_drop, List.length_take]; rfl)) ?_; (with_reducible refine (impl_ValidThroat.calls (rdOf (0 : Nat) t175 0) (rdOf (0 : Nat) t175 1) (rdOf (0 : Nat) t175 2) (rdOf (0 : Nat) t175 3) (rdOf (0 : Nat) t175 4) false _ A15.out).mono ?_); rintro e w40 ⟨rfl, hb⟩; refine ⟨_, rfl, ?_⟩; have n0_ := Aside0.mk (Kd.R_below (by (with_reducible repeat (first | apply Kd.R_alloc | apply Kd.R_drewN | apply Kd.R_drew)); exact (Kd.R_mono (Kd.R_far (p := ⟨gb184, 4, none⟩) (Kd.R_far (p := ⟨gb184, 3, none⟩) (Kd.R_far (p := ⟨gb184, 2, none⟩) (Kd.R_far (p := ⟨gb184, 1, none⟩) (Kd.R_far (p := ⟨gb184, 0, none⟩) (Kd.R_types HO_4.out BK184.out (by decide)) (fun _ hk => hk.2) (.float .f32 (rdOf (0 : Nat) t175 0))) (fun _ hk => hk.2) (.float .f32 (rdOf (0 : Nat) t175 1))) (fun _ hk => hk.2) (.float .f32 (rdOf (0 : Nat) t175 2))) (fun _ hk => hk.2) (.float .f32 (rdOf (0 : Nat) t175 3))) (fun _ hk => hk.2) (.float .f32 (rdOf (0 : Nat) t175 4))) (fun _ h_ => h_.1))) hb); have n1_ := Aside0.mk (blk_below (g := gb174) (o := .cells #[.float .f32 0, .float .f32 0, .float .f32 0, .float .f32 0, .float .f32 0] 32 (0, 0)) (by (with_reducible repeat (first | refine blk_drewN ?_ _ | refine blk_drew ?_ | refine blk_alloc ?_ _)); refine blk_far ?_ NB174_184.out _; (with_reducible repeat (first | refine blk_drewN ?_ _ | refine blk_drew ?_ | refine blk_alloc ?_ _)); refine blk_far ?_ NB174_184.out _; (with_reducible repeat (first | refine blk_drewN ?_ _ | refine blk_drew ?_ | refine blk_alloc ?_ _)); refine blk_far ?_ NB174_184.out _; (with_reducible repeat (first | refine blk_drewN ?_ _ | refine blk_drew ?_ | refine blk_alloc ?_ _)); refine blk_far ?_ NB174_184.out _; (with_reducible repeat (first | refine blk_drewN ?_ _ | refine blk_drew ?_ | refine blk_alloc ?_ _)); refine blk_far ?_ NB174_184.out _; (with_reducible repeat (first | refine blk_drewN ?_ _ | refine blk_drew ?_ | refine blk_alloc ?_ _)); exact BK174.out) hb); have n2_ := Aside0.mk (blk_below (g := gb184) (o := .cells #[.float .f32 (rdOf (0 : Nat) t175 0), .float .f32 (rdOf (0 : Nat) t175 1), .float .f32 (rdOf (0 : Nat) t175 2), .float .f32 (rdOf (0 : Nat) t175 3), .float .f32 (rdOf (0 : Nat) t175 4)] 32 (0, 0)) (by (with_reducible repeat (first | refine blk_drewN ?_ _ | refine blk_drew ?_ | refine blk_alloc ?_ _)); refine blk_put (cs := #[.float .f32 (rdOf (0 : Nat) t175 0), .float .f32 (rdOf (0 : Nat) t175 1), .float .f32 (rdOf (0 : Nat) t175 2), .float .f32 (rdOf (0 : Nat) t175 3), .float .f32 0]) ?_ 4 _ rfl; (with_reducible repeat (first | refine blk_drewN ?_ _ | refine blk_drew ?_ | refine blk_alloc ?_ _)); refine blk_put (cs := #[.float .f32 (rdOf (0 : Nat) t175 0), .float .f32 (rdOf (0 : Nat) t175 1), .float .f32 (rdOf (0 : Nat) t175 2), .float .f32 0, .float .f32 0]) ?_ 3 _ rfl; (with_reducible repeat (first | refine blk_drewN ?_ _ | refine blk_drew ?_ | refine blk_alloc ?_ _)); refine blk_put (cs := #[.float .f32 (rdOf (0 : Nat) t175 0), .float .f32 (rdOf (0 : Nat) t175 1), .float .f32 0, .float .f32 0, .float .f32 0]) ?_ 2 _ rfl; (with_reducible repeat (first | refine blk_drewN ?_ _ | refine blk_drew ?_ | refine blk_alloc ?_ _)); refine blk_put (cs := #[.float .f32 (rdOf (0 : Nat) t175 0), .float .f32 0, .float .f32 0, .float .f32 0, .float .f32 0]) ?_ 1 _ rfl; (with_reducible repeat (first | refine blk_drewN ?_ _ | refine blk_drew ?_ | refine blk_alloc ?_ _)); refine blk_put (cs := #[.float .f32 0, .float .f32 0, .float .f32 0, .float .f32 0, .float .f32 0]) ?_ 0 _ rfl; (with_reducible repeat (first | refine blk_drewN ?_ _ | refine blk_drew ?_ | refine blk_alloc ?_ _)); exact BK184.out) hb); have n3_ := Aside0.mk (below_step (by repeat (first | (with_reducible first | exact HB.out | apply below_alloc | apply pw_below_drewN | apply below_drew1 | refine below_set ?_ GE174.out | refine below_set ?_ GE184.out) | exact HB.out)) hb); clear HO_4; clear BK174; clear BK184; clear HB; have HO_4 := n0_; have BK174 := n1_; have BK184 := n2_; have HB := n3_; clear n0_ n1_ n2_ n3_; (try clear hb); (try clear hb2); (try clear hk); (try clear hi); have hcz41_0 : w40.cell? ⟨gb174, 0, none⟩ = some (.float .f32 0) := (blk_cell BK174.out 0).trans rfl; have hcz41_1 : w40.cell? ⟨gb174, 1, none⟩ = some (.float .f32 0) := (blk_cell BK174.out 1).trans rfl; have hcz41_2 : w40.cell? ⟨gb174, 2, none⟩ = some (.float .f32 0) := (blk_cell BK174.out 2).trans rfl; have hcz41_3 : w40.cell? ⟨gb174, 3, none⟩ = some (.float .f32 0) := (blk_cell BK174.out 3).trans rfl; have hcz41_4 : w40.cell? ⟨gb174, 4, none⟩ = some (.float .f32 0) := (blk_cell BK174.out 4).trans rfl; have hfz41_0 := blk_frozen BK174.out 0; have hfz41_1 := blk_frozen BK174.out 1; have hfz41_2 := blk_frozen BK174.out 2; have hfz41_3 := blk_frozen BK174.out 3; have hfz41_4 := blk_frozen BK174.out 4))
          refine bodyPost_ret (results_ct rfl _ _ gb174 32 #[.float .f32 0, .float .f32 0, .float .f32 0, .float .f32 0, .float .f32 0] (0, 0) _ rfl (by (with_reducible repeat (first | refine blk_drewN ?_ _ | refine blk_drew ?_ | refine blk_alloc ?_ _)); refine blk_put (cs := #[.float .f32 0, .float .f32 0, .float .f32 0, .float .f32 0, .float .f32 0]) ?_ 4 _ rfl; (with_reducible repeat (first | refine blk_drewN ?_ _ | refine blk_drew ?_ | refine blk_alloc ?_ _)); refine blk_put (cs := #[.float .f32 0, .float .f32 0, .float .f32 0, .float .f32 0, .float .f32 0]) ?_ 3 _ rfl; (with_reducible repeat (first | refine blk_drewN ?_ _ | refine blk_drew ?_ | refine blk_alloc ?_ _)); refine blk_put (cs := #[.float .f32 0, .float .f32 0, .float .f32 0, .float .f32 0, .float .f32 0]) ?_ 2 _ rfl; (with_reducible repeat (first | refine blk_drewN ?_ _ | refine blk_drew ?_ | refine blk_alloc ?_ _)); refine blk_put (cs := #[.float .f32 0, .float .f32 0, .float .f32 0, .float .f32 0, .float .f32 0]) ?_ 1 _ rfl; (with_reducible repeat (first | refine blk_drewN ?_ _ | refine blk_drew ?_ | refine blk_alloc ?_ _)); refine blk_put (cs := #[.float .f32 0, .float .f32 0, .float .f32 0, .float .f32 0, .float .f32 0]) ?_ 0 _ rfl; (with_reducible repeat (first | refine blk_drewN ?_ _ | refine blk_drew ?_ | refine blk_alloc ?_ _)); exact BK174.out) Tryd.underlying32 rfl (by kernel_rfl)) rfl ?_
          exact ⟨by first | rfl | (simp [errW_none, errW_some] <;> rfl) | (simp [*, errW_none, errW_some] <;> rfl), by repeat (first | (with_reducible first | exact HB.out | apply below_alloc | apply pw_below_drewN | apply below_drew1 | refine below_set ?_ GE174.out | refine below_set ?_ GE184.out) | exact HB.out)⟩
        ·rw [if_neg c14] at H
         exact absurd H (by simp)
       ·rw [if_neg c13] at H
        exact absurd H (by simp)
      ·rw [if_neg c12] at H
       exact absurd H (by simp)
     ·rw [if_neg c11] at H
      exact absurd H (by simp)
    ·rw [if_neg c10] at H
     exact absurd H (by simp)


/-! ### laws_eqThroat: function 15 (given: equal values are the same) -/
def laws_eqThroat.f (a0_0 a0_1 a0_2 a0_3 a0_4 : Nat) (a1_0 a1_1 a1_2 a1_3 a1_4 : Nat) : Option Bool := if a0_0 = a1_0 ∧ a0_1 = a1_1 ∧ a0_2 = a1_2 ∧ a0_3 = a1_3 ∧ a0_4 = a1_4 ∧ a0_0 < 4294967296 ∧ a0_1 < 4294967296 ∧ a0_2 < 4294967296 ∧ a0_3 < 4294967296 ∧ a0_4 < 4294967296 then some true else none
theorem laws_eqThroat.calls (a0_0 a0_1 a0_2 a0_3 a0_4 : Nat) (a1_0 a1_1 a1_2 a1_3 a1_4 : Nat) (r : Bool) (w : World) (h : laws_eqThroat.f a0_0 a0_1 a0_2 a0_3 a0_4 a1_0 a1_1 a1_2 a1_3 a1_4 = some r) :
    Calls Tryd.prog 15 #[.agg #[.float .f32 a0_0, .float .f32 a0_1, .float .f32 a0_2, .float .f32 a0_3, .float .f32 a0_4], .agg #[.float .f32 a1_0, .float .f32 a1_1, .float .f32 a1_2, .float .f32 a1_3, .float .f32 a1_4]] w fun e w' => e = .returned (.bool r) ∧ Below w.heap.size w w' := by
  unfold laws_eqThroat.f at h
  split at h
  · rename_i hh
    obtain rfl := Option.some.inj h
    obtain ⟨rfl, rfl, rfl, rfl, rfl, h0, h1, h2, h3, h4⟩ := hh
    exact giv_eqThroat a0_0 a0_1 a0_2 a0_3 a0_4 w h0 h1 h2 h3 h4
  · cases h

/-! ### laws_FnExactReadThroat: function 4 -/
def laws_FnExactReadThroat.f (k : Nat) (a0 : ByteArray) : Option (Bool) := if (a0.size : Int) > 1048576 then (some true) else ((spec_ReadThroat.f k a0).bind fun bt186 => ((impl_ReadThroat.f k a0).bind fun bt193 => ((laws_eqThroat.f bt193.1 bt193.2.1 bt193.2.2.1 bt193.2.2.2.1 bt193.2.2.2.2.1 bt186.1 bt186.2.1 bt186.2.2.1 bt186.2.2.2.1 bt186.2.2.2.2.1).bind fun t200 => (if t200 = true then (if (bt193.2.2.2.2.2 != bt186.2.2.2.2.2) = true then (some false) else (some true)) else (some false)))))
theorem laws_FnExactReadThroat.mono : ∀ a0 k, LeO (laws_FnExactReadThroat.f k a0) (laws_FnExactReadThroat.f (k + 1) a0) := by
 intro a0 k
 unfold laws_FnExactReadThroat.f
 repeat' first
   | (with_reducible exact impl_ReadThroat.mono _ _)
   | (with_reducible exact spec_ReadThroat.mono _ _)
   | (with_reducible exact LeO.refl _)
   | (with_reducible exact LeO.none _)
   | (with_reducible refine LeO.ite ?_ ?_)
   | (with_reducible refine LeO.bind ?_ (fun _ => ?_))
   | exact impl_ReadThroat.mono _ _
   | exact spec_ReadThroat.mono _ _
   | exact LeO.none _
   | refine LeO.ite ?_ ?_
   | refine LeO.bind ?_ (fun _ => ?_)
set_option maxHeartbeats 8000000 in
set_option maxRecDepth 100000 in
theorem laws_FnExactReadThroat.calls (k : Nat) (a0 : ByteArray) (r : Bool) (w : World) (hT_ : GLt w) (h : laws_FnExactReadThroat.f k a0 = some r) :
  Calls Tryd.prog 4 #[.string a0] w fun e w' => e = .returned (.bool r) ∧ Below w.heap.size w w' := by
 have hu32 := Tryd.underlying32
 have HGT_ := Aside0.mk hT_
 clear hT_
 have HB := Aside0.mk (Below.refl w.heap.size w)
 have H : (if (a0.size : Int) > 1048576 then (some true) else ((spec_ReadThroat.f k a0).bind fun bt186 => ((impl_ReadThroat.f k a0).bind fun bt193 => ((laws_eqThroat.f bt193.1 bt193.2.1 bt193.2.2.1 bt193.2.2.2.1 bt193.2.2.2.2.1 bt186.1 bt186.2.1 bt186.2.2.1 bt186.2.2.2.1 bt186.2.2.2.2.1).bind fun t200 => (if t200 = true then (if (bt193.2.2.2.2.2 != bt186.2.2.2.2.2) = true then (some false) else (some true)) else (some false)))))) = some r := h
 clear h
 by_cases c2 : (a0.size : Int) > 1048576
 ·rw [if_pos c2] at H
  have c2b0 : decide (1048576 < (a0.size : Int)) = true := decide_eq_true c2
  have c2b1 : decide (1048576 < a0.size) = true := decide_eq_true (by omega)
  clear c2
  obtain rfl := Option.some.inj H
  go_enter Tryd.func4, Tryd.ntmps4
  go_wp2
  go_ret
  exact ⟨by first | rfl | (simp [errW_none, errW_some] <;> rfl) | (simp [*, errW_none, errW_some] <;> rfl), by repeat (first | (with_reducible first | exact HB.out | apply below_alloc | apply pw_below_drewN | apply below_drew1) | exact HB.out)⟩
 ·rw [if_neg c2] at H
  have c2b0 : decide (1048576 < (a0.size : Int)) = false := decide_eq_false c2
  have c2b1 : decide (1048576 < a0.size) = false := decide_eq_false (by omega)
  clear c2
  replace H := Option.bind_eq_some_iff.mp H
  obtain ⟨⟨t186, t187, t188, t189, t190, t191⟩, A30, H⟩ := H
  replace H : ((impl_ReadThroat.f k a0).bind fun bt193 => ((laws_eqThroat.f bt193.1 bt193.2.1 bt193.2.2.1 bt193.2.2.2.1 bt193.2.2.2.2.1 t186 t187 t188 t189 t190).bind fun t200 => (if t200 = true then (if (bt193.2.2.2.2.2 != t191) = true then (some false) else (some true)) else (some false)))) = some r := H
  have A3 := Aside0.mk A30
  clear A30
  replace H := Option.bind_eq_some_iff.mp H
  obtain ⟨⟨t193, t194, t195, t196, t197, t198⟩, A40, H⟩ := H
  replace H : ((laws_eqThroat.f t193 t194 t195 t196 t197 t186 t187 t188 t189 t190).bind fun t200 => (if t200 = true then (if (t198 != t191) = true then (some false) else (some true)) else (some false))) = some r := H
  have A4 := Aside0.mk A40
  clear A40
  replace H := Option.bind_eq_some_iff.mp H
  obtain ⟨t200, A50, H⟩ := H
  replace H : (if t200 = true then (if (t198 != t191) = true then (some false) else (some true)) else (some false)) = some r := H
  have A5 := Aside0.mk A50
  clear A50
  by_cases c6 : t200 = true
  ·subst c6
   have H1 : (if (t198 != t191) = true then (some false) else (some true)) = some r := by rw [if_pos rfl] at H; exact H
   clear H
   have H := H1
   clear H1
   by_cases c7 : (t198 != t191) = true
   ·rw [if_pos c7] at H
    have c7b0 : (t198 != t191) = true := c7
    (try (have c7b1 : decide (t198 = t191) = false := by simpa using c7))
    (try (have c7b2 : (t198 == t191) = false := by simpa using c7))
    (try (have c7b3 : ¬ (t198 = t191) := by simpa using c7))
    clear c7
    obtain rfl := Option.some.inj H
    go_enter Tryd.func4, Tryd.ntmps4
    go_wp2_with (first | ((with_reducible refine gate_callee (f := 13) rfl ?_); refine goesL_ (some 12) rfl rfl Tryd.func13 (by kernel_rfl) rfl #[.string a0] rfl (by (try simp only [List.map_toArray, List.map_cons, List.map_nil]); first | done | rfl | (simp only [List.length_drop, List.length_take]; rfl)) ?_; (with_reducible refine (spec_ReadThroat.calls k a0 t186 t187 t188 t189 t190 t191 _ A3.out).mono ?_); rintro e w8 ⟨rfl, hb⟩; refine ⟨_, rfl, ?_⟩; have n0_ := Aside0.mk (below_step (by repeat (first | (with_reducible first | exact HB.out | apply below_alloc | apply pw_below_drewN | apply below_drew1) | exact HB.out)) hb); clear HB; have HB := n0_; clear n0_; (try clear hb); (try clear hb2); (try clear hk); (try clear hi)) | ((with_reducible refine gate_dst (N := 3) rfl ?_); refine box_event ?hg (N := 3) ?hd (cs := #[.float .f32 0, .float .f32 0, .float .f32 0, .float .f32 0, .float .f32 0]) (t := 32) ?hr ?_; (case hd => rfl); (case hg => rfl); (case hr => first | (go_simp; done) | (go_simp; rfl) | (simp (disch := omega) only [w64_id]; go_simp; done) | (go_simp; simp (disch := omega) only [w64_id]; done)); intro gb192 hg w9 hbox hb; have n0_ := Aside0.mk (below_step (by repeat (first | (with_reducible first | exact HB.out | apply below_alloc | apply pw_below_drewN | apply below_drew1) | exact HB.out)) hb); have n1_ := Aside0.mk (hbox); have n2_ := Aside0.mk ((by rw [hg]; exact (below_size (by repeat (first | (with_reducible first | exact HB.out | apply below_alloc | apply pw_below_drewN | apply below_drew1) | exact HB.out))) : w.heap.size ≤ gb192)); have n3_ := Aside0.mk ((by rw [hg]; exact (below_size (by repeat (first | (with_reducible first | exact HB.out | apply below_alloc | apply pw_below_drewN | apply below_drew1) | exact HB.out))) : w.heap.size ≤ gb192)); clear HB; have HB := n0_; have BK192 := n1_; have GW192 := n2_; have GE192 := n3_; clear n0_ n1_ n2_ n3_; clear hb hbox hg; have hcz10_0 : w9.cell? ⟨gb192, 0, none⟩ = some (.float .f32 0) := (blk_cell BK192.out 0).trans rfl; have hcz10_1 : w9.cell? ⟨gb192, 1, none⟩ = some (.float .f32 0) := (blk_cell BK192.out 1).trans rfl; have hcz10_2 : w9.cell? ⟨gb192, 2, none⟩ = some (.float .f32 0) := (blk_cell BK192.out 2).trans rfl; have hcz10_3 : w9.cell? ⟨gb192, 3, none⟩ = some (.float .f32 0) := (blk_cell BK192.out 3).trans rfl; have hcz10_4 : w9.cell? ⟨gb192, 4, none⟩ = some (.float .f32 0) := (blk_cell BK192.out 4).trans rfl; have hfz10_0 := blk_frozen BK192.out 0; have hfz10_1 := blk_frozen BK192.out 1; have hfz10_2 := blk_frozen BK192.out 2; have hfz10_3 := blk_frozen BK192.out 3; have hfz10_4 := blk_frozen BK192.out 4) | ((with_reducible refine gate_callee (f := 14) rfl ?_); refine goesL_ (some 17) rfl rfl Tryd.func14 (by kernel_rfl) rfl #[.string a0] rfl (by (try simp only [List.map_toArray, List.map_cons, List.map_nil]); first | done | rfl | (simp only [List.length_drop, List.length_take]; rfl)) ?_; (with_reducible refine (impl_ReadThroat.calls k a0 t193 t194 t195 t196 t197 t198 _ ?side1 A4.out).mono ?_); (case side1 => exact GLt_below HGT_.out (by repeat (first | (with_reducible first | exact HB.out | apply below_alloc | apply pw_below_drewN | apply below_drew1 | refine below_set ?_ GE192.out) | exact HB.out))); rintro e w11 ⟨rfl, hb⟩; refine ⟨_, rfl, ?_⟩; have n0_ := Aside0.mk (blk_below (g := gb192) (o := .cells #[.float .f32 t186, .float .f32 t187, .float .f32 t188, .float .f32 t189, .float .f32 t190] 32 (0, 0)) (by (with_reducible repeat (first | refine blk_drewN ?_ _ | refine blk_drew ?_ | refine blk_alloc ?_ _)); refine blk_put (cs := #[.float .f32 t186, .float .f32 t187, .float .f32 t188, .float .f32 t189, .float .f32 0]) ?_ 4 _ rfl; (with_reducible repeat (first | refine blk_drewN ?_ _ | refine blk_drew ?_ | refine blk_alloc ?_ _)); refine blk_put (cs := #[.float .f32 t186, .float .f32 t187, .float .f32 t188, .float .f32 0, .float .f32 0]) ?_ 3 _ rfl; (with_reducible repeat (first | refine blk_drewN ?_ _ | refine blk_drew ?_ | refine blk_alloc ?_ _)); refine blk_put (cs := #[.float .f32 t186, .float .f32 t187, .float .f32 0, .float .f32 0, .float .f32 0]) ?_ 2 _ rfl; (with_reducible repeat (first | refine blk_drewN ?_ _ | refine blk_drew ?_ | refine blk_alloc ?_ _)); refine blk_put (cs := #[.float .f32 t186, .float .f32 0, .float .f32 0, .float .f32 0, .float .f32 0]) ?_ 1 _ rfl; (with_reducible repeat (first | refine blk_drewN ?_ _ | refine blk_drew ?_ | refine blk_alloc ?_ _)); refine blk_put (cs := #[.float .f32 0, .float .f32 0, .float .f32 0, .float .f32 0, .float .f32 0]) ?_ 0 _ rfl; (with_reducible repeat (first | refine blk_drewN ?_ _ | refine blk_drew ?_ | refine blk_alloc ?_ _)); exact BK192.out) hb); have n1_ := Aside0.mk (below_step (by repeat (first | (with_reducible first | exact HB.out | apply below_alloc | apply pw_below_drewN | apply below_drew1 | refine below_set ?_ GE192.out) | exact HB.out)) hb); clear BK192; clear HB; have BK192 := n0_; have HB := n1_; clear n0_ n1_; (try clear hb); (try clear hb2); (try clear hk); (try clear hi)) | ((with_reducible refine gate_dst (N := 5) rfl ?_); refine box_event ?hg (N := 5) ?hd (cs := #[.float .f32 0, .float .f32 0, .float .f32 0, .float .f32 0, .float .f32 0]) (t := 32) ?hr ?_; (case hd => rfl); (case hg => rfl); (case hr => first | (go_simp; done) | (go_simp; rfl) | (simp (disch := omega) only [w64_id]; go_simp; done) | (go_simp; simp (disch := omega) only [w64_id]; done)); intro gb199 hg w12 hbox hb; have n0_ := Aside0.mk (blk_below (g := gb192) (o := .cells #[.float .f32 t186, .float .f32 t187, .float .f32 t188, .float .f32 t189, .float .f32 t190] 32 (0, 0)) (by (with_reducible repeat (first | refine blk_drewN ?_ _ | refine blk_drew ?_ | refine blk_alloc ?_ _)); exact BK192.out) hb); have n1_ := Aside0.mk (below_step (by repeat (first | (with_reducible first | exact HB.out | apply below_alloc | apply pw_below_drewN | apply below_drew1 | refine below_set ?_ GE192.out) | exact HB.out)) hb); have n2_ := Aside0.mk (hbox); have n3_ := Aside0.mk ((by rw [hg]; exact (below_size (by repeat (first | (with_reducible first | exact HB.out | apply below_alloc | apply pw_below_drewN | apply below_drew1 | refine below_set ?_ GE192.out) | exact HB.out))) : w.heap.size ≤ gb199)); have n4_ := Aside0.mk ((by rw [hg]; exact (below_size (by repeat (first | (with_reducible first | exact HB.out | apply below_alloc | apply pw_below_drewN | apply below_drew1 | refine below_set ?_ GE192.out) | exact HB.out))) : w.heap.size ≤ gb199)); have n5_ := Aside0.mk ((by rw [hg]; exact Nat.ne_of_lt (blk_lt (g := gb192) (o := .cells #[.float .f32 t186, .float .f32 t187, .float .f32 t188, .float .f32 t189, .float .f32 t190] 32 (0, 0)) (by (with_reducible repeat (first | refine blk_drewN ?_ _ | refine blk_drew ?_ | refine blk_alloc ?_ _)); exact BK192.out)) : gb192 ≠ gb199)); have n6_ := Aside0.mk ((by rw [hg]; exact Nat.ne_of_gt (blk_lt (g := gb192) (o := .cells #[.float .f32 t186, .float .f32 t187, .float .f32 t188, .float .f32 t189, .float .f32 t190] 32 (0, 0)) (by (with_reducible repeat (first | refine blk_drewN ?_ _ | refine blk_drew ?_ | refine blk_alloc ?_ _)); exact BK192.out)) : gb199 ≠ gb192)); clear BK192; clear HB; have BK192 := n0_; have HB := n1_; have BK199 := n2_; have GW199 := n3_; have GE199 := n4_; have NB192_199 := n5_; have NB199_192 := n6_; clear n0_ n1_ n2_ n3_ n4_ n5_ n6_; clear hb hbox hg; have hnb13 := NB199_192.out; have hnc13 := NB192_199.out; have hcz14_0 : w12.cell? ⟨gb199, 0, none⟩ = some (.float .f32 0) := (blk_cell BK199.out 0).trans rfl; have hcz14_1 : w12.cell? ⟨gb199, 1, none⟩ = some (.float .f32 0) := (blk_cell BK199.out 1).trans rfl; have hcz14_2 : w12.cell? ⟨gb199, 2, none⟩ = some (.float .f32 0) := (blk_cell BK199.out 2).trans rfl; have hcz14_3 : w12.cell? ⟨gb199, 3, none⟩ = some (.float .f32 0) := (blk_cell BK199.out 3).trans rfl; have hcz14_4 : w12.cell? ⟨gb199, 4, none⟩ = some (.float .f32 0) := (blk_cell BK199.out 4).trans rfl; have hfz14_0 := blk_frozen BK199.out 0; have hfz14_1 := blk_frozen BK199.out 1; have hfz14_2 := blk_frozen BK199.out 2; have hfz14_3 := blk_frozen BK199.out 3; have hfz14_4 := blk_frozen BK199.out 4; have hcz15_0 : w12.cell? ⟨gb192, 0, none⟩ = some (.float .f32 t186) := (blk_cell BK192.out 0).trans rfl; have hcz15_1 : w12.cell? ⟨gb192, 1, none⟩ = some (.float .f32 t187) := (blk_cell BK192.out 1).trans rfl; have hcz15_2 : w12.cell? ⟨gb192, 2, none⟩ = some (.float .f32 t188) := (blk_cell BK192.out 2).trans rfl; have hcz15_3 : w12.cell? ⟨gb192, 3, none⟩ = some (.float .f32 t189) := (blk_cell BK192.out 3).trans rfl; have hcz15_4 : w12.cell? ⟨gb192, 4, none⟩ = some (.float .f32 t190) := (blk_cell BK192.out 4).trans rfl; have hfz15_0 := blk_frozen BK192.out 0; have hfz15_1 := blk_frozen BK192.out 1; have hfz15_2 := blk_frozen BK192.out 2; have hfz15_3 := blk_frozen BK192.out 3; have hfz15_4 := blk_frozen BK192.out 4) | ((with_reducible refine gate_callee (f := 15) rfl ?_); refine goesL_ (some 22) rfl rfl Tryd.func15 (by kernel_rfl) rfl #[.agg #[.float .f32 t193, .float .f32 t194, .float .f32 t195, .float .f32 t196, .float .f32 t197], .agg #[.float .f32 t186, .float .f32 t187, .float .f32 t188, .float .f32 t189, .float .f32 t190]] rfl (by (try simp only [List.map_toArray, List.map_cons, List.map_nil]); first | done | rfl | (simp only [List.length_drop, List.length_take]; rfl)) ?_; (with_reducible refine (laws_eqThroat.calls t193 t194 t195 t196 t197 t186 t187 t188 t189 t190 true _ A5.out).mono ?_); rintro e w16 ⟨rfl, hb⟩; refine ⟨_, rfl, ?_⟩; have n0_ := Aside0.mk (blk_below (g := gb192) (o := .cells #[.float .f32 t186, .float .f32 t187, .float .f32 t188, .float .f32 t189, .float .f32 t190] 32 (0, 0)) (by (with_reducible repeat (first | refine blk_drewN ?_ _ | refine blk_drew ?_ | refine blk_alloc ?_ _)); refine blk_far ?_ NB192_199.out _; (with_reducible repeat (first | refine blk_drewN ?_ _ | refine blk_drew ?_ | refine blk_alloc ?_ _)); refine blk_far ?_ NB192_199.out _; (with_reducible repeat (first | refine blk_drewN ?_ _ | refine blk_drew ?_ | refine blk_alloc ?_ _)); refine blk_far ?_ NB192_199.out _; (with_reducible repeat (first | refine blk_drewN ?_ _ | refine blk_drew ?_ | refine blk_alloc ?_ _)); refine blk_far ?_ NB192_199.out _; (with_reducible repeat (first | refine blk_drewN ?_ _ | refine blk_drew ?_ | refine blk_alloc ?_ _)); refine blk_far ?_ NB192_199.out _; (with_reducible repeat (first | refine blk_drewN ?_ _ | refine blk_drew ?_ | refine blk_alloc ?_ _)); exact BK192.out) hb); have n1_ := Aside0.mk (blk_below (g := gb199) (o := .cells #[.float .f32 t193, .float .f32 t194, .float .f32 t195, .float .f32 t196, .float .f32 t197] 32 (0, 0)) (by (with_reducible repeat (first | refine blk_drewN ?_ _ | refine blk_drew ?_ | refine blk_alloc ?_ _)); refine blk_put (cs := #[.float .f32 t193, .float .f32 t194, .float .f32 t195, .float .f32 t196, .float .f32 0]) ?_ 4 _ rfl; (with_reducible repeat (first | refine blk_drewN ?_ _ | refine blk_drew ?_ | refine blk_alloc ?_ _)); refine blk_put (cs := #[.float .f32 t193, .float .f32 t194, .float .f32 t195, .float .f32 0, .float .f32 0]) ?_ 3 _ rfl; (with_reducible repeat (first | refine blk_drewN ?_ _ | refine blk_drew ?_ | refine blk_alloc ?_ _)); refine blk_put (cs := #[.float .f32 t193, .float .f32 t194, .float .f32 0, .float .f32 0, .float .f32 0]) ?_ 2 _ rfl; (with_reducible repeat (first | refine blk_drewN ?_ _ | refine blk_drew ?_ | refine blk_alloc ?_ _)); refine blk_put (cs := #[.float .f32 t193, .float .f32 0, .float .f32 0, .float .f32 0, .float .f32 0]) ?_ 1 _ rfl; (with_reducible repeat (first | refine blk_drewN ?_ _ | refine blk_drew ?_ | refine blk_alloc ?_ _)); refine blk_put (cs := #[.float .f32 0, .float .f32 0, .float .f32 0, .float .f32 0, .float .f32 0]) ?_ 0 _ rfl; (with_reducible repeat (first | refine blk_drewN ?_ _ | refine blk_drew ?_ | refine blk_alloc ?_ _)); exact BK199.out) hb); have n2_ := Aside0.mk (below_step (by repeat (first | (with_reducible first | exact HB.out | apply below_alloc | apply pw_below_drewN | apply below_drew1 | refine below_set ?_ GE192.out | refine below_set ?_ GE199.out) | exact HB.out)) hb); clear BK192; clear BK199; clear HB; have BK192 := n0_; have BK199 := n1_; have HB := n2_; clear n0_ n1_ n2_; (try clear hb); (try clear hb2); (try clear hk); (try clear hi)))
    go_ret
    exact ⟨by first | rfl | (simp [errW_none, errW_some] <;> rfl) | (simp [*, errW_none, errW_some] <;> rfl), by repeat (first | (with_reducible first | exact HB.out | apply below_alloc | apply pw_below_drewN | apply below_drew1 | refine below_set ?_ GE192.out | refine below_set ?_ GE199.out) | exact HB.out)⟩
   ·rw [if_neg c7] at H
    have c7b0 : (t198 != t191) = false := by simpa using c7
    (try (have c7b1 : decide (t198 = t191) = true := by simpa using c7))
    (try (have c7b2 : (t198 == t191) = true := by simpa using c7))
    clear c7
    obtain rfl := Option.some.inj H
    go_enter Tryd.func4, Tryd.ntmps4
    go_wp2_with (first | ((with_reducible refine gate_callee (f := 13) rfl ?_); refine goesL_ (some 12) rfl rfl Tryd.func13 (by kernel_rfl) rfl #[.string a0] rfl (by (try simp only [List.map_toArray, List.map_cons, List.map_nil]); first | done | rfl | (simp only [List.length_drop, List.length_take]; rfl)) ?_; (with_reducible refine (spec_ReadThroat.calls k a0 t186 t187 t188 t189 t190 t191 _ A3.out).mono ?_); rintro e w17 ⟨rfl, hb⟩; refine ⟨_, rfl, ?_⟩; have n0_ := Aside0.mk (below_step (by repeat (first | (with_reducible first | exact HB.out | apply below_alloc | apply pw_below_drewN | apply below_drew1) | exact HB.out)) hb); clear HB; have HB := n0_; clear n0_; (try clear hb); (try clear hb2); (try clear hk); (try clear hi)) | ((with_reducible refine gate_dst (N := 3) rfl ?_); refine box_event ?hg (N := 3) ?hd (cs := #[.float .f32 0, .float .f32 0, .float .f32 0, .float .f32 0, .float .f32 0]) (t := 32) ?hr ?_; (case hd => rfl); (case hg => rfl); (case hr => first | (go_simp; done) | (go_simp; rfl) | (simp (disch := omega) only [w64_id]; go_simp; done) | (go_simp; simp (disch := omega) only [w64_id]; done)); intro gb192 hg w18 hbox hb; have n0_ := Aside0.mk (below_step (by repeat (first | (with_reducible first | exact HB.out | apply below_alloc | apply pw_below_drewN | apply below_drew1) | exact HB.out)) hb); have n1_ := Aside0.mk (hbox); have n2_ := Aside0.mk ((by rw [hg]; exact (below_size (by repeat (first | (with_reducible first | exact HB.out | apply below_alloc | apply pw_below_drewN | apply below_drew1) | exact HB.out))) : w.heap.size ≤ gb192)); have n3_ := Aside0.mk ((by rw [hg]; exact (below_size (by repeat (first | (with_reducible first | exact HB.out | apply below_alloc | apply pw_below_drewN | apply below_drew1) | exact HB.out))) : w.heap.size ≤ gb192)); clear HB; have HB := n0_; have BK192 := n1_; have GW192 := n2_; have GE192 := n3_; clear n0_ n1_ n2_ n3_; clear hb hbox hg; have hcz19_0 : w18.cell? ⟨gb192, 0, none⟩ = some (.float .f32 0) := (blk_cell BK192.out 0).trans rfl; have hcz19_1 : w18.cell? ⟨gb192, 1, none⟩ = some (.float .f32 0) := (blk_cell BK192.out 1).trans rfl; have hcz19_2 : w18.cell? ⟨gb192, 2, none⟩ = some (.float .f32 0) := (blk_cell BK192.out 2).trans rfl; have hcz19_3 : w18.cell? ⟨gb192, 3, none⟩ = some (.float .f32 0) := (blk_cell BK192.out 3).trans rfl; have hcz19_4 : w18.cell? ⟨gb192, 4, none⟩ = some (.float .f32 0) := (blk_cell BK192.out 4).trans rfl; have hfz19_0 := blk_frozen BK192.out 0; have hfz19_1 := blk_frozen BK192.out 1; have hfz19_2 := blk_frozen BK192.out 2; have hfz19_3 := blk_frozen BK192.out 3; have hfz19_4 := blk_frozen BK192.out 4) | ((with_reducible refine gate_callee (f := 14) rfl ?_); refine goesL_ (some 17) rfl rfl Tryd.func14 (by kernel_rfl) rfl #[.string a0] rfl (by (try simp only [List.map_toArray, List.map_cons, List.map_nil]); first | done | rfl | (simp only [List.length_drop, List.length_take]; rfl)) ?_; (with_reducible refine (impl_ReadThroat.calls k a0 t193 t194 t195 t196 t197 t198 _ ?side1 A4.out).mono ?_); (case side1 => exact GLt_below HGT_.out (by repeat (first | (with_reducible first | exact HB.out | apply below_alloc | apply pw_below_drewN | apply below_drew1 | refine below_set ?_ GE192.out) | exact HB.out))); rintro e w20 ⟨rfl, hb⟩; refine ⟨_, rfl, ?_⟩; have n0_ := Aside0.mk (blk_below (g := gb192) (o := .cells #[.float .f32 t186, .float .f32 t187, .float .f32 t188, .float .f32 t189, .float .f32 t190] 32 (0, 0)) (by (with_reducible repeat (first | refine blk_drewN ?_ _ | refine blk_drew ?_ | refine blk_alloc ?_ _)); refine blk_put (cs := #[.float .f32 t186, .float .f32 t187, .float .f32 t188, .float .f32 t189, .float .f32 0]) ?_ 4 _ rfl; (with_reducible repeat (first | refine blk_drewN ?_ _ | refine blk_drew ?_ | refine blk_alloc ?_ _)); refine blk_put (cs := #[.float .f32 t186, .float .f32 t187, .float .f32 t188, .float .f32 0, .float .f32 0]) ?_ 3 _ rfl; (with_reducible repeat (first | refine blk_drewN ?_ _ | refine blk_drew ?_ | refine blk_alloc ?_ _)); refine blk_put (cs := #[.float .f32 t186, .float .f32 t187, .float .f32 0, .float .f32 0, .float .f32 0]) ?_ 2 _ rfl; (with_reducible repeat (first | refine blk_drewN ?_ _ | refine blk_drew ?_ | refine blk_alloc ?_ _)); refine blk_put (cs := #[.float .f32 t186, .float .f32 0, .float .f32 0, .float .f32 0, .float .f32 0]) ?_ 1 _ rfl; (with_reducible repeat (first | refine blk_drewN ?_ _ | refine blk_drew ?_ | refine blk_alloc ?_ _)); refine blk_put (cs := #[.float .f32 0, .float .f32 0, .float .f32 0, .float .f32 0, .float .f32 0]) ?_ 0 _ rfl; (with_reducible repeat (first | refine blk_drewN ?_ _ | refine blk_drew ?_ | refine blk_alloc ?_ _)); exact BK192.out) hb); have n1_ := Aside0.mk (below_step (by repeat (first | (with_reducible first | exact HB.out | apply below_alloc | apply pw_below_drewN | apply below_drew1 | refine below_set ?_ GE192.out) | exact HB.out)) hb); clear BK192; clear HB; have BK192 := n0_; have HB := n1_; clear n0_ n1_; (try clear hb); (try clear hb2); (try clear hk); (try clear hi)) | ((with_reducible refine gate_dst (N := 5) rfl ?_); refine box_event ?hg (N := 5) ?hd (cs := #[.float .f32 0, .float .f32 0, .float .f32 0, .float .f32 0, .float .f32 0]) (t := 32) ?hr ?_; (case hd => rfl); (case hg => rfl); (case hr => first | (go_simp; done) | (go_simp; rfl) | (simp (disch := omega) only [w64_id]; go_simp; done) | (go_simp; simp (disch := omega) only [w64_id]; done)); intro gb199 hg w21 hbox hb; have n0_ := Aside0.mk (blk_below (g := gb192) (o := .cells #[.float .f32 t186, .float .f32 t187, .float .f32 t188, .float .f32 t189, .float .f32 t190] 32 (0, 0)) (by (with_reducible repeat (first | refine blk_drewN ?_ _ | refine blk_drew ?_ | refine blk_alloc ?_ _)); exact BK192.out) hb); have n1_ := Aside0.mk (below_step (by repeat (first | (with_reducible first | exact HB.out | apply below_alloc | apply pw_below_drewN | apply below_drew1 | refine below_set ?_ GE192.out) | exact HB.out)) hb); have n2_ := Aside0.mk (hbox); have n3_ := Aside0.mk ((by rw [hg]; exact (below_size (by repeat (first | (with_reducible first | exact HB.out | apply below_alloc | apply pw_below_drewN | apply below_drew1 | refine below_set ?_ GE192.out) | exact HB.out))) : w.heap.size ≤ gb199)); have n4_ := Aside0.mk ((by rw [hg]; exact (below_size (by repeat (first | (with_reducible first | exact HB.out | apply below_alloc | apply pw_below_drewN | apply below_drew1 | refine below_set ?_ GE192.out) | exact HB.out))) : w.heap.size ≤ gb199)); have n5_ := Aside0.mk ((by rw [hg]; exact Nat.ne_of_lt (blk_lt (g := gb192) (o := .cells #[.float .f32 t186, .float .f32 t187, .float .f32 t188, .float .f32 t189, .float .f32 t190] 32 (0, 0)) (by (with_reducible repeat (first | refine blk_drewN ?_ _ | refine blk_drew ?_ | refine blk_alloc ?_ _)); exact BK192.out)) : gb192 ≠ gb199)); have n6_ := Aside0.mk ((by rw [hg]; exact Nat.ne_of_gt (blk_lt (g := gb192) (o := .cells #[.float .f32 t186, .float .f32 t187, .float .f32 t188, .float .f32 t189, .float .f32 t190] 32 (0, 0)) (by (with_reducible repeat (first | refine blk_drewN ?_ _ | refine blk_drew ?_ | refine blk_alloc ?_ _)); exact BK192.out)) : gb199 ≠ gb192)); clear BK192; clear HB; have BK192 := n0_; have HB := n1_; have BK199 := n2_; have GW199 := n3_; have GE199 := n4_; have NB192_199 := n5_; have NB199_192 := n6_; clear n0_ n1_ n2_ n3_ n4_ n5_ n6_; clear hb hbox hg; have hnb22 := NB199_192.out; have hnc22 := NB192_199.out; have hcz23_0 : w21.cell? ⟨gb199, 0, none⟩ = some (.float .f32 0) := (blk_cell BK199.out 0).trans rfl; have hcz23_1 : w21.cell? ⟨gb199, 1, none⟩ = some (.float .f32 0) := (blk_cell BK199.out 1).trans rfl; have hcz23_2 : w21.cell? ⟨gb199, 2, none⟩ = some (.float .f32 0) := (blk_cell BK199.out 2).trans rfl; have hcz23_3 : w21.cell? ⟨gb199, 3, none⟩ = some (.float .f32 0) := (blk_cell BK199.out 3).trans rfl; have hcz23_4 : w21.cell? ⟨gb199, 4, none⟩ = some (.float .f32 0) := (blk_cell BK199.out 4).trans rfl; have hfz23_0 := blk_frozen BK199.out 0; have hfz23_1 := blk_frozen BK199.out 1; have hfz23_2 := blk_frozen BK199.out 2; have hfz23_3 := blk_frozen BK199.out 3; have hfz23_4 := blk_frozen BK199.out 4; have hcz24_0 : w21.cell? ⟨gb192, 0, none⟩ = some (.float .f32 t186) := (blk_cell BK192.out 0).trans rfl; have hcz24_1 : w21.cell? ⟨gb192, 1, none⟩ = some (.float .f32 t187) := (blk_cell BK192.out 1).trans rfl; have hcz24_2 : w21.cell? ⟨gb192, 2, none⟩ = some (.float .f32 t188) := (blk_cell BK192.out 2).trans rfl; have hcz24_3 : w21.cell? ⟨gb192, 3, none⟩ = some (.float .f32 t189) := (blk_cell BK192.out 3).trans rfl; have hcz24_4 : w21.cell? ⟨gb192, 4, none⟩ = some (.float .f32 t190) := (blk_cell BK192.out 4).trans rfl; have hfz24_0 := blk_frozen BK192.out 0; have hfz24_1 := blk_frozen BK192.out 1; have hfz24_2 := blk_frozen BK192.out 2; have hfz24_3 := blk_frozen BK192.out 3; have hfz24_4 := blk_frozen BK192.out 4) | ((with_reducible refine gate_callee (f := 15) rfl ?_); refine goesL_ (some 22) rfl rfl Tryd.func15 (by kernel_rfl) rfl #[.agg #[.float .f32 t193, .float .f32 t194, .float .f32 t195, .float .f32 t196, .float .f32 t197], .agg #[.float .f32 t186, .float .f32 t187, .float .f32 t188, .float .f32 t189, .float .f32 t190]] rfl (by (try simp only [List.map_toArray, List.map_cons, List.map_nil]); first | done | rfl | (simp only [List.length_drop, List.length_take]; rfl)) ?_; (with_reducible refine (laws_eqThroat.calls t193 t194 t195 t196 t197 t186 t187 t188 t189 t190 true _ A5.out).mono ?_); rintro e w25 ⟨rfl, hb⟩; refine ⟨_, rfl, ?_⟩; have n0_ := Aside0.mk (blk_below (g := gb192) (o := .cells #[.float .f32 t186, .float .f32 t187, .float .f32 t188, .float .f32 t189, .float .f32 t190] 32 (0, 0)) (by (with_reducible repeat (first | refine blk_drewN ?_ _ | refine blk_drew ?_ | refine blk_alloc ?_ _)); refine blk_far ?_ NB192_199.out _; (with_reducible repeat (first | refine blk_drewN ?_ _ | refine blk_drew ?_ | refine blk_alloc ?_ _)); refine blk_far ?_ NB192_199.out _; (with_reducible repeat (first | refine blk_drewN ?_ _ | refine blk_drew ?_ | refine blk_alloc ?_ _)); refine blk_far ?_ NB192_199.out _; (with_reducible repeat (first | refine blk_drewN ?_ _ | refine blk_drew ?_ | refine blk_alloc ?_ _)); refine blk_far ?_ NB192_199.out _; (with_reducible repeat (first | refine blk_drewN ?_ _ | refine blk_drew ?_ | refine blk_alloc ?_ _)); refine blk_far ?_ NB192_199.out _; (with_reducible repeat (first | refine blk_drewN ?_ _ | refine blk_drew ?_ | refine blk_alloc ?_ _)); exact BK192.out) hb); have n1_ := Aside0.mk (blk_below (g := gb199) (o := .cells #[.float .f32 t193, .float .f32 t194, .float .f32 t195, .float .f32 t196, .float .f32 t197] 32 (0, 0)) (by (with_reducible repeat (first | refine blk_drewN ?_ _ | refine blk_drew ?_ | refine blk_alloc ?_ _)); refine blk_put (cs := #[.float .f32 t193, .float .f32 t194, .float .f32 t195, .float .f32 t196, .float .f32 0]) ?_ 4 _ rfl; (with_reducible repeat (first | refine blk_drewN ?_ _ | refine blk_drew ?_ | refine blk_alloc ?_ _)); refine blk_put (cs := #[.float .f32 t193, .float .f32 t194, .float .f32 t195, .float .f32 0, .float .f32 0]) ?_ 3 _ rfl; (with_reducible repeat (first | refine blk_drewN ?_ _ | refine blk_drew ?_ | refine blk_alloc ?_ _)); refine blk_put (cs := #[.float .f32 t193, .float .f32 t194, .float .f32 0, .float .f32 0, .float .f32 0]) ?_ 2 _ rfl; (with_reducible repeat (first | refine blk_drewN ?_ _ | refine blk_drew ?_ | refine blk_alloc ?_ _)); refine blk_put (cs := #[.float .f32 t193, .float .f32 0, .float .f32 0, .float .f32 0, .float .f32 0]) ?_ 1 _ rfl; (with_reducible repeat (first | refine blk_drewN ?_ _ | refine blk_drew ?_ | refine blk_alloc ?_ _)); refine blk_put (cs := #[.float .f32 0, .float .f32 0, .float .f32 0, .float .f32 0, .float .f32 0]) ?_ 0 _ rfl; (with_reducible repeat (first | refine blk_drewN ?_ _ | refine blk_drew ?_ | refine blk_alloc ?_ _)); exact BK199.out) hb); have n2_ := Aside0.mk (below_step (by repeat (first | (with_reducible first | exact HB.out | apply below_alloc | apply pw_below_drewN | apply below_drew1 | refine below_set ?_ GE192.out | refine below_set ?_ GE199.out) | exact HB.out)) hb); clear BK192; clear BK199; clear HB; have BK192 := n0_; have BK199 := n1_; have HB := n2_; clear n0_ n1_ n2_; (try clear hb); (try clear hb2); (try clear hk); (try clear hi)))
    go_ret
    exact ⟨by first | rfl | (simp [errW_none, errW_some] <;> rfl) | (simp [*, errW_none, errW_some] <;> rfl), by repeat (first | (with_reducible first | exact HB.out | apply below_alloc | apply pw_below_drewN | apply below_drew1 | refine below_set ?_ GE192.out | refine below_set ?_ GE199.out) | exact HB.out)⟩
  ·replace c6 := Bool.eq_false_iff.mpr c6
   subst c6
   have H1 : (some false) = some r := by rw [if_neg (show ¬ (false = true) by decide)] at H; exact H
   clear H
   have H := H1
   clear H1
   obtain rfl := Option.some.inj H
   go_enter Tryd.func4, Tryd.ntmps4
   go_wp2_with (first | ((with_reducible refine gate_callee (f := 13) rfl ?_); refine goesL_ (some 12) rfl rfl Tryd.func13 (by kernel_rfl) rfl #[.string a0] rfl (by (try simp only [List.map_toArray, List.map_cons, List.map_nil]); first | done | rfl | (simp only [List.length_drop, List.length_take]; rfl)) ?_; (with_reducible refine (spec_ReadThroat.calls k a0 t186 t187 t188 t189 t190 t191 _ A3.out).mono ?_); rintro e w26 ⟨rfl, hb⟩; refine ⟨_, rfl, ?_⟩; have n0_ := Aside0.mk (below_step (by repeat (first | (with_reducible first | exact HB.out | apply below_alloc | apply pw_below_drewN | apply below_drew1) | exact HB.out)) hb); clear HB; have HB := n0_; clear n0_; (try clear hb); (try clear hb2); (try clear hk); (try clear hi)) | ((with_reducible refine gate_dst (N := 3) rfl ?_); refine box_event ?hg (N := 3) ?hd (cs := #[.float .f32 0, .float .f32 0, .float .f32 0, .float .f32 0, .float .f32 0]) (t := 32) ?hr ?_; (case hd => rfl); (case hg => rfl); (case hr => first | (go_simp; done) | (go_simp; rfl) | (simp (disch := omega) only [w64_id]; go_simp; done) | (go_simp; simp (disch := omega) only [w64_id]; done)); intro gb192 hg w27 hbox hb; have n0_ := Aside0.mk (below_step (by repeat (first | (with_reducible first | exact HB.out | apply below_alloc | apply pw_below_drewN | apply below_drew1) | exact HB.out)) hb); have n1_ := Aside0.mk (hbox); have n2_ := Aside0.mk ((by rw [hg]; exact (below_size (by repeat (first | (with_reducible first | exact HB.out | apply below_alloc | apply pw_below_drewN | apply below_drew1) | exact HB.out))) : w.heap.size ≤ gb192)); have n3_ := Aside0.mk ((by rw [hg]; exact (below_size (by repeat (first | (with_reducible first | exact HB.out | apply below_alloc | apply pw_below_drewN | apply below_drew1) | exact HB.out))) : w.heap.size ≤ gb192)); clear HB; have HB := n0_; have BK192 := n1_; have GW192 := n2_; have GE192 := n3_; clear n0_ n1_ n2_ n3_; clear hb hbox hg; have hcz28_0 : w27.cell? ⟨gb192, 0, none⟩ = some (.float .f32 0) := (blk_cell BK192.out 0).trans rfl; have hcz28_1 : w27.cell? ⟨gb192, 1, none⟩ = some (.float .f32 0) := (blk_cell BK192.out 1).trans rfl; have hcz28_2 : w27.cell? ⟨gb192, 2, none⟩ = some (.float .f32 0) := (blk_cell BK192.out 2).trans rfl; have hcz28_3 : w27.cell? ⟨gb192, 3, none⟩ = some (.float .f32 0) := (blk_cell BK192.out 3).trans rfl; have hcz28_4 : w27.cell? ⟨gb192, 4, none⟩ = some (.float .f32 0) := (blk_cell BK192.out 4).trans rfl; have hfz28_0 := blk_frozen BK192.out 0; have hfz28_1 := blk_frozen BK192.out 1; have hfz28_2 := blk_frozen BK192.out 2; have hfz28_3 := blk_frozen BK192.out 3; have hfz28_4 := blk_frozen BK192.out 4) | ((with_reducible refine gate_callee (f := 14) rfl ?_); refine goesL_ (some 17) rfl rfl Tryd.func14 (by kernel_rfl) rfl #[.string a0] rfl (by (try simp only [List.map_toArray, List.map_cons, List.map_nil]); first | done | rfl | (simp only [List.length_drop, List.length_take]; rfl)) ?_; (with_reducible refine (impl_ReadThroat.calls k a0 t193 t194 t195 t196 t197 t198 _ ?side1 A4.out).mono ?_); (case side1 => exact GLt_below HGT_.out (by repeat (first | (with_reducible first | exact HB.out | apply below_alloc | apply pw_below_drewN | apply below_drew1 | refine below_set ?_ GE192.out) | exact HB.out))); rintro e w29 ⟨rfl, hb⟩; refine ⟨_, rfl, ?_⟩; have n0_ := Aside0.mk (blk_below (g := gb192) (o := .cells #[.float .f32 t186, .float .f32 t187, .float .f32 t188, .float .f32 t189, .float .f32 t190] 32 (0, 0)) (by (with_reducible repeat (first | refine blk_drewN ?_ _ | refine blk_drew ?_ | refine blk_alloc ?_ _)); refine blk_put (cs := #[.float .f32 t186, .float .f32 t187, .float .f32 t188, .float .f32 t189, .float .f32 0]) ?_ 4 _ rfl; (with_reducible repeat (first | refine blk_drewN ?_ _ | refine blk_drew ?_ | refine blk_alloc ?_ _)); refine blk_put (cs := #[.float .f32 t186, .float .f32 t187, .float .f32 t188, .float .f32 0, .float .f32 0]) ?_ 3 _ rfl; (with_reducible repeat (first | refine blk_drewN ?_ _ | refine blk_drew ?_ | refine blk_alloc ?_ _)); refine blk_put (cs := #[.float .f32 t186, .float .f32 t187, .float .f32 0, .float .f32 0, .float .f32 0]) ?_ 2 _ rfl; (with_reducible repeat (first | refine blk_drewN ?_ _ | refine blk_drew ?_ | refine blk_alloc ?_ _)); refine blk_put (cs := #[.float .f32 t186, .float .f32 0, .float .f32 0, .float .f32 0, .float .f32 0]) ?_ 1 _ rfl; (with_reducible repeat (first | refine blk_drewN ?_ _ | refine blk_drew ?_ | refine blk_alloc ?_ _)); refine blk_put (cs := #[.float .f32 0, .float .f32 0, .float .f32 0, .float .f32 0, .float .f32 0]) ?_ 0 _ rfl; (with_reducible repeat (first | refine blk_drewN ?_ _ | refine blk_drew ?_ | refine blk_alloc ?_ _)); exact BK192.out) hb); have n1_ := Aside0.mk (below_step (by repeat (first | (with_reducible first | exact HB.out | apply below_alloc | apply pw_below_drewN | apply below_drew1 | refine below_set ?_ GE192.out) | exact HB.out)) hb); clear BK192; clear HB; have BK192 := n0_; have HB := n1_; clear n0_ n1_; (try clear hb); (try clear hb2); (try clear hk); (try clear hi)) | ((with_reducible refine gate_dst (N := 5) rfl ?_); refine box_event ?hg (N := 5) ?hd (cs := #[.float .f32 0, .float .f32 0, .float .f32 0, .float .f32 0, .float .f32 0]) (t := 32) ?hr ?_; (case hd => rfl); (case hg => rfl); (case hr => first | (go_simp; done) | (go_simp; rfl) | (simp (disch := omega) only [w64_id]; go_simp; done) | (go_simp; simp (disch := omega) only [w64_id]; done)); intro gb199 hg w30 hbox hb; have n0_ := Aside0.mk (blk_below (g := gb192) (o := .cells #[.float .f32 t186, .float .f32 t187, .float .f32 t188, .float .f32 t189, .float .f32 t190] 32 (0, 0)) (by (with_reducible repeat (first | refine blk_drewN ?_ _ | refine blk_drew ?_ | refine blk_alloc ?_ _)); exact BK192.out) hb); have n1_ := Aside0.mk (below_step (by repeat (first | (with_reducible first | exact HB.out | apply below_alloc | apply pw_below_drewN | apply below_drew1 | refine below_set ?_ GE192.out) | exact HB.out)) hb); have n2_ := Aside0.mk (hbox); have n3_ := Aside0.mk ((by rw [hg]; exact (below_size (by repeat (first | (with_reducible first | exact HB.out | apply below_alloc | apply pw_below_drewN | apply below_drew1 | refine below_set ?_ GE192.out) | exact HB.out))) : w.heap.size ≤ gb199)); have n4_ := Aside0.mk ((by rw [hg]; exact (below_size (by repeat (first | (with_reducible first | exact HB.out | apply below_alloc | apply pw_below_drewN | apply below_drew1 | refine below_set ?_ GE192.out) | exact HB.out))) : w.heap.size ≤ gb199)); have n5_ := Aside0.mk ((by rw [hg]; exact Nat.ne_of_lt (blk_lt (g := gb192) (o := .cells #[.float .f32 t186, .float .f32 t187, .float .f32 t188, .float .f32 t189, .float .f32 t190] 32 (0, 0)) (by (with_reducible repeat (first | refine blk_drewN ?_ _ | refine blk_drew ?_ | refine blk_alloc ?_ _)); exact BK192.out)) : gb192 ≠ gb199)); have n6_ := Aside0.mk ((by rw [hg]; exact Nat.ne_of_gt (blk_lt (g := gb192) (o := .cells #[.float .f32 t186, .float .f32 t187, .float .f32 t188, .float .f32 t189, .float .f32 t190] 32 (0, 0)) (by (with_reducible repeat (first | refine blk_drewN ?_ _ | refine blk_drew ?_ | refine blk_alloc ?_ _)); exact BK192.out)) : gb199 ≠ gb192)); clear BK192; clear HB; have BK192 := n0_; have HB := n1_; have BK199 := n2_; have GW199 := n3_; have GE199 := n4_; have NB192_199 := n5_; have NB199_192 := n6_; clear n0_ n1_ n2_ n3_ n4_ n5_ n6_; clear hb hbox hg; have hnb31 := NB199_192.out; have hnc31 := NB192_199.out; have hcz32_0 : w30.cell? ⟨gb199, 0, none⟩ = some (.float .f32 0) := (blk_cell BK199.out 0).trans rfl; have hcz32_1 : w30.cell? ⟨gb199, 1, none⟩ = some (.float .f32 0) := (blk_cell BK199.out 1).trans rfl; have hcz32_2 : w30.cell? ⟨gb199, 2, none⟩ = some (.float .f32 0) := (blk_cell BK199.out 2).trans rfl; have hcz32_3 : w30.cell? ⟨gb199, 3, none⟩ = some (.float .f32 0) := (blk_cell BK199.out 3).trans rfl; have hcz32_4 : w30.cell? ⟨gb199, 4, none⟩ = some (.float .f32 0) := (blk_cell BK199.out 4).trans rfl; have hfz32_0 := blk_frozen BK199.out 0; have hfz32_1 := blk_frozen BK199.out 1; have hfz32_2 := blk_frozen BK199.out 2; have hfz32_3 := blk_frozen BK199.out 3; have hfz32_4 := blk_frozen BK199.out 4; have hcz33_0 : w30.cell? ⟨gb192, 0, none⟩ = some (.float .f32 t186) := (blk_cell BK192.out 0).trans rfl; have hcz33_1 : w30.cell? ⟨gb192, 1, none⟩ = some (.float .f32 t187) := (blk_cell BK192.out 1).trans rfl; have hcz33_2 : w30.cell? ⟨gb192, 2, none⟩ = some (.float .f32 t188) := (blk_cell BK192.out 2).trans rfl; have hcz33_3 : w30.cell? ⟨gb192, 3, none⟩ = some (.float .f32 t189) := (blk_cell BK192.out 3).trans rfl; have hcz33_4 : w30.cell? ⟨gb192, 4, none⟩ = some (.float .f32 t190) := (blk_cell BK192.out 4).trans rfl; have hfz33_0 := blk_frozen BK192.out 0; have hfz33_1 := blk_frozen BK192.out 1; have hfz33_2 := blk_frozen BK192.out 2; have hfz33_3 := blk_frozen BK192.out 3; have hfz33_4 := blk_frozen BK192.out 4) | ((with_reducible refine gate_callee (f := 15) rfl ?_); refine goesL_ (some 22) rfl rfl Tryd.func15 (by kernel_rfl) rfl #[.agg #[.float .f32 t193, .float .f32 t194, .float .f32 t195, .float .f32 t196, .float .f32 t197], .agg #[.float .f32 t186, .float .f32 t187, .float .f32 t188, .float .f32 t189, .float .f32 t190]] rfl (by (try simp only [List.map_toArray, List.map_cons, List.map_nil]); first | done | rfl | (simp only [List.length_drop, List.length_take]; rfl)) ?_; (with_reducible refine (laws_eqThroat.calls t193 t194 t195 t196 t197 t186 t187 t188 t189 t190 false _ A5.out).mono ?_); rintro e w34 ⟨rfl, hb⟩; refine ⟨_, rfl, ?_⟩; have n0_ := Aside0.mk (blk_below (g := gb192) (o := .cells #[.float .f32 t186, .float .f32 t187, .float .f32 t188, .float .f32 t189, .float .f32 t190] 32 (0, 0)) (by (with_reducible repeat (first | refine blk_drewN ?_ _ | refine blk_drew ?_ | refine blk_alloc ?_ _)); refine blk_far ?_ NB192_199.out _; (with_reducible repeat (first | refine blk_drewN ?_ _ | refine blk_drew ?_ | refine blk_alloc ?_ _)); refine blk_far ?_ NB192_199.out _; (with_reducible repeat (first | refine blk_drewN ?_ _ | refine blk_drew ?_ | refine blk_alloc ?_ _)); refine blk_far ?_ NB192_199.out _; (with_reducible repeat (first | refine blk_drewN ?_ _ | refine blk_drew ?_ | refine blk_alloc ?_ _)); refine blk_far ?_ NB192_199.out _; (with_reducible repeat (first | refine blk_drewN ?_ _ | refine blk_drew ?_ | refine blk_alloc ?_ _)); refine blk_far ?_ NB192_199.out _; (with_reducible repeat (first | refine blk_drewN ?_ _ | refine blk_drew ?_ | refine blk_alloc ?_ _)); exact BK192.out) hb); have n1_ := Aside0.mk (blk_below (g := gb199) (o := .cells #[.float .f32 t193, .float .f32 t194, .float .f32 t195, .float .f32 t196, .float .f32 t197] 32 (0, 0)) (by (with_reducible repeat (first | refine blk_drewN ?_ _ | refine blk_drew ?_ | refine blk_alloc ?_ _)); refine blk_put (cs := #[.float .f32 t193, .float .f32 t194, .float .f32 t195, .float .f32 t196, .float .f32 0]) ?_ 4 _ rfl; (with_reducible repeat (first | refine blk_drewN ?_ _ | refine blk_drew ?_ | refine blk_alloc ?_ _)); refine blk_put (cs := #[.float .f32 t193, .float .f32 t194, .float .f32 t195, .float .f32 0, .float .f32 0]) ?_ 3 _ rfl; (with_reducible repeat (first | refine blk_drewN ?_ _ | refine blk_drew ?_ | refine blk_alloc ?_ _)); refine blk_put (cs := #[.float .f32 t193, .float .f32 t194, .float .f32 0, .float .f32 0, .float .f32 0]) ?_ 2 _ rfl; (with_reducible repeat (first | refine blk_drewN ?_ _ | refine blk_drew ?_ | refine blk_alloc ?_ _)); refine blk_put (cs := #[.float .f32 t193, .float .f32 0, .float .f32 0, .float .f32 0, .float .f32 0]) ?_ 1 _ rfl; (with_reducible repeat (first | refine blk_drewN ?_ _ | refine blk_drew ?_ | refine blk_alloc ?_ _)); refine blk_put (cs := #[.float .f32 0, .float .f32 0, .float .f32 0, .float .f32 0, .float .f32 0]) ?_ 0 _ rfl; (with_reducible repeat (first | refine blk_drewN ?_ _ | refine blk_drew ?_ | refine blk_alloc ?_ _)); exact BK199.out) hb); have n2_ := Aside0.mk (below_step (by repeat (first | (with_reducible first | exact HB.out | apply below_alloc | apply pw_below_drewN | apply below_drew1 | refine below_set ?_ GE192.out | refine below_set ?_ GE199.out) | exact HB.out)) hb); clear BK192; clear BK199; clear HB; have BK192 := n0_; have BK199 := n1_; have HB := n2_; clear n0_ n1_ n2_; (try clear hb); (try clear hb2); (try clear hk); (try clear hi)))
   go_ret
   exact ⟨by first | rfl | (simp [errW_none, errW_some] <;> rfl) | (simp [*, errW_none, errW_some] <;> rfl), by repeat (first | (with_reducible first | exact HB.out | apply below_alloc | apply pw_below_drewN | apply below_drew1 | refine below_set ?_ GE192.out | refine below_set ?_ GE199.out) | exact HB.out)⟩

/-- THE ONE PURE STATEMENT of laws_FnExactReadThroat: yours. -/
def laws_FnExactReadThroat.Pure : Prop := ∀ (a0 : ByteArray), a0.size ≤ 140737488351232 → ∃ k, laws_FnExactReadThroat.f k a0 = some true
theorem laws_FnExactReadThroat.walk (P : laws_FnExactReadThroat.Pure) (a0 : ByteArray) (w : World) (w0 : a0.size ≤ 140737488351232) (hT_ : GLt w) :
  Calls Tryd.prog 4 #[.string a0] w fun e w' => e = .returned (.bool true) ∧ Below w.heap.size w w' := by
 obtain ⟨k, h⟩ := P a0 w0
 refine (laws_FnExactReadThroat.calls k a0 true w hT_ h).mono ?_
 rintro e w' ⟨rfl, hd⟩
 exact ⟨rfl, hd⟩

end Go.Proofs.YtdfpfiecpcgffaaDoor.PFnExactReadThroat
