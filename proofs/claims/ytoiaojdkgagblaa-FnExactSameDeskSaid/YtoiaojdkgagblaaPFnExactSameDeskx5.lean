import Derived.Test.YtoiaojdkgagblaaPFnExactSameDeskx0
import Derived.Test.YtoiaojdkgagblaaPFnExactSameDeskx3
import Derived.Test.YtoiaojdkgagblaaSs
namespace Go.Proofs.Ytoiaojdkgagblaa.PFnExactSameDesk
open Go.RowKit Go.Proofs.YtoiaojdkgagblaaW.PrintWords Go.Proofs.YtoiaojdkgagblaaW.PrintLast Go.Proofs.YtoiaojdkgagblaaW.PrintMore
open Go.Proofs.YtoiaojdkgagblaaW.PrintFl
attribute [local go_sem high] binOp_feq binOp_fne binOp_fls binOp_fle binOp_fgr binOp_fge binOp_sle binOp_sgt
attribute [local go_sem] run_fopr run_fconv run_fint run_stf run_stc ext_f32bits ext_f64bits ext_f32frombits
attribute [local go_sem] max2_int min2_int max_two min_two max_three min_three max_four min_four
set_option linter.unusedVariables false
set_option linter.unusedSimpArgs false
def spec_SameThroat.f (a0_0 : Nat) (a0_1 : Nat) (a0_2 : Nat) (a0_3 : Nat) (a0_4 : Nat) (a1_0 : Nat) (a1_1 : Nat) (a1_2 : Nat) (a1_3 : Nat) (a1_4 : Nat) : Option (Bool) := (spec_l01Same.f a0_0 a1_0).bind fun t149 => (if t149 = true then ((spec_l01Same.f a0_1 a1_1).bind fun t150 => (if t150 = true then ((spec_l01Same.f a0_2 a1_2).bind fun t151 => (if t151 = true then ((spec_l01Same.f a0_3 a1_3).bind fun t152 => (if t152 = true then ((spec_l01Same.f a0_4 a1_4).bind fun t153 => (some t153)) else (some false))) else (some false))) else (some false))) else (some false))
set_option maxHeartbeats 8000000 in
set_option maxRecDepth 100000 in
theorem spec_SameThroat.calls (a0_0 : Nat) (a0_1 : Nat) (a0_2 : Nat) (a0_3 : Nat) (a0_4 : Nat) (a1_0 : Nat) (a1_1 : Nat) (a1_2 : Nat) (a1_3 : Nat) (a1_4 : Nat) (r : Bool) (w : World) (h : spec_SameThroat.f a0_0 a0_1 a0_2 a0_3 a0_4 a1_0 a1_1 a1_2 a1_3 a1_4 = some r) :
  Calls Try.prog 122 #[.agg #[.float .f32 a0_0, .float .f32 a0_1, .float .f32 a0_2, .float .f32 a0_3, .float .f32 a0_4], .agg #[.float .f32 a1_0, .float .f32 a1_1, .float .f32 a1_2, .float .f32 a1_3, .float .f32 a1_4]] w fun e w' => e = .returned (.bool r) ∧ Below w.heap.size w w' := by
 have hu74 := Try.underlying74
 have hu36 := Try.underlying36
 have HB := Aside0.mk (Below.refl w.heap.size w)
 have H : ((spec_l01Same.f a0_0 a1_0).bind fun t149 => (if t149 = true then ((spec_l01Same.f a0_1 a1_1).bind fun t150 => (if t150 = true then ((spec_l01Same.f a0_2 a1_2).bind fun t151 => (if t151 = true then ((spec_l01Same.f a0_3 a1_3).bind fun t152 => (if t152 = true then ((spec_l01Same.f a0_4 a1_4).bind fun t153 => (some t153)) else (some false))) else (some false))) else (some false))) else (some false))) = some r := h
 clear h
 replace H := Option.bind_eq_some_iff.mp H
 obtain ⟨t149, A30, H⟩ := H
 replace H : (if t149 = true then ((spec_l01Same.f a0_1 a1_1).bind fun t150 => (if t150 = true then ((spec_l01Same.f a0_2 a1_2).bind fun t151 => (if t151 = true then ((spec_l01Same.f a0_3 a1_3).bind fun t152 => (if t152 = true then ((spec_l01Same.f a0_4 a1_4).bind fun t153 => (some t153)) else (some false))) else (some false))) else (some false))) else (some false)) = some r := H
 have A3 := Aside0.mk A30
 clear A30
 by_cases c4 : t149 = true
 ·subst c4
  have H1 : ((spec_l01Same.f a0_1 a1_1).bind fun t150 => (if t150 = true then ((spec_l01Same.f a0_2 a1_2).bind fun t151 => (if t151 = true then ((spec_l01Same.f a0_3 a1_3).bind fun t152 => (if t152 = true then ((spec_l01Same.f a0_4 a1_4).bind fun t153 => (some t153)) else (some false))) else (some false))) else (some false))) = some r := by rw [if_pos rfl] at H; exact H
  clear H
  have H := H1
  clear H1
  replace H := Option.bind_eq_some_iff.mp H
  obtain ⟨t150, A50, H⟩ := H
  replace H : (if t150 = true then ((spec_l01Same.f a0_2 a1_2).bind fun t151 => (if t151 = true then ((spec_l01Same.f a0_3 a1_3).bind fun t152 => (if t152 = true then ((spec_l01Same.f a0_4 a1_4).bind fun t153 => (some t153)) else (some false))) else (some false))) else (some false)) = some r := H
  have A5 := Aside0.mk A50
  clear A50
  by_cases c6 : t150 = true
  ·subst c6
   have H1 : ((spec_l01Same.f a0_2 a1_2).bind fun t151 => (if t151 = true then ((spec_l01Same.f a0_3 a1_3).bind fun t152 => (if t152 = true then ((spec_l01Same.f a0_4 a1_4).bind fun t153 => (some t153)) else (some false))) else (some false))) = some r := by rw [if_pos rfl] at H; exact H
   clear H
   have H := H1
   clear H1
   replace H := Option.bind_eq_some_iff.mp H
   obtain ⟨t151, A70, H⟩ := H
   replace H : (if t151 = true then ((spec_l01Same.f a0_3 a1_3).bind fun t152 => (if t152 = true then ((spec_l01Same.f a0_4 a1_4).bind fun t153 => (some t153)) else (some false))) else (some false)) = some r := H
   have A7 := Aside0.mk A70
   clear A70
   by_cases c8 : t151 = true
   ·subst c8
    have H1 : ((spec_l01Same.f a0_3 a1_3).bind fun t152 => (if t152 = true then ((spec_l01Same.f a0_4 a1_4).bind fun t153 => (some t153)) else (some false))) = some r := by rw [if_pos rfl] at H; exact H
    clear H
    have H := H1
    clear H1
    replace H := Option.bind_eq_some_iff.mp H
    obtain ⟨t152, A90, H⟩ := H
    replace H : (if t152 = true then ((spec_l01Same.f a0_4 a1_4).bind fun t153 => (some t153)) else (some false)) = some r := H
    have A9 := Aside0.mk A90
    clear A90
    by_cases c10 : t152 = true
    ·subst c10
     have H1 : ((spec_l01Same.f a0_4 a1_4).bind fun t153 => (some t153)) = some r := by rw [if_pos rfl] at H; exact H
     clear H
     have H := H1
     clear H1
     replace H := Option.bind_eq_some_iff.mp H
     obtain ⟨t153, A110, H⟩ := H
     replace H : (some t153) = some r := H
     have A11 := Aside0.mk A110
     clear A110
     obtain rfl := Option.some.inj H
     go_enter Try.func122, Try.ntmps122
     go_wp2_with (first | ((with_reducible refine gate_dst (N := 2) rfl ?_); refine box_event ?hg (N := 2) ?hd (cs := #[.float .f32 a0_0, .float .f32 a0_1, .float .f32 a0_2, .float .f32 a0_3, .float .f32 a0_4]) (t := 74) ?hr ?_; (case hd => rfl); (case hg => rfl); (case hr => first | (go_simp; done) | (go_simp; rfl) | (simp (disch := omega) only [w64_id]; go_simp; done) | (go_simp; simp (disch := omega) only [w64_id]; done)); intro gb147 hg w12 hbox hb; have n0_ := Aside0.mk (below_step (by repeat (first | (with_reducible first | exact HB.out | apply below_alloc | apply pw_below_drewN | apply below_drew1) | exact HB.out)) hb); have n1_ := Aside0.mk (hbox); have n2_ := Aside0.mk ((by rw [hg]; exact (below_size (by repeat (first | (with_reducible first | exact HB.out | apply below_alloc | apply pw_below_drewN | apply below_drew1) | exact HB.out))) : w.heap.size ≤ gb147)); have n3_ := Aside0.mk ((by rw [hg]; exact (below_size (by repeat (first | (with_reducible first | exact HB.out | apply below_alloc | apply pw_below_drewN | apply below_drew1) | exact HB.out))) : w.heap.size ≤ gb147)); clear HB; have HB := n0_; have BK147 := n1_; have GW147 := n2_; have GE147 := n3_; clear n0_ n1_ n2_ n3_; clear hb hbox hg) | ((with_reducible refine gate_dst (N := 3) rfl ?_); refine box_event ?hg (N := 3) ?hd (cs := #[.float .f32 a1_0, .float .f32 a1_1, .float .f32 a1_2, .float .f32 a1_3, .float .f32 a1_4]) (t := 74) ?hr ?_; (case hd => rfl); (case hg => rfl); (case hr => first | (go_simp; done) | (go_simp; rfl) | (simp (disch := omega) only [w64_id]; go_simp; done) | (go_simp; simp (disch := omega) only [w64_id]; done)); intro gb148 hg w13 hbox hb; have n0_ := Aside0.mk (blk_below (g := gb147) (o := .cells #[.float .f32 a0_0, .float .f32 a0_1, .float .f32 a0_2, .float .f32 a0_3, .float .f32 a0_4] 74 (0, 0)) (by (with_reducible repeat (first | refine blk_drewN ?_ _ | refine blk_drew ?_ | refine blk_alloc ?_ _)); exact BK147.out) hb); have n1_ := Aside0.mk (below_step (by repeat (first | (with_reducible first | exact HB.out | apply below_alloc | apply pw_below_drewN | apply below_drew1 | refine below_set ?_ GE147.out) | exact HB.out)) hb); have n2_ := Aside0.mk (hbox); have n3_ := Aside0.mk ((by rw [hg]; exact (below_size (by repeat (first | (with_reducible first | exact HB.out | apply below_alloc | apply pw_below_drewN | apply below_drew1 | refine below_set ?_ GE147.out) | exact HB.out))) : w.heap.size ≤ gb148)); have n4_ := Aside0.mk ((by rw [hg]; exact (below_size (by repeat (first | (with_reducible first | exact HB.out | apply below_alloc | apply pw_below_drewN | apply below_drew1 | refine below_set ?_ GE147.out) | exact HB.out))) : w.heap.size ≤ gb148)); have n5_ := Aside0.mk ((by rw [hg]; exact Nat.ne_of_lt (blk_lt (g := gb147) (o := .cells #[.float .f32 a0_0, .float .f32 a0_1, .float .f32 a0_2, .float .f32 a0_3, .float .f32 a0_4] 74 (0, 0)) (by (with_reducible repeat (first | refine blk_drewN ?_ _ | refine blk_drew ?_ | refine blk_alloc ?_ _)); exact BK147.out)) : gb147 ≠ gb148)); have n6_ := Aside0.mk ((by rw [hg]; exact Nat.ne_of_gt (blk_lt (g := gb147) (o := .cells #[.float .f32 a0_0, .float .f32 a0_1, .float .f32 a0_2, .float .f32 a0_3, .float .f32 a0_4] 74 (0, 0)) (by (with_reducible repeat (first | refine blk_drewN ?_ _ | refine blk_drew ?_ | refine blk_alloc ?_ _)); exact BK147.out)) : gb148 ≠ gb147)); clear BK147; clear HB; have BK147 := n0_; have HB := n1_; have BK148 := n2_; have GW148 := n3_; have GE148 := n4_; have NB147_148 := n5_; have NB148_147 := n6_; clear n0_ n1_ n2_ n3_ n4_ n5_ n6_; clear hb hbox hg; have hnb14 := NB147_148.out; have hnc14 := NB148_147.out; have hcz15_0 : w13.cell? ⟨gb147, 0, none⟩ = some (.float .f32 a0_0) := (blk_cell BK147.out 0).trans rfl; have hcz15_1 : w13.cell? ⟨gb147, 1, none⟩ = some (.float .f32 a0_1) := (blk_cell BK147.out 1).trans rfl; have hcz15_2 : w13.cell? ⟨gb147, 2, none⟩ = some (.float .f32 a0_2) := (blk_cell BK147.out 2).trans rfl; have hcz15_3 : w13.cell? ⟨gb147, 3, none⟩ = some (.float .f32 a0_3) := (blk_cell BK147.out 3).trans rfl; have hcz15_4 : w13.cell? ⟨gb147, 4, none⟩ = some (.float .f32 a0_4) := (blk_cell BK147.out 4).trans rfl; have hfz15_0 := blk_frozen BK147.out 0; have hfz15_1 := blk_frozen BK147.out 1; have hfz15_2 := blk_frozen BK147.out 2; have hfz15_3 := blk_frozen BK147.out 3; have hfz15_4 := blk_frozen BK147.out 4; have hcz16_0 : w13.cell? ⟨gb148, 0, none⟩ = some (.float .f32 a1_0) := (blk_cell BK148.out 0).trans rfl; have hcz16_1 : w13.cell? ⟨gb148, 1, none⟩ = some (.float .f32 a1_1) := (blk_cell BK148.out 1).trans rfl; have hcz16_2 : w13.cell? ⟨gb148, 2, none⟩ = some (.float .f32 a1_2) := (blk_cell BK148.out 2).trans rfl; have hcz16_3 : w13.cell? ⟨gb148, 3, none⟩ = some (.float .f32 a1_3) := (blk_cell BK148.out 3).trans rfl; have hcz16_4 : w13.cell? ⟨gb148, 4, none⟩ = some (.float .f32 a1_4) := (blk_cell BK148.out 4).trans rfl; have hfz16_0 := blk_frozen BK148.out 0; have hfz16_1 := blk_frozen BK148.out 1; have hfz16_2 := blk_frozen BK148.out 2; have hfz16_3 := blk_frozen BK148.out 3; have hfz16_4 := blk_frozen BK148.out 4) | ((with_reducible refine gate_callee (f := 163) rfl ?_); refine goesL_ (some 9) rfl rfl Try.func163 (by kernel_rfl) rfl #[.float .f32 a0_0, .float .f32 a1_0] rfl (by (try simp only [List.map_toArray, List.map_cons, List.map_nil]); first | done | rfl | (simp only [List.length_drop, List.length_take]; rfl)) ?_; (with_reducible refine (spec_l01Same.calls a0_0 a1_0 true _ A3.out).mono ?_); rintro e w' ⟨rfl, ⟨nd, rfl⟩⟩; refine ⟨_, rfl, ?_⟩) | (go_at_call 163; (with_reducible refine (spec_l01Same.calls a0_1 a1_1 true _ A5.out).mono ?_); rintro e w' ⟨rfl, ⟨nd, rfl⟩⟩) | (go_at_call 163; (with_reducible refine (spec_l01Same.calls a0_2 a1_2 true _ A7.out).mono ?_); rintro e w' ⟨rfl, ⟨nd, rfl⟩⟩) | (go_at_call 163; (with_reducible refine (spec_l01Same.calls a0_3 a1_3 true _ A9.out).mono ?_); rintro e w' ⟨rfl, ⟨nd, rfl⟩⟩) | (go_at_call 163; (with_reducible refine (spec_l01Same.calls a0_4 a1_4 t153 _ A11.out).mono ?_); rintro e w' ⟨rfl, ⟨nd, rfl⟩⟩))
     go_ret
     exact ⟨by first | rfl | (simp [errW_none, errW_some] <;> rfl) | (simp [*, errW_none, errW_some] <;> rfl), by repeat (first | (with_reducible first | exact HB.out | apply below_alloc | apply pw_below_drewN | apply below_drew1 | refine below_set ?_ GE147.out | refine below_set ?_ GE148.out) | exact HB.out)⟩
    ·replace c10 := Bool.eq_false_iff.mpr c10
     subst c10
     have H1 : (some false) = some r := by rw [if_neg (show ¬ (false = true) by decide)] at H; exact H
     clear H
     have H := H1
     clear H1
     obtain rfl := Option.some.inj H
     go_enter Try.func122, Try.ntmps122
     go_wp2_with (first | ((with_reducible refine gate_dst (N := 2) rfl ?_); refine box_event ?hg (N := 2) ?hd (cs := #[.float .f32 a0_0, .float .f32 a0_1, .float .f32 a0_2, .float .f32 a0_3, .float .f32 a0_4]) (t := 74) ?hr ?_; (case hd => rfl); (case hg => rfl); (case hr => first | (go_simp; done) | (go_simp; rfl) | (simp (disch := omega) only [w64_id]; go_simp; done) | (go_simp; simp (disch := omega) only [w64_id]; done)); intro gb147 hg w17 hbox hb; have n0_ := Aside0.mk (below_step (by repeat (first | (with_reducible first | exact HB.out | apply below_alloc | apply pw_below_drewN | apply below_drew1) | exact HB.out)) hb); have n1_ := Aside0.mk (hbox); have n2_ := Aside0.mk ((by rw [hg]; exact (below_size (by repeat (first | (with_reducible first | exact HB.out | apply below_alloc | apply pw_below_drewN | apply below_drew1) | exact HB.out))) : w.heap.size ≤ gb147)); have n3_ := Aside0.mk ((by rw [hg]; exact (below_size (by repeat (first | (with_reducible first | exact HB.out | apply below_alloc | apply pw_below_drewN | apply below_drew1) | exact HB.out))) : w.heap.size ≤ gb147)); clear HB; have HB := n0_; have BK147 := n1_; have GW147 := n2_; have GE147 := n3_; clear n0_ n1_ n2_ n3_; clear hb hbox hg) | ((with_reducible refine gate_dst (N := 3) rfl ?_); refine box_event ?hg (N := 3) ?hd (cs := #[.float .f32 a1_0, .float .f32 a1_1, .float .f32 a1_2, .float .f32 a1_3, .float .f32 a1_4]) (t := 74) ?hr ?_; (case hd => rfl); (case hg => rfl); (case hr => first | (go_simp; done) | (go_simp; rfl) | (simp (disch := omega) only [w64_id]; go_simp; done) | (go_simp; simp (disch := omega) only [w64_id]; done)); intro gb148 hg w18 hbox hb; have n0_ := Aside0.mk (blk_below (g := gb147) (o := .cells #[.float .f32 a0_0, .float .f32 a0_1, .float .f32 a0_2, .float .f32 a0_3, .float .f32 a0_4] 74 (0, 0)) (by (with_reducible repeat (first | refine blk_drewN ?_ _ | refine blk_drew ?_ | refine blk_alloc ?_ _)); exact BK147.out) hb); have n1_ := Aside0.mk (below_step (by repeat (first | (with_reducible first | exact HB.out | apply below_alloc | apply pw_below_drewN | apply below_drew1 | refine below_set ?_ GE147.out) | exact HB.out)) hb); have n2_ := Aside0.mk (hbox); have n3_ := Aside0.mk ((by rw [hg]; exact (below_size (by repeat (first | (with_reducible first | exact HB.out | apply below_alloc | apply pw_below_drewN | apply below_drew1 | refine below_set ?_ GE147.out) | exact HB.out))) : w.heap.size ≤ gb148)); have n4_ := Aside0.mk ((by rw [hg]; exact (below_size (by repeat (first | (with_reducible first | exact HB.out | apply below_alloc | apply pw_below_drewN | apply below_drew1 | refine below_set ?_ GE147.out) | exact HB.out))) : w.heap.size ≤ gb148)); have n5_ := Aside0.mk ((by rw [hg]; exact Nat.ne_of_lt (blk_lt (g := gb147) (o := .cells #[.float .f32 a0_0, .float .f32 a0_1, .float .f32 a0_2, .float .f32 a0_3, .float .f32 a0_4] 74 (0, 0)) (by (with_reducible repeat (first | refine blk_drewN ?_ _ | refine blk_drew ?_ | refine blk_alloc ?_ _)); exact BK147.out)) : gb147 ≠ gb148)); have n6_ := Aside0.mk ((by rw [hg]; exact Nat.ne_of_gt (blk_lt (g := gb147) (o := .cells #[.float .f32 a0_0, .float .f32 a0_1, .float .f32 a0_2, .float .f32 a0_3, .float .f32 a0_4] 74 (0, 0)) (by (with_reducible repeat (first | refine blk_drewN ?_ _ | refine blk_drew ?_ | refine blk_alloc ?_ _)); exact BK147.out)) : gb148 ≠ gb147)); clear BK147; clear HB; have BK147 := n0_; have HB := n1_; have BK148 := n2_; have GW148 := n3_; have GE148 := n4_; have NB147_148 := n5_; have NB148_147 := n6_; clear n0_ n1_ n2_ n3_ n4_ n5_ n6_; clear hb hbox hg; have hnb19 := NB147_148.out; have hnc19 := NB148_147.out; have hcz20_0 : w18.cell? ⟨gb147, 0, none⟩ = some (.float .f32 a0_0) := (blk_cell BK147.out 0).trans rfl; have hcz20_1 : w18.cell? ⟨gb147, 1, none⟩ = some (.float .f32 a0_1) := (blk_cell BK147.out 1).trans rfl; have hcz20_2 : w18.cell? ⟨gb147, 2, none⟩ = some (.float .f32 a0_2) := (blk_cell BK147.out 2).trans rfl; have hcz20_3 : w18.cell? ⟨gb147, 3, none⟩ = some (.float .f32 a0_3) := (blk_cell BK147.out 3).trans rfl; have hcz20_4 : w18.cell? ⟨gb147, 4, none⟩ = some (.float .f32 a0_4) := (blk_cell BK147.out 4).trans rfl; have hfz20_0 := blk_frozen BK147.out 0; have hfz20_1 := blk_frozen BK147.out 1; have hfz20_2 := blk_frozen BK147.out 2; have hfz20_3 := blk_frozen BK147.out 3; have hfz20_4 := blk_frozen BK147.out 4; have hcz21_0 : w18.cell? ⟨gb148, 0, none⟩ = some (.float .f32 a1_0) := (blk_cell BK148.out 0).trans rfl; have hcz21_1 : w18.cell? ⟨gb148, 1, none⟩ = some (.float .f32 a1_1) := (blk_cell BK148.out 1).trans rfl; have hcz21_2 : w18.cell? ⟨gb148, 2, none⟩ = some (.float .f32 a1_2) := (blk_cell BK148.out 2).trans rfl; have hcz21_3 : w18.cell? ⟨gb148, 3, none⟩ = some (.float .f32 a1_3) := (blk_cell BK148.out 3).trans rfl; have hcz21_4 : w18.cell? ⟨gb148, 4, none⟩ = some (.float .f32 a1_4) := (blk_cell BK148.out 4).trans rfl; have hfz21_0 := blk_frozen BK148.out 0; have hfz21_1 := blk_frozen BK148.out 1; have hfz21_2 := blk_frozen BK148.out 2; have hfz21_3 := blk_frozen BK148.out 3; have hfz21_4 := blk_frozen BK148.out 4) | ((with_reducible refine gate_callee (f := 163) rfl ?_); refine goesL_ (some 9) rfl rfl Try.func163 (by kernel_rfl) rfl #[.float .f32 a0_0, .float .f32 a1_0] rfl (by (try simp only [List.map_toArray, List.map_cons, List.map_nil]); first | done | rfl | (simp only [List.length_drop, List.length_take]; rfl)) ?_; (with_reducible refine (spec_l01Same.calls a0_0 a1_0 true _ A3.out).mono ?_); rintro e w' ⟨rfl, ⟨nd, rfl⟩⟩; refine ⟨_, rfl, ?_⟩) | (go_at_call 163; (with_reducible refine (spec_l01Same.calls a0_1 a1_1 true _ A5.out).mono ?_); rintro e w' ⟨rfl, ⟨nd, rfl⟩⟩) | (go_at_call 163; (with_reducible refine (spec_l01Same.calls a0_2 a1_2 true _ A7.out).mono ?_); rintro e w' ⟨rfl, ⟨nd, rfl⟩⟩) | (go_at_call 163; (with_reducible refine (spec_l01Same.calls a0_3 a1_3 false _ A9.out).mono ?_); rintro e w' ⟨rfl, ⟨nd, rfl⟩⟩))
     go_ret
     exact ⟨by first | rfl | (simp [errW_none, errW_some] <;> rfl) | (simp [*, errW_none, errW_some] <;> rfl), by repeat (first | (with_reducible first | exact HB.out | apply below_alloc | apply pw_below_drewN | apply below_drew1 | refine below_set ?_ GE147.out | refine below_set ?_ GE148.out) | exact HB.out)⟩
   ·replace c8 := Bool.eq_false_iff.mpr c8
    subst c8
    have H1 : (some false) = some r := by rw [if_neg (show ¬ (false = true) by decide)] at H; exact H
    clear H
    have H := H1
    clear H1
    obtain rfl := Option.some.inj H
    go_enter Try.func122, Try.ntmps122
    go_wp2_with (first | ((with_reducible refine gate_dst (N := 2) rfl ?_); refine box_event ?hg (N := 2) ?hd (cs := #[.float .f32 a0_0, .float .f32 a0_1, .float .f32 a0_2, .float .f32 a0_3, .float .f32 a0_4]) (t := 74) ?hr ?_; (case hd => rfl); (case hg => rfl); (case hr => first | (go_simp; done) | (go_simp; rfl) | (simp (disch := omega) only [w64_id]; go_simp; done) | (go_simp; simp (disch := omega) only [w64_id]; done)); intro gb147 hg w22 hbox hb; have n0_ := Aside0.mk (below_step (by repeat (first | (with_reducible first | exact HB.out | apply below_alloc | apply pw_below_drewN | apply below_drew1) | exact HB.out)) hb); have n1_ := Aside0.mk (hbox); have n2_ := Aside0.mk ((by rw [hg]; exact (below_size (by repeat (first | (with_reducible first | exact HB.out | apply below_alloc | apply pw_below_drewN | apply below_drew1) | exact HB.out))) : w.heap.size ≤ gb147)); have n3_ := Aside0.mk ((by rw [hg]; exact (below_size (by repeat (first | (with_reducible first | exact HB.out | apply below_alloc | apply pw_below_drewN | apply below_drew1) | exact HB.out))) : w.heap.size ≤ gb147)); clear HB; have HB := n0_; have BK147 := n1_; have GW147 := n2_; have GE147 := n3_; clear n0_ n1_ n2_ n3_; clear hb hbox hg) | ((with_reducible refine gate_dst (N := 3) rfl ?_); refine box_event ?hg (N := 3) ?hd (cs := #[.float .f32 a1_0, .float .f32 a1_1, .float .f32 a1_2, .float .f32 a1_3, .float .f32 a1_4]) (t := 74) ?hr ?_; (case hd => rfl); (case hg => rfl); (case hr => first | (go_simp; done) | (go_simp; rfl) | (simp (disch := omega) only [w64_id]; go_simp; done) | (go_simp; simp (disch := omega) only [w64_id]; done)); intro gb148 hg w23 hbox hb; have n0_ := Aside0.mk (blk_below (g := gb147) (o := .cells #[.float .f32 a0_0, .float .f32 a0_1, .float .f32 a0_2, .float .f32 a0_3, .float .f32 a0_4] 74 (0, 0)) (by (with_reducible repeat (first | refine blk_drewN ?_ _ | refine blk_drew ?_ | refine blk_alloc ?_ _)); exact BK147.out) hb); have n1_ := Aside0.mk (below_step (by repeat (first | (with_reducible first | exact HB.out | apply below_alloc | apply pw_below_drewN | apply below_drew1 | refine below_set ?_ GE147.out) | exact HB.out)) hb); have n2_ := Aside0.mk (hbox); have n3_ := Aside0.mk ((by rw [hg]; exact (below_size (by repeat (first | (with_reducible first | exact HB.out | apply below_alloc | apply pw_below_drewN | apply below_drew1 | refine below_set ?_ GE147.out) | exact HB.out))) : w.heap.size ≤ gb148)); have n4_ := Aside0.mk ((by rw [hg]; exact (below_size (by repeat (first | (with_reducible first | exact HB.out | apply below_alloc | apply pw_below_drewN | apply below_drew1 | refine below_set ?_ GE147.out) | exact HB.out))) : w.heap.size ≤ gb148)); have n5_ := Aside0.mk ((by rw [hg]; exact Nat.ne_of_lt (blk_lt (g := gb147) (o := .cells #[.float .f32 a0_0, .float .f32 a0_1, .float .f32 a0_2, .float .f32 a0_3, .float .f32 a0_4] 74 (0, 0)) (by (with_reducible repeat (first | refine blk_drewN ?_ _ | refine blk_drew ?_ | refine blk_alloc ?_ _)); exact BK147.out)) : gb147 ≠ gb148)); have n6_ := Aside0.mk ((by rw [hg]; exact Nat.ne_of_gt (blk_lt (g := gb147) (o := .cells #[.float .f32 a0_0, .float .f32 a0_1, .float .f32 a0_2, .float .f32 a0_3, .float .f32 a0_4] 74 (0, 0)) (by (with_reducible repeat (first | refine blk_drewN ?_ _ | refine blk_drew ?_ | refine blk_alloc ?_ _)); exact BK147.out)) : gb148 ≠ gb147)); clear BK147; clear HB; have BK147 := n0_; have HB := n1_; have BK148 := n2_; have GW148 := n3_; have GE148 := n4_; have NB147_148 := n5_; have NB148_147 := n6_; clear n0_ n1_ n2_ n3_ n4_ n5_ n6_; clear hb hbox hg; have hnb24 := NB147_148.out; have hnc24 := NB148_147.out; have hcz25_0 : w23.cell? ⟨gb147, 0, none⟩ = some (.float .f32 a0_0) := (blk_cell BK147.out 0).trans rfl; have hcz25_1 : w23.cell? ⟨gb147, 1, none⟩ = some (.float .f32 a0_1) := (blk_cell BK147.out 1).trans rfl; have hcz25_2 : w23.cell? ⟨gb147, 2, none⟩ = some (.float .f32 a0_2) := (blk_cell BK147.out 2).trans rfl; have hcz25_3 : w23.cell? ⟨gb147, 3, none⟩ = some (.float .f32 a0_3) := (blk_cell BK147.out 3).trans rfl; have hcz25_4 : w23.cell? ⟨gb147, 4, none⟩ = some (.float .f32 a0_4) := (blk_cell BK147.out 4).trans rfl; have hfz25_0 := blk_frozen BK147.out 0; have hfz25_1 := blk_frozen BK147.out 1; have hfz25_2 := blk_frozen BK147.out 2; have hfz25_3 := blk_frozen BK147.out 3; have hfz25_4 := blk_frozen BK147.out 4; have hcz26_0 : w23.cell? ⟨gb148, 0, none⟩ = some (.float .f32 a1_0) := (blk_cell BK148.out 0).trans rfl; have hcz26_1 : w23.cell? ⟨gb148, 1, none⟩ = some (.float .f32 a1_1) := (blk_cell BK148.out 1).trans rfl; have hcz26_2 : w23.cell? ⟨gb148, 2, none⟩ = some (.float .f32 a1_2) := (blk_cell BK148.out 2).trans rfl; have hcz26_3 : w23.cell? ⟨gb148, 3, none⟩ = some (.float .f32 a1_3) := (blk_cell BK148.out 3).trans rfl; have hcz26_4 : w23.cell? ⟨gb148, 4, none⟩ = some (.float .f32 a1_4) := (blk_cell BK148.out 4).trans rfl; have hfz26_0 := blk_frozen BK148.out 0; have hfz26_1 := blk_frozen BK148.out 1; have hfz26_2 := blk_frozen BK148.out 2; have hfz26_3 := blk_frozen BK148.out 3; have hfz26_4 := blk_frozen BK148.out 4) | ((with_reducible refine gate_callee (f := 163) rfl ?_); refine goesL_ (some 9) rfl rfl Try.func163 (by kernel_rfl) rfl #[.float .f32 a0_0, .float .f32 a1_0] rfl (by (try simp only [List.map_toArray, List.map_cons, List.map_nil]); first | done | rfl | (simp only [List.length_drop, List.length_take]; rfl)) ?_; (with_reducible refine (spec_l01Same.calls a0_0 a1_0 true _ A3.out).mono ?_); rintro e w' ⟨rfl, ⟨nd, rfl⟩⟩; refine ⟨_, rfl, ?_⟩) | (go_at_call 163; (with_reducible refine (spec_l01Same.calls a0_1 a1_1 true _ A5.out).mono ?_); rintro e w' ⟨rfl, ⟨nd, rfl⟩⟩) | (go_at_call 163; (with_reducible refine (spec_l01Same.calls a0_2 a1_2 false _ A7.out).mono ?_); rintro e w' ⟨rfl, ⟨nd, rfl⟩⟩))
    go_ret
    exact ⟨by first | rfl | (simp [errW_none, errW_some] <;> rfl) | (simp [*, errW_none, errW_some] <;> rfl), by repeat (first | (with_reducible first | exact HB.out | apply below_alloc | apply pw_below_drewN | apply below_drew1 | refine below_set ?_ GE147.out | refine below_set ?_ GE148.out) | exact HB.out)⟩
  ·replace c6 := Bool.eq_false_iff.mpr c6
   subst c6
   have H1 : (some false) = some r := by rw [if_neg (show ¬ (false = true) by decide)] at H; exact H
   clear H
   have H := H1
   clear H1
   obtain rfl := Option.some.inj H
   go_enter Try.func122, Try.ntmps122
   go_wp2_with (first | ((with_reducible refine gate_dst (N := 2) rfl ?_); refine box_event ?hg (N := 2) ?hd (cs := #[.float .f32 a0_0, .float .f32 a0_1, .float .f32 a0_2, .float .f32 a0_3, .float .f32 a0_4]) (t := 74) ?hr ?_; (case hd => rfl); (case hg => rfl); (case hr => first | (go_simp; done) | (go_simp; rfl) | (simp (disch := omega) only [w64_id]; go_simp; done) | (go_simp; simp (disch := omega) only [w64_id]; done)); intro gb147 hg w27 hbox hb; have n0_ := Aside0.mk (below_step (by repeat (first | (with_reducible first | exact HB.out | apply below_alloc | apply pw_below_drewN | apply below_drew1) | exact HB.out)) hb); have n1_ := Aside0.mk (hbox); have n2_ := Aside0.mk ((by rw [hg]; exact (below_size (by repeat (first | (with_reducible first | exact HB.out | apply below_alloc | apply pw_below_drewN | apply below_drew1) | exact HB.out))) : w.heap.size ≤ gb147)); have n3_ := Aside0.mk ((by rw [hg]; exact (below_size (by repeat (first | (with_reducible first | exact HB.out | apply below_alloc | apply pw_below_drewN | apply below_drew1) | exact HB.out))) : w.heap.size ≤ gb147)); clear HB; have HB := n0_; have BK147 := n1_; have GW147 := n2_; have GE147 := n3_; clear n0_ n1_ n2_ n3_; clear hb hbox hg) | ((with_reducible refine gate_dst (N := 3) rfl ?_); refine box_event ?hg (N := 3) ?hd (cs := #[.float .f32 a1_0, .float .f32 a1_1, .float .f32 a1_2, .float .f32 a1_3, .float .f32 a1_4]) (t := 74) ?hr ?_; (case hd => rfl); (case hg => rfl); (case hr => first | (go_simp; done) | (go_simp; rfl) | (simp (disch := omega) only [w64_id]; go_simp; done) | (go_simp; simp (disch := omega) only [w64_id]; done)); intro gb148 hg w28 hbox hb; have n0_ := Aside0.mk (blk_below (g := gb147) (o := .cells #[.float .f32 a0_0, .float .f32 a0_1, .float .f32 a0_2, .float .f32 a0_3, .float .f32 a0_4] 74 (0, 0)) (by (with_reducible repeat (first | refine blk_drewN ?_ _ | refine blk_drew ?_ | refine blk_alloc ?_ _)); exact BK147.out) hb); have n1_ := Aside0.mk (below_step (by repeat (first | (with_reducible first | exact HB.out | apply below_alloc | apply pw_below_drewN | apply below_drew1 | refine below_set ?_ GE147.out) | exact HB.out)) hb); have n2_ := Aside0.mk (hbox); have n3_ := Aside0.mk ((by rw [hg]; exact (below_size (by repeat (first | (with_reducible first | exact HB.out | apply below_alloc | apply pw_below_drewN | apply below_drew1 | refine below_set ?_ GE147.out) | exact HB.out))) : w.heap.size ≤ gb148)); have n4_ := Aside0.mk ((by rw [hg]; exact (below_size (by repeat (first | (with_reducible first | exact HB.out | apply below_alloc | apply pw_below_drewN | apply below_drew1 | refine below_set ?_ GE147.out) | exact HB.out))) : w.heap.size ≤ gb148)); have n5_ := Aside0.mk ((by rw [hg]; exact Nat.ne_of_lt (blk_lt (g := gb147) (o := .cells #[.float .f32 a0_0, .float .f32 a0_1, .float .f32 a0_2, .float .f32 a0_3, .float .f32 a0_4] 74 (0, 0)) (by (with_reducible repeat (first | refine blk_drewN ?_ _ | refine blk_drew ?_ | refine blk_alloc ?_ _)); exact BK147.out)) : gb147 ≠ gb148)); have n6_ := Aside0.mk ((by rw [hg]; exact Nat.ne_of_gt (blk_lt (g := gb147) (o := .cells #[.float .f32 a0_0, .float .f32 a0_1, .float .f32 a0_2, .float .f32 a0_3, .float .f32 a0_4] 74 (0, 0)) (by (with_reducible repeat (first | refine blk_drewN ?_ _ | refine blk_drew ?_ | refine blk_alloc ?_ _)); exact BK147.out)) : gb148 ≠ gb147)); clear BK147; clear HB; have BK147 := n0_; have HB := n1_; have BK148 := n2_; have GW148 := n3_; have GE148 := n4_; have NB147_148 := n5_; have NB148_147 := n6_; clear n0_ n1_ n2_ n3_ n4_ n5_ n6_; clear hb hbox hg; have hnb29 := NB147_148.out; have hnc29 := NB148_147.out; have hcz30_0 : w28.cell? ⟨gb147, 0, none⟩ = some (.float .f32 a0_0) := (blk_cell BK147.out 0).trans rfl; have hcz30_1 : w28.cell? ⟨gb147, 1, none⟩ = some (.float .f32 a0_1) := (blk_cell BK147.out 1).trans rfl; have hcz30_2 : w28.cell? ⟨gb147, 2, none⟩ = some (.float .f32 a0_2) := (blk_cell BK147.out 2).trans rfl; have hcz30_3 : w28.cell? ⟨gb147, 3, none⟩ = some (.float .f32 a0_3) := (blk_cell BK147.out 3).trans rfl; have hcz30_4 : w28.cell? ⟨gb147, 4, none⟩ = some (.float .f32 a0_4) := (blk_cell BK147.out 4).trans rfl; have hfz30_0 := blk_frozen BK147.out 0; have hfz30_1 := blk_frozen BK147.out 1; have hfz30_2 := blk_frozen BK147.out 2; have hfz30_3 := blk_frozen BK147.out 3; have hfz30_4 := blk_frozen BK147.out 4; have hcz31_0 : w28.cell? ⟨gb148, 0, none⟩ = some (.float .f32 a1_0) := (blk_cell BK148.out 0).trans rfl; have hcz31_1 : w28.cell? ⟨gb148, 1, none⟩ = some (.float .f32 a1_1) := (blk_cell BK148.out 1).trans rfl; have hcz31_2 : w28.cell? ⟨gb148, 2, none⟩ = some (.float .f32 a1_2) := (blk_cell BK148.out 2).trans rfl; have hcz31_3 : w28.cell? ⟨gb148, 3, none⟩ = some (.float .f32 a1_3) := (blk_cell BK148.out 3).trans rfl; have hcz31_4 : w28.cell? ⟨gb148, 4, none⟩ = some (.float .f32 a1_4) := (blk_cell BK148.out 4).trans rfl; have hfz31_0 := blk_frozen BK148.out 0; have hfz31_1 := blk_frozen BK148.out 1; have hfz31_2 := blk_frozen BK148.out 2; have hfz31_3 := blk_frozen BK148.out 3; have hfz31_4 := blk_frozen BK148.out 4) | ((with_reducible refine gate_callee (f := 163) rfl ?_); refine goesL_ (some 9) rfl rfl Try.func163 (by kernel_rfl) rfl #[.float .f32 a0_0, .float .f32 a1_0] rfl (by (try simp only [List.map_toArray, List.map_cons, List.map_nil]); first | done | rfl | (simp only [List.length_drop, List.length_take]; rfl)) ?_; (with_reducible refine (spec_l01Same.calls a0_0 a1_0 true _ A3.out).mono ?_); rintro e w' ⟨rfl, ⟨nd, rfl⟩⟩; refine ⟨_, rfl, ?_⟩) | (go_at_call 163; (with_reducible refine (spec_l01Same.calls a0_1 a1_1 false _ A5.out).mono ?_); rintro e w' ⟨rfl, ⟨nd, rfl⟩⟩))
   go_ret
   exact ⟨by first | rfl | (simp [errW_none, errW_some] <;> rfl) | (simp [*, errW_none, errW_some] <;> rfl), by repeat (first | (with_reducible first | exact HB.out | apply below_alloc | apply pw_below_drewN | apply below_drew1 | refine below_set ?_ GE147.out | refine below_set ?_ GE148.out) | exact HB.out)⟩
 ·replace c4 := Bool.eq_false_iff.mpr c4
  subst c4
  have H1 : (some false) = some r := by rw [if_neg (show ¬ (false = true) by decide)] at H; exact H
  clear H
  have H := H1
  clear H1
  obtain rfl := Option.some.inj H
  go_enter Try.func122, Try.ntmps122
  go_wp2_with (first | ((with_reducible refine gate_dst (N := 2) rfl ?_); refine box_event ?hg (N := 2) ?hd (cs := #[.float .f32 a0_0, .float .f32 a0_1, .float .f32 a0_2, .float .f32 a0_3, .float .f32 a0_4]) (t := 74) ?hr ?_; (case hd => rfl); (case hg => rfl); (case hr => first | (go_simp; done) | (go_simp; rfl) | (simp (disch := omega) only [w64_id]; go_simp; done) | (go_simp; simp (disch := omega) only [w64_id]; done)); intro gb147 hg w32 hbox hb; have n0_ := Aside0.mk (below_step (by repeat (first | (with_reducible first | exact HB.out | apply below_alloc | apply pw_below_drewN | apply below_drew1) | exact HB.out)) hb); have n1_ := Aside0.mk (hbox); have n2_ := Aside0.mk ((by rw [hg]; exact (below_size (by repeat (first | (with_reducible first | exact HB.out | apply below_alloc | apply pw_below_drewN | apply below_drew1) | exact HB.out))) : w.heap.size ≤ gb147)); have n3_ := Aside0.mk ((by rw [hg]; exact (below_size (by repeat (first | (with_reducible first | exact HB.out | apply below_alloc | apply pw_below_drewN | apply below_drew1) | exact HB.out))) : w.heap.size ≤ gb147)); clear HB; have HB := n0_; have BK147 := n1_; have GW147 := n2_; have GE147 := n3_; clear n0_ n1_ n2_ n3_; clear hb hbox hg) | ((with_reducible refine gate_dst (N := 3) rfl ?_); refine box_event ?hg (N := 3) ?hd (cs := #[.float .f32 a1_0, .float .f32 a1_1, .float .f32 a1_2, .float .f32 a1_3, .float .f32 a1_4]) (t := 74) ?hr ?_; (case hd => rfl); (case hg => rfl); (case hr => first | (go_simp; done) | (go_simp; rfl) | (simp (disch := omega) only [w64_id]; go_simp; done) | (go_simp; simp (disch := omega) only [w64_id]; done)); intro gb148 hg w33 hbox hb; have n0_ := Aside0.mk (blk_below (g := gb147) (o := .cells #[.float .f32 a0_0, .float .f32 a0_1, .float .f32 a0_2, .float .f32 a0_3, .float .f32 a0_4] 74 (0, 0)) (by (with_reducible repeat (first | refine blk_drewN ?_ _ | refine blk_drew ?_ | refine blk_alloc ?_ _)); exact BK147.out) hb); have n1_ := Aside0.mk (below_step (by repeat (first | (with_reducible first | exact HB.out | apply below_alloc | apply pw_below_drewN | apply below_drew1 | refine below_set ?_ GE147.out) | exact HB.out)) hb); have n2_ := Aside0.mk (hbox); have n3_ := Aside0.mk ((by rw [hg]; exact (below_size (by repeat (first | (with_reducible first | exact HB.out | apply below_alloc | apply pw_below_drewN | apply below_drew1 | refine below_set ?_ GE147.out) | exact HB.out))) : w.heap.size ≤ gb148)); have n4_ := Aside0.mk ((by rw [hg]; exact (below_size (by repeat (first | (with_reducible first | exact HB.out | apply below_alloc | apply pw_below_drewN | apply below_drew1 | refine below_set ?_ GE147.out) | exact HB.out))) : w.heap.size ≤ gb148)); have n5_ := Aside0.mk ((by rw [hg]; exact Nat.ne_of_lt (blk_lt (g := gb147) (o := .cells #[.float .f32 a0_0, .float .f32 a0_1, .float .f32 a0_2, .float .f32 a0_3, .float .f32 a0_4] 74 (0, 0)) (by (with_reducible repeat (first | refine blk_drewN ?_ _ | refine blk_drew ?_ | refine blk_alloc ?_ _)); exact BK147.out)) : gb147 ≠ gb148)); have n6_ := Aside0.mk ((by rw [hg]; exact Nat.ne_of_gt (blk_lt (g := gb147) (o := .cells #[.float .f32 a0_0, .float .f32 a0_1, .float .f32 a0_2, .float .f32 a0_3, .float .f32 a0_4] 74 (0, 0)) (by (with_reducible repeat (first | refine blk_drewN ?_ _ | refine blk_drew ?_ | refine blk_alloc ?_ _)); exact BK147.out)) : gb148 ≠ gb147)); clear BK147; clear HB; have BK147 := n0_; have HB := n1_; have BK148 := n2_; have GW148 := n3_; have GE148 := n4_; have NB147_148 := n5_; have NB148_147 := n6_; clear n0_ n1_ n2_ n3_ n4_ n5_ n6_; clear hb hbox hg; have hnb34 := NB147_148.out; have hnc34 := NB148_147.out; have hcz35_0 : w33.cell? ⟨gb147, 0, none⟩ = some (.float .f32 a0_0) := (blk_cell BK147.out 0).trans rfl; have hcz35_1 : w33.cell? ⟨gb147, 1, none⟩ = some (.float .f32 a0_1) := (blk_cell BK147.out 1).trans rfl; have hcz35_2 : w33.cell? ⟨gb147, 2, none⟩ = some (.float .f32 a0_2) := (blk_cell BK147.out 2).trans rfl; have hcz35_3 : w33.cell? ⟨gb147, 3, none⟩ = some (.float .f32 a0_3) := (blk_cell BK147.out 3).trans rfl; have hcz35_4 : w33.cell? ⟨gb147, 4, none⟩ = some (.float .f32 a0_4) := (blk_cell BK147.out 4).trans rfl; have hfz35_0 := blk_frozen BK147.out 0; have hfz35_1 := blk_frozen BK147.out 1; have hfz35_2 := blk_frozen BK147.out 2; have hfz35_3 := blk_frozen BK147.out 3; have hfz35_4 := blk_frozen BK147.out 4; have hcz36_0 : w33.cell? ⟨gb148, 0, none⟩ = some (.float .f32 a1_0) := (blk_cell BK148.out 0).trans rfl; have hcz36_1 : w33.cell? ⟨gb148, 1, none⟩ = some (.float .f32 a1_1) := (blk_cell BK148.out 1).trans rfl; have hcz36_2 : w33.cell? ⟨gb148, 2, none⟩ = some (.float .f32 a1_2) := (blk_cell BK148.out 2).trans rfl; have hcz36_3 : w33.cell? ⟨gb148, 3, none⟩ = some (.float .f32 a1_3) := (blk_cell BK148.out 3).trans rfl; have hcz36_4 : w33.cell? ⟨gb148, 4, none⟩ = some (.float .f32 a1_4) := (blk_cell BK148.out 4).trans rfl; have hfz36_0 := blk_frozen BK148.out 0; have hfz36_1 := blk_frozen BK148.out 1; have hfz36_2 := blk_frozen BK148.out 2; have hfz36_3 := blk_frozen BK148.out 3; have hfz36_4 := blk_frozen BK148.out 4) | ((with_reducible refine gate_callee (f := 163) rfl ?_); refine goesL_ (some 9) rfl rfl Try.func163 (by kernel_rfl) rfl #[.float .f32 a0_0, .float .f32 a1_0] rfl (by (try simp only [List.map_toArray, List.map_cons, List.map_nil]); first | done | rfl | (simp only [List.length_drop, List.length_take]; rfl)) ?_; (with_reducible refine (spec_l01Same.calls a0_0 a1_0 false _ A3.out).mono ?_); rintro e w' ⟨rfl, ⟨nd, rfl⟩⟩; refine ⟨_, rfl, ?_⟩))
  go_ret
  exact ⟨by first | rfl | (simp [errW_none, errW_some] <;> rfl) | (simp [*, errW_none, errW_some] <;> rfl), by repeat (first | (with_reducible first | exact HB.out | apply below_alloc | apply pw_below_drewN | apply below_drew1 | refine below_set ?_ GE147.out | refine below_set ?_ GE148.out) | exact HB.out)⟩
def spec_l04Same.f (k : Nat) (l0 : List (S76)) (l1 : List (S76)) : Option (Bool) := if 0 < (l0.length : Int) then (if 0 < (l1.length : Int) then ((spec_l01SameAll.f k ((rd_T76 l0 0).f0) ((rd_T76 l1 0).f0)).bind fun t158 => (if t158 = true then ((spec_l01Same.f ((rd_T76 l0 0).f1) ((rd_T76 l1 0).f1)).bind fun t163 => (some t163)) else (some false))) else (none)) else (none)
theorem spec_l04Same.mono : ∀ a0 a1 k, LeO (spec_l04Same.f k a0 a1) (spec_l04Same.f (k + 1) a0 a1) := by
 intro a0 a1 k
 unfold spec_l04Same.f
 repeat' first
   | (with_reducible exact spec_l01SameAll.mono _ _ _)
   | (with_reducible exact LeO.refl _)
   | (with_reducible exact LeO.none _)
   | (with_reducible refine LeO.ite ?_ ?_)
   | (with_reducible refine LeO.bind ?_ (fun _ => ?_))
   | exact spec_l01SameAll.mono _ _ _
   | exact LeO.none _
   | refine LeO.ite ?_ ?_
   | refine LeO.bind ?_ (fun _ => ?_)
set_option maxHeartbeats 8000000 in
set_option maxRecDepth 100000 in
theorem spec_l04Same.calls (k : Nat) (A0 : Option Addr) (l0 : List (S76)) (A1 : Option Addr) (l1 : List (S76)) (r : Bool) (w : World) (hr0 : Kd.C k76 w A0 l0.length l0) (hr1 : Kd.C k76 w A1 l1.length l1) (h : spec_l04Same.f k l0 l1 = some r) :
  Calls Try.prog 123 #[.pointer A0, .pointer A1] w fun e w' => e = .returned (.bool r) ∧ Drawn0 w w' := by
 have hu26 := Try.underlying26
 have hu36 := Try.underlying36
 have HR0 := Aside0.mk hr0
 clear hr0
 have HR1 := Aside0.mk hr1
 clear hr1
 have H : (if 0 < (l0.length : Int) then (if 0 < (l1.length : Int) then ((spec_l01SameAll.f k ((rd_T76 l0 0).f0) ((rd_T76 l1 0).f0)).bind fun t158 => (if t158 = true then ((spec_l01Same.f ((rd_T76 l0 0).f1) ((rd_T76 l1 0).f1)).bind fun t163 => (some t163)) else (some false))) else (none)) else (none)) = some r := h
 clear h
 by_cases c3 : 0 < (l0.length : Int)
 ·rw [if_pos c3] at H
  have c3b0 : decide (0 < (l0.length : Int)) = true := decide_eq_true c3
  have c3b1 : decide (0 < l0.length) = true := decide_eq_true (by omega)
  clear c3
  by_cases c4 : 0 < (l1.length : Int)
  ·rw [if_pos c4] at H
   have c4b0 : decide (0 < (l1.length : Int)) = true := decide_eq_true c4
   have c4b1 : decide (0 < l1.length) = true := decide_eq_true (by omega)
   clear c4
   replace H := Option.bind_eq_some_iff.mp H
   obtain ⟨t158, A50, H⟩ := H
   replace H : (if t158 = true then ((spec_l01Same.f ((rd_T76 l0 0).f1) ((rd_T76 l1 0).f1)).bind fun t163 => (some t163)) else (some false)) = some r := H
   have A5 := Aside0.mk A50
   clear A50
   by_cases c6 : t158 = true
   ·subst c6
    have H1 : ((spec_l01Same.f ((rd_T76 l0 0).f1) ((rd_T76 l1 0).f1)).bind fun t163 => (some t163)) = some r := by rw [if_pos rfl] at H; exact H
    clear H
    have H := H1
    clear H1
    replace H := Option.bind_eq_some_iff.mp H
    obtain ⟨t163, A70, H⟩ := H
    replace H : (some t163) = some r := H
    have A7 := Aside0.mk A70
    clear A70
    obtain rfl := Option.some.inj H
    have p154 : 0 ≤ (0 : Int) := (by omega)
    have q154 : 0 < (l0.length : Int) := of_decide_eq_true (by first | (with_reducible assumption) | assumption)
    obtain ⟨ad154, A154_0, c154_0, e154, hx154_0, hx154_1, hl154_0, hi154_0⟩ := at_T76 HR0.out 0 p154 q154
    cases e154
    have qi154 : (0 < l0.length) = True := eq_true (by omega)
    (try rw [show ((0 : Int)).toNat = 0 from rfl] at hx154_0)
    (try rw [show 0 * 2 = 0 from rfl] at hx154_0)
    (try rw [Addr.add_zero'] at hx154_0)
    (try rw [show ((0 : Int)).toNat = 0 from rfl] at hx154_1)
    (try rw [show 0 * 2 = 0 from rfl] at hx154_1)
    (try rw [Addr.add_zero'] at hx154_1)
    have HR154_0 := Aside0.mk hi154_0
    have HC154_0 := Aside0.mk hl154_0
    clear hi154_0 hl154_0
    replace p154 := eq_true p154
    replace q154 := eq_true q154
    have p155 : 0 ≤ (0 : Int) := (by omega)
    have q155 : 0 < (l0.length : Int) := of_decide_eq_true (by first | (with_reducible assumption) | assumption)
    obtain ⟨ad155, A155_0, c155_0, e155, hx155_0, hx155_1, hl155_0, hi155_0⟩ := at_T76 HR0.out 0 p155 q155
    obtain rfl : ad154 = ad155 := (by injection e155)
    have qi155 : (0 < l0.length) = True := eq_true (by omega)
    (try rw [show ((0 : Int)).toNat = 0 from rfl] at hx155_0)
    (try rw [show 0 * 2 = 0 from rfl] at hx155_0)
    (try rw [Addr.add_zero'] at hx155_0)
    (try rw [show ((0 : Int)).toNat = 0 from rfl] at hx155_1)
    (try rw [show 0 * 2 = 0 from rfl] at hx155_1)
    (try rw [Addr.add_zero'] at hx155_1)
    have HR155_0 := Aside0.mk hi155_0
    have HC155_0 := Aside0.mk hl155_0
    clear hi155_0 hl155_0
    replace p155 := eq_true p155
    replace q155 := eq_true q155
    have ea_ := Option.some.inj (hx154_0.symm.trans hx155_0)
    injection ea_ with ea_ en_ ec_
    subst ea_
    subst ec_
    clear en_
    have p156 : 0 ≤ (0 : Int) := (by omega)
    have q156 : 0 < (l1.length : Int) := of_decide_eq_true (by first | (with_reducible assumption) | assumption)
    obtain ⟨ad156, A156_0, c156_0, e156, hx156_0, hx156_1, hl156_0, hi156_0⟩ := at_T76 HR1.out 0 p156 q156
    cases e156
    have qi156 : (0 < l1.length) = True := eq_true (by omega)
    (try rw [show ((0 : Int)).toNat = 0 from rfl] at hx156_0)
    (try rw [show 0 * 2 = 0 from rfl] at hx156_0)
    (try rw [Addr.add_zero'] at hx156_0)
    (try rw [show ((0 : Int)).toNat = 0 from rfl] at hx156_1)
    (try rw [show 0 * 2 = 0 from rfl] at hx156_1)
    (try rw [Addr.add_zero'] at hx156_1)
    have HR156_0 := Aside0.mk hi156_0
    have HC156_0 := Aside0.mk hl156_0
    clear hi156_0 hl156_0
    replace p156 := eq_true p156
    replace q156 := eq_true q156
    have p157 : 0 ≤ (0 : Int) := (by omega)
    have q157 : 0 < (l1.length : Int) := of_decide_eq_true (by first | (with_reducible assumption) | assumption)
    obtain ⟨ad157, A157_0, c157_0, e157, hx157_0, hx157_1, hl157_0, hi157_0⟩ := at_T76 HR1.out 0 p157 q157
    obtain rfl : ad156 = ad157 := (by injection e157)
    have qi157 : (0 < l1.length) = True := eq_true (by omega)
    (try rw [show ((0 : Int)).toNat = 0 from rfl] at hx157_0)
    (try rw [show 0 * 2 = 0 from rfl] at hx157_0)
    (try rw [Addr.add_zero'] at hx157_0)
    (try rw [show ((0 : Int)).toNat = 0 from rfl] at hx157_1)
    (try rw [show 0 * 2 = 0 from rfl] at hx157_1)
    (try rw [Addr.add_zero'] at hx157_1)
    have HR157_0 := Aside0.mk hi157_0
    have HC157_0 := Aside0.mk hl157_0
    clear hi157_0 hl157_0
    replace p157 := eq_true p157
    replace q157 := eq_true q157
    have ea_ := Option.some.inj (hx156_0.symm.trans hx157_0)
    injection ea_ with ea_ en_ ec_
    subst ea_
    subst ec_
    clear en_
    go_enter Try.func123, Try.ntmps123
    go_wp2_with (first | (go_at_call 176; (with_reducible refine (spec_l01SameAll.calls k _ _ ((rd_T76 l0 0).f0) _ _ ((rd_T76 l1 0).f0) true _ ?side1 ?side2 ?side3 ?side4 A5.out).mono ?_); (case side1 => repeat (first | exact HR155_0.out | (with_reducible refine Kd.C_alloc ?_ _) | (with_reducible refine Kd.C_drewN ?_ _) | (with_reducible refine Kd.C_drew ?_))); (case side2 => exact HC155_0.out); (case side3 => repeat (first | exact HR157_0.out | (with_reducible refine Kd.C_alloc ?_ _) | (with_reducible refine Kd.C_drewN ?_ _) | (with_reducible refine Kd.C_drew ?_))); (case side4 => exact HC157_0.out); rintro e w' ⟨rfl, ⟨nd, rfl⟩⟩; (try first | exact ⟨rfl, _, World.drewN_drewN _ _ _⟩ | exact ⟨rfl, _, Eq.trans (World.drewN_drewN _ _ _) (congrArg (World.drewN _) (Nat.add_assoc _ _ _))⟩); have p159 : 0 ≤ (0 : Int) := (by omega); have q159 : 0 < (l0.length : Int) := of_decide_eq_true (by first | (with_reducible assumption) | assumption); obtain ⟨ad159, A159_0, c159_0, e159, hx159_0, hx159_1, hl159_0, hi159_0⟩ := at_T76 HR0.out 0 p159 q159; obtain rfl : ad154 = ad159 := (by injection e159); have qi159 : (0 < l0.length) = True := eq_true (by omega); (try rw [show ((0 : Int)).toNat = 0 from rfl] at hx159_0); (try rw [show 0 * 2 = 0 from rfl] at hx159_0); (try rw [Addr.add_zero'] at hx159_0); (try rw [show ((0 : Int)).toNat = 0 from rfl] at hx159_1); (try rw [show 0 * 2 = 0 from rfl] at hx159_1); (try rw [Addr.add_zero'] at hx159_1); have HR159_0 := Aside0.mk hi159_0; have HC159_0 := Aside0.mk hl159_0; clear hi159_0 hl159_0; replace p159 := eq_true p159; replace q159 := eq_true q159; have ea_ := Option.some.inj (hx154_0.symm.trans hx159_0); injection ea_ with ea_ en_ ec_; subst ea_; subst ec_; clear en_; have p160 : 0 ≤ (0 : Int) := (by omega); have q160 : 0 < (l0.length : Int) := of_decide_eq_true (by first | (with_reducible assumption) | assumption); obtain ⟨ad160, A160_0, c160_0, e160, hx160_0, hx160_1, hl160_0, hi160_0⟩ := at_T76 HR0.out 0 p160 q160; obtain rfl : ad154 = ad160 := (by injection e160); have qi160 : (0 < l0.length) = True := eq_true (by omega); (try rw [show ((0 : Int)).toNat = 0 from rfl] at hx160_0); (try rw [show 0 * 2 = 0 from rfl] at hx160_0); (try rw [Addr.add_zero'] at hx160_0); (try rw [show ((0 : Int)).toNat = 0 from rfl] at hx160_1); (try rw [show 0 * 2 = 0 from rfl] at hx160_1); (try rw [Addr.add_zero'] at hx160_1); have HR160_0 := Aside0.mk hi160_0; have HC160_0 := Aside0.mk hl160_0; clear hi160_0 hl160_0; replace p160 := eq_true p160; replace q160 := eq_true q160; have ea_ := Option.some.inj (hx154_0.symm.trans hx160_0); injection ea_ with ea_ en_ ec_; subst ea_; subst ec_; clear en_; have p161 : 0 ≤ (0 : Int) := (by omega); have q161 : 0 < (l1.length : Int) := of_decide_eq_true (by first | (with_reducible assumption) | assumption); obtain ⟨ad161, A161_0, c161_0, e161, hx161_0, hx161_1, hl161_0, hi161_0⟩ := at_T76 HR1.out 0 p161 q161; obtain rfl : ad156 = ad161 := (by injection e161); have qi161 : (0 < l1.length) = True := eq_true (by omega); (try rw [show ((0 : Int)).toNat = 0 from rfl] at hx161_0); (try rw [show 0 * 2 = 0 from rfl] at hx161_0); (try rw [Addr.add_zero'] at hx161_0); (try rw [show ((0 : Int)).toNat = 0 from rfl] at hx161_1); (try rw [show 0 * 2 = 0 from rfl] at hx161_1); (try rw [Addr.add_zero'] at hx161_1); have HR161_0 := Aside0.mk hi161_0; have HC161_0 := Aside0.mk hl161_0; clear hi161_0 hl161_0; replace p161 := eq_true p161; replace q161 := eq_true q161; have ea_ := Option.some.inj (hx156_0.symm.trans hx161_0); injection ea_ with ea_ en_ ec_; subst ea_; subst ec_; clear en_; have p162 : 0 ≤ (0 : Int) := (by omega); have q162 : 0 < (l1.length : Int) := of_decide_eq_true (by first | (with_reducible assumption) | assumption); obtain ⟨ad162, A162_0, c162_0, e162, hx162_0, hx162_1, hl162_0, hi162_0⟩ := at_T76 HR1.out 0 p162 q162; obtain rfl : ad156 = ad162 := (by injection e162); have qi162 : (0 < l1.length) = True := eq_true (by omega); (try rw [show ((0 : Int)).toNat = 0 from rfl] at hx162_0); (try rw [show 0 * 2 = 0 from rfl] at hx162_0); (try rw [Addr.add_zero'] at hx162_0); (try rw [show ((0 : Int)).toNat = 0 from rfl] at hx162_1); (try rw [show 0 * 2 = 0 from rfl] at hx162_1); (try rw [Addr.add_zero'] at hx162_1); have HR162_0 := Aside0.mk hi162_0; have HC162_0 := Aside0.mk hl162_0; clear hi162_0 hl162_0; replace p162 := eq_true p162; replace q162 := eq_true q162; have ea_ := Option.some.inj (hx156_0.symm.trans hx162_0); injection ea_ with ea_ en_ ec_; subst ea_; subst ec_; clear en_) | (go_at_call 163; (with_reducible refine (spec_l01Same.calls ((rd_T76 l0 0).f1) ((rd_T76 l1 0).f1) t163 _ A7.out).mono ?_); rintro e w' ⟨rfl, ⟨nd, rfl⟩⟩; (try first | exact ⟨rfl, _, World.drewN_drewN _ _ _⟩ | exact ⟨rfl, _, Eq.trans (World.drewN_drewN _ _ _) (congrArg (World.drewN _) (Nat.add_assoc _ _ _))⟩)))
    repeat (go_quiet (first | (go_at_call 176; (with_reducible refine (spec_l01SameAll.calls k _ _ ((rd_T76 l0 0).f0) _ _ ((rd_T76 l1 0).f0) true _ ?side1 ?side2 ?side3 ?side4 A5.out).mono ?_); (case side1 => repeat (first | exact HR155_0.out | (with_reducible refine Kd.C_alloc ?_ _) | (with_reducible refine Kd.C_drewN ?_ _) | (with_reducible refine Kd.C_drew ?_))); (case side2 => exact HC155_0.out); (case side3 => repeat (first | exact HR157_0.out | (with_reducible refine Kd.C_alloc ?_ _) | (with_reducible refine Kd.C_drewN ?_ _) | (with_reducible refine Kd.C_drew ?_))); (case side4 => exact HC157_0.out); rintro e w' ⟨rfl, ⟨nd, rfl⟩⟩; (try first | exact ⟨rfl, _, World.drewN_drewN _ _ _⟩ | exact ⟨rfl, _, Eq.trans (World.drewN_drewN _ _ _) (congrArg (World.drewN _) (Nat.add_assoc _ _ _))⟩); have p159 : 0 ≤ (0 : Int) := (by omega); have q159 : 0 < (l0.length : Int) := of_decide_eq_true (by first | (with_reducible assumption) | assumption); obtain ⟨ad159, A159_0, c159_0, e159, hx159_0, hx159_1, hl159_0, hi159_0⟩ := at_T76 HR0.out 0 p159 q159; obtain rfl : ad154 = ad159 := (by injection e159); have qi159 : (0 < l0.length) = True := eq_true (by omega); (try rw [show ((0 : Int)).toNat = 0 from rfl] at hx159_0); (try rw [show 0 * 2 = 0 from rfl] at hx159_0); (try rw [Addr.add_zero'] at hx159_0); (try rw [show ((0 : Int)).toNat = 0 from rfl] at hx159_1); (try rw [show 0 * 2 = 0 from rfl] at hx159_1); (try rw [Addr.add_zero'] at hx159_1); have HR159_0 := Aside0.mk hi159_0; have HC159_0 := Aside0.mk hl159_0; clear hi159_0 hl159_0; replace p159 := eq_true p159; replace q159 := eq_true q159; have ea_ := Option.some.inj (hx154_0.symm.trans hx159_0); injection ea_ with ea_ en_ ec_; subst ea_; subst ec_; clear en_; have p160 : 0 ≤ (0 : Int) := (by omega); have q160 : 0 < (l0.length : Int) := of_decide_eq_true (by first | (with_reducible assumption) | assumption); obtain ⟨ad160, A160_0, c160_0, e160, hx160_0, hx160_1, hl160_0, hi160_0⟩ := at_T76 HR0.out 0 p160 q160; obtain rfl : ad154 = ad160 := (by injection e160); have qi160 : (0 < l0.length) = True := eq_true (by omega); (try rw [show ((0 : Int)).toNat = 0 from rfl] at hx160_0); (try rw [show 0 * 2 = 0 from rfl] at hx160_0); (try rw [Addr.add_zero'] at hx160_0); (try rw [show ((0 : Int)).toNat = 0 from rfl] at hx160_1); (try rw [show 0 * 2 = 0 from rfl] at hx160_1); (try rw [Addr.add_zero'] at hx160_1); have HR160_0 := Aside0.mk hi160_0; have HC160_0 := Aside0.mk hl160_0; clear hi160_0 hl160_0; replace p160 := eq_true p160; replace q160 := eq_true q160; have ea_ := Option.some.inj (hx154_0.symm.trans hx160_0); injection ea_ with ea_ en_ ec_; subst ea_; subst ec_; clear en_; have p161 : 0 ≤ (0 : Int) := (by omega); have q161 : 0 < (l1.length : Int) := of_decide_eq_true (by first | (with_reducible assumption) | assumption); obtain ⟨ad161, A161_0, c161_0, e161, hx161_0, hx161_1, hl161_0, hi161_0⟩ := at_T76 HR1.out 0 p161 q161; obtain rfl : ad156 = ad161 := (by injection e161); have qi161 : (0 < l1.length) = True := eq_true (by omega); (try rw [show ((0 : Int)).toNat = 0 from rfl] at hx161_0); (try rw [show 0 * 2 = 0 from rfl] at hx161_0); (try rw [Addr.add_zero'] at hx161_0); (try rw [show ((0 : Int)).toNat = 0 from rfl] at hx161_1); (try rw [show 0 * 2 = 0 from rfl] at hx161_1); (try rw [Addr.add_zero'] at hx161_1); have HR161_0 := Aside0.mk hi161_0; have HC161_0 := Aside0.mk hl161_0; clear hi161_0 hl161_0; replace p161 := eq_true p161; replace q161 := eq_true q161; have ea_ := Option.some.inj (hx156_0.symm.trans hx161_0); injection ea_ with ea_ en_ ec_; subst ea_; subst ec_; clear en_; have p162 : 0 ≤ (0 : Int) := (by omega); have q162 : 0 < (l1.length : Int) := of_decide_eq_true (by first | (with_reducible assumption) | assumption); obtain ⟨ad162, A162_0, c162_0, e162, hx162_0, hx162_1, hl162_0, hi162_0⟩ := at_T76 HR1.out 0 p162 q162; obtain rfl : ad156 = ad162 := (by injection e162); have qi162 : (0 < l1.length) = True := eq_true (by omega); (try rw [show ((0 : Int)).toNat = 0 from rfl] at hx162_0); (try rw [show 0 * 2 = 0 from rfl] at hx162_0); (try rw [Addr.add_zero'] at hx162_0); (try rw [show ((0 : Int)).toNat = 0 from rfl] at hx162_1); (try rw [show 0 * 2 = 0 from rfl] at hx162_1); (try rw [Addr.add_zero'] at hx162_1); have HR162_0 := Aside0.mk hi162_0; have HC162_0 := Aside0.mk hl162_0; clear hi162_0 hl162_0; replace p162 := eq_true p162; replace q162 := eq_true q162; have ea_ := Option.some.inj (hx156_0.symm.trans hx162_0); injection ea_ with ea_ en_ ec_; subst ea_; subst ec_; clear en_) | (go_at_call 163; (with_reducible refine (spec_l01Same.calls ((rd_T76 l0 0).f1) ((rd_T76 l1 0).f1) t163 _ A7.out).mono ?_); rintro e w' ⟨rfl, ⟨nd, rfl⟩⟩; (try first | exact ⟨rfl, _, World.drewN_drewN _ _ _⟩ | exact ⟨rfl, _, Eq.trans (World.drewN_drewN _ _ _) (congrArg (World.drewN _) (Nat.add_assoc _ _ _))⟩))); try go_wp2_with (first | (go_at_call 176; (with_reducible refine (spec_l01SameAll.calls k _ _ ((rd_T76 l0 0).f0) _ _ ((rd_T76 l1 0).f0) true _ ?side1 ?side2 ?side3 ?side4 A5.out).mono ?_); (case side1 => repeat (first | exact HR155_0.out | (with_reducible refine Kd.C_alloc ?_ _) | (with_reducible refine Kd.C_drewN ?_ _) | (with_reducible refine Kd.C_drew ?_))); (case side2 => exact HC155_0.out); (case side3 => repeat (first | exact HR157_0.out | (with_reducible refine Kd.C_alloc ?_ _) | (with_reducible refine Kd.C_drewN ?_ _) | (with_reducible refine Kd.C_drew ?_))); (case side4 => exact HC157_0.out); rintro e w' ⟨rfl, ⟨nd, rfl⟩⟩; (try first | exact ⟨rfl, _, World.drewN_drewN _ _ _⟩ | exact ⟨rfl, _, Eq.trans (World.drewN_drewN _ _ _) (congrArg (World.drewN _) (Nat.add_assoc _ _ _))⟩); have p159 : 0 ≤ (0 : Int) := (by omega); have q159 : 0 < (l0.length : Int) := of_decide_eq_true (by first | (with_reducible assumption) | assumption); obtain ⟨ad159, A159_0, c159_0, e159, hx159_0, hx159_1, hl159_0, hi159_0⟩ := at_T76 HR0.out 0 p159 q159; obtain rfl : ad154 = ad159 := (by injection e159); have qi159 : (0 < l0.length) = True := eq_true (by omega); (try rw [show ((0 : Int)).toNat = 0 from rfl] at hx159_0); (try rw [show 0 * 2 = 0 from rfl] at hx159_0); (try rw [Addr.add_zero'] at hx159_0); (try rw [show ((0 : Int)).toNat = 0 from rfl] at hx159_1); (try rw [show 0 * 2 = 0 from rfl] at hx159_1); (try rw [Addr.add_zero'] at hx159_1); have HR159_0 := Aside0.mk hi159_0; have HC159_0 := Aside0.mk hl159_0; clear hi159_0 hl159_0; replace p159 := eq_true p159; replace q159 := eq_true q159; have ea_ := Option.some.inj (hx154_0.symm.trans hx159_0); injection ea_ with ea_ en_ ec_; subst ea_; subst ec_; clear en_; have p160 : 0 ≤ (0 : Int) := (by omega); have q160 : 0 < (l0.length : Int) := of_decide_eq_true (by first | (with_reducible assumption) | assumption); obtain ⟨ad160, A160_0, c160_0, e160, hx160_0, hx160_1, hl160_0, hi160_0⟩ := at_T76 HR0.out 0 p160 q160; obtain rfl : ad154 = ad160 := (by injection e160); have qi160 : (0 < l0.length) = True := eq_true (by omega); (try rw [show ((0 : Int)).toNat = 0 from rfl] at hx160_0); (try rw [show 0 * 2 = 0 from rfl] at hx160_0); (try rw [Addr.add_zero'] at hx160_0); (try rw [show ((0 : Int)).toNat = 0 from rfl] at hx160_1); (try rw [show 0 * 2 = 0 from rfl] at hx160_1); (try rw [Addr.add_zero'] at hx160_1); have HR160_0 := Aside0.mk hi160_0; have HC160_0 := Aside0.mk hl160_0; clear hi160_0 hl160_0; replace p160 := eq_true p160; replace q160 := eq_true q160; have ea_ := Option.some.inj (hx154_0.symm.trans hx160_0); injection ea_ with ea_ en_ ec_; subst ea_; subst ec_; clear en_; have p161 : 0 ≤ (0 : Int) := (by omega); have q161 : 0 < (l1.length : Int) := of_decide_eq_true (by first | (with_reducible assumption) | assumption); obtain ⟨ad161, A161_0, c161_0, e161, hx161_0, hx161_1, hl161_0, hi161_0⟩ := at_T76 HR1.out 0 p161 q161; obtain rfl : ad156 = ad161 := (by injection e161); have qi161 : (0 < l1.length) = True := eq_true (by omega); (try rw [show ((0 : Int)).toNat = 0 from rfl] at hx161_0); (try rw [show 0 * 2 = 0 from rfl] at hx161_0); (try rw [Addr.add_zero'] at hx161_0); (try rw [show ((0 : Int)).toNat = 0 from rfl] at hx161_1); (try rw [show 0 * 2 = 0 from rfl] at hx161_1); (try rw [Addr.add_zero'] at hx161_1); have HR161_0 := Aside0.mk hi161_0; have HC161_0 := Aside0.mk hl161_0; clear hi161_0 hl161_0; replace p161 := eq_true p161; replace q161 := eq_true q161; have ea_ := Option.some.inj (hx156_0.symm.trans hx161_0); injection ea_ with ea_ en_ ec_; subst ea_; subst ec_; clear en_; have p162 : 0 ≤ (0 : Int) := (by omega); have q162 : 0 < (l1.length : Int) := of_decide_eq_true (by first | (with_reducible assumption) | assumption); obtain ⟨ad162, A162_0, c162_0, e162, hx162_0, hx162_1, hl162_0, hi162_0⟩ := at_T76 HR1.out 0 p162 q162; obtain rfl : ad156 = ad162 := (by injection e162); have qi162 : (0 < l1.length) = True := eq_true (by omega); (try rw [show ((0 : Int)).toNat = 0 from rfl] at hx162_0); (try rw [show 0 * 2 = 0 from rfl] at hx162_0); (try rw [Addr.add_zero'] at hx162_0); (try rw [show ((0 : Int)).toNat = 0 from rfl] at hx162_1); (try rw [show 0 * 2 = 0 from rfl] at hx162_1); (try rw [Addr.add_zero'] at hx162_1); have HR162_0 := Aside0.mk hi162_0; have HC162_0 := Aside0.mk hl162_0; clear hi162_0 hl162_0; replace p162 := eq_true p162; replace q162 := eq_true q162; have ea_ := Option.some.inj (hx156_0.symm.trans hx162_0); injection ea_ with ea_ en_ ec_; subst ea_; subst ec_; clear en_) | (go_at_call 163; (with_reducible refine (spec_l01Same.calls ((rd_T76 l0 0).f1) ((rd_T76 l1 0).f1) t163 _ A7.out).mono ?_); rintro e w' ⟨rfl, ⟨nd, rfl⟩⟩; (try first | exact ⟨rfl, _, World.drewN_drewN _ _ _⟩ | exact ⟨rfl, _, Eq.trans (World.drewN_drewN _ _ _) (congrArg (World.drewN _) (Nat.add_assoc _ _ _))⟩))))
    go_ret
    exact ⟨by first | rfl | (simp; done) | (simp [*]; done), by repeat (first | exact Drawn0.refl _ | apply Drawn0.step)⟩
   ·replace c6 := Bool.eq_false_iff.mpr c6
    subst c6
    have H1 : (some false) = some r := by rw [if_neg (show ¬ (false = true) by decide)] at H; exact H
    clear H
    have H := H1
    clear H1
    obtain rfl := Option.some.inj H
    have p154 : 0 ≤ (0 : Int) := (by omega)
    have q154 : 0 < (l0.length : Int) := of_decide_eq_true (by first | (with_reducible assumption) | assumption)
    obtain ⟨ad154, A154_0, c154_0, e154, hx154_0, hx154_1, hl154_0, hi154_0⟩ := at_T76 HR0.out 0 p154 q154
    cases e154
    have qi154 : (0 < l0.length) = True := eq_true (by omega)
    (try rw [show ((0 : Int)).toNat = 0 from rfl] at hx154_0)
    (try rw [show 0 * 2 = 0 from rfl] at hx154_0)
    (try rw [Addr.add_zero'] at hx154_0)
    (try rw [show ((0 : Int)).toNat = 0 from rfl] at hx154_1)
    (try rw [show 0 * 2 = 0 from rfl] at hx154_1)
    (try rw [Addr.add_zero'] at hx154_1)
    have HR154_0 := Aside0.mk hi154_0
    have HC154_0 := Aside0.mk hl154_0
    clear hi154_0 hl154_0
    replace p154 := eq_true p154
    replace q154 := eq_true q154
    have p155 : 0 ≤ (0 : Int) := (by omega)
    have q155 : 0 < (l0.length : Int) := of_decide_eq_true (by first | (with_reducible assumption) | assumption)
    obtain ⟨ad155, A155_0, c155_0, e155, hx155_0, hx155_1, hl155_0, hi155_0⟩ := at_T76 HR0.out 0 p155 q155
    obtain rfl : ad154 = ad155 := (by injection e155)
    have qi155 : (0 < l0.length) = True := eq_true (by omega)
    (try rw [show ((0 : Int)).toNat = 0 from rfl] at hx155_0)
    (try rw [show 0 * 2 = 0 from rfl] at hx155_0)
    (try rw [Addr.add_zero'] at hx155_0)
    (try rw [show ((0 : Int)).toNat = 0 from rfl] at hx155_1)
    (try rw [show 0 * 2 = 0 from rfl] at hx155_1)
    (try rw [Addr.add_zero'] at hx155_1)
    have HR155_0 := Aside0.mk hi155_0
    have HC155_0 := Aside0.mk hl155_0
    clear hi155_0 hl155_0
    replace p155 := eq_true p155
    replace q155 := eq_true q155
    have ea_ := Option.some.inj (hx154_0.symm.trans hx155_0)
    injection ea_ with ea_ en_ ec_
    subst ea_
    subst ec_
    clear en_
    have p156 : 0 ≤ (0 : Int) := (by omega)
    have q156 : 0 < (l1.length : Int) := of_decide_eq_true (by first | (with_reducible assumption) | assumption)
    obtain ⟨ad156, A156_0, c156_0, e156, hx156_0, hx156_1, hl156_0, hi156_0⟩ := at_T76 HR1.out 0 p156 q156
    cases e156
    have qi156 : (0 < l1.length) = True := eq_true (by omega)
    (try rw [show ((0 : Int)).toNat = 0 from rfl] at hx156_0)
    (try rw [show 0 * 2 = 0 from rfl] at hx156_0)
    (try rw [Addr.add_zero'] at hx156_0)
    (try rw [show ((0 : Int)).toNat = 0 from rfl] at hx156_1)
    (try rw [show 0 * 2 = 0 from rfl] at hx156_1)
    (try rw [Addr.add_zero'] at hx156_1)
    have HR156_0 := Aside0.mk hi156_0
    have HC156_0 := Aside0.mk hl156_0
    clear hi156_0 hl156_0
    replace p156 := eq_true p156
    replace q156 := eq_true q156
    have p157 : 0 ≤ (0 : Int) := (by omega)
    have q157 : 0 < (l1.length : Int) := of_decide_eq_true (by first | (with_reducible assumption) | assumption)
    obtain ⟨ad157, A157_0, c157_0, e157, hx157_0, hx157_1, hl157_0, hi157_0⟩ := at_T76 HR1.out 0 p157 q157
    obtain rfl : ad156 = ad157 := (by injection e157)
    have qi157 : (0 < l1.length) = True := eq_true (by omega)
    (try rw [show ((0 : Int)).toNat = 0 from rfl] at hx157_0)
    (try rw [show 0 * 2 = 0 from rfl] at hx157_0)
    (try rw [Addr.add_zero'] at hx157_0)
    (try rw [show ((0 : Int)).toNat = 0 from rfl] at hx157_1)
    (try rw [show 0 * 2 = 0 from rfl] at hx157_1)
    (try rw [Addr.add_zero'] at hx157_1)
    have HR157_0 := Aside0.mk hi157_0
    have HC157_0 := Aside0.mk hl157_0
    clear hi157_0 hl157_0
    replace p157 := eq_true p157
    replace q157 := eq_true q157
    have ea_ := Option.some.inj (hx156_0.symm.trans hx157_0)
    injection ea_ with ea_ en_ ec_
    subst ea_
    subst ec_
    clear en_
    go_enter Try.func123, Try.ntmps123
    go_wp2_with (first | (go_at_call 176; (with_reducible refine (spec_l01SameAll.calls k _ _ ((rd_T76 l0 0).f0) _ _ ((rd_T76 l1 0).f0) false _ ?side1 ?side2 ?side3 ?side4 A5.out).mono ?_); (case side1 => repeat (first | exact HR155_0.out | (with_reducible refine Kd.C_alloc ?_ _) | (with_reducible refine Kd.C_drewN ?_ _) | (with_reducible refine Kd.C_drew ?_))); (case side2 => exact HC155_0.out); (case side3 => repeat (first | exact HR157_0.out | (with_reducible refine Kd.C_alloc ?_ _) | (with_reducible refine Kd.C_drewN ?_ _) | (with_reducible refine Kd.C_drew ?_))); (case side4 => exact HC157_0.out); rintro e w' ⟨rfl, ⟨nd, rfl⟩⟩; (try first | exact ⟨rfl, _, World.drewN_drewN _ _ _⟩ | exact ⟨rfl, _, Eq.trans (World.drewN_drewN _ _ _) (congrArg (World.drewN _) (Nat.add_assoc _ _ _))⟩)))
    repeat (go_quiet (first | (go_at_call 176; (with_reducible refine (spec_l01SameAll.calls k _ _ ((rd_T76 l0 0).f0) _ _ ((rd_T76 l1 0).f0) false _ ?side1 ?side2 ?side3 ?side4 A5.out).mono ?_); (case side1 => repeat (first | exact HR155_0.out | (with_reducible refine Kd.C_alloc ?_ _) | (with_reducible refine Kd.C_drewN ?_ _) | (with_reducible refine Kd.C_drew ?_))); (case side2 => exact HC155_0.out); (case side3 => repeat (first | exact HR157_0.out | (with_reducible refine Kd.C_alloc ?_ _) | (with_reducible refine Kd.C_drewN ?_ _) | (with_reducible refine Kd.C_drew ?_))); (case side4 => exact HC157_0.out); rintro e w' ⟨rfl, ⟨nd, rfl⟩⟩; (try first | exact ⟨rfl, _, World.drewN_drewN _ _ _⟩ | exact ⟨rfl, _, Eq.trans (World.drewN_drewN _ _ _) (congrArg (World.drewN _) (Nat.add_assoc _ _ _))⟩))); try go_wp2_with (first | (go_at_call 176; (with_reducible refine (spec_l01SameAll.calls k _ _ ((rd_T76 l0 0).f0) _ _ ((rd_T76 l1 0).f0) false _ ?side1 ?side2 ?side3 ?side4 A5.out).mono ?_); (case side1 => repeat (first | exact HR155_0.out | (with_reducible refine Kd.C_alloc ?_ _) | (with_reducible refine Kd.C_drewN ?_ _) | (with_reducible refine Kd.C_drew ?_))); (case side2 => exact HC155_0.out); (case side3 => repeat (first | exact HR157_0.out | (with_reducible refine Kd.C_alloc ?_ _) | (with_reducible refine Kd.C_drewN ?_ _) | (with_reducible refine Kd.C_drew ?_))); (case side4 => exact HC157_0.out); rintro e w' ⟨rfl, ⟨nd, rfl⟩⟩; (try first | exact ⟨rfl, _, World.drewN_drewN _ _ _⟩ | exact ⟨rfl, _, Eq.trans (World.drewN_drewN _ _ _) (congrArg (World.drewN _) (Nat.add_assoc _ _ _))⟩))))
    go_ret
    exact ⟨by first | rfl | (simp; done) | (simp [*]; done), by repeat (first | exact Drawn0.refl _ | apply Drawn0.step)⟩
  ·rw [if_neg c4] at H
   exact absurd H (by simp)
 ·rw [if_neg c3] at H
  exact absurd H (by simp)
def spec_l06SameSound.g (k : Nat) (x y : S138) : Option Bool := if x.f0.toList = y.f0.toList then ((spec_l01SameAll.f k x.f1 y.f1).bind fun t1 => (if t1 = true then ((spec_l01Same.f x.f2 y.f2).bind fun t2 => (if t2 = true then ((spec_l01Same.f x.f3 y.f3).bind fun t3 => (if t3 = true then ((spec_l01Same.f x.f4 y.f4).bind fun t4 => (if t4 = true then (spec_l01Same.f x.f5 y.f5) else (some false))) else (some false))) else (some false))) else (some false))) else (some false)
def spec_l06SameSound.f (k : Nat) (l0 l1 : List (S138)) : Option (Bool) := if 0 < (l0.length : Int) then (if 0 < (l1.length : Int) then spec_l06SameSound.g k (rd_T138 l0 0) (rd_T138 l1 0) else (none)) else (none)
theorem spec_l06SameSound.mono : ∀ a0 a1 k, LeO (spec_l06SameSound.f k a0 a1) (spec_l06SameSound.f (k + 1) a0 a1) := by
  intro a0 a1 k
  unfold spec_l06SameSound.f spec_l06SameSound.g
  repeat' first
      | (with_reducible exact spec_l01SameAll.mono _ _ _)
      | (with_reducible exact LeO.refl _)
      | (with_reducible exact LeO.none _)
      | (with_reducible refine LeO.ite ?_ ?_)
      | (with_reducible refine LeO.bind ?_ (fun _ => ?_))
theorem spec_l01Same.tot (a b : Nat) : ∃ t, spec_l01Same.f a b = some t := by
  unfold spec_l01Same.f spec_l01Bits.f
  split <;> split <;> exact ⟨_, rfl⟩
theorem spec_l06SameSound.calls (k : Nat) (A0 : Option Addr) (l0 : List (S138)) (A1 : Option Addr) (l1 : List (S138)) (r : Bool) (w : World) (hr0 : Kd.C k138 w A0 l0.length l0) (hr1 : Kd.C k138 w A1 l1.length l1) (h : spec_l06SameSound.f k l0 l1 = some r) :
    Calls Try.prog 177 #[.pointer A0, .pointer A1] w fun e w' => e = .returned (.bool r) ∧ Drawn0 w w' := by
  unfold spec_l06SameSound.f at h
  split at h
  · rename_i hl
    split at h
    · rename_i hm
      obtain ⟨ad, B, bc, rfl, x0, x1, x2, x3, x4, x5, lx, cx⟩ := at_T138 hr0 0 (by omega) hl
      obtain ⟨bd, C, cc, rfl, y0, y1, y2, y3, y4, y5, ly, cy⟩ := at_T138 hr1 0 (by omega) hm
      rw [show ((0 : Int)).toNat * 6 = 0 from rfl, Addr.add_zero'] at x0 x1 x2 x3 x4 x5 y0 y1 y2 y3 y4 y5
      obtain ⟨x, hx⟩ : ∃ x, rd_T138 l0 0 = x := ⟨_, rfl⟩
      obtain ⟨y, hy⟩ : ∃ y, rd_T138 l1 0 = y := ⟨_, rfl⟩
      rw [hx] at h x0 x1 x2 x3 x4 x5 lx cx
      rw [hy] at h y0 y1 y2 y3 y4 y5 ly cy
      obtain ⟨t2, e2⟩ := spec_l01Same.tot x.f2 y.f2
      obtain ⟨t3, e3⟩ := spec_l01Same.tot x.f3 y.f3
      obtain ⟨t4, e4⟩ := spec_l01Same.tot x.f4 y.f4
      obtain ⟨t5, e5⟩ := spec_l01Same.tot x.f5 y.f5
      have hcx : ∀ W, Drawn0 w W → sdCells W ad x B bc := by
        rintro W ⟨n, rfl⟩
        exact ⟨x0, x1, x2, x3, x4, x5⟩
      have hcy : ∀ W, Drawn0 w W → sdCells W bd y C cc := by
        rintro W ⟨n, rfl⟩
        exact ⟨y0, y1, y2, y3, y4, y5⟩
      unfold spec_l06SameSound.g at h
      rw [e2, e3, e4, e5] at h
      by_cases c : x.f0.toList = y.f0.toList
      · rw [if_pos c] at h
        obtain ⟨t1, e1, h⟩ := Option.bind_eq_some_iff.mp h
        have hr : r = (true && (t1 && (t2 && (t3 && (t4 && t5))))) := by
          revert h
          cases t1 <;> cases t2 <;> cases t3 <;> cases t4 <;> cases t5 <;> simp <;> exact fun h => h.symm
        rw [hr]
        exact ss_walk ad bd x y B C bc cc true t1 t2 t3 t4 t5 w hcx hcy (beq_iff_eq.mpr c) (fun _ W hW => by
          obtain ⟨n, rfl⟩ := hW
          exact spec_l01SameAll.calls k B bc x.f1 C cc y.f1 t1 _ (Kd.C_drewN cx n) lx (Kd.C_drewN cy n) ly e1) (fun W _ => spec_l01Same.calls _ _ t2 W e2) (fun W _ => spec_l01Same.calls _ _ t3 W e3) (fun W _ => spec_l01Same.calls _ _ t4 W e4) (fun W _ => spec_l01Same.calls _ _ t5 W e5)
      · rw [if_neg c] at h
        obtain rfl := Option.some.inj h
        exact ss_walk ad bd x y B C bc cc false true t2 t3 t4 t5 w hcx hcy (beq_eq_false_iff_ne.mpr c) (fun h => by cases h) (fun W _ => spec_l01Same.calls _ _ t2 W e2) (fun W _ => spec_l01Same.calls _ _ t3 W e3) (fun W _ => spec_l01Same.calls _ _ t4 W e4) (fun W _ => spec_l01Same.calls _ _ t5 W e5)
    · cases h
  · cases h
def spec_l06Same.l0 : Nat → List (S138) → List (S138) → Int → Option (Bool)
 | 0, _, _, _ => none
 | k + 1, x0, x1, x5 => if x5 < (x0.length : Int) then (if 0 ≤ x5 then (if x5 < (x1.length : Int) then ((spec_l06SameSound.f k [rd_T138 x0 x5] [rd_T138 x1 x5]).bind fun t166 => (if t166 = true then (spec_l06Same.l0 k x0 x1 (wrap64 (x5 + 1))) else (some false))) else (none)) else (none)) else (some true)
def spec_l06Same.f (k : Nat) (l0 : List (S138)) (l1 : List (S138)) : Option (Bool) := if (l0.length : Int) = (l1.length : Int) then (spec_l06Same.l0 k l0 l1 0) else (some false)
theorem spec_l06Same.mono_l : ∀ k, (∀ y0 y1 y2, LeO (spec_l06Same.l0 k y0 y1 y2) (spec_l06Same.l0 (k + 1) y0 y1 y2))
 | 0 => fun _ _ _ r h => by simp [spec_l06Same.l0] at h
 | k + 1 => by
  have ih0 := spec_l06Same.mono_l k
  ·intro y0 y1 y2
   unfold spec_l06Same.l0
   repeat' first
   | (with_reducible exact ih0 _ _ _)
   | (with_reducible exact spec_l06SameSound.mono _ _ _)
   | (with_reducible exact LeO.refl _)
   | (with_reducible exact LeO.none _)
   | (with_reducible refine LeO.ite ?_ ?_)
   | (with_reducible refine LeO.bind ?_ (fun _ => ?_))
   | exact ih0 _ _ _
   | exact spec_l06SameSound.mono _ _ _
   | exact LeO.none _
   | refine LeO.ite ?_ ?_
   | refine LeO.bind ?_ (fun _ => ?_)
theorem spec_l06Same.mono : ∀ a0 a1 k, LeO (spec_l06Same.f k a0 a1) (spec_l06Same.f (k + 1) a0 a1) := by
 intro a0 a1 k
 have ih0 := spec_l06Same.mono_l k
 unfold spec_l06Same.f
 repeat' first
   | (with_reducible exact ih0 _ _ _)
   | (with_reducible exact spec_l06SameSound.mono _ _ _)
   | (with_reducible exact LeO.refl _)
   | (with_reducible exact LeO.none _)
   | (with_reducible refine LeO.ite ?_ ?_)
   | (with_reducible refine LeO.bind ?_ (fun _ => ?_))
   | exact ih0 _ _ _
   | exact spec_l06SameSound.mono _ _ _
   | exact LeO.none _
   | refine LeO.ite ?_ ?_
   | refine LeO.bind ?_ (fun _ => ?_)
set_option maxHeartbeats 8000000 in
set_option maxRecDepth 100000 in
theorem spec_l06Same.calls (k : Nat) (A0 : Option Addr) (c0 : Nat) (l0 : List (S138)) (A1 : Option Addr) (c1 : Nat) (l1 : List (S138)) (r : Bool) (w : World) (hr0 : Kd.C k138 w A0 l0.length l0) (hc0 : l0.length ≤ c0) (hr1 : Kd.C k138 w A1 l1.length l1) (hc1 : l1.length ≤ c1) (h : spec_l06Same.f k l0 l1 = some r) :
  Calls Try.prog 124 #[.slice A0 l0.length c0, .slice A1 l1.length c1] w fun e w' => e = .returned (.bool r) ∧ Drawn0 w w' := by
 have HR0 := Aside0.mk hr0
 have HC0 := Aside0.mk hc0
 clear hr0 hc0
 have HR1 := Aside0.mk hr1
 have HC1 := Aside0.mk hc1
 clear hr1 hc1
 have H : (if (l0.length : Int) = (l1.length : Int) then (spec_l06Same.l0 k l0 l1 0) else (some false)) = some r := h
 clear h
 by_cases c3 : (l0.length : Int) = (l1.length : Int)
 ·rw [if_pos c3] at H
  have c3b0 : ((l0.length : Int) == (l1.length : Int)) = true := beq_iff_eq.mpr c3
  have c3b1 : ((l0.length : Int) != (l1.length : Int)) = false := bne_eq_false_iff_eq.mpr c3
  have c3b2 : (l0.length == l1.length) = true := by first | simpa using c3 | (simp at c3 ⊢; omega)
  clear c3
  have H' := Aside0.mk H
  clear H
  go_enter Try.func124, Try.ntmps124
  go_wp2
  repeat (go_quiet (fail); try go_wp2)
  go_loopg [5] k (fun kq v5 w' => ∃ (x5_1 : Int), v5 = .int .i64 x5_1 ∧ Aside0 (spec_l06Same.l0 kq l0 l1 x5_1 = some r) ∧ Aside0 (kq ≤ k) ∧ Drawn0 w w')
  case atStart => exact ⟨(0), (by first | rfl | (simp; done) | (simp [*]; done)), H', ⟨Nat.le_refl _⟩, by repeat (first | exact Drawn0.refl _ | apply Drawn0.step)⟩
  case round =>
   clear H'
   try clear c1
   try clear p2
   try clear c3
   try clear c3b0
   try clear c3b1
   try clear c3b2
   obtain ⟨x5_1, rfl, HA, HK1, ⟨m1, rfl⟩⟩ := hrel
   cases gk with
   | zero => exact absurd HA.out (by simp [spec_l06Same.l0])
   | succ k1 =>
    have H := HA.out
    clear HA
    simp only [spec_l06Same.l0] at H
    by_cases c4 : x5_1 < (l0.length : Int)
    ·rw [if_pos c4] at H
     have c4b0 : decide (x5_1 < (l0.length : Int)) = true := decide_eq_true c4
     clear c4
     by_cases c5 : 0 ≤ x5_1
     ·rw [if_pos c5] at H
      have c5b0 : decide (0 ≤ x5_1) = true := decide_eq_true c5
      clear c5
      by_cases c6 : x5_1 < (l1.length : Int)
      ·rw [if_pos c6] at H
       have c6b0 : decide (x5_1 < (l1.length : Int)) = true := decide_eq_true c6
       clear c6
       replace H := Option.bind_eq_some_iff.mp H
       obtain ⟨t166, A70, H⟩ := H
       replace H : (if t166 = true then (spec_l06Same.l0 k1 l0 l1 (wrap64 (x5_1 + 1))) else (some false)) = some r := H
       have A7 := Aside0.mk A70
       clear A70
       by_cases c8 : t166 = true
       ·subst c8
        have H1 : (spec_l06Same.l0 k1 l0 l1 (wrap64 (x5_1 + 1))) = some r := by rw [if_pos rfl] at H; exact H
        clear H
        have H := H1
        clear H1
        have H' := Aside0.mk H
        clear H
        have p164 : 0 ≤ (x5_1 : Int) := of_decide_eq_true (by first | (with_reducible assumption) | assumption)
        have q164 : x5_1 < (l0.length : Int) := of_decide_eq_true (by first | (with_reducible assumption) | assumption)
        obtain ⟨ad164, A164_1, c164_1, e164, hx164_0, hx164_1, hx164_2, hx164_3, hx164_4, hx164_5, hl164_1, hi164_1⟩ := at_T138 HR0.out x5_1 p164 q164
        cases e164
        have HR164_1 := Aside0.mk hi164_1
        have HC164_1 := Aside0.mk hl164_1
        clear hi164_1 hl164_1
        replace p164 := eq_true p164
        replace q164 := eq_true q164
        have p165 : 0 ≤ (x5_1 : Int) := of_decide_eq_true (by first | (with_reducible assumption) | assumption)
        have q165 : x5_1 < (l1.length : Int) := of_decide_eq_true (by first | (with_reducible assumption) | assumption)
        obtain ⟨ad165, A165_1, c165_1, e165, hx165_0, hx165_1, hx165_2, hx165_3, hx165_4, hx165_5, hl165_1, hi165_1⟩ := at_T138 HR1.out x5_1 p165 q165
        cases e165
        have HR165_1 := Aside0.mk hi165_1
        have HC165_1 := Aside0.mk hl165_1
        clear hi165_1 hl165_1
        replace p165 := eq_true p165
        replace q165 := eq_true q165
        go_wp2_with (first | (go_at_call 177; (with_reducible refine (spec_l06SameSound.calls k1 _ [rd_T138 l0 x5_1] _ [rd_T138 l1 x5_1] true _ ?side1 ?side2 A7.out).mono ?_); (case side1 => refine Kd.C_sub (z := z138) ?_ x5_1 (of_eq_true p164) (by first | exact of_eq_true q164 | omega); repeat (first | exact HR0.out | (with_reducible refine Kd.C_alloc ?_ _) | (with_reducible refine Kd.C_drewN ?_ _) | (with_reducible refine Kd.C_drew ?_))); (case side2 => refine Kd.C_sub (z := z138) ?_ x5_1 (of_eq_true p165) (by first | exact of_eq_true q165 | omega); repeat (first | exact HR1.out | (with_reducible refine Kd.C_alloc ?_ _) | (with_reducible refine Kd.C_drewN ?_ _) | (with_reducible refine Kd.C_drew ?_))); rintro e w' ⟨rfl, ⟨nd, rfl⟩⟩; (try first | exact ⟨rfl, _, World.drewN_drewN _ _ _⟩ | exact ⟨rfl, _, Eq.trans (World.drewN_drewN _ _ _) (congrArg (World.drewN _) (Nat.add_assoc _ _ _))⟩)))
        repeat (go_quiet (first | (go_at_call 177; (with_reducible refine (spec_l06SameSound.calls k1 _ [rd_T138 l0 x5_1] _ [rd_T138 l1 x5_1] true _ ?side1 ?side2 A7.out).mono ?_); (case side1 => refine Kd.C_sub (z := z138) ?_ x5_1 (of_eq_true p164) (by first | exact of_eq_true q164 | omega); repeat (first | exact HR0.out | (with_reducible refine Kd.C_alloc ?_ _) | (with_reducible refine Kd.C_drewN ?_ _) | (with_reducible refine Kd.C_drew ?_))); (case side2 => refine Kd.C_sub (z := z138) ?_ x5_1 (of_eq_true p165) (by first | exact of_eq_true q165 | omega); repeat (first | exact HR1.out | (with_reducible refine Kd.C_alloc ?_ _) | (with_reducible refine Kd.C_drewN ?_ _) | (with_reducible refine Kd.C_drew ?_))); rintro e w' ⟨rfl, ⟨nd, rfl⟩⟩; (try first | exact ⟨rfl, _, World.drewN_drewN _ _ _⟩ | exact ⟨rfl, _, Eq.trans (World.drewN_drewN _ _ _) (congrArg (World.drewN _) (Nat.add_assoc _ _ _))⟩))); try go_wp2_with (first | (go_at_call 177; (with_reducible refine (spec_l06SameSound.calls k1 _ [rd_T138 l0 x5_1] _ [rd_T138 l1 x5_1] true _ ?side1 ?side2 A7.out).mono ?_); (case side1 => refine Kd.C_sub (z := z138) ?_ x5_1 (of_eq_true p164) (by first | exact of_eq_true q164 | omega); repeat (first | exact HR0.out | (with_reducible refine Kd.C_alloc ?_ _) | (with_reducible refine Kd.C_drewN ?_ _) | (with_reducible refine Kd.C_drew ?_))); (case side2 => refine Kd.C_sub (z := z138) ?_ x5_1 (of_eq_true p165) (by first | exact of_eq_true q165 | omega); repeat (first | exact HR1.out | (with_reducible refine Kd.C_alloc ?_ _) | (with_reducible refine Kd.C_drewN ?_ _) | (with_reducible refine Kd.C_drew ?_))); rintro e w' ⟨rfl, ⟨nd, rfl⟩⟩; (try first | exact ⟨rfl, _, World.drewN_drewN _ _ _⟩ | exact ⟨rfl, _, Eq.trans (World.drewN_drewN _ _ _) (congrArg (World.drewN _) (Nat.add_assoc _ _ _))⟩))))
        go_roundg k1
        case measure => have := HK1.out; omega
        case rel => exact ⟨(wrap64 (x5_1 + 1)), (by first | rfl | (simp; done) | (simp [*]; done)), H', ⟨by have := HK1.out; omega⟩, by repeat (first | exact Drawn0.refl _ | apply Drawn0.step)⟩
       ·replace c8 := Bool.eq_false_iff.mpr c8
        subst c8
        have H1 : (some false) = some r := by rw [if_neg (show ¬ (false = true) by decide)] at H; exact H
        clear H
        have H := H1
        clear H1
        obtain rfl := Option.some.inj H
        have p164 : 0 ≤ (x5_1 : Int) := of_decide_eq_true (by first | (with_reducible assumption) | assumption)
        have q164 : x5_1 < (l0.length : Int) := of_decide_eq_true (by first | (with_reducible assumption) | assumption)
        obtain ⟨ad164, A164_1, c164_1, e164, hx164_0, hx164_1, hx164_2, hx164_3, hx164_4, hx164_5, hl164_1, hi164_1⟩ := at_T138 HR0.out x5_1 p164 q164
        cases e164
        have HR164_1 := Aside0.mk hi164_1
        have HC164_1 := Aside0.mk hl164_1
        clear hi164_1 hl164_1
        replace p164 := eq_true p164
        replace q164 := eq_true q164
        have p165 : 0 ≤ (x5_1 : Int) := of_decide_eq_true (by first | (with_reducible assumption) | assumption)
        have q165 : x5_1 < (l1.length : Int) := of_decide_eq_true (by first | (with_reducible assumption) | assumption)
        obtain ⟨ad165, A165_1, c165_1, e165, hx165_0, hx165_1, hx165_2, hx165_3, hx165_4, hx165_5, hl165_1, hi165_1⟩ := at_T138 HR1.out x5_1 p165 q165
        cases e165
        have HR165_1 := Aside0.mk hi165_1
        have HC165_1 := Aside0.mk hl165_1
        clear hi165_1 hl165_1
        replace p165 := eq_true p165
        replace q165 := eq_true q165
        go_wp2_with (first | (go_at_call 177; (with_reducible refine (spec_l06SameSound.calls k1 _ [rd_T138 l0 x5_1] _ [rd_T138 l1 x5_1] false _ ?side1 ?side2 A7.out).mono ?_); (case side1 => refine Kd.C_sub (z := z138) ?_ x5_1 (of_eq_true p164) (by first | exact of_eq_true q164 | omega); repeat (first | exact HR0.out | (with_reducible refine Kd.C_alloc ?_ _) | (with_reducible refine Kd.C_drewN ?_ _) | (with_reducible refine Kd.C_drew ?_))); (case side2 => refine Kd.C_sub (z := z138) ?_ x5_1 (of_eq_true p165) (by first | exact of_eq_true q165 | omega); repeat (first | exact HR1.out | (with_reducible refine Kd.C_alloc ?_ _) | (with_reducible refine Kd.C_drewN ?_ _) | (with_reducible refine Kd.C_drew ?_))); rintro e w' ⟨rfl, ⟨nd, rfl⟩⟩; (try first | exact ⟨rfl, _, World.drewN_drewN _ _ _⟩ | exact ⟨rfl, _, Eq.trans (World.drewN_drewN _ _ _) (congrArg (World.drewN _) (Nat.add_assoc _ _ _))⟩)))
        repeat (go_quiet (first | (go_at_call 177; (with_reducible refine (spec_l06SameSound.calls k1 _ [rd_T138 l0 x5_1] _ [rd_T138 l1 x5_1] false _ ?side1 ?side2 A7.out).mono ?_); (case side1 => refine Kd.C_sub (z := z138) ?_ x5_1 (of_eq_true p164) (by first | exact of_eq_true q164 | omega); repeat (first | exact HR0.out | (with_reducible refine Kd.C_alloc ?_ _) | (with_reducible refine Kd.C_drewN ?_ _) | (with_reducible refine Kd.C_drew ?_))); (case side2 => refine Kd.C_sub (z := z138) ?_ x5_1 (of_eq_true p165) (by first | exact of_eq_true q165 | omega); repeat (first | exact HR1.out | (with_reducible refine Kd.C_alloc ?_ _) | (with_reducible refine Kd.C_drewN ?_ _) | (with_reducible refine Kd.C_drew ?_))); rintro e w' ⟨rfl, ⟨nd, rfl⟩⟩; (try first | exact ⟨rfl, _, World.drewN_drewN _ _ _⟩ | exact ⟨rfl, _, Eq.trans (World.drewN_drewN _ _ _) (congrArg (World.drewN _) (Nat.add_assoc _ _ _))⟩))); try go_wp2_with (first | (go_at_call 177; (with_reducible refine (spec_l06SameSound.calls k1 _ [rd_T138 l0 x5_1] _ [rd_T138 l1 x5_1] false _ ?side1 ?side2 A7.out).mono ?_); (case side1 => refine Kd.C_sub (z := z138) ?_ x5_1 (of_eq_true p164) (by first | exact of_eq_true q164 | omega); repeat (first | exact HR0.out | (with_reducible refine Kd.C_alloc ?_ _) | (with_reducible refine Kd.C_drewN ?_ _) | (with_reducible refine Kd.C_drew ?_))); (case side2 => refine Kd.C_sub (z := z138) ?_ x5_1 (of_eq_true p165) (by first | exact of_eq_true q165 | omega); repeat (first | exact HR1.out | (with_reducible refine Kd.C_alloc ?_ _) | (with_reducible refine Kd.C_drewN ?_ _) | (with_reducible refine Kd.C_drew ?_))); rintro e w' ⟨rfl, ⟨nd, rfl⟩⟩; (try first | exact ⟨rfl, _, World.drewN_drewN _ _ _⟩ | exact ⟨rfl, _, Eq.trans (World.drewN_drewN _ _ _) (congrArg (World.drewN _) (Nat.add_assoc _ _ _))⟩))))
        go_ret
        exact ⟨by first | rfl | (simp; done) | (simp [*]; done), by repeat (first | exact Drawn0.refl _ | apply Drawn0.step)⟩
      ·rw [if_neg c6] at H
       exact absurd H (by simp)
     ·rw [if_neg c5] at H
      exact absurd H (by simp)
    ·rw [if_neg c4] at H
     have c4b0 : decide (x5_1 < (l0.length : Int)) = false := decide_eq_false c4
     clear c4
     obtain rfl := Option.some.inj H
     go_wp2
     repeat (go_quiet (fail); try go_wp2)
     go_ret
     exact ⟨by first | rfl | (simp; done) | (simp [*]; done), by repeat (first | exact Drawn0.refl _ | apply Drawn0.step)⟩
 ·rw [if_neg c3] at H
  have c3b0 : ((l0.length : Int) == (l1.length : Int)) = false := beq_eq_false_iff_ne.mpr c3
  have c3b1 : ((l0.length : Int) != (l1.length : Int)) = true := bne_iff_ne.mpr c3
  have c3b2 : (l0.length == l1.length) = false := by first | simpa using c3 | (simp at c3 ⊢; omega)
  obtain rfl := Option.some.inj H
  go_enter Try.func124, Try.ntmps124
  go_wp2
  repeat (go_quiet (fail); try go_wp2)
  go_ret
  exact ⟨by first | rfl | (simp; done) | (simp [*]; done), by repeat (first | exact Drawn0.refl _ | apply Drawn0.step)⟩
def laws_toFloat32S.l0 : Nat → List Nat → List Nat → Int → Option (List Nat)
 | 0, _, _, _ => none
 | k + 1, x0, x3, x4 => if x4 < (x0.length : Int) then (if 0 ≤ x4 then (if x4 < (x3.length : Int) then (laws_toFloat32S.l0 k x0 (x3.set (x4 : Int).toNat (rdOf (0 : Nat) x0 x4)) (wrap64 (x4 + 1))) else (none)) else (none)) else (some x3)
def laws_toFloat32S.f (k : Nat) (l0 : List Nat) : Option (List Nat) := if 0 ≤ (l0.length : Int) then (if ((l0.length : Int) : Int).toNat ≤ 70368744177664 then (laws_toFloat32S.l0 k l0 (List.replicate ((l0.length : Int) : Int).toNat 0) 0) else (none)) else (none)
theorem laws_toFloat32S.mono_l : ∀ k, (∀ y0 y1 y2, LeO (laws_toFloat32S.l0 k y0 y1 y2) (laws_toFloat32S.l0 (k + 1) y0 y1 y2))
 | 0 => fun _ _ _ r h => by simp [laws_toFloat32S.l0] at h
 | k + 1 => by
  have ih0 := laws_toFloat32S.mono_l k
  ·intro y0 y1 y2
   unfold laws_toFloat32S.l0
   repeat' first
   | (with_reducible exact ih0 _ _ _)
   | (with_reducible exact LeO.refl _)
   | (with_reducible exact LeO.none _)
   | (with_reducible refine LeO.ite ?_ ?_)
   | (with_reducible refine LeO.bind ?_ (fun _ => ?_))
   | exact ih0 _ _ _
   | exact LeO.none _
   | refine LeO.ite ?_ ?_
   | refine LeO.bind ?_ (fun _ => ?_)
theorem laws_toFloat32S.mono : ∀ a0 k, LeO (laws_toFloat32S.f k a0) (laws_toFloat32S.f (k + 1) a0) := by
 intro a0 k
 have ih0 := laws_toFloat32S.mono_l k
 unfold laws_toFloat32S.f
 repeat' first
   | (with_reducible exact ih0 _ _ _)
   | (with_reducible exact LeO.refl _)
   | (with_reducible exact LeO.none _)
   | (with_reducible refine LeO.ite ?_ ?_)
   | (with_reducible refine LeO.bind ?_ (fun _ => ?_))
   | exact ih0 _ _ _
   | exact LeO.none _
   | refine LeO.ite ?_ ?_
   | refine LeO.bind ?_ (fun _ => ?_)
set_option maxHeartbeats 8000000 in
set_option maxRecDepth 100000 in
theorem laws_toFloat32S.calls (k : Nat) (A0 : Option Addr) (c0 : Nat) (l0 : List Nat) (r : List Nat) (w : World) (hr0 : Kd.C (Kd.float .f32) w A0 l0.length l0) (hc0 : l0.length ≤ c0) (h : laws_toFloat32S.f k l0 = some r) :
  Calls Try.prog 167 #[.slice A0 l0.length c0] w fun e w' => ∃ v0_ : Value, e = .returned (v0_) ∧ Kd.R (Kd.float .f32) 36 w' w.heap.size (fun _ => True) v0_ r ∧ Below w.heap.size w w' := by
 have hu36 := Try.underlying36
 have HR0 := Aside0.mk hr0
 have HC0 := Aside0.mk hc0
 clear hr0 hc0
 have HB := Aside0.mk (Below.refl w.heap.size w)
 have H : (if 0 ≤ (l0.length : Int) then (if ((l0.length : Int) : Int).toNat ≤ 70368744177664 then (laws_toFloat32S.l0 k l0 (List.replicate ((l0.length : Int) : Int).toNat 0) 0) else (none)) else (none)) = some r := h
 clear h
 by_cases c2 : 0 ≤ (l0.length : Int)
 ·rw [if_pos c2] at H
  have c2b0 := eq_true c2
  have c2b1 : decide (0 ≤ (l0.length : Int)) = true := decide_eq_true c2
  clear c2
  by_cases c3 : ((l0.length : Int) : Int).toNat ≤ 70368744177664
  ·rw [if_pos c3] at H
   have c3b0 := eq_true c3
   have c3b1 : decide (((l0.length : Int) : Int).toNat ≤ 70368744177664) = true := decide_eq_true c3
   clear c3
   obtain ⟨y173, hy173⟩ : ∃ y_ : List Nat, y_ = (List.replicate ((l0.length : Int) : Int).toNat 0) := ⟨_, rfl⟩
   replace H : (laws_toFloat32S.l0 k l0 y173 0) = some r := by first | (rw [hy173]; with_reducible exact H) | (have H2_ := (Option.bind_some _ _).symm.trans H; rw [hy173]; with_reducible exact H2_) | (have H2_ := (Option.bind_some _ _).symm.trans H; with_reducible exact H2_) | with_reducible exact H | (rw [hy173]; exact H) | exact H
   have Ny173 := Aside0.mk hy173
   clear hy173
   have H' := Aside0.mk H
   clear H
   go_enter Try.func167, Try.ntmps167
   go_wp2_with (first | ((with_reducible refine gate_dst (N := 7) rfl ?_); refine Kd.R_make (Kd.float .f32) _ 36 rfl (N := 7) rfl 26 _ _ rfl (l0.length : Int) rfl rfl Try.underlying26 (.float .f32 0) 4 info36 rfl (by decide) (by omega) 0 (ok := fun _ => True) (okp := fun _ => True) rfl (fun _ hk => hk) trivial (of_decide_eq_true (by first | (with_reducible assumption) | assumption)) (Nat.le_trans (Nat.mul_le_mul_right _ (of_decide_eq_true (by first | (with_reducible assumption) | assumption) : (l0.length : Int).toNat ≤ 70368744177664)) (by omega)) (Below.refl _ _) (Nat.le_refl _) ?_; intro v174 w4 ho5 hb hg_ hnew_; clear hg_ hnew_; (first | rw [← Ny173.out] at ho5 | (simp only [Int.reduceToNat] at ho5; rw [← Ny173.out] at ho5)); have n0_ := Aside0.mk (Kd.R_lower ho5 (below_size (by repeat (first | (with_reducible first | exact HB.out | apply below_alloc | apply pw_below_drewN | apply below_drew1) | exact HB.out)))); have n1_ := Aside0.mk (below_step (by repeat (first | (with_reducible first | exact HB.out | apply below_alloc | apply pw_below_drewN | apply below_drew1) | exact HB.out)) hb); clear HB; have HO175 := n0_; have HB := n1_; clear n0_ n1_; clear hb ho5))
   go_loopg [4] k (fun kq v4 w' => ∃ (x3_1 : List Nat) (x4_1 : Int), v4 = .int .i64 x4_1 ∧ Aside0 (laws_toFloat32S.l0 kq l0 x3_1 x4_1 = some r) ∧ Aside0 (kq ≤ k) ∧ Aside0 (Kd.R (Kd.float .f32) 36 w' w.heap.size (fun _ => True) v174 x3_1) ∧ Aside0 (Below w.heap.size w w'))
   case atStart => exact ⟨(y173), (0), (by first | rfl | (simp; done) | (simp [*]; done)), H', ⟨Nat.le_refl _⟩, ⟨by (with_reducible repeat (first | apply Kd.R_alloc | apply Kd.R_drewN | apply Kd.R_drew)); exact HO175.out⟩, ⟨by repeat (first | (with_reducible first | exact HB.out | apply below_alloc | apply pw_below_drewN | apply below_drew1) | exact HB.out)⟩⟩
   case round =>
    clear H'
    try clear c1
    try clear c2
    try clear c2b0
    try clear c2b1
    try clear p2
    try clear c3
    try clear c3b0
    try clear c3b1
    obtain ⟨x3_1, x4_1, rfl, HA, HK1, HO_3, HB⟩ := hrel
    cases gk with
    | zero => exact absurd HA.out (by simp [laws_toFloat32S.l0])
    | succ k1 =>
     have H := HA.out
     clear HA
     simp only [laws_toFloat32S.l0] at H
     by_cases c6 : x4_1 < (l0.length : Int)
     ·rw [if_pos c6] at H
      have c6b0 : decide (x4_1 < (l0.length : Int)) = true := decide_eq_true c6
      clear c6
      by_cases c7 : 0 ≤ x4_1
      ·rw [if_pos c7] at H
       have c7b0 : decide (0 ≤ x4_1) = true := decide_eq_true c7
       clear c7
       by_cases c8 : x4_1 < (x3_1.length : Int)
       ·rw [if_pos c8] at H
        have c8b0 : decide (x4_1 < (x3_1.length : Int)) = true := decide_eq_true c8
        clear c8
        obtain ⟨y177, hy177⟩ : ∃ y_ : List Nat, y_ = (x3_1.set (x4_1 : Int).toNat (rdOf (0 : Nat) l0 x4_1)) := ⟨_, rfl⟩
        replace H : (laws_toFloat32S.l0 k1 l0 y177 (wrap64 (x4_1 + 1))) = some r := by first | (rw [hy177]; with_reducible exact H) | (have H2_ := (Option.bind_some _ _).symm.trans H; rw [hy177]; with_reducible exact H2_) | (have H2_ := (Option.bind_some _ _).symm.trans H; with_reducible exact H2_) | with_reducible exact H | (rw [hy177]; exact H) | exact H
        have Ny177 := Aside0.mk hy177
        clear hy177
        have H' := Aside0.mk H
        clear H
        have p176 : 0 ≤ (x4_1 : Int) := of_decide_eq_true (by first | (with_reducible assumption) | assumption)
        have q176 : x4_1 < (l0.length : Int) := of_decide_eq_true (by first | (with_reducible assumption) | assumption)
        obtain ⟨ad176, e176, hx176_0⟩ := Kd.at_float HR0.out x4_1 p176 q176
        cases e176
        replace hx176_0 := (HB.out.cell (World.block_lt_of_cell? w _ hx176_0)).trans hx176_0
        replace p176 := eq_true p176
        replace q176 := eq_true q176
        have p9 : 0 ≤ (x4_1 : Int) := of_decide_eq_true (by first | (with_reducible assumption) | assumption)
        have q9 : (x4_1 : Int) < ((x3_1.length : Int) : Int) := of_decide_eq_true (by first | (with_reducible assumption) | assumption)
        obtain ⟨go9, co9, eo9, gb9, gl9, cl9, HG9⟩ := Kd.R_form HO_3.out (by omega)
        (first | cases eo9 | (injection eo9 with ea_ en_ ec_; (first | subst ea_ | (injection ea_ with ea_; subst ea_)); subst ec_; clear en_))
        have GB9 := Aside0.mk gb9
        have GG9 := Aside0.mk HG9
        clear gb9 gl9 HG9
        obtain ⟨hx9_0, hf9_0⟩ := Kd.R_celln 0 HO_3.out (x4_1 : Int) p9 q9
        replace p9 := eq_true p9
        replace q9 := eq_true q9
        have HP10 := Kd.R_putg HO_3.out (x4_1 : Int) (rdOf (0 : Nat) l0 x4_1)
        go_wp2_with (first | ((with_reducible refine gate_store (t := 36) (p := 20) rfl ?_); refine store_event (t := 36) (p := 20) (v := ?vo_w11) (w1 := (wr.setCell ⟨go9, (x4_1 : Int).toNat, none⟩ (.float .f32 (rdOf (0 : Nat) l0 x4_1)))) ?hg ?ho ?hn ?hr ?_; (case ho => rfl); (case hg => rfl); (case hn => rfl); (case hr => first | (go_simp; done) | (go_simp; rfl) | (simp (disch := omega) only [w64_id]; go_simp; done) | (go_simp; simp (disch := omega) only [w64_id]; done)); intro w11 hw; have hg : wr.grownBy w11 (some go9) := (by rw [hw]; exact HP10.2); have hp_ : Kd.R (Kd.float .f32) 36 w11 w.heap.size (fun _ => True) (.slice (some ⟨go9, 0, none⟩) x3_1.length co9) y177 := (by rw [hw, Ny177.out]; exact HP10.1); clear HP10; have n0_ := Aside0.mk (hp_); have n1_ := Aside0.mk ((by rw [hw]; exact below_set (HB.out) GB9.out : Below w.heap.size w w11)); clear HO_3; clear HB; have HO_3 := n0_; have HB := n1_; clear n0_ n1_; clear hg hw hp_))
        go_roundg k1
        case measure => have := HK1.out; omega
        case rel => exact ⟨(y177), (wrap64 (x4_1 + 1)), (by first | rfl | (simp; done) | (simp [*]; done)), H', ⟨by have := HK1.out; omega⟩, ⟨by (with_reducible repeat (first | apply Kd.R_alloc | apply Kd.R_drewN | apply Kd.R_drew)); exact HO_3.out⟩, ⟨by repeat (first | (with_reducible first | exact HB.out | apply below_alloc | apply pw_below_drewN | apply below_drew1) | exact HB.out)⟩⟩
       ·rw [if_neg c8] at H
        exact absurd H (by simp)
      ·rw [if_neg c7] at H
       exact absurd H (by simp)
     ·rw [if_neg c6] at H
      have c6b0 : decide (x4_1 < (l0.length : Int)) = false := decide_eq_false c6
      clear c6
      obtain rfl := Option.some.inj H
      go_wp2
      go_ret
      exact ⟨_, by first | rfl | (simp [errW_none, errW_some] <;> rfl) | (simp [*, errW_none, errW_some] <;> rfl), by (with_reducible repeat (first | apply Kd.R_alloc | apply Kd.R_drewN | apply Kd.R_drew)); exact HO_3.out, by repeat (first | (with_reducible first | exact HB.out | apply below_alloc | apply pw_below_drewN | apply below_drew1) | exact HB.out)⟩
  ·rw [if_neg c3] at H
   exact absurd H (by simp)
 ·rw [if_neg c2] at H
  exact absurd H (by simp)
end Go.Proofs.Ytoiaojdkgagblaa.PFnExactSameDesk
