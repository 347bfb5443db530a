/- Printed by a program of this session (the kit's print, with contracts of this session's own): what functions come to, and that their code comes to it. -/
import Derived.Test.YtoiaojdkgagblaaPFnExactRecoverBlocksx0
import Derived.Test.YtoiaojdkgagblaaPFnExactRecoverBlocksx4
namespace Go.Proofs.Ytoiaojdkgagblaa.PFnExactRecoverBlocks
open Go.RowKit Go.Proofs.YtoiaojdkgagblaaW.PrintWords Go.Proofs.YtoiaojdkgagblaaW.PrintLast Go.Proofs.YtoiaojdkgagblaaW.PrintMore
open Go.Proofs.YtoiaojdkgagblaaW.PrintFl
attribute [local go_sem high] binOp_feq binOp_fne binOp_fls binOp_fle binOp_fgr binOp_fge binOp_sle binOp_sgt
attribute [local go_sem] run_fopr run_fconv run_fint run_stf run_stc ext_f32bits ext_f64bits ext_f32frombits 
attribute [local go_sem] max2_int min2_int max_two min_two max_three min_three max_four min_four   -- for this text's walks alone
set_option linter.unusedVariables false
set_option linter.unusedSimpArgs false

/-! ### spec_l07Store: function 71 -/
def spec_l07Store.f (k : Nat) (l0 : List (S28)) : Option (ByteArray) := if 0 < (l0.length : Int) then ((spec_l07Pack.f k ((rd_T28 l0 0).f1)).bind fun t176 => ((some (([(Int.tmod ((rd_T28 l0 0).f0) 256) % 256, (Int.tmod (wrap64 (Int.tdiv ((rd_T28 l0 0).f0) 256)) 256) % 256, (Int.tmod (wrap64 (Int.tdiv ((rd_T28 l0 0).f0) 65536)) 256) % 256, (wrap64 (Int.tdiv ((rd_T28 l0 0).f0) 16777216)) % 256, (t176.size : Int) % 256, (wrap64 ((t176.size : Int) / 256)) % 256] : List Int) : List Int)).bind fun y177 => (if 4 + (strOfNums y177).size ≤ 9223372036854775807 then (if ((⟨#[86, 79, 88, 49]⟩ : ByteArray) ++ (strOfNums y177)).size + t176.size ≤ 9223372036854775807 then ((spec_l01Check.f k 0 (((⟨#[86, 79, 88, 49]⟩ : ByteArray) ++ (strOfNums y177)) ++ t176)).bind fun t180 => ((some (([(Int.tmod t180 256) % 256, (wrap64 (Int.tdiv t180 256)) % 256] : List Int) : List Int)).bind fun y181 => (if (((⟨#[86, 79, 88, 49]⟩ : ByteArray) ++ (strOfNums y177)) ++ t176).size + (strOfNums y181).size ≤ 9223372036854775807 then (some ((((⟨#[86, 79, 88, 49]⟩ : ByteArray) ++ (strOfNums y177)) ++ t176) ++ (strOfNums y181))) else (none)))) else (none)) else (none)))) else (none)
theorem spec_l07Store.mono : ∀ a0 k, LeO (spec_l07Store.f k a0) (spec_l07Store.f (k + 1) a0) := by
 intro a0 k
 unfold spec_l07Store.f
 repeat' first
   | (with_reducible exact spec_l01Check.mono _ _ _)
   | (with_reducible exact spec_l07Pack.mono _ _)
   | (with_reducible exact LeO.refl _)
   | (with_reducible exact LeO.none _)
   | (with_reducible refine LeO.ite ?_ ?_)
   | (with_reducible refine LeO.bind ?_ (fun _ => ?_))
   | exact spec_l01Check.mono _ _ _
   | exact spec_l07Pack.mono _ _
   | exact LeO.none _
   | refine LeO.ite ?_ ?_
   | refine LeO.bind ?_ (fun _ => ?_)
set_option maxHeartbeats 8000000 in
set_option maxRecDepth 100000 in
theorem spec_l07Store.calls (k : Nat) (A0 : Option Addr) (l0 : List (S28)) (r : ByteArray) (w : World) (hr0 : Kd.C k28 w A0 l0.length l0) (h : spec_l07Store.f k l0 = some r) :
  Calls Try.prog 71 #[.pointer A0] w fun e w' => e = .returned (.string r) ∧ Below w.heap.size w w' := by
 have hu2 := Try.underlying2
 have hu26 := Try.underlying26
 have HR0 := Aside0.mk hr0
 clear hr0
 have HB := Aside0.mk (Below.refl w.heap.size w)
 have H : (if 0 < (l0.length : Int) then ((spec_l07Pack.f k ((rd_T28 l0 0).f1)).bind fun t176 => ((some (([(Int.tmod ((rd_T28 l0 0).f0) 256) % 256, (Int.tmod (wrap64 (Int.tdiv ((rd_T28 l0 0).f0) 256)) 256) % 256, (Int.tmod (wrap64 (Int.tdiv ((rd_T28 l0 0).f0) 65536)) 256) % 256, (wrap64 (Int.tdiv ((rd_T28 l0 0).f0) 16777216)) % 256, (t176.size : Int) % 256, (wrap64 ((t176.size : Int) / 256)) % 256] : List Int) : List Int)).bind fun y177 => (if 4 + (strOfNums y177).size ≤ 9223372036854775807 then (if ((⟨#[86, 79, 88, 49]⟩ : ByteArray) ++ (strOfNums y177)).size + t176.size ≤ 9223372036854775807 then ((spec_l01Check.f k 0 (((⟨#[86, 79, 88, 49]⟩ : ByteArray) ++ (strOfNums y177)) ++ t176)).bind fun t180 => ((some (([(Int.tmod t180 256) % 256, (wrap64 (Int.tdiv t180 256)) % 256] : List Int) : List Int)).bind fun y181 => (if (((⟨#[86, 79, 88, 49]⟩ : ByteArray) ++ (strOfNums y177)) ++ t176).size + (strOfNums y181).size ≤ 9223372036854775807 then (some ((((⟨#[86, 79, 88, 49]⟩ : ByteArray) ++ (strOfNums y177)) ++ t176) ++ (strOfNums y181))) else (none)))) else (none)) else (none)))) else (none)) = some r := h
 clear h
 by_cases c2 : 0 < (l0.length : Int)
 ·rw [if_pos c2] at H
  have c2b0 : decide (0 < (l0.length : Int)) = true := decide_eq_true c2
  have c2b1 : decide (0 < l0.length) = true := decide_eq_true (by omega)
  clear c2
  replace H := Option.bind_eq_some_iff.mp H
  obtain ⟨t176, A30, H⟩ := H
  replace H : ((some (([(Int.tmod ((rd_T28 l0 0).f0) 256) % 256, (Int.tmod (wrap64 (Int.tdiv ((rd_T28 l0 0).f0) 256)) 256) % 256, (Int.tmod (wrap64 (Int.tdiv ((rd_T28 l0 0).f0) 65536)) 256) % 256, (wrap64 (Int.tdiv ((rd_T28 l0 0).f0) 16777216)) % 256, (t176.size : Int) % 256, (wrap64 ((t176.size : Int) / 256)) % 256] : List Int) : List Int)).bind fun y177 => (if 4 + (strOfNums y177).size ≤ 9223372036854775807 then (if ((⟨#[86, 79, 88, 49]⟩ : ByteArray) ++ (strOfNums y177)).size + t176.size ≤ 9223372036854775807 then ((spec_l01Check.f k 0 (((⟨#[86, 79, 88, 49]⟩ : ByteArray) ++ (strOfNums y177)) ++ t176)).bind fun t180 => ((some (([(Int.tmod t180 256) % 256, (wrap64 (Int.tdiv t180 256)) % 256] : List Int) : List Int)).bind fun y181 => (if (((⟨#[86, 79, 88, 49]⟩ : ByteArray) ++ (strOfNums y177)) ++ t176).size + (strOfNums y181).size ≤ 9223372036854775807 then (some ((((⟨#[86, 79, 88, 49]⟩ : ByteArray) ++ (strOfNums y177)) ++ t176) ++ (strOfNums y181))) else (none)))) else (none)) else (none))) = some r := H
  have A3 := Aside0.mk A30
  clear A30
  obtain ⟨y177, hy177⟩ : ∃ y_ : List Int, y_ = (([(Int.tmod ((rd_T28 l0 0).f0) 256) % 256, (Int.tmod (wrap64 (Int.tdiv ((rd_T28 l0 0).f0) 256)) 256) % 256, (Int.tmod (wrap64 (Int.tdiv ((rd_T28 l0 0).f0) 65536)) 256) % 256, (wrap64 (Int.tdiv ((rd_T28 l0 0).f0) 16777216)) % 256, (t176.size : Int) % 256, (wrap64 ((t176.size : Int) / 256)) % 256] : List Int)) := ⟨_, rfl⟩
  replace H : (if 4 + (strOfNums y177).size ≤ 9223372036854775807 then (if ((⟨#[86, 79, 88, 49]⟩ : ByteArray) ++ (strOfNums y177)).size + t176.size ≤ 9223372036854775807 then ((spec_l01Check.f k 0 (((⟨#[86, 79, 88, 49]⟩ : ByteArray) ++ (strOfNums y177)) ++ t176)).bind fun t180 => ((some (([(Int.tmod t180 256) % 256, (wrap64 (Int.tdiv t180 256)) % 256] : List Int) : List Int)).bind fun y181 => (if (((⟨#[86, 79, 88, 49]⟩ : ByteArray) ++ (strOfNums y177)) ++ t176).size + (strOfNums y181).size ≤ 9223372036854775807 then (some ((((⟨#[86, 79, 88, 49]⟩ : ByteArray) ++ (strOfNums y177)) ++ t176) ++ (strOfNums y181))) else (none)))) else (none)) else (none)) = some r := by first | (rw [hy177]; with_reducible exact H) | (have H2_ := (Option.bind_some _ _).symm.trans H; rw [hy177]; with_reducible exact H2_) | (have H2_ := (Option.bind_some _ _).symm.trans H; with_reducible exact H2_) | with_reducible exact H | (rw [hy177]; exact H) | exact H
  have Ny177 := Aside0.mk hy177
  clear hy177
  by_cases c4 : 4 + (strOfNums y177).size ≤ 9223372036854775807
  ·rw [if_pos c4] at H
   have c4b0 := eq_true c4
   have c4b1 : decide (4 + (strOfNums y177).size ≤ 9223372036854775807) = true := decide_eq_true c4
   try have c4b2 : (9223372036854775807 < 4 + (strOfNums y177).size) = False := eq_false (Nat.not_lt.2 c4)
   by_cases c5 : ((⟨#[86, 79, 88, 49]⟩ : ByteArray) ++ (strOfNums y177)).size + t176.size ≤ 9223372036854775807
   ·rw [if_pos c5] at H
    have c5b0 := eq_true c5
    have c5b1 : decide (((⟨#[86, 79, 88, 49]⟩ : ByteArray) ++ (strOfNums y177)).size + t176.size ≤ 9223372036854775807) = true := decide_eq_true c5
    try have c5b2 : (9223372036854775807 < ((⟨#[86, 79, 88, 49]⟩ : ByteArray) ++ (strOfNums y177)).size + t176.size) = False := eq_false (Nat.not_lt.2 c5)
    try have c5b3 : (9223372036854775807 < (4 + (strOfNums y177).size) + t176.size) = False := eq_false (Nat.not_lt.2 (by have h_ := c5; (repeat rw [ByteArray.size_append] at h_); exact h_))
    replace H := Option.bind_eq_some_iff.mp H
    obtain ⟨t180, A60, H⟩ := H
    replace H : ((some (([(Int.tmod t180 256) % 256, (wrap64 (Int.tdiv t180 256)) % 256] : List Int) : List Int)).bind fun y181 => (if (((⟨#[86, 79, 88, 49]⟩ : ByteArray) ++ (strOfNums y177)) ++ t176).size + (strOfNums y181).size ≤ 9223372036854775807 then (some ((((⟨#[86, 79, 88, 49]⟩ : ByteArray) ++ (strOfNums y177)) ++ t176) ++ (strOfNums y181))) else (none))) = some r := H
    have A6 := Aside0.mk A60
    clear A60
    obtain ⟨y181, hy181⟩ : ∃ y_ : List Int, y_ = (([(Int.tmod t180 256) % 256, (wrap64 (Int.tdiv t180 256)) % 256] : List Int)) := ⟨_, rfl⟩
    replace H : (if (((⟨#[86, 79, 88, 49]⟩ : ByteArray) ++ (strOfNums y177)) ++ t176).size + (strOfNums y181).size ≤ 9223372036854775807 then (some ((((⟨#[86, 79, 88, 49]⟩ : ByteArray) ++ (strOfNums y177)) ++ t176) ++ (strOfNums y181))) else (none)) = some r := by first | (rw [hy181]; with_reducible exact H) | (have H2_ := (Option.bind_some _ _).symm.trans H; rw [hy181]; with_reducible exact H2_) | (have H2_ := (Option.bind_some _ _).symm.trans H; with_reducible exact H2_) | with_reducible exact H | (rw [hy181]; exact H) | exact H
    have Ny181 := Aside0.mk hy181
    clear hy181
    by_cases c7 : (((⟨#[86, 79, 88, 49]⟩ : ByteArray) ++ (strOfNums y177)) ++ t176).size + (strOfNums y181).size ≤ 9223372036854775807
    ·rw [if_pos c7] at H
     have c7b0 := eq_true c7
     have c7b1 : decide ((((⟨#[86, 79, 88, 49]⟩ : ByteArray) ++ (strOfNums y177)) ++ t176).size + (strOfNums y181).size ≤ 9223372036854775807) = true := decide_eq_true c7
     try have c7b2 : (9223372036854775807 < (((⟨#[86, 79, 88, 49]⟩ : ByteArray) ++ (strOfNums y177)) ++ t176).size + (strOfNums y181).size) = False := eq_false (Nat.not_lt.2 c7)
     try have c7b3 : (9223372036854775807 < ((4 + (strOfNums y177).size) + t176.size) + (strOfNums y181).size) = False := eq_false (Nat.not_lt.2 (by have h_ := c7; (repeat rw [ByteArray.size_append] at h_); exact h_))
     obtain rfl := Option.some.inj H
     have p172 : 0 ≤ (0 : Int) := (by omega)
     have q172 : 0 < (l0.length : Int) := of_decide_eq_true (by first | (with_reducible assumption) | assumption)
     obtain ⟨ad172, A172_1, c172_1, e172, hx172_0, hx172_1, hl172_1, hi172_1⟩ := at_T28 HR0.out 0 p172 q172
     cases e172
     have qi172 : (0 < l0.length) = True := eq_true (by omega)
     (try rw [show ((0 : Int)).toNat = 0 from rfl] at hx172_0)
     (try rw [show 0 * 2 = 0 from rfl] at hx172_0)
     (try rw [Addr.add_zero'] at hx172_0)
     (try rw [show ((0 : Int)).toNat = 0 from rfl] at hx172_1)
     (try rw [show 0 * 2 = 0 from rfl] at hx172_1)
     (try rw [Addr.add_zero'] at hx172_1)
     have HR172_1 := Aside0.mk hi172_1
     have HC172_1 := Aside0.mk hl172_1
     clear hi172_1 hl172_1
     replace p172 := eq_true p172
     replace q172 := eq_true q172
     have p173 : 0 ≤ (0 : Int) := (by omega)
     have q173 : 0 < (l0.length : Int) := of_decide_eq_true (by first | (with_reducible assumption) | assumption)
     obtain ⟨ad173, A173_1, c173_1, e173, hx173_0, hx173_1, hl173_1, hi173_1⟩ := at_T28 HR0.out 0 p173 q173
     obtain rfl : ad172 = ad173 := (by injection e173)
     have qi173 : (0 < l0.length) = True := eq_true (by omega)
     (try rw [show ((0 : Int)).toNat = 0 from rfl] at hx173_0)
     (try rw [show 0 * 2 = 0 from rfl] at hx173_0)
     (try rw [Addr.add_zero'] at hx173_0)
     (try rw [show ((0 : Int)).toNat = 0 from rfl] at hx173_1)
     (try rw [show 0 * 2 = 0 from rfl] at hx173_1)
     (try rw [Addr.add_zero'] at hx173_1)
     have HR173_1 := Aside0.mk hi173_1
     have HC173_1 := Aside0.mk hl173_1
     clear hi173_1 hl173_1
     replace p173 := eq_true p173
     replace q173 := eq_true q173
     have ea_ := Option.some.inj (hx172_1.symm.trans hx173_1)
     injection ea_ with ea_ en_ ec_
     subst ea_
     subst ec_
     clear en_
     have p174 : 0 ≤ (0 : Int) := (by omega)
     have q174 : 0 < (l0.length : Int) := of_decide_eq_true (by first | (with_reducible assumption) | assumption)
     obtain ⟨ad174, A174_1, c174_1, e174, hx174_0, hx174_1, hl174_1, hi174_1⟩ := at_T28 HR0.out 0 p174 q174
     obtain rfl : ad172 = ad174 := (by injection e174)
     have qi174 : (0 < l0.length) = True := eq_true (by omega)
     (try rw [show ((0 : Int)).toNat = 0 from rfl] at hx174_0)
     (try rw [show 0 * 2 = 0 from rfl] at hx174_0)
     (try rw [Addr.add_zero'] at hx174_0)
     (try rw [show ((0 : Int)).toNat = 0 from rfl] at hx174_1)
     (try rw [show 0 * 2 = 0 from rfl] at hx174_1)
     (try rw [Addr.add_zero'] at hx174_1)
     have HR174_1 := Aside0.mk hi174_1
     have HC174_1 := Aside0.mk hl174_1
     clear hi174_1 hl174_1
     replace p174 := eq_true p174
     replace q174 := eq_true q174
     have ea_ := Option.some.inj (hx172_1.symm.trans hx174_1)
     injection ea_ with ea_ en_ ec_
     subst ea_
     subst ec_
     clear en_
     have p175 : 0 ≤ (0 : Int) := (by omega)
     have q175 : 0 < (l0.length : Int) := of_decide_eq_true (by first | (with_reducible assumption) | assumption)
     obtain ⟨ad175, A175_1, c175_1, e175, hx175_0, hx175_1, hl175_1, hi175_1⟩ := at_T28 HR0.out 0 p175 q175
     obtain rfl : ad172 = ad175 := (by injection e175)
     have qi175 : (0 < l0.length) = True := eq_true (by omega)
     (try rw [show ((0 : Int)).toNat = 0 from rfl] at hx175_0)
     (try rw [show 0 * 2 = 0 from rfl] at hx175_0)
     (try rw [Addr.add_zero'] at hx175_0)
     (try rw [show ((0 : Int)).toNat = 0 from rfl] at hx175_1)
     (try rw [show 0 * 2 = 0 from rfl] at hx175_1)
     (try rw [Addr.add_zero'] at hx175_1)
     have HR175_1 := Aside0.mk hi175_1
     have HC175_1 := Aside0.mk hl175_1
     clear hi175_1 hl175_1
     replace p175 := eq_true p175
     replace q175 := eq_true q175
     have ea_ := Option.some.inj (hx172_1.symm.trans hx175_1)
     injection ea_ with ea_ en_ ec_
     subst ea_
     subst ec_
     clear en_
     go_enter Try.func71, Try.ntmps71
     go_wp2_with (first | ((with_reducible refine gate_callee (f := 143) rfl ?_); refine goesL_ (some 15) rfl rfl Try.func143 (by kernel_rfl) rfl #[.slice A172_1 ((rd_T28 l0 0).f1).length c172_1] rfl (by (try simp only [List.map_toArray, List.map_cons, List.map_nil]); first | done | rfl | (simp only [List.length_drop, List.length_take]; rfl)) ?_; (with_reducible refine (spec_l07Pack.calls k _ _ ((rd_T28 l0 0).f1) t176 _ ?side1 ?side2 A3.out).mono ?_); (case side1 => repeat (first | exact HR175_1.out | (with_reducible refine Kd.C_alloc ?_ _) | (with_reducible refine Kd.C_drewN ?_ _) | (with_reducible refine Kd.C_drew ?_))); (case side2 => exact HC175_1.out); rintro e w8 ⟨rfl, hb⟩; refine ⟨_, rfl, ?_⟩; have n0_ := Aside0.mk (below_step (by repeat (first | (with_reducible first | exact HB.out | apply below_alloc | apply pw_below_drewN | apply below_drew1) | exact HB.out)) hb); clear HB; have HB := n0_; clear n0_; (try clear hb); (try clear hb2); (try clear hk); (try clear hi)) | ((with_reducible refine gate_dst (N := 38) rfl ?_); refine Kd.R_lit (Kd.int .u8) _ 5 ?hg (N := 38) ?hd (xs := ([(Int.tmod ((rd_T28 l0 0).f0) 256) % 256, (Int.tmod (wrap64 (Int.tdiv ((rd_T28 l0 0).f0) 256)) 256) % 256, (Int.tmod (wrap64 (Int.tdiv ((rd_T28 l0 0).f0) 65536)) 256) % 256, (wrap64 (Int.tdiv ((rd_T28 l0 0).f0) 16777216)) % 256, (t176.size : Int) % 256, (wrap64 ((t176.size : Int) / 256)) % 256] : List Int)) (inner := [.int .u8 ((Int.tmod ((rd_T28 l0 0).f0) 256) % 256), .int .u8 ((Int.tmod (wrap64 (Int.tdiv ((rd_T28 l0 0).f0) 256)) 256) % 256), .int .u8 ((Int.tmod (wrap64 (Int.tdiv ((rd_T28 l0 0).f0) 65536)) 256) % 256), .int .u8 ((wrap64 (Int.tdiv ((rd_T28 l0 0).f0) 16777216)) % 256), .int .u8 ((t176.size : Int) % 256), .int .u8 ((wrap64 ((t176.size : Int) / 256)) % 256)]) (ok := fun _ => True) (okp := fun _ => True) ?hr ?hp (fun _ hk => hk) trivial (Below.refl _ _) (Nat.le_refl _) (by simp) ?_; (case hd => rfl); (case hg => rfl); (case hr => first | (go_simp; done) | (go_simp; rfl) | (simp (disch := omega) only [w64_id]; go_simp; done) | (go_simp; simp (disch := omega) only [w64_id]; done)); (case hp => exact (Reps.one (show Kd.M (Kd.int .u8) _ _ _ ((Int.tmod ((rd_T28 l0 0).f0) 256) % 256) [.int .u8 ((Int.tmod ((rd_T28 l0 0).f0) 256) % 256)] from rfl) (Reps.one (show Kd.M (Kd.int .u8) _ _ _ ((Int.tmod (wrap64 (Int.tdiv ((rd_T28 l0 0).f0) 256)) 256) % 256) [.int .u8 ((Int.tmod (wrap64 (Int.tdiv ((rd_T28 l0 0).f0) 256)) 256) % 256)] from rfl) (Reps.one (show Kd.M (Kd.int .u8) _ _ _ ((Int.tmod (wrap64 (Int.tdiv ((rd_T28 l0 0).f0) 65536)) 256) % 256) [.int .u8 ((Int.tmod (wrap64 (Int.tdiv ((rd_T28 l0 0).f0) 65536)) 256) % 256)] from rfl) (Reps.one (show Kd.M (Kd.int .u8) _ _ _ ((wrap64 (Int.tdiv ((rd_T28 l0 0).f0) 16777216)) % 256) [.int .u8 ((wrap64 (Int.tdiv ((rd_T28 l0 0).f0) 16777216)) % 256)] from rfl) (Reps.one (show Kd.M (Kd.int .u8) _ _ _ ((t176.size : Int) % 256) [.int .u8 ((t176.size : Int) % 256)] from rfl) (Reps.one (show Kd.M (Kd.int .u8) _ _ _ ((wrap64 ((t176.size : Int) / 256)) % 256) [.int .u8 ((wrap64 ((t176.size : Int) / 256)) % 256)] from rfl) (Reps.none _ _)))))))); intro v178 w9 ho10 hb hg_ hnew_; clear hg_ hnew_; (first | rw [← Ny177.out] at ho10 | (simp only [Int.reduceToNat] at ho10; rw [← Ny177.out] at ho10)); have n0_ := Aside0.mk (Kd.R_lower ho10 (below_size (by repeat (first | (with_reducible first | exact HB.out | apply below_alloc | apply pw_below_drewN | apply below_drew1) | exact HB.out)))); have n1_ := Aside0.mk (below_step (by repeat (first | (with_reducible first | exact HB.out | apply below_alloc | apply pw_below_drewN | apply below_drew1) | exact HB.out)) hb); clear HB; have HO179 := n0_; have HB := n1_; clear n0_ n1_; clear hb ho10; have hcv11 := own_string (P := Try.prog) Try.underlying34 Try.underlying5 Try.underlying9 (Kd.own_of_R HO179.out)) | ((with_reducible refine gate_callee (f := 144) rfl ?_); refine goesL_ (some 44) rfl rfl Try.func144 (by kernel_rfl) rfl #[.int .i64 0, .string (((⟨#[86, 79, 88, 49]⟩ : ByteArray) ++ (strOfNums y177)) ++ t176)] rfl (by (try simp only [List.map_toArray, List.map_cons, List.map_nil]); first | done | rfl | (simp only [List.length_drop, List.length_take]; rfl)) ?_; (with_reducible refine (spec_l01Check.calls k 0 (((⟨#[86, 79, 88, 49]⟩ : ByteArray) ++ (strOfNums y177)) ++ t176) t180 _ A6.out).mono ?_); rintro e w' ⟨rfl, ⟨nd, rfl⟩⟩; refine ⟨_, rfl, ?_⟩) | ((with_reducible refine gate_dst (N := 52) rfl ?_); refine Kd.R_lit (Kd.int .u8) _ 5 ?hg (N := 52) ?hd (xs := ([(Int.tmod t180 256) % 256, (wrap64 (Int.tdiv t180 256)) % 256] : List Int)) (inner := [.int .u8 ((Int.tmod t180 256) % 256), .int .u8 ((wrap64 (Int.tdiv t180 256)) % 256)]) (ok := fun _ => True) (okp := fun _ => True) ?hr ?hp (fun _ hk => hk) trivial (Below.refl _ _) (Nat.le_refl _) (by simp) ?_; (case hd => rfl); (case hg => rfl); (case hr => first | (go_simp; done) | (go_simp; rfl) | (simp (disch := omega) only [w64_id]; go_simp; done) | (go_simp; simp (disch := omega) only [w64_id]; done)); (case hp => exact (Reps.one (show Kd.M (Kd.int .u8) _ _ _ ((Int.tmod t180 256) % 256) [.int .u8 ((Int.tmod t180 256) % 256)] from rfl) (Reps.one (show Kd.M (Kd.int .u8) _ _ _ ((wrap64 (Int.tdiv t180 256)) % 256) [.int .u8 ((wrap64 (Int.tdiv t180 256)) % 256)] from rfl) (Reps.none _ _)))); intro v182 w12 ho13 hb hg_ hnew_; clear hg_ hnew_; (first | rw [← Ny181.out] at ho13 | (simp only [Int.reduceToNat] at ho13; rw [← Ny181.out] at ho13)); have n0_ := Aside0.mk (Kd.R_elder' (by (with_reducible repeat (first | apply Kd.R_alloc | apply Kd.R_drewN | apply Kd.R_drew)); exact HO179.out) (Kd.R_base ho13) hb); have n1_ := Aside0.mk (Kd.R_lower (Kd.R_new' ho13 (Kd.R_lt (by (with_reducible repeat (first | apply Kd.R_alloc | apply Kd.R_drewN | apply Kd.R_drew)); exact HO179.out))) (below_size (by repeat (first | (with_reducible first | exact HB.out | apply below_alloc | apply pw_below_drewN | apply below_drew1) | exact HB.out)))); have n2_ := Aside0.mk (below_step (by repeat (first | (with_reducible first | exact HB.out | apply below_alloc | apply pw_below_drewN | apply below_drew1) | exact HB.out)) hb); clear HO179; clear HB; have HO179 := n0_; have HO183 := n1_; have HB := n2_; clear n0_ n1_ n2_; clear hb ho13; have hcv14 := own_string (P := Try.prog) Try.underlying34 Try.underlying5 Try.underlying9 (Kd.own_of_R HO183.out)))
     go_ret
     exact ⟨by first | rfl | (simp [errW_none, errW_some] <;> rfl) | (simp [*, errW_none, errW_some] <;> rfl), by repeat (first | (with_reducible first | exact HB.out | apply below_alloc | apply pw_below_drewN | apply below_drew1) | exact HB.out)⟩
    ·rw [if_neg c7] at H
     exact absurd H (by simp)
   ·rw [if_neg c5] at H
    exact absurd H (by simp)
  ·rw [if_neg c4] at H
   exact absurd H (by simp)
 ·rw [if_neg c2] at H
  exact absurd H (by simp)

/-! ### spec_l01From: function 192 -/
def spec_l01From.f (a0 : Int) : Option (Nat) := some (((a0) % 4294967296 : Int).toNat)
set_option maxHeartbeats 8000000 in
set_option maxRecDepth 100000 in
theorem spec_l01From.calls (a0 : Int) (r : Nat) (w : World) (h : spec_l01From.f a0 = some r) :
    Calls Try.prog 192 #[.int .i64 a0] w fun e w' => e = .returned (.float .f32 r) ∧ Drawn0 w w' := by
  have H : (some (((a0) % 4294967296 : Int).toNat)) = some r := h
  clear h
  obtain rfl := Option.some.inj H
  go_enter Try.func192, Try.ntmps192
  go_wp2
  go_ret
  exact ⟨by first | rfl | (simp; done) | (simp [*]; done), by repeat (first | exact Drawn0.refl _ | apply Drawn0.step)⟩

/-! ### spec_l07Unpack: function 164 -/
mutual
def spec_l07Unpack.l0 : Nat → ByteArray → List Nat → Int → Int → Option (List Nat × Bool)
 | 0, _, _, _, _ => none
 | k + 1, x0, x4, x5, x6 => if x6 < (x0.size : Int) then (spec_l07Unpack.l1 k x0 x4 x5 x6 0 1) else ((spec_l07Values.f x4).bind fun t195 => (if t195 = true then ((spec_l07Pack.f k x4).bind fun t196 => (if t196.toList = x0.toList then (some (x4, true)) else (some (([] : List Nat), false)))) else (some (([] : List Nat), false))))
def spec_l07Unpack.j2 : Nat → ByteArray → List Nat → Int → Int → Int → Int → Option (List Nat × Bool)
 | 0, _, _, _, _, _, _ => none
 | k + 1, x0, x4, x5, x6, x7, x8 => if x6 = (x0.size : Int) then (spec_l07Unpack.j3 k x0 x4 x5 x6 x7 x8 true) else (if 0 ≤ x6 then (if x6 < (x0.size : Int) then (spec_l07Unpack.j3 k x0 x4 x5 x6 x7 x8 (decide ((bt x0 x6) ≥ 128))) else (none)) else (none))
def spec_l07Unpack.j3 : Nat → ByteArray → List Nat → Int → Int → Int → Int → Bool → Option (List Nat × Bool)
 | 0, _, _, _, _, _, _, _ => none
 | k + 1, x0, x4, x5, x6, x7, x8, x51 => if x51 = true then (some (([] : List Nat), false)) else (if 0 ≤ x6 then (if x6 < (x0.size : Int) then (if (Int.tmod (wrap64 (x7 + (wrap64 ((wrap64 (bt x0 x6)) * x8)))) 2) = 1 then ((spec_l01From.f (Int.tmod (wrap64 ((Int.tmod (wrap64 (x5 + (wrap64 (Int.tdiv (wrap64 (-(wrap64 ((wrap64 (x7 + (wrap64 ((wrap64 (bt x0 x6)) * x8)))) + 1)))) 2)))) 4294967296) + 4294967296)) 4294967296)).bind fun t187 => (if x4.length < 35184372088832 then ((some (x4 ++ [t187] : List Nat)).bind fun y188 => (if (y188.length : Int) > 256 then (some (([] : List Nat), false)) else (spec_l07Unpack.l0 k x0 y188 (Int.tmod (wrap64 ((Int.tmod (wrap64 (x5 + (wrap64 (Int.tdiv (wrap64 (-(wrap64 ((wrap64 (x7 + (wrap64 ((wrap64 (bt x0 x6)) * x8)))) + 1)))) 2)))) 4294967296) + 4294967296)) 4294967296) (wrap64 (x6 + 1))))) else (none))) else ((spec_l01From.f (Int.tmod (wrap64 ((Int.tmod (wrap64 (x5 + (wrap64 (Int.tdiv (wrap64 (x7 + (wrap64 ((wrap64 (bt x0 x6)) * x8)))) 2)))) 4294967296) + 4294967296)) 4294967296)).bind fun t191 => (if x4.length < 35184372088832 then ((some (x4 ++ [t191] : List Nat)).bind fun y192 => (if (y192.length : Int) > 256 then (some (([] : List Nat), false)) else (spec_l07Unpack.l0 k x0 y192 (Int.tmod (wrap64 ((Int.tmod (wrap64 (x5 + (wrap64 (Int.tdiv (wrap64 (x7 + (wrap64 ((wrap64 (bt x0 x6)) * x8)))) 2)))) 4294967296) + 4294967296)) 4294967296) (wrap64 (x6 + 1))))) else (none)))) else (none)) else (none))
def spec_l07Unpack.l1 : Nat → ByteArray → List Nat → Int → Int → Int → Int → Option (List Nat × Bool)
 | 0, _, _, _, _, _, _ => none
 | k + 1, x0, x4, x5, x6, x7, x8 => if x6 < (x0.size : Int) then (if 0 ≤ x6 then (if (bt x0 x6) ≥ 128 then (if x8 < 268435456 then (spec_l07Unpack.l1 k x0 x4 x5 (wrap64 (x6 + 1)) (wrap64 (x7 + (wrap64 ((((bt x0 x6) - 128) % 256) * x8)))) (wrap64 (x8 * 128))) else (spec_l07Unpack.j2 k x0 x4 x5 x6 x7 x8)) else (spec_l07Unpack.j2 k x0 x4 x5 x6 x7 x8)) else (none)) else (spec_l07Unpack.j2 k x0 x4 x5 x6 x7 x8)
end
def spec_l07Unpack.f (k : Nat) (a0 : ByteArray) : Option (List Nat × Bool) := spec_l07Unpack.l0 k a0 (([] : List Nat)) 0 0
theorem spec_l07Unpack.mono_l : ∀ k, (∀ y0 y1 y2 y3, LeO (spec_l07Unpack.l0 k y0 y1 y2 y3) (spec_l07Unpack.l0 (k + 1) y0 y1 y2 y3)) ∧ (∀ y0 y1 y2 y3 y4 y5, LeO (spec_l07Unpack.j2 k y0 y1 y2 y3 y4 y5) (spec_l07Unpack.j2 (k + 1) y0 y1 y2 y3 y4 y5)) ∧ (∀ y0 y1 y2 y3 y4 y5 y6, LeO (spec_l07Unpack.j3 k y0 y1 y2 y3 y4 y5 y6) (spec_l07Unpack.j3 (k + 1) y0 y1 y2 y3 y4 y5 y6)) ∧ (∀ y0 y1 y2 y3 y4 y5, LeO (spec_l07Unpack.l1 k y0 y1 y2 y3 y4 y5) (spec_l07Unpack.l1 (k + 1) y0 y1 y2 y3 y4 y5))
 | 0 => ⟨fun _ _ _ _ r h => by simp [spec_l07Unpack.l0] at h, fun _ _ _ _ _ _ r h => by simp [spec_l07Unpack.j2] at h, fun _ _ _ _ _ _ _ r h => by simp [spec_l07Unpack.j3] at h, fun _ _ _ _ _ _ r h => by simp [spec_l07Unpack.l1] at h⟩
 | k + 1 => by
  obtain ⟨ih0, ih1, ih2, ih3⟩ := spec_l07Unpack.mono_l k
  refine ⟨?_, ?_, ?_, ?_⟩
  ·intro y0 y1 y2 y3
   unfold spec_l07Unpack.l0
   repeat' first
   | (with_reducible exact ih0 _ _ _ _)
   | (with_reducible exact ih1 _ _ _ _ _ _)
   | (with_reducible exact ih2 _ _ _ _ _ _ _)
   | (with_reducible exact ih3 _ _ _ _ _ _)
   | (with_reducible exact spec_l07Pack.mono _ _)
   | (with_reducible exact LeO.refl _)
   | (with_reducible exact LeO.none _)
   | (with_reducible refine LeO.ite ?_ ?_)
   | (with_reducible refine LeO.bind ?_ (fun _ => ?_))
   | exact ih0 _ _ _ _
   | exact ih1 _ _ _ _ _ _
   | exact ih2 _ _ _ _ _ _ _
   | exact ih3 _ _ _ _ _ _
   | exact spec_l07Pack.mono _ _
   | exact LeO.none _
   | refine LeO.ite ?_ ?_
   | refine LeO.bind ?_ (fun _ => ?_)
  ·intro y0 y1 y2 y3 y4 y5
   unfold spec_l07Unpack.j2
   repeat' first
   | (with_reducible exact ih0 _ _ _ _)
   | (with_reducible exact ih1 _ _ _ _ _ _)
   | (with_reducible exact ih2 _ _ _ _ _ _ _)
   | (with_reducible exact ih3 _ _ _ _ _ _)
   | (with_reducible exact spec_l07Pack.mono _ _)
   | (with_reducible exact LeO.refl _)
   | (with_reducible exact LeO.none _)
   | (with_reducible refine LeO.ite ?_ ?_)
   | (with_reducible refine LeO.bind ?_ (fun _ => ?_))
   | exact ih0 _ _ _ _
   | exact ih1 _ _ _ _ _ _
   | exact ih2 _ _ _ _ _ _ _
   | exact ih3 _ _ _ _ _ _
   | exact spec_l07Pack.mono _ _
   | exact LeO.none _
   | refine LeO.ite ?_ ?_
   | refine LeO.bind ?_ (fun _ => ?_)
  ·intro y0 y1 y2 y3 y4 y5 y6
   unfold spec_l07Unpack.j3
   repeat' first
   | (with_reducible exact ih0 _ _ _ _)
   | (with_reducible exact ih1 _ _ _ _ _ _)
   | (with_reducible exact ih2 _ _ _ _ _ _ _)
   | (with_reducible exact ih3 _ _ _ _ _ _)
   | (with_reducible exact spec_l07Pack.mono _ _)
   | (with_reducible exact LeO.refl _)
   | (with_reducible exact LeO.none _)
   | (with_reducible refine LeO.ite ?_ ?_)
   | (with_reducible refine LeO.bind ?_ (fun _ => ?_))
   | exact ih0 _ _ _ _
   | exact ih1 _ _ _ _ _ _
   | exact ih2 _ _ _ _ _ _ _
   | exact ih3 _ _ _ _ _ _
   | exact spec_l07Pack.mono _ _
   | exact LeO.none _
   | refine LeO.ite ?_ ?_
   | refine LeO.bind ?_ (fun _ => ?_)
  ·intro y0 y1 y2 y3 y4 y5
   unfold spec_l07Unpack.l1
   repeat' first
   | (with_reducible exact ih0 _ _ _ _)
   | (with_reducible exact ih1 _ _ _ _ _ _)
   | (with_reducible exact ih2 _ _ _ _ _ _ _)
   | (with_reducible exact ih3 _ _ _ _ _ _)
   | (with_reducible exact spec_l07Pack.mono _ _)
   | (with_reducible exact LeO.refl _)
   | (with_reducible exact LeO.none _)
   | (with_reducible refine LeO.ite ?_ ?_)
   | (with_reducible refine LeO.bind ?_ (fun _ => ?_))
   | exact ih0 _ _ _ _
   | exact ih1 _ _ _ _ _ _
   | exact ih2 _ _ _ _ _ _ _
   | exact ih3 _ _ _ _ _ _
   | exact spec_l07Pack.mono _ _
   | exact LeO.none _
   | refine LeO.ite ?_ ?_
   | refine LeO.bind ?_ (fun _ => ?_)
theorem spec_l07Unpack.mono : ∀ a0 k, LeO (spec_l07Unpack.f k a0) (spec_l07Unpack.f (k + 1) a0) := by
 intro a0 k
 obtain ⟨ih0, ih1, ih2, ih3⟩ := spec_l07Unpack.mono_l k
 unfold spec_l07Unpack.f
 repeat' first
   | (with_reducible exact ih0 _ _ _ _)
   | (with_reducible exact ih1 _ _ _ _ _ _)
   | (with_reducible exact ih2 _ _ _ _ _ _ _)
   | (with_reducible exact ih3 _ _ _ _ _ _)
   | (with_reducible exact spec_l07Pack.mono _ _)
   | (with_reducible exact LeO.refl _)
   | (with_reducible exact LeO.none _)
   | (with_reducible refine LeO.ite ?_ ?_)
   | (with_reducible refine LeO.bind ?_ (fun _ => ?_))
   | exact ih0 _ _ _ _
   | exact ih1 _ _ _ _ _ _
   | exact ih2 _ _ _ _ _ _ _
   | exact ih3 _ _ _ _ _ _
   | exact spec_l07Pack.mono _ _
   | exact LeO.none _
   | refine LeO.ite ?_ ?_
   | refine LeO.bind ?_ (fun _ => ?_)
set_option maxHeartbeats 8000000 in
set_option maxRecDepth 100000 in
theorem spec_l07Unpack.calls (k : Nat) (a0 : ByteArray) (r1 : List Nat) (r2 : Bool) (w : World) (h : spec_l07Unpack.f k a0 = some (r1, r2)) :
  Calls Try.prog 164 #[.string a0] w fun e w' => ∃ v0_ : Value, e = .returned (.tuple #[v0_, .bool r2]) ∧ Kd.R (Kd.float .f32) 36 w' w.heap.size (fun _ => True) v0_ r1 ∧ Below w.heap.size w w' := by
 have HB := Aside0.mk (Below.refl w.heap.size w)
 have H : (spec_l07Unpack.l0 k a0 (([] : List Nat)) 0 0) = some (r1, r2) := h
 clear h
 obtain ⟨y184, hy184⟩ : ∃ y_ : List Nat, y_ = (([] : List Nat)) := ⟨_, rfl⟩
 replace H : (spec_l07Unpack.l0 k a0 y184 0 0) = some (r1, r2) := by first | (rw [hy184]; with_reducible exact H) | (have H2_ := (Option.bind_some _ _).symm.trans H; rw [hy184]; with_reducible exact H2_) | (have H2_ := (Option.bind_some _ _).symm.trans H; with_reducible exact H2_) | with_reducible exact H | (rw [hy184]; exact H) | exact H
 have Ny184 := Aside0.mk hy184
 clear hy184
 have H' := Aside0.mk H
 clear H
 go_enter Try.func164, Try.ntmps164
 go_wp2_with (first | ((with_reducible refine gate_dst (N := 10) rfl ?_); refine Kd.R_lit (Kd.float .f32) _ 36 ?hg (N := 10) ?hd (xs := ([] : List Nat)) (inner := []) (ok := fun _ => True) (okp := fun _ => True) ?hr ?hp (fun _ hk => hk) trivial (Below.refl _ _) (Nat.le_refl _) (by simp) ?_; (case hd => rfl); (case hg => rfl); (case hr => first | (go_simp; done) | (go_simp; rfl) | (simp (disch := omega) only [w64_id]; go_simp; done) | (go_simp; simp (disch := omega) only [w64_id]; done)); (case hp => exact (Reps.none _ _)); intro v185 w2 ho3 hb hg_ hnew_; clear hg_ hnew_; (first | rw [← Ny184.out] at ho3 | (simp only [Int.reduceToNat] at ho3; rw [← Ny184.out] at ho3)); have n0_ := Aside0.mk (Kd.R_lower ho3 (below_size (by repeat (first | (with_reducible first | exact HB.out | apply below_alloc | apply pw_below_drewN | apply below_drew1) | exact HB.out)))); have n1_ := Aside0.mk (below_step (by repeat (first | (with_reducible first | exact HB.out | apply below_alloc | apply pw_below_drewN | apply below_drew1) | exact HB.out)) hb); clear HB; have HO186 := n0_; have HB := n1_; clear n0_ n1_; clear hb ho3))
 go_loopg [4, 5, 6] k (fun kq v4 v5 v6 w' => ∃ (x4_1 : List Nat) (x5_1 : Int) (x6_1 : Int), v5 = .int .i64 x5_1 ∧ v6 = .int .i64 x6_1 ∧ Aside0 (spec_l07Unpack.l0 kq a0 x4_1 x5_1 x6_1 = some (r1, r2)) ∧ Aside0 (kq ≤ k) ∧ Aside0 (Kd.R (Kd.float .f32) 36 w' w.heap.size (fun _ => True) v4 x4_1) ∧ Aside0 (Below w.heap.size w w'))
 case atStart => exact ⟨(y184), (0), (0), (by first | rfl | (simp; done) | (simp [*]; done)), (by first | rfl | (simp; done) | (simp [*]; done)), H', ⟨Nat.le_refl _⟩, ⟨by (with_reducible repeat (first | apply Kd.R_alloc | apply Kd.R_drewN | apply Kd.R_drew)); exact HO186.out⟩, ⟨by repeat (first | (with_reducible first | exact HB.out | apply below_alloc | apply pw_below_drewN | apply below_drew1) | exact HB.out)⟩⟩
 case round =>
  clear H'
  try clear c1
  try clear p2
  obtain ⟨x4_1, x5_1, x6_1, rfl, rfl, HA, HK1, HO_4, HB⟩ := hrel
  cases gk with
  | zero => exact absurd HA.out (by simp [spec_l07Unpack.l0])
  | succ k1 =>
   have H := HA.out
   clear HA
   simp only [spec_l07Unpack.l0] at H
   by_cases c4 : x6_1 < (a0.size : Int)
   ·rw [if_pos c4] at H
    have c4b0 : decide (x6_1 < (a0.size : Int)) = true := decide_eq_true c4
    clear c4
    have HC5 := Aside0.mk H
    clear H
    go_upto_block 2 with (fail)
    go_cut [6, 7, 8] (fun v6 v7 v8 wc => ∃ (kq : Nat) (x6_4 : Int) (x7_4 : Int) (x8_4 : Int), v6 = .int .i64 x6_4 ∧ v7 = .int .i64 x7_4 ∧ v8 = .int .i64 x8_4 ∧ Aside0 (spec_l07Unpack.j2 kq a0 x4_1 x5_1 x6_4 x7_4 x8_4 = some (r1, r2)) ∧ Aside0 (kq ≤ k1) ∧ Aside0 (Kd.R (Kd.float .f32) 36 wc w.heap.size (fun _ => True) u4 x4_1) ∧ Aside0 (Below w.heap.size w wc))
    case first =>
     have H := HC5.out
     clear HC5
     have H' := Aside0.mk H
     clear H
     go_wp2
     go_loopg [6, 7, 8] k1 (fun kq v6 v7 v8 w' => ∃ (x6_2 : Int) (x7_2 : Int) (x8_2 : Int), v6 = .int .i64 x6_2 ∧ v7 = .int .i64 x7_2 ∧ v8 = .int .i64 x8_2 ∧ Aside0 (spec_l07Unpack.l1 kq a0 x4_1 x5_1 x6_2 x7_2 x8_2 = some (r1, r2)) ∧ Aside0 (kq ≤ k1) ∧ Aside0 (Kd.R (Kd.float .f32) 36 w' w.heap.size (fun _ => True) u4 x4_1) ∧ Aside0 (Below w.heap.size w w'))
     case atStart => exact ⟨(x6_1), (0), (1), (by first | rfl | (simp; done) | (simp [*]; done)), (by first | rfl | (simp; done) | (simp [*]; done)), (by first | rfl | (simp; done) | (simp [*]; done)), H', ⟨Nat.le_refl _⟩, ⟨by (with_reducible repeat (first | apply Kd.R_alloc | apply Kd.R_drewN | apply Kd.R_drew)); exact HO_4.out⟩, ⟨by repeat (first | (with_reducible first | exact HB.out | apply below_alloc | apply pw_below_drewN | apply below_drew1) | exact HB.out)⟩⟩
     case round =>
      clear H'
      try clear c1
      try clear p2
      try clear c4
      try clear c4b0
      try clear p2
      obtain ⟨x6_2, x7_2, x8_2, rfl, rfl, rfl, HA, HK2, HO_4, HB⟩ := hrel
      cases gk with
      | zero => exact absurd HA.out (by simp [spec_l07Unpack.l1])
      | succ k2 =>
       have H := HA.out
       clear HA
       simp only [spec_l07Unpack.l1] at H
       by_cases c6 : x6_2 < (a0.size : Int)
       ·rw [if_pos c6] at H
        have c6b0 : decide (x6_2 < (a0.size : Int)) = true := decide_eq_true c6
        clear c6
        (first | rw [c6b0] | (simp only [i64_w, i32_w]; rw [c6b0]) | skip)
        by_cases c7 : 0 ≤ x6_2
        ·rw [if_pos c7] at H
         have c7b0 : decide (0 ≤ x6_2) = true := decide_eq_true c7
         clear c7
         by_cases c9 : (bt a0 x6_2) ≥ 128
         ·rw [if_pos c9] at H
          have c9b0 : decide (128 ≤ (bt a0 x6_2)) = true := decide_eq_true c9
          clear c9
          by_cases c10 : x8_2 < 268435456
          ·rw [if_pos c10] at H
           have c10b0 : decide (x8_2 < 268435456) = true := decide_eq_true c10
           clear c10
           have H' := Aside0.mk H
           clear H
           have p8 : 0 ≤ (x6_2 : Int) := of_decide_eq_true (by first | (with_reducible assumption) | assumption)
           have q8 : x6_2 < (a0.size : Int) := of_decide_eq_true (by first | (with_reducible assumption) | assumption)
           have hx8 := bt_at a0 x6_2
           replace p8 := eq_true p8
           replace q8 := eq_true q8
           have p11 : 0 ≤ (x6_2 : Int) := of_decide_eq_true (by first | (with_reducible assumption) | assumption)
           have q11 : x6_2 < (a0.size : Int) := of_decide_eq_true (by first | (with_reducible assumption) | assumption)
           have hx11 := bt_at a0 x6_2
           replace p11 := eq_true p11
           replace q11 := eq_true q11
           go_wp2
           go_roundg k2
           case measure => have := HK1.out; have := HK2.out; omega
           case rel => exact ⟨(wrap64 (x6_2 + 1)), (wrap64 (x7_2 + (wrap64 ((((bt a0 x6_2) - 128) % 256) * x8_2)))), (wrap64 (x8_2 * 128)), (by first | rfl | (simp; done) | (simp [*]; done)), (by first | rfl | (simp; done) | (simp [*]; done)), (by first | rfl | (simp; done) | (simp [*]; done)), H', ⟨by have := HK1.out; have := HK2.out; omega⟩, ⟨by (with_reducible repeat (first | apply Kd.R_alloc | apply Kd.R_drewN | apply Kd.R_drew)); exact HO_4.out⟩, ⟨by repeat (first | (with_reducible first | exact HB.out | apply below_alloc | apply pw_below_drewN | apply below_drew1) | exact HB.out)⟩⟩
          ·rw [if_neg c10] at H
           have c10b0 : decide (x8_2 < 268435456) = false := decide_eq_false c10
           clear c10
           have H' := Aside0.mk H
           clear H
           have p8 : 0 ≤ (x6_2 : Int) := of_decide_eq_true (by first | (with_reducible assumption) | assumption)
           have q8 : x6_2 < (a0.size : Int) := of_decide_eq_true (by first | (with_reducible assumption) | assumption)
           have hx8 := bt_at a0 x6_2
           replace p8 := eq_true p8
           replace q8 := eq_true q8
           go_wp2
           go_meet
           case rel => exact ⟨_, (x6_2), (x7_2), (x8_2), (by first | rfl | (simp; done) | (simp [*]; done)), (by first | rfl | (simp; done) | (simp [*]; done)), (by first | rfl | (simp; done) | (simp [*]; done)), H', ⟨by have := HK1.out; have := HK2.out; first | omega | exact Nat.le_refl _⟩, ⟨by (with_reducible repeat (first | apply Kd.R_alloc | apply Kd.R_drewN | apply Kd.R_drew)); exact HO_4.out⟩, ⟨by repeat (first | (with_reducible first | exact HB.out | apply below_alloc | apply pw_below_drewN | apply below_drew1) | exact HB.out)⟩⟩
         ·rw [if_neg c9] at H
          have c9b0 : decide (128 ≤ (bt a0 x6_2)) = false := decide_eq_false c9
          clear c9
          have H' := Aside0.mk H
          clear H
          have p8 : 0 ≤ (x6_2 : Int) := of_decide_eq_true (by first | (with_reducible assumption) | assumption)
          have q8 : x6_2 < (a0.size : Int) := of_decide_eq_true (by first | (with_reducible assumption) | assumption)
          have hx8 := bt_at a0 x6_2
          replace p8 := eq_true p8
          replace q8 := eq_true q8
          go_wp2
          go_meet
          case rel => exact ⟨_, (x6_2), (x7_2), (x8_2), (by first | rfl | (simp; done) | (simp [*]; done)), (by first | rfl | (simp; done) | (simp [*]; done)), (by first | rfl | (simp; done) | (simp [*]; done)), H', ⟨by have := HK1.out; have := HK2.out; first | omega | exact Nat.le_refl _⟩, ⟨by (with_reducible repeat (first | apply Kd.R_alloc | apply Kd.R_drewN | apply Kd.R_drew)); exact HO_4.out⟩, ⟨by repeat (first | (with_reducible first | exact HB.out | apply below_alloc | apply pw_below_drewN | apply below_drew1) | exact HB.out)⟩⟩
        ·rw [if_neg c7] at H
         exact absurd H (by simp)
       ·rw [if_neg c6] at H
        have c6b0 : decide (x6_2 < (a0.size : Int)) = false := decide_eq_false c6
        clear c6
        (first | rw [c6b0] | (simp only [i64_w, i32_w]; rw [c6b0]) | skip)
        have H' := Aside0.mk H
        clear H
        go_wp2
        go_meet
        case rel => exact ⟨_, (x6_2), (x7_2), (x8_2), (by first | rfl | (simp; done) | (simp [*]; done)), (by first | rfl | (simp; done) | (simp [*]; done)), (by first | rfl | (simp; done) | (simp [*]; done)), H', ⟨by have := HK1.out; have := HK2.out; first | omega | exact Nat.le_refl _⟩, ⟨by (with_reducible repeat (first | apply Kd.R_alloc | apply Kd.R_drewN | apply Kd.R_drew)); exact HO_4.out⟩, ⟨by repeat (first | (with_reducible first | exact HB.out | apply below_alloc | apply pw_below_drewN | apply below_drew1) | exact HB.out)⟩⟩
    case rest =>
     clear HC5
     try clear c1
     try clear p1
     try clear q1
     try clear hx1
     try clear p2
     try clear c4
     try clear c4b0
     try clear c6
     try clear c6b0
     try clear p6
     try clear c7
     try clear c7b0
     try clear p8
     try clear q8
     try clear hx8
     try clear c9
     try clear c9b0
     try clear c10
     try clear c10b0
     try clear p11
     try clear q11
     try clear hx11
     try clear p11
     try clear p2
     try clear p8
     try clear q11
     try clear q8
     obtain ⟨kq, x6_4, x7_4, x8_4, rfl, rfl, rfl, HA, HJ4, HO_4, HB⟩ := hcut
     cases kq with
     | zero => exact absurd HA.out (by simp [spec_l07Unpack.j2])
     | succ kj4 =>
      have H := HA.out
      clear HA
      simp only [spec_l07Unpack.j2] at H
      have HC12 := Aside0.mk H
      clear H
      go_upto_region 11 with (fail)
      go_cut [51] (fun v51 wc => ∃ (kq : Nat) (x51_11 : Bool), v51 = .bool x51_11 ∧ Aside0 (spec_l07Unpack.j3 kq a0 x4_1 x5_1 x6_4 x7_4 x8_4 x51_11 = some (r1, r2)) ∧ Aside0 (kq ≤ kj4) ∧ Aside0 (Kd.R (Kd.float .f32) 36 wc w.heap.size (fun _ => True) u4 x4_1) ∧ Aside0 (Below w.heap.size w wc))
      case first =>
       have H := HC12.out
       clear HC12
       by_cases c13 : x6_4 = (a0.size : Int)
       ·rw [if_pos c13] at H
        have c13b0 : (x6_4 == (a0.size : Int)) = true := beq_iff_eq.mpr c13
        have c13b1 : (x6_4 != (a0.size : Int)) = false := bne_eq_false_iff_eq.mpr c13
        clear c13
        (first | rw [c13b0] | (simp only [i64_w, i32_w]; rw [c13b0]) | skip)
        have H' := Aside0.mk H
        clear H
        go_wp2
        go_meet
        case rel => exact ⟨_, (true), (by first | rfl | (simp; done) | (simp [*]; done)), H', ⟨by have := HK1.out; have := HJ4.out; first | omega | exact Nat.le_refl _⟩, ⟨by (with_reducible repeat (first | apply Kd.R_alloc | apply Kd.R_drewN | apply Kd.R_drew)); exact HO_4.out⟩, ⟨by repeat (first | (with_reducible first | exact HB.out | apply below_alloc | apply pw_below_drewN | apply below_drew1) | exact HB.out)⟩⟩
       ·rw [if_neg c13] at H
        have c13b0 : (x6_4 == (a0.size : Int)) = false := beq_eq_false_iff_ne.mpr c13
        have c13b1 : (x6_4 != (a0.size : Int)) = true := bne_iff_ne.mpr c13
        (first | rw [c13b0] | (simp only [i64_w, i32_w]; rw [c13b0]) | skip)
        by_cases c14 : 0 ≤ x6_4
        ·rw [if_pos c14] at H
         have c14b0 : decide (0 ≤ x6_4) = true := decide_eq_true c14
         clear c14
         by_cases c15 : x6_4 < (a0.size : Int)
         ·rw [if_pos c15] at H
          have c15b0 : decide (x6_4 < (a0.size : Int)) = true := decide_eq_true c15
          clear c15
          have H' := Aside0.mk H
          clear H
          have p16 : 0 ≤ (x6_4 : Int) := of_decide_eq_true (by first | (with_reducible assumption) | assumption)
          have q16 : x6_4 < (a0.size : Int) := of_decide_eq_true (by first | (with_reducible assumption) | assumption)
          have hx16 := bt_at a0 x6_4
          replace p16 := eq_true p16
          replace q16 := eq_true q16
          go_wp2
          go_meet
          case rel => exact ⟨_, (decide ((bt a0 x6_4) ≥ 128)), (by first | rfl | (simp; done) | (simp [*]; done)), H', ⟨by have := HK1.out; have := HJ4.out; first | omega | exact Nat.le_refl _⟩, ⟨by (with_reducible repeat (first | apply Kd.R_alloc | apply Kd.R_drewN | apply Kd.R_drew)); exact HO_4.out⟩, ⟨by repeat (first | (with_reducible first | exact HB.out | apply below_alloc | apply pw_below_drewN | apply below_drew1) | exact HB.out)⟩⟩
         ·rw [if_neg c15] at H
          exact absurd H (by simp)
        ·rw [if_neg c14] at H
         exact absurd H (by simp)
      case rest =>
       clear HC12
       try clear c1
       try clear p1
       try clear q1
       try clear hx1
       try clear p2
       try clear c4
       try clear c4b0
       try clear c6
       try clear c6b0
       try clear p6
       try clear c7
       try clear c7b0
       try clear p8
       try clear q8
       try clear hx8
       try clear c9
       try clear c9b0
       try clear c10
       try clear c10b0
       try clear p11
       try clear q11
       try clear hx11
       try clear c13
       try clear c13b0
       try clear c13b1
       try clear c14
       try clear c14b0
       try clear c15
       try clear c15b0
       try clear c16
       try clear p16
       try clear q16
       try clear hx16
       try clear p1
       try clear p11
       try clear p16
       try clear p2
       try clear p6
       try clear p8
       try clear q1
       try clear q11
       try clear q16
       try clear q8
       obtain ⟨kq, x51_11, rfl, HA, HJ11, HO_4, HB⟩ := hcut
       cases kq with
       | zero => exact absurd HA.out (by simp [spec_l07Unpack.j3])
       | succ kj11 =>
        have H := HA.out
        clear HA
        simp only [spec_l07Unpack.j3] at H
        by_cases c17 : x51_11 = true
        ·subst c17
         have H1 : (some (([] : List Nat), false)) = some (r1, r2) := by rw [if_pos rfl] at H; exact H
         clear H
         have H := H1
         clear H1
         simp only [Option.some.injEq, Prod.mk.injEq] at H
         obtain ⟨rfl, rfl⟩ := H
         go_wp2
         go_ret2
         exact ⟨_, by first | rfl | (simp [errW_none, errW_some] <;> rfl) | (simp [*, errW_none, errW_some] <;> rfl), by first | exact Kd.R_nil _ _ _ _ _ | exact Kd.N_nil _ _ _ _ _ | exact Kd.V_nil _ _ _ _ _ | exact Kd.Q_nil _ _ _ _ _ | exact Kd.S_nil _ _ _ _ _, by repeat (first | (with_reducible first | exact HB.out | apply below_alloc | apply pw_below_drewN | apply below_drew1) | exact HB.out)⟩
        ·replace c17 := Bool.eq_false_iff.mpr c17
         subst c17
         have H1 : (if 0 ≤ x6_4 then (if x6_4 < (a0.size : Int) then (if (Int.tmod (wrap64 (x7_4 + (wrap64 ((wrap64 (bt a0 x6_4)) * x8_4)))) 2) = 1 then ((spec_l01From.f (Int.tmod (wrap64 ((Int.tmod (wrap64 (x5_1 + (wrap64 (Int.tdiv (wrap64 (-(wrap64 ((wrap64 (x7_4 + (wrap64 ((wrap64 (bt a0 x6_4)) * x8_4)))) + 1)))) 2)))) 4294967296) + 4294967296)) 4294967296)).bind fun t187 => (if x4_1.length < 35184372088832 then ((some (x4_1 ++ [t187] : List Nat)).bind fun y188 => (if (y188.length : Int) > 256 then (some (([] : List Nat), false)) else (spec_l07Unpack.l0 kj11 a0 y188 (Int.tmod (wrap64 ((Int.tmod (wrap64 (x5_1 + (wrap64 (Int.tdiv (wrap64 (-(wrap64 ((wrap64 (x7_4 + (wrap64 ((wrap64 (bt a0 x6_4)) * x8_4)))) + 1)))) 2)))) 4294967296) + 4294967296)) 4294967296) (wrap64 (x6_4 + 1))))) else (none))) else ((spec_l01From.f (Int.tmod (wrap64 ((Int.tmod (wrap64 (x5_1 + (wrap64 (Int.tdiv (wrap64 (x7_4 + (wrap64 ((wrap64 (bt a0 x6_4)) * x8_4)))) 2)))) 4294967296) + 4294967296)) 4294967296)).bind fun t191 => (if x4_1.length < 35184372088832 then ((some (x4_1 ++ [t191] : List Nat)).bind fun y192 => (if (y192.length : Int) > 256 then (some (([] : List Nat), false)) else (spec_l07Unpack.l0 kj11 a0 y192 (Int.tmod (wrap64 ((Int.tmod (wrap64 (x5_1 + (wrap64 (Int.tdiv (wrap64 (x7_4 + (wrap64 ((wrap64 (bt a0 x6_4)) * x8_4)))) 2)))) 4294967296) + 4294967296)) 4294967296) (wrap64 (x6_4 + 1))))) else (none)))) else (none)) else (none)) = some (r1, r2) := by rw [if_neg (show ¬ (false = true) by decide)] at H; exact H
         clear H
         have H := H1
         clear H1
         by_cases c18 : 0 ≤ x6_4
         ·rw [if_pos c18] at H
          have c18b0 : decide (0 ≤ x6_4) = true := decide_eq_true c18
          clear c18
          by_cases c19 : x6_4 < (a0.size : Int)
          ·rw [if_pos c19] at H
           have c19b0 : decide (x6_4 < (a0.size : Int)) = true := decide_eq_true c19
           clear c19
           by_cases c21 : (Int.tmod (wrap64 (x7_4 + (wrap64 ((wrap64 (bt a0 x6_4)) * x8_4)))) 2) = 1
           ·rw [if_pos c21] at H
            have c21b0 : ((Int.tmod (wrap64 (x7_4 + (wrap64 ((wrap64 (bt a0 x6_4)) * x8_4)))) 2) == 1) = true := beq_iff_eq.mpr c21
            have c21b1 : ((Int.tmod (wrap64 (x7_4 + (wrap64 ((wrap64 (bt a0 x6_4)) * x8_4)))) 2) != 1) = false := bne_eq_false_iff_eq.mpr c21
            clear c21
            replace H := Option.bind_eq_some_iff.mp H
            obtain ⟨t187, A220, H⟩ := H
            replace H : (if x4_1.length < 35184372088832 then ((some (x4_1 ++ [t187] : List Nat)).bind fun y188 => (if (y188.length : Int) > 256 then (some (([] : List Nat), false)) else (spec_l07Unpack.l0 kj11 a0 y188 (Int.tmod (wrap64 ((Int.tmod (wrap64 (x5_1 + (wrap64 (Int.tdiv (wrap64 (-(wrap64 ((wrap64 (x7_4 + (wrap64 ((wrap64 (bt a0 x6_4)) * x8_4)))) + 1)))) 2)))) 4294967296) + 4294967296)) 4294967296) (wrap64 (x6_4 + 1))))) else (none)) = some (r1, r2) := H
            have A22 := Aside0.mk A220
            clear A220
            by_cases c23 : x4_1.length < 35184372088832
            ·rw [if_pos c23] at H
             have LMc23 := Aside0.mk c23
             clear c23
             obtain ⟨y188, hy188⟩ : ∃ y_ : List Nat, y_ = (x4_1 ++ [t187]) := ⟨_, rfl⟩
             replace H : (if (y188.length : Int) > 256 then (some (([] : List Nat), false)) else (spec_l07Unpack.l0 kj11 a0 y188 (Int.tmod (wrap64 ((Int.tmod (wrap64 (x5_1 + (wrap64 (Int.tdiv (wrap64 (-(wrap64 ((wrap64 (x7_4 + (wrap64 ((wrap64 (bt a0 x6_4)) * x8_4)))) + 1)))) 2)))) 4294967296) + 4294967296)) 4294967296) (wrap64 (x6_4 + 1)))) = some (r1, r2) := by first | (rw [hy188]; with_reducible exact H) | (have H2_ := (Option.bind_some _ _).symm.trans H; rw [hy188]; with_reducible exact H2_) | (have H2_ := (Option.bind_some _ _).symm.trans H; with_reducible exact H2_) | with_reducible exact H | (rw [hy188]; exact H) | exact H
             have Ny188 := Aside0.mk hy188
             clear hy188
             by_cases c24 : (y188.length : Int) > 256
             ·rw [if_pos c24] at H
              have c24b0 : decide (256 < (y188.length : Int)) = true := decide_eq_true c24
              have c24b1 : decide (256 < y188.length) = true := decide_eq_true (by omega)
              clear c24
              simp only [Option.some.injEq, Prod.mk.injEq] at H
              obtain ⟨rfl, rfl⟩ := H
              have p20 : 0 ≤ (x6_4 : Int) := of_decide_eq_true (by first | (with_reducible assumption) | assumption)
              have q20 : x6_4 < (a0.size : Int) := of_decide_eq_true (by first | (with_reducible assumption) | assumption)
              have hx20 := bt_at a0 x6_4
              replace p20 := eq_true p20
              replace q20 := eq_true q20
              go_wp2_with (first | ((with_reducible refine gate_callee (f := 192) rfl ?_); refine goesL_ (some 79) rfl rfl Try.func192 (by kernel_rfl) rfl #[.int .i64 (Int.tmod (wrap64 ((Int.tmod (wrap64 (x5_1 + (wrap64 (Int.tdiv (wrap64 (-(wrap64 ((wrap64 (x7_4 + (wrap64 ((wrap64 (bt a0 x6_4)) * x8_4)))) + 1)))) 2)))) 4294967296) + 4294967296)) 4294967296)] rfl (by (try simp only [List.map_toArray, List.map_cons, List.map_nil]); first | done | rfl | (simp only [List.length_drop, List.length_take]; rfl)) ?_; (with_reducible refine (spec_l01From.calls (Int.tmod (wrap64 ((Int.tmod (wrap64 (x5_1 + (wrap64 (Int.tdiv (wrap64 (-(wrap64 ((wrap64 (x7_4 + (wrap64 ((wrap64 (bt a0 x6_4)) * x8_4)))) + 1)))) 2)))) 4294967296) + 4294967296)) 4294967296) t187 _ A22.out).mono ?_); rintro e w' ⟨rfl, ⟨nd, rfl⟩⟩; refine ⟨_, rfl, ?_⟩) | ((with_reducible refine gate_builtin (b := .append) (xs := #[.tmp 77, .tmp 80]) rfl ?_); at_builtin; refine Kd.R_append (Kd.float .f32) (w0 := w) w.heap.size rfl (.tmp 77) (.tmp 80) 26 36 (.float .f32 0) 4 rfl Try.underlying26 info36 rfl (by decide) (by omega) u4 x4_1 t187 [.float .f32 t187] (fun _ => True) (fun _ => False) rfl rfl ?aP (fun _ hk => hk.elim) ?aF ?aO ?aB ?aS ?aL ?_; (case aP => exact rfl); (case aB => exact (by repeat (first | (with_reducible first | exact HB.out | apply below_alloc | apply pw_below_drewN | apply below_drew1) | exact HB.out))); (case aF => exact (fun _ _ => trivial)); (case aO => exact (by (with_reducible repeat (first | apply Kd.R_alloc | apply Kd.R_drewN | apply Kd.R_drew)); exact HO_4.out)); (case aS => exact (below_size (by repeat (first | (with_reducible first | exact HB.out | apply below_alloc | apply pw_below_drewN | apply below_drew1) | exact HB.out)))); (case aL => have := LMc23.out; omega); intro v189 w25 ho hb hg hat; rw [← Ny188.out] at ho; have n0_ := Aside0.mk (hb); have n1_ := Aside0.mk (ho); clear HB; clear HO_4; have HB := n0_; have HO190 := n1_; clear n0_ n1_; clear ho hb hg hat; obtain ⟨Ao26, co26, eo26⟩ := Kd.R_slice HO190.out; subst eo26))
              go_ret2
              exact ⟨_, by first | rfl | (simp [errW_none, errW_some] <;> rfl) | (simp [*, errW_none, errW_some] <;> rfl), by first | exact Kd.R_nil _ _ _ _ _ | exact Kd.N_nil _ _ _ _ _ | exact Kd.V_nil _ _ _ _ _ | exact Kd.Q_nil _ _ _ _ _ | exact Kd.S_nil _ _ _ _ _, by repeat (first | (with_reducible first | exact HB.out | apply below_alloc | apply pw_below_drewN | apply below_drew1) | exact HB.out)⟩
             ·rw [if_neg c24] at H
              have c24b0 : decide (256 < (y188.length : Int)) = false := decide_eq_false c24
              have c24b1 : decide (256 < y188.length) = false := decide_eq_false (by omega)
              clear c24
              have H' := Aside0.mk H
              clear H
              have p20 : 0 ≤ (x6_4 : Int) := of_decide_eq_true (by first | (with_reducible assumption) | assumption)
              have q20 : x6_4 < (a0.size : Int) := of_decide_eq_true (by first | (with_reducible assumption) | assumption)
              have hx20 := bt_at a0 x6_4
              replace p20 := eq_true p20
              replace q20 := eq_true q20
              go_wp2_with (first | ((with_reducible refine gate_callee (f := 192) rfl ?_); refine goesL_ (some 79) rfl rfl Try.func192 (by kernel_rfl) rfl #[.int .i64 (Int.tmod (wrap64 ((Int.tmod (wrap64 (x5_1 + (wrap64 (Int.tdiv (wrap64 (-(wrap64 ((wrap64 (x7_4 + (wrap64 ((wrap64 (bt a0 x6_4)) * x8_4)))) + 1)))) 2)))) 4294967296) + 4294967296)) 4294967296)] rfl (by (try simp only [List.map_toArray, List.map_cons, List.map_nil]); first | done | rfl | (simp only [List.length_drop, List.length_take]; rfl)) ?_; (with_reducible refine (spec_l01From.calls (Int.tmod (wrap64 ((Int.tmod (wrap64 (x5_1 + (wrap64 (Int.tdiv (wrap64 (-(wrap64 ((wrap64 (x7_4 + (wrap64 ((wrap64 (bt a0 x6_4)) * x8_4)))) + 1)))) 2)))) 4294967296) + 4294967296)) 4294967296) t187 _ A22.out).mono ?_); rintro e w' ⟨rfl, ⟨nd, rfl⟩⟩; refine ⟨_, rfl, ?_⟩) | ((with_reducible refine gate_builtin (b := .append) (xs := #[.tmp 77, .tmp 80]) rfl ?_); at_builtin; refine Kd.R_append (Kd.float .f32) (w0 := w) w.heap.size rfl (.tmp 77) (.tmp 80) 26 36 (.float .f32 0) 4 rfl Try.underlying26 info36 rfl (by decide) (by omega) u4 x4_1 t187 [.float .f32 t187] (fun _ => True) (fun _ => False) rfl rfl ?aP (fun _ hk => hk.elim) ?aF ?aO ?aB ?aS ?aL ?_; (case aP => exact rfl); (case aB => exact (by repeat (first | (with_reducible first | exact HB.out | apply below_alloc | apply pw_below_drewN | apply below_drew1) | exact HB.out))); (case aF => exact (fun _ _ => trivial)); (case aO => exact (by (with_reducible repeat (first | apply Kd.R_alloc | apply Kd.R_drewN | apply Kd.R_drew)); exact HO_4.out)); (case aS => exact (below_size (by repeat (first | (with_reducible first | exact HB.out | apply below_alloc | apply pw_below_drewN | apply below_drew1) | exact HB.out)))); (case aL => have := LMc23.out; omega); intro v189 w27 ho hb hg hat; rw [← Ny188.out] at ho; have n0_ := Aside0.mk (hb); have n1_ := Aside0.mk (ho); clear HB; clear HO_4; have HB := n0_; have HO190 := n1_; clear n0_ n1_; clear ho hb hg hat; obtain ⟨Ao28, co28, eo28⟩ := Kd.R_slice HO190.out; subst eo28))
              go_roundg kj11
              case measure => have := HK1.out; have := HJ4.out; have := HJ11.out; omega
              case rel => exact ⟨(y188), (Int.tmod (wrap64 ((Int.tmod (wrap64 (x5_1 + (wrap64 (Int.tdiv (wrap64 (-(wrap64 ((wrap64 (x7_4 + (wrap64 ((wrap64 (bt a0 x6_4)) * x8_4)))) + 1)))) 2)))) 4294967296) + 4294967296)) 4294967296), (wrap64 (x6_4 + 1)), (by first | rfl | (simp; done) | (simp [*]; done)), (by first | rfl | (simp; done) | (simp [*]; done)), H', ⟨by have := HK1.out; have := HJ4.out; have := HJ11.out; omega⟩, ⟨by (with_reducible repeat (first | apply Kd.R_alloc | apply Kd.R_drewN | apply Kd.R_drew)); exact HO190.out⟩, ⟨by repeat (first | (with_reducible first | exact HB.out | apply below_alloc | apply pw_below_drewN | apply below_drew1) | exact HB.out)⟩⟩
            ·rw [if_neg c23] at H
             exact absurd H (by simp)
           ·rw [if_neg c21] at H
            have c21b0 : ((Int.tmod (wrap64 (x7_4 + (wrap64 ((wrap64 (bt a0 x6_4)) * x8_4)))) 2) == 1) = false := beq_eq_false_iff_ne.mpr c21
            have c21b1 : ((Int.tmod (wrap64 (x7_4 + (wrap64 ((wrap64 (bt a0 x6_4)) * x8_4)))) 2) != 1) = true := bne_iff_ne.mpr c21
            replace H := Option.bind_eq_some_iff.mp H
            obtain ⟨t191, A290, H⟩ := H
            replace H : (if x4_1.length < 35184372088832 then ((some (x4_1 ++ [t191] : List Nat)).bind fun y192 => (if (y192.length : Int) > 256 then (some (([] : List Nat), false)) else (spec_l07Unpack.l0 kj11 a0 y192 (Int.tmod (wrap64 ((Int.tmod (wrap64 (x5_1 + (wrap64 (Int.tdiv (wrap64 (x7_4 + (wrap64 ((wrap64 (bt a0 x6_4)) * x8_4)))) 2)))) 4294967296) + 4294967296)) 4294967296) (wrap64 (x6_4 + 1))))) else (none)) = some (r1, r2) := H
            have A29 := Aside0.mk A290
            clear A290
            by_cases c30 : x4_1.length < 35184372088832
            ·rw [if_pos c30] at H
             have LMc30 := Aside0.mk c30
             clear c30
             obtain ⟨y192, hy192⟩ : ∃ y_ : List Nat, y_ = (x4_1 ++ [t191]) := ⟨_, rfl⟩
             replace H : (if (y192.length : Int) > 256 then (some (([] : List Nat), false)) else (spec_l07Unpack.l0 kj11 a0 y192 (Int.tmod (wrap64 ((Int.tmod (wrap64 (x5_1 + (wrap64 (Int.tdiv (wrap64 (x7_4 + (wrap64 ((wrap64 (bt a0 x6_4)) * x8_4)))) 2)))) 4294967296) + 4294967296)) 4294967296) (wrap64 (x6_4 + 1)))) = some (r1, r2) := by first | (rw [hy192]; with_reducible exact H) | (have H2_ := (Option.bind_some _ _).symm.trans H; rw [hy192]; with_reducible exact H2_) | (have H2_ := (Option.bind_some _ _).symm.trans H; with_reducible exact H2_) | with_reducible exact H | (rw [hy192]; exact H) | exact H
             have Ny192 := Aside0.mk hy192
             clear hy192
             by_cases c31 : (y192.length : Int) > 256
             ·rw [if_pos c31] at H
              have c31b0 : decide (256 < (y192.length : Int)) = true := decide_eq_true c31
              have c31b1 : decide (256 < y192.length) = true := decide_eq_true (by omega)
              clear c31
              simp only [Option.some.injEq, Prod.mk.injEq] at H
              obtain ⟨rfl, rfl⟩ := H
              have p20 : 0 ≤ (x6_4 : Int) := of_decide_eq_true (by first | (with_reducible assumption) | assumption)
              have q20 : x6_4 < (a0.size : Int) := of_decide_eq_true (by first | (with_reducible assumption) | assumption)
              have hx20 := bt_at a0 x6_4
              replace p20 := eq_true p20
              replace q20 := eq_true q20
              go_wp2_with (first | ((with_reducible refine gate_callee (f := 192) rfl ?_); refine goesL_ (some 79) rfl rfl Try.func192 (by kernel_rfl) rfl #[.int .i64 (Int.tmod (wrap64 ((Int.tmod (wrap64 (x5_1 + (wrap64 (Int.tdiv (wrap64 (x7_4 + (wrap64 ((wrap64 (bt a0 x6_4)) * x8_4)))) 2)))) 4294967296) + 4294967296)) 4294967296)] rfl (by (try simp only [List.map_toArray, List.map_cons, List.map_nil]); first | done | rfl | (simp only [List.length_drop, List.length_take]; rfl)) ?_; (with_reducible refine (spec_l01From.calls (Int.tmod (wrap64 ((Int.tmod (wrap64 (x5_1 + (wrap64 (Int.tdiv (wrap64 (x7_4 + (wrap64 ((wrap64 (bt a0 x6_4)) * x8_4)))) 2)))) 4294967296) + 4294967296)) 4294967296) t191 _ A29.out).mono ?_); rintro e w' ⟨rfl, ⟨nd, rfl⟩⟩; refine ⟨_, rfl, ?_⟩) | ((with_reducible refine gate_builtin (b := .append) (xs := #[.tmp 77, .tmp 80]) rfl ?_); at_builtin; refine Kd.R_append (Kd.float .f32) (w0 := w) w.heap.size rfl (.tmp 77) (.tmp 80) 26 36 (.float .f32 0) 4 rfl Try.underlying26 info36 rfl (by decide) (by omega) u4 x4_1 t191 [.float .f32 t191] (fun _ => True) (fun _ => False) rfl rfl ?aP (fun _ hk => hk.elim) ?aF ?aO ?aB ?aS ?aL ?_; (case aP => exact rfl); (case aB => exact (by repeat (first | (with_reducible first | exact HB.out | apply below_alloc | apply pw_below_drewN | apply below_drew1) | exact HB.out))); (case aF => exact (fun _ _ => trivial)); (case aO => exact (by (with_reducible repeat (first | apply Kd.R_alloc | apply Kd.R_drewN | apply Kd.R_drew)); exact HO_4.out)); (case aS => exact (below_size (by repeat (first | (with_reducible first | exact HB.out | apply below_alloc | apply pw_below_drewN | apply below_drew1) | exact HB.out)))); (case aL => have := LMc30.out; omega); intro v193 w32 ho hb hg hat; rw [← Ny192.out] at ho; have n0_ := Aside0.mk (hb); have n1_ := Aside0.mk (ho); clear HB; clear HO_4; have HB := n0_; have HO194 := n1_; clear n0_ n1_; clear ho hb hg hat; obtain ⟨Ao33, co33, eo33⟩ := Kd.R_slice HO194.out; subst eo33))
              go_ret2
              exact ⟨_, by first | rfl | (simp [errW_none, errW_some] <;> rfl) | (simp [*, errW_none, errW_some] <;> rfl), by first | exact Kd.R_nil _ _ _ _ _ | exact Kd.N_nil _ _ _ _ _ | exact Kd.V_nil _ _ _ _ _ | exact Kd.Q_nil _ _ _ _ _ | exact Kd.S_nil _ _ _ _ _, by repeat (first | (with_reducible first | exact HB.out | apply below_alloc | apply pw_below_drewN | apply below_drew1) | exact HB.out)⟩
             ·rw [if_neg c31] at H
              have c31b0 : decide (256 < (y192.length : Int)) = false := decide_eq_false c31
              have c31b1 : decide (256 < y192.length) = false := decide_eq_false (by omega)
              clear c31
              have H' := Aside0.mk H
              clear H
              have p20 : 0 ≤ (x6_4 : Int) := of_decide_eq_true (by first | (with_reducible assumption) | assumption)
              have q20 : x6_4 < (a0.size : Int) := of_decide_eq_true (by first | (with_reducible assumption) | assumption)
              have hx20 := bt_at a0 x6_4
              replace p20 := eq_true p20
              replace q20 := eq_true q20
              go_wp2_with (first | ((with_reducible refine gate_callee (f := 192) rfl ?_); refine goesL_ (some 79) rfl rfl Try.func192 (by kernel_rfl) rfl #[.int .i64 (Int.tmod (wrap64 ((Int.tmod (wrap64 (x5_1 + (wrap64 (Int.tdiv (wrap64 (x7_4 + (wrap64 ((wrap64 (bt a0 x6_4)) * x8_4)))) 2)))) 4294967296) + 4294967296)) 4294967296)] rfl (by (try simp only [List.map_toArray, List.map_cons, List.map_nil]); first | done | rfl | (simp only [List.length_drop, List.length_take]; rfl)) ?_; (with_reducible refine (spec_l01From.calls (Int.tmod (wrap64 ((Int.tmod (wrap64 (x5_1 + (wrap64 (Int.tdiv (wrap64 (x7_4 + (wrap64 ((wrap64 (bt a0 x6_4)) * x8_4)))) 2)))) 4294967296) + 4294967296)) 4294967296) t191 _ A29.out).mono ?_); rintro e w' ⟨rfl, ⟨nd, rfl⟩⟩; refine ⟨_, rfl, ?_⟩) | ((with_reducible refine gate_builtin (b := .append) (xs := #[.tmp 77, .tmp 80]) rfl ?_); at_builtin; refine Kd.R_append (Kd.float .f32) (w0 := w) w.heap.size rfl (.tmp 77) (.tmp 80) 26 36 (.float .f32 0) 4 rfl Try.underlying26 info36 rfl (by decide) (by omega) u4 x4_1 t191 [.float .f32 t191] (fun _ => True) (fun _ => False) rfl rfl ?aP (fun _ hk => hk.elim) ?aF ?aO ?aB ?aS ?aL ?_; (case aP => exact rfl); (case aB => exact (by repeat (first | (with_reducible first | exact HB.out | apply below_alloc | apply pw_below_drewN | apply below_drew1) | exact HB.out))); (case aF => exact (fun _ _ => trivial)); (case aO => exact (by (with_reducible repeat (first | apply Kd.R_alloc | apply Kd.R_drewN | apply Kd.R_drew)); exact HO_4.out)); (case aS => exact (below_size (by repeat (first | (with_reducible first | exact HB.out | apply below_alloc | apply pw_below_drewN | apply below_drew1) | exact HB.out)))); (case aL => have := LMc30.out; omega); intro v193 w34 ho hb hg hat; rw [← Ny192.out] at ho; have n0_ := Aside0.mk (hb); have n1_ := Aside0.mk (ho); clear HB; clear HO_4; have HB := n0_; have HO194 := n1_; clear n0_ n1_; clear ho hb hg hat; obtain ⟨Ao35, co35, eo35⟩ := Kd.R_slice HO194.out; subst eo35))
              go_roundg kj11
              case measure => have := HK1.out; have := HJ4.out; have := HJ11.out; omega
              case rel => exact ⟨(y192), (Int.tmod (wrap64 ((Int.tmod (wrap64 (x5_1 + (wrap64 (Int.tdiv (wrap64 (x7_4 + (wrap64 ((wrap64 (bt a0 x6_4)) * x8_4)))) 2)))) 4294967296) + 4294967296)) 4294967296), (wrap64 (x6_4 + 1)), (by first | rfl | (simp; done) | (simp [*]; done)), (by first | rfl | (simp; done) | (simp [*]; done)), H', ⟨by have := HK1.out; have := HJ4.out; have := HJ11.out; omega⟩, ⟨by (with_reducible repeat (first | apply Kd.R_alloc | apply Kd.R_drewN | apply Kd.R_drew)); exact HO194.out⟩, ⟨by repeat (first | (with_reducible first | exact HB.out | apply below_alloc | apply pw_below_drewN | apply below_drew1) | exact HB.out)⟩⟩
            ·rw [if_neg c30] at H
             exact absurd H (by simp)
          ·rw [if_neg c19] at H
           exact absurd H (by simp)
         ·rw [if_neg c18] at H
          exact absurd H (by simp)
   ·rw [if_neg c4] at H
    have c4b0 : decide (x6_1 < (a0.size : Int)) = false := decide_eq_false c4
    clear c4
    replace H := Option.bind_eq_some_iff.mp H
    obtain ⟨t195, A360, H⟩ := H
    replace H : (if t195 = true then ((spec_l07Pack.f k1 x4_1).bind fun t196 => (if t196.toList = a0.toList then (some (x4_1, true)) else (some (([] : List Nat), false)))) else (some (([] : List Nat), false))) = some (r1, r2) := H
    have A36 := Aside0.mk A360
    clear A360
    by_cases c37 : t195 = true
    ·subst c37
     have H1 : ((spec_l07Pack.f k1 x4_1).bind fun t196 => (if t196.toList = a0.toList then (some (x4_1, true)) else (some (([] : List Nat), false)))) = some (r1, r2) := by rw [if_pos rfl] at H; exact H
     clear H
     have H := H1
     clear H1
     replace H := Option.bind_eq_some_iff.mp H
     obtain ⟨t196, A380, H⟩ := H
     replace H : (if t196.toList = a0.toList then (some (x4_1, true)) else (some (([] : List Nat), false))) = some (r1, r2) := H
     have A38 := Aside0.mk A380
     clear A380
     by_cases c39 : t196.toList = a0.toList
     ·rw [if_pos c39] at H
      have c39b0 : (t196.toList == a0.toList) = true := beq_iff_eq.mpr c39
      have c39b1 : (t196.toList != a0.toList) = false := bne_eq_false_iff_eq.mpr c39
      clear c39
      simp only [Option.some.injEq, Prod.mk.injEq] at H
      obtain ⟨rfl, rfl⟩ := H
      obtain ⟨Ao40, co40, eo40⟩ := Kd.R_slice HO_4.out
      subst eo40
      go_wp2_with (first | ((with_reducible refine gate_callee (f := 142) rfl ?_); refine goesL_ (some 86) rfl rfl Try.func142 (by kernel_rfl) rfl #[.slice Ao40 x4_1.length co40] rfl (by (try simp only [List.map_toArray, List.map_cons, List.map_nil]); first | done | rfl | (simp only [List.length_drop, List.length_take]; rfl)) ?_; (with_reducible refine (spec_l07Values.calls _ _ x4_1 true _ ?side1 ?side2 A36.out).mono ?_); (case side1 => repeat (first | exact (Kd.R_reads' HO_4.out).2.2 | (with_reducible refine Kd.C_alloc ?_ _) | (with_reducible refine Kd.C_drewN ?_ _) | (with_reducible refine Kd.C_drew ?_))); (case side2 => exact (Kd.R_reads' HO_4.out).2.1); rintro e w' ⟨rfl, ⟨nd, rfl⟩⟩; refine ⟨_, rfl, ?_⟩) | (go_at_call 143; (with_reducible refine (spec_l07Pack.calls k1 _ _ x4_1 t196 _ ?side1 ?side2 A38.out).mono ?_); (case side1 => repeat (first | exact (Kd.R_reads' HO_4.out).2.2 | (with_reducible refine Kd.C_alloc ?_ _) | (with_reducible refine Kd.C_drewN ?_ _) | (with_reducible refine Kd.C_drew ?_))); (case side2 => exact (Kd.R_reads' HO_4.out).2.1); rintro e w41 ⟨rfl, hb⟩; have n0_ := Aside0.mk (Kd.R_below (by (with_reducible repeat (first | apply Kd.R_alloc | apply Kd.R_drewN | apply Kd.R_drew)); exact HO_4.out) hb); have n1_ := Aside0.mk (below_step (by repeat (first | (with_reducible first | exact HB.out | apply below_alloc | apply pw_below_drewN | apply below_drew1) | exact HB.out)) hb); clear HO_4; clear HB; have HO_4 := n0_; have HB := n1_; clear n0_ n1_; (try clear hb); (try clear hb2); (try clear hk); (try clear hi)))
      go_ret2
      exact ⟨_, by first | rfl | (simp [errW_none, errW_some] <;> rfl) | (simp [*, errW_none, errW_some] <;> rfl), by (with_reducible repeat (first | apply Kd.R_alloc | apply Kd.R_drewN | apply Kd.R_drew)); exact HO_4.out, by repeat (first | (with_reducible first | exact HB.out | apply below_alloc | apply pw_below_drewN | apply below_drew1) | exact HB.out)⟩
     ·rw [if_neg c39] at H
      have c39b0 : (t196.toList == a0.toList) = false := beq_eq_false_iff_ne.mpr c39
      have c39b1 : (t196.toList != a0.toList) = true := bne_iff_ne.mpr c39
      simp only [Option.some.injEq, Prod.mk.injEq] at H
      obtain ⟨rfl, rfl⟩ := H
      obtain ⟨Ao42, co42, eo42⟩ := Kd.R_slice HO_4.out
      subst eo42
      go_wp2_with (first | ((with_reducible refine gate_callee (f := 142) rfl ?_); refine goesL_ (some 86) rfl rfl Try.func142 (by kernel_rfl) rfl #[.slice Ao42 x4_1.length co42] rfl (by (try simp only [List.map_toArray, List.map_cons, List.map_nil]); first | done | rfl | (simp only [List.length_drop, List.length_take]; rfl)) ?_; (with_reducible refine (spec_l07Values.calls _ _ x4_1 true _ ?side1 ?side2 A36.out).mono ?_); (case side1 => repeat (first | exact (Kd.R_reads' HO_4.out).2.2 | (with_reducible refine Kd.C_alloc ?_ _) | (with_reducible refine Kd.C_drewN ?_ _) | (with_reducible refine Kd.C_drew ?_))); (case side2 => exact (Kd.R_reads' HO_4.out).2.1); rintro e w' ⟨rfl, ⟨nd, rfl⟩⟩; refine ⟨_, rfl, ?_⟩) | (go_at_call 143; (with_reducible refine (spec_l07Pack.calls k1 _ _ x4_1 t196 _ ?side1 ?side2 A38.out).mono ?_); (case side1 => repeat (first | exact (Kd.R_reads' HO_4.out).2.2 | (with_reducible refine Kd.C_alloc ?_ _) | (with_reducible refine Kd.C_drewN ?_ _) | (with_reducible refine Kd.C_drew ?_))); (case side2 => exact (Kd.R_reads' HO_4.out).2.1); rintro e w43 ⟨rfl, hb⟩; have n0_ := Aside0.mk (Kd.R_below (by (with_reducible repeat (first | apply Kd.R_alloc | apply Kd.R_drewN | apply Kd.R_drew)); exact HO_4.out) hb); have n1_ := Aside0.mk (below_step (by repeat (first | (with_reducible first | exact HB.out | apply below_alloc | apply pw_below_drewN | apply below_drew1) | exact HB.out)) hb); clear HO_4; clear HB; have HO_4 := n0_; have HB := n1_; clear n0_ n1_; (try clear hb); (try clear hb2); (try clear hk); (try clear hi)))
      go_ret2
      exact ⟨_, by first | rfl | (simp [errW_none, errW_some] <;> rfl) | (simp [*, errW_none, errW_some] <;> rfl), by first | exact Kd.R_nil _ _ _ _ _ | exact Kd.N_nil _ _ _ _ _ | exact Kd.V_nil _ _ _ _ _ | exact Kd.Q_nil _ _ _ _ _ | exact Kd.S_nil _ _ _ _ _, by repeat (first | (with_reducible first | exact HB.out | apply below_alloc | apply pw_below_drewN | apply below_drew1) | exact HB.out)⟩
    ·replace c37 := Bool.eq_false_iff.mpr c37
     subst c37
     have H1 : (some (([] : List Nat), false)) = some (r1, r2) := by rw [if_neg (show ¬ (false = true) by decide)] at H; exact H
     clear H
     have H := H1
     clear H1
     simp only [Option.some.injEq, Prod.mk.injEq] at H
     obtain ⟨rfl, rfl⟩ := H
     obtain ⟨Ao44, co44, eo44⟩ := Kd.R_slice HO_4.out
     subst eo44
     go_wp2_with (first | ((with_reducible refine gate_callee (f := 142) rfl ?_); refine goesL_ (some 86) rfl rfl Try.func142 (by kernel_rfl) rfl #[.slice Ao44 x4_1.length co44] rfl (by (try simp only [List.map_toArray, List.map_cons, List.map_nil]); first | done | rfl | (simp only [List.length_drop, List.length_take]; rfl)) ?_; (with_reducible refine (spec_l07Values.calls _ _ x4_1 false _ ?side1 ?side2 A36.out).mono ?_); (case side1 => repeat (first | exact (Kd.R_reads' HO_4.out).2.2 | (with_reducible refine Kd.C_alloc ?_ _) | (with_reducible refine Kd.C_drewN ?_ _) | (with_reducible refine Kd.C_drew ?_))); (case side2 => exact (Kd.R_reads' HO_4.out).2.1); rintro e w' ⟨rfl, ⟨nd, rfl⟩⟩; refine ⟨_, rfl, ?_⟩))
     go_ret2
     exact ⟨_, by first | rfl | (simp [errW_none, errW_some] <;> rfl) | (simp [*, errW_none, errW_some] <;> rfl), by first | exact Kd.R_nil _ _ _ _ _ | exact Kd.N_nil _ _ _ _ _ | exact Kd.V_nil _ _ _ _ _ | exact Kd.Q_nil _ _ _ _ _ | exact Kd.S_nil _ _ _ _ _, by repeat (first | (with_reducible first | exact HB.out | apply below_alloc | apply pw_below_drewN | apply below_drew1) | exact HB.out)⟩

end Go.Proofs.Ytoiaojdkgagblaa.PFnExactRecoverBlocks
