import Derived.Test.YtdfpfiecpcgffaaDoorPFnExactSoundsTextx0
import Derived.Test.YtdfpfiecpcgffaaDoorPFnExactSoundsTextx8
namespace Go.Proofs.YtdfpfiecpcgffaaDoor.PFnExactSoundsText
open Go.RowKit Go.Proofs.YtdfpfiecpcgffaaDoorW.PrintWords Go.Proofs.YtdfpfiecpcgffaaDoorW.PrintLast Go.Proofs.YtdfpfiecpcgffaaDoorW.PrintMore
open Go.Proofs.YtdfpfiecpcgffaaDoorW.PrintFl
attribute [local go_sem high] binOp_feq binOp_fne binOp_fls binOp_fle binOp_fgr binOp_fge binOp_sle binOp_sgt
attribute [local go_sem] run_fopr run_fconv run_fint run_stf run_stc ext_f32bits ext_f32frombits
attribute [local go_sem] max2_int min2_int max_two min_two max_three min_three max_four min_four
set_option linter.unusedVariables false
set_option linter.unusedSimpArgs false
def strings_Join.f (l0 : List ByteArray) (a1 : ByteArray) : Option ByteArray := if l0.length ≤ 140737488355328 ∧ (Lib.join (l0.map (·.data.toList)) a1.data.toList).length ≤ 140737488355328 then some ⟨(Lib.join (l0.map (·.data.toList)) a1.data.toList).toArray⟩ else none
theorem strings_Join.calls (A0 : Option Addr) (c0 : Nat) (l0 : List ByteArray) (a1 : ByteArray) (r : ByteArray) (w : World) (hr0 : Kd.C Kd.string w A0 l0.length l0) (hc0 : l0.length ≤ c0) (hp0 : ∀ ad, A0 = some ad → ad.spot = none) (h : strings_Join.f l0 a1 = some r) :
    Calls Tryd.prog 59 #[.slice A0 l0.length c0, .string a1] w fun e w' => e = .returned (.string r) ∧ Below w.heap.size w w' := by
  unfold strings_Join.f at h
  split at h
  · rename_i hh
    obtain rfl := Option.some.inj h
    exact giv_Join A0 c0 l0 a1 w hr0 hc0 hp0 hh.1 hh.2
  · cases h
def strconv_FormatInt.f (a0 a1 : Int) : Option ByteArray := if 4294967296 ≤ a0 ∧ a0 < 8589934592 ∧ a1 = 16 then some (strOfNums (dgs a0.toNat 9)) else none
theorem strconv_FormatInt.calls (a0 a1 : Int) (r : ByteArray) (w : World) (hT_ : GLh w) (h : strconv_FormatInt.f a0 a1 = some r) :
    Calls Tryd.prog 102 #[.int .i64 a0, .int .i64 a1] w fun e w' => e = .returned (.string r) ∧ Below w.heap.size w w' := by
  unfold strconv_FormatInt.f at h
  split at h
  · rename_i hh
    obtain rfl := Option.some.inj h
    obtain ⟨h0, h1, rfl⟩ := hh
    have ha : a0 = (a0.toNat : Int) := (Int.toNat_of_nonneg (by omega)).symm
    rw [ha]
    exact fmt16 a0.toNat (by omega) (by omega) w (GLh_tab hT_)
  · cases h
def impl_BitsOf.f (a0 : Nat) : Option (Int) := if (fne .f32 a0 a0) = true then (some 2143289344) else (some (wrap64 (((a0 : Nat) : Int))))
set_option maxHeartbeats 8000000 in
set_option maxRecDepth 100000 in
theorem impl_BitsOf.calls (a0 : Nat) (r : Int) (w : World) (h : impl_BitsOf.f a0 = some r) :
    Calls Tryd.prog 103 #[.float .f32 a0] w fun e w' => e = .returned (.int .i64 r) ∧ Drawn0 w w' := by
  have H : (if (fne .f32 a0 a0) = true then (some 2143289344) else (some (wrap64 (((a0 : Nat) : Int))))) = some r := h
  clear h
  by_cases c2 : (fne .f32 a0 a0) = true
  · rw [if_pos c2] at H
    have c2b0 : (fne .f32 a0 a0) = true := c2
    clear c2
    obtain rfl := Option.some.inj H
    go_enter Tryd.func103, Tryd.ntmps103
    go_wp2
    go_ret
    exact ⟨by first | rfl | (simp; done) | (simp [*]; done), by repeat (first | exact Drawn0.refl _ | apply Drawn0.step)⟩
  · rw [if_neg c2] at H
    have c2b0 : (fne .f32 a0 a0) = false := by simpa using c2
    clear c2
    obtain rfl := Option.some.inj H
    go_enter Tryd.func103, Tryd.ntmps103
    go_wp2
    go_ret
    exact ⟨by first | rfl | (simp; done) | (simp [*]; done), by repeat (first | exact Drawn0.refl _ | apply Drawn0.step)⟩
def impl_hexText.f (a0 : Nat) : Option (ByteArray) := (impl_BitsOf.f a0).bind fun t204 => ((strconv_FormatInt.f (wrap64 (t204 + 4294967296)) 16).bind fun t205 => (if 1 ≤ (t205.size : Int) then (some (t205.extract 1 t205.size)) else (none)))
set_option maxHeartbeats 8000000 in
set_option maxRecDepth 100000 in
theorem impl_hexText.calls (a0 : Nat) (r : ByteArray) (w : World) (hT_ : GLh w) (h : impl_hexText.f a0 = some r) :
    Calls Tryd.prog 82 #[.float .f32 a0] w fun e w' => e = .returned (.string r) ∧ Below w.heap.size w w' := by
  have HGT_ := Aside0.mk hT_
  clear hT_
  have HB := Aside0.mk (Below.refl w.heap.size w)
  have H : ((impl_BitsOf.f a0).bind fun t204 => ((strconv_FormatInt.f (wrap64 (t204 + 4294967296)) 16).bind fun t205 => (if 1 ≤ (t205.size : Int) then (some (t205.extract 1 t205.size)) else (none)))) = some r := h
  clear h
  replace H := Option.bind_eq_some_iff.mp H
  obtain ⟨t204, A20, H⟩ := H
  replace H : ((strconv_FormatInt.f (wrap64 (t204 + 4294967296)) 16).bind fun t205 => (if 1 ≤ (t205.size : Int) then (some (t205.extract 1 t205.size)) else (none))) = some r := H
  have A2 := Aside0.mk A20
  clear A20
  replace H := Option.bind_eq_some_iff.mp H
  obtain ⟨t205, A30, H⟩ := H
  replace H : (if 1 ≤ (t205.size : Int) then (some (t205.extract 1 t205.size)) else (none)) = some r := H
  have A3 := Aside0.mk A30
  clear A30
  by_cases c4 : 1 ≤ (t205.size : Int)
  · rw [if_pos c4] at H
    have c4b0 := eq_true c4
    have c4b1 : decide (1 ≤ (t205.size : Int)) = true := decide_eq_true c4
    clear c4
    obtain rfl := Option.some.inj H
    go_enter Tryd.func82, Tryd.ntmps82
    go_wp2_with (first | ((with_reducible refine gate_callee (f := 103) rfl ?_); refine goesL_ (some 5) rfl rfl Tryd.func103 (by kernel_rfl) rfl #[.float .f32 a0] rfl (by (try simp only [List.map_toArray, List.map_cons, List.map_nil]); first | done | rfl | (simp only [List.length_drop, List.length_take]; rfl)) ?_; (with_reducible refine (impl_BitsOf.calls a0 t204 _ A2.out).mono ?_); rintro e w' ⟨rfl, ⟨nd, rfl⟩⟩; refine ⟨_, rfl, ?_⟩) | ((with_reducible refine gate_callee (f := 102) rfl ?_); refine goesL_ (some 7) rfl rfl Tryd.func102 (by kernel_rfl) rfl #[.int .i64 (wrap64 (t204 + 4294967296)), .int .i64 16] rfl (by (try simp only [List.map_toArray, List.map_cons, List.map_nil]); first | done | rfl | (simp only [List.length_drop, List.length_take]; rfl)) ?_; (with_reducible refine (strconv_FormatInt.calls (wrap64 (t204 + 4294967296)) 16 t205 _ ?side1 A3.out).mono ?_); (case side1 => repeat (first | exact HGT_.out | (with_reducible refine GLh_alloc ?_ _) | (with_reducible refine GLh_drewN ?_ _) | (with_reducible refine GLh_drew ?_))); rintro e w5 ⟨rfl, hb⟩; refine ⟨_, rfl, ?_⟩; have n0_ := Aside0.mk (below_step (by repeat (first | (with_reducible first | exact HB.out | apply below_alloc | apply pw_below_drewN | apply below_drew1) | exact HB.out)) hb); clear HB; have HB := n0_; clear n0_; (try clear hb); (try clear hb2); (try clear hk); (try clear hi)))
    go_ret
    exact ⟨by first | rfl | (simp [errW_none, errW_some] <;> rfl) | (simp [*, errW_none, errW_some] <;> rfl), by repeat (first | (with_reducible first | exact HB.out | apply below_alloc | apply pw_below_drewN | apply below_drew1) | exact HB.out)⟩
  · rw [if_neg c4] at H
    exact absurd H (by simp)
def impl_numbersText.l0 : Nat → List ByteArray → List Nat → Int → Int → Option (ByteArray)
 | 0, _, _, _, _ => none
 | k + 1, x3, x12, x13, x14 => if x14 < x13 then (if 0 ≤ x14 then (if x14 < (x12.length : Int) then ((impl_hexText.f (rdOf (0 : Nat) x12 x14)).bind fun t210 => (if x14 < (x3.length : Int) then (impl_numbersText.l0 k (x3.set (x14 : Int).toNat t210) x12 x13 (wrap64 (x14 + 1))) else (none))) else (none)) else (none)) else ((strings_Join.f x3 (⟨#[44]⟩ : ByteArray)).bind fun t212 => (some t212))
def impl_numbersText.f (k : Nat) (l0 : List Nat) : Option (ByteArray) := if (l0.length : Int) = 0 then (some (⟨#[110, 111, 110, 101]⟩ : ByteArray)) else (if 0 ≤ (l0.length : Int) then (if ((l0.length : Int) : Int).toNat ≤ 17592186044416 then (impl_numbersText.l0 k (List.replicate ((l0.length : Int) : Int).toNat (⟨#[]⟩ : ByteArray)) l0 (l0.length : Int) 0) else (none)) else (none))
theorem impl_numbersText.mono_l : ∀ k, (∀ y0 y1 y2 y3, LeO (impl_numbersText.l0 k y0 y1 y2 y3) (impl_numbersText.l0 (k + 1) y0 y1 y2 y3))
 | 0 => fun _ _ _ _ r h => by simp [impl_numbersText.l0] at h
 | k + 1 => by
  have ih0 := impl_numbersText.mono_l k
  ·intro y0 y1 y2 y3
   unfold impl_numbersText.l0
   repeat' first
   | (with_reducible exact ih0 _ _ _ _)
   | (with_reducible exact LeO.refl _)
   | (with_reducible exact LeO.none _)
   | (with_reducible refine LeO.ite ?_ ?_)
   | (with_reducible refine LeO.bind ?_ (fun _ => ?_))
   | exact ih0 _ _ _ _
   | exact LeO.none _
   | refine LeO.ite ?_ ?_
   | refine LeO.bind ?_ (fun _ => ?_)
theorem impl_numbersText.mono : ∀ a0 k, LeO (impl_numbersText.f k a0) (impl_numbersText.f (k + 1) a0) := by
 intro a0 k
 have ih0 := impl_numbersText.mono_l k
 unfold impl_numbersText.f
 repeat' first
   | (with_reducible exact ih0 _ _ _ _)
   | (with_reducible exact LeO.refl _)
   | (with_reducible exact LeO.none _)
   | (with_reducible refine LeO.ite ?_ ?_)
   | (with_reducible refine LeO.bind ?_ (fun _ => ?_))
   | exact ih0 _ _ _ _
   | exact LeO.none _
   | refine LeO.ite ?_ ?_
   | refine LeO.bind ?_ (fun _ => ?_)
set_option maxHeartbeats 8000000 in
set_option maxRecDepth 100000 in
theorem impl_numbersText.calls (k : Nat) (A0 : Option Addr) (c0 : Nat) (l0 : List Nat) (r : ByteArray) (w : World) (hr0 : Kd.C (Kd.float .f32) w A0 l0.length l0) (hc0 : l0.length ≤ c0) (hT_ : GLh w) (h : impl_numbersText.f k l0 = some r) :
  Calls Tryd.prog 58 #[.slice A0 l0.length c0] w fun e w' => e = .returned (.string r) ∧ Below w.heap.size w w' := by
 have hu30 := Tryd.underlying30
 have hu9 := Tryd.underlying9
 have HR0 := Aside0.mk hr0
 have HC0 := Aside0.mk hc0
 clear hr0 hc0
 have HGT_ := Aside0.mk hT_
 clear hT_
 have HB := Aside0.mk (Below.refl w.heap.size w)
 have H : (if (l0.length : Int) = 0 then (some (⟨#[110, 111, 110, 101]⟩ : ByteArray)) else (if 0 ≤ (l0.length : Int) then (if ((l0.length : Int) : Int).toNat ≤ 17592186044416 then (impl_numbersText.l0 k (List.replicate ((l0.length : Int) : Int).toNat (⟨#[]⟩ : ByteArray)) l0 (l0.length : Int) 0) else (none)) else (none))) = some r := h
 clear h
 by_cases c2 : (l0.length : Int) = 0
 ·rw [if_pos c2] at H
  have c2b0 : ((l0.length : Int) == 0) = true := beq_iff_eq.mpr c2
  have c2b1 : ((l0.length : Int) != 0) = false := bne_eq_false_iff_eq.mpr c2
  clear c2
  obtain rfl := Option.some.inj H
  go_enter Tryd.func58, Tryd.ntmps58
  go_wp2
  go_ret
  exact ⟨by first | rfl | (simp [errW_none, errW_some] <;> rfl) | (simp [*, errW_none, errW_some] <;> rfl), by repeat (first | (with_reducible first | exact HB.out | apply below_alloc | apply pw_below_drewN | apply below_drew1) | exact HB.out)⟩
 ·rw [if_neg c2] at H
  have c2b0 : ((l0.length : Int) == 0) = false := beq_eq_false_iff_ne.mpr c2
  have c2b1 : ((l0.length : Int) != 0) = true := bne_iff_ne.mpr c2
  have c2b2 : ¬ (l0 = []) := fun h_ => c2 (by rw [h_]; rfl)
  by_cases c3 : 0 ≤ (l0.length : Int)
  ·rw [if_pos c3] at H
   have c3b0 := eq_true c3
   have c3b1 : decide (0 ≤ (l0.length : Int)) = true := decide_eq_true c3
   clear c3
   by_cases c4 : ((l0.length : Int) : Int).toNat ≤ 17592186044416
   ·rw [if_pos c4] at H
    have c4b0 := eq_true c4
    have c4b1 : decide (((l0.length : Int) : Int).toNat ≤ 17592186044416) = true := decide_eq_true c4
    clear c4
    obtain ⟨y206, hy206⟩ : ∃ y_ : List ByteArray, y_ = (List.replicate ((l0.length : Int) : Int).toNat (⟨#[]⟩ : ByteArray)) := ⟨_, rfl⟩
    replace H : (impl_numbersText.l0 k y206 l0 (l0.length : Int) 0) = some r := by first | (rw [hy206]; with_reducible exact H) | (have H2_ := (Option.bind_some _ _).symm.trans H; rw [hy206]; with_reducible exact H2_) | (have H2_ := (Option.bind_some _ _).symm.trans H; with_reducible exact H2_) | with_reducible exact H | (rw [hy206]; exact H) | exact H
    have Ny206 := Aside0.mk hy206
    clear hy206
    have H' := Aside0.mk H
    clear H
    go_enter Tryd.func58, Tryd.ntmps58
    go_wp2_with (first | ((with_reducible refine gate_dst (N := 11) rfl ?_); refine Kd.R_make Kd.string _ 9 rfl (N := 11) rfl 73 _ _ rfl (l0.length : Int) rfl rfl Tryd.underlying73 (.string ⟨#[]⟩) 16 info9 rfl (by decide) (by omega) (⟨#[]⟩ : ByteArray) (ok := fun _ => True) (okp := fun _ => True) rfl (fun _ hk => hk) trivial (of_decide_eq_true (by first | (with_reducible assumption) | assumption)) (Nat.le_trans (Nat.mul_le_mul_right _ (of_decide_eq_true (by first | (with_reducible assumption) | assumption) : (l0.length : Int).toNat ≤ 17592186044416)) (by omega)) (Below.refl _ _) (Nat.le_refl _) ?_; intro v207 w5 ho6 hb hg_ hnew_; clear hg_ hnew_; (first | rw [← Ny206.out] at ho6 | (simp only [Int.reduceToNat] at ho6; rw [← Ny206.out] at ho6)); have n0_ := Aside0.mk (Kd.R_lower ho6 (below_size (by repeat (first | (with_reducible first | exact HB.out | apply below_alloc | apply pw_below_drewN | apply below_drew1) | exact HB.out)))); have n1_ := Aside0.mk (below_step (by repeat (first | (with_reducible first | exact HB.out | apply below_alloc | apply pw_below_drewN | apply below_drew1) | exact HB.out)) hb); clear HB; have HO208 := n0_; have HB := n1_; clear n0_ n1_; clear hb ho6))
    go_loopg [14] k (fun kq v14 w' => ∃ (x3_1 : List ByteArray) (x14_1 : Int), v14 = .int .i64 x14_1 ∧ Aside0 (impl_numbersText.l0 kq x3_1 l0 (l0.length : Int) x14_1 = some r) ∧ Aside0 (kq ≤ k) ∧ Aside0 (Kd.R Kd.string 9 w' w.heap.size (fun _ => True) v207 x3_1) ∧ Aside0 (Below w.heap.size w w'))
    case atStart => exact ⟨(y206), (0), (by first | rfl | (simp; done) | (simp [*]; done)), H', ⟨Nat.le_refl _⟩, ⟨by (with_reducible repeat (first | apply Kd.R_alloc | apply Kd.R_drewN | apply Kd.R_drew)); exact HO208.out⟩, ⟨by repeat (first | (with_reducible first | exact HB.out | apply below_alloc | apply pw_below_drewN | apply below_drew1) | exact HB.out)⟩⟩
    case round =>
     clear H'
     try clear c2
     try clear c2b0
     try clear c2b1
     try clear c2b2
     try clear p2
     try clear c3
     try clear c3b0
     try clear c3b1
     try clear c4
     try clear c4b0
     try clear c4b1
     try clear c5
     obtain ⟨x3_1, x14_1, rfl, HA, HK1, HO_3, HB⟩ := hrel
     cases gk with
     | zero => exact absurd HA.out (by simp [impl_numbersText.l0])
     | succ k1 =>
      have H := HA.out
      clear HA
      simp only [impl_numbersText.l0] at H
      by_cases c7 : x14_1 < (l0.length : Int)
      ·rw [if_pos c7] at H
       have c7b0 : decide (x14_1 < (l0.length : Int)) = true := decide_eq_true c7
       clear c7
       by_cases c8 : 0 ≤ x14_1
       ·rw [if_pos c8] at H
        have c8b0 : decide (0 ≤ x14_1) = true := decide_eq_true c8
        clear c8
        by_cases c9 : x14_1 < (l0.length : Int)
        ·rw [if_pos c9] at H
         have c9b0 : decide (x14_1 < (l0.length : Int)) = true := decide_eq_true c9
         clear c9
         replace H := Option.bind_eq_some_iff.mp H
         obtain ⟨t210, A100, H⟩ := H
         replace H : (if x14_1 < (x3_1.length : Int) then (impl_numbersText.l0 k1 (x3_1.set (x14_1 : Int).toNat t210) l0 (l0.length : Int) (wrap64 (x14_1 + 1))) else (none)) = some r := H
         have A10 := Aside0.mk A100
         clear A100
         by_cases c11 : x14_1 < (x3_1.length : Int)
         ·rw [if_pos c11] at H
          have c11b0 : decide (x14_1 < (x3_1.length : Int)) = true := decide_eq_true c11
          clear c11
          obtain ⟨y211, hy211⟩ : ∃ y_ : List ByteArray, y_ = (x3_1.set (x14_1 : Int).toNat t210) := ⟨_, rfl⟩
          replace H : (impl_numbersText.l0 k1 y211 l0 (l0.length : Int) (wrap64 (x14_1 + 1))) = some r := by first | (rw [hy211]; with_reducible exact H) | (have H2_ := (Option.bind_some _ _).symm.trans H; rw [hy211]; with_reducible exact H2_) | (have H2_ := (Option.bind_some _ _).symm.trans H; with_reducible exact H2_) | with_reducible exact H | (rw [hy211]; exact H) | exact H
          have Ny211 := Aside0.mk hy211
          clear hy211
          have H' := Aside0.mk H
          clear H
          have p209 : 0 ≤ (x14_1 : Int) := of_decide_eq_true (by first | (with_reducible assumption) | assumption)
          have q209 : x14_1 < (l0.length : Int) := of_decide_eq_true (by first | (with_reducible assumption) | assumption)
          obtain ⟨ad209, e209, hx209_0⟩ := Kd.at_float HR0.out x14_1 p209 q209
          cases e209
          replace hx209_0 := (HB.out.cell (World.block_lt_of_cell? w _ hx209_0)).trans hx209_0
          replace p209 := eq_true p209
          replace q209 := eq_true q209
          go_wp2_with (first | ((with_reducible refine gate_callee (f := 82) rfl ?_); refine goesL_ (some 22) rfl rfl Tryd.func82 (by kernel_rfl) rfl #[.float .f32 (rdOf (0 : Nat) l0 x14_1)] rfl (by (try simp only [List.map_toArray, List.map_cons, List.map_nil]); first | done | rfl | (simp only [List.length_drop, List.length_take]; rfl)) ?_; (with_reducible refine (impl_hexText.calls (rdOf (0 : Nat) l0 x14_1) t210 _ ?side1 A10.out).mono ?_); (case side1 => repeat (first | exact (GLh_below HGT_.out HB.out) | (with_reducible refine GLh_alloc ?_ _) | (with_reducible refine GLh_drewN ?_ _) | (with_reducible refine GLh_drew ?_))); rintro e w13 ⟨rfl, hb⟩; refine ⟨_, rfl, ?_⟩; have n0_ := Aside0.mk (Kd.R_below (by (with_reducible repeat (first | apply Kd.R_alloc | apply Kd.R_drewN | apply Kd.R_drew)); exact HO_3.out) hb); have n1_ := Aside0.mk (below_step (by repeat (first | (with_reducible first | exact HB.out | apply below_alloc | apply pw_below_drewN | apply below_drew1) | exact HB.out)) hb); clear HO_3; clear HB; have HO_3 := n0_; have HB := n1_; clear n0_ n1_; (try clear hb); (try clear hb2); (try clear hk); (try clear hi); have p12 : 0 ≤ (x14_1 : Int) := of_decide_eq_true (by first | (with_reducible assumption) | assumption); have q12 : (x14_1 : Int) < ((x3_1.length : Int) : Int) := of_decide_eq_true (by first | (with_reducible assumption) | assumption); obtain ⟨go12, co12, eo12, gb12, gl12, cl12, HG12⟩ := Kd.R_form HO_3.out (by omega); (first | cases eo12 | (injection eo12 with ea_ en_ ec_; (first | subst ea_ | (injection ea_ with ea_; subst ea_)); subst ec_; clear en_)); have GB12 := Aside0.mk gb12; have GG12 := Aside0.mk HG12; clear gb12 gl12 HG12; obtain ⟨hx12_0, hf12_0⟩ := Kd.R_celln (⟨#[]⟩ : ByteArray) HO_3.out (x14_1 : Int) p12 q12; replace p12 := eq_true p12; replace q12 := eq_true q12; obtain ⟨hy14_, hz14_⟩ := Kd.R_celln (⟨#[]⟩ : ByteArray) HO_3.out (x14_1 : Int) (of_decide_eq_true (by first | (with_reducible assumption) | assumption)) (of_decide_eq_true (by first | (with_reducible assumption) | assumption)); have HP14 := Kd.R_putg HO_3.out (x14_1 : Int) t210) | ((with_reducible refine gate_store (t := 9) (p := 23) rfl ?_); refine store_event (t := 9) (p := 23) (v := ?vo_w15) (w1 := (w13.setCell ⟨go12, (x14_1 : Int).toNat, none⟩ (.string t210))) ?hg ?ho ?hn ?hr ?_; (case ho => rfl); (case hg => rfl); (case hn => rfl); (case hr => first | (go_simp; done) | (go_simp; rfl) | (simp (disch := omega) only [w64_id]; go_simp; done) | (go_simp; simp (disch := omega) only [w64_id]; done)); intro w15 hw; have hg : w13.grownBy w15 (some go12) := (by rw [hw]; exact HP14.2); have hp_ : Kd.R Kd.string 9 w15 w.heap.size (fun _ => True) (.slice (some ⟨go12, 0, none⟩) x3_1.length co12) y211 := (by rw [hw, Ny211.out]; exact HP14.1); clear HP14; have n0_ := Aside0.mk (hp_); have n1_ := Aside0.mk ((by rw [hw]; exact below_set (HB.out) GB12.out : Below w.heap.size w w15)); clear HO_3; clear HB; have HO_3 := n0_; have HB := n1_; clear n0_ n1_; clear hg hw hp_))
          go_roundg k1
          case measure => have := HK1.out; omega
          case rel => exact ⟨(y211), (wrap64 (x14_1 + 1)), (by first | rfl | (simp; done) | (simp [*]; done)), H', ⟨by have := HK1.out; omega⟩, ⟨by (with_reducible repeat (first | apply Kd.R_alloc | apply Kd.R_drewN | apply Kd.R_drew)); exact HO_3.out⟩, ⟨by repeat (first | (with_reducible first | exact HB.out | apply below_alloc | apply pw_below_drewN | apply below_drew1) | exact HB.out)⟩⟩
         ·rw [if_neg c11] at H
          exact absurd H (by simp)
        ·rw [if_neg c9] at H
         exact absurd H (by simp)
       ·rw [if_neg c8] at H
        exact absurd H (by simp)
      ·rw [if_neg c7] at H
       have c7b0 : decide (x14_1 < (l0.length : Int)) = false := decide_eq_false c7
       clear c7
       replace H := Option.bind_eq_some_iff.mp H
       obtain ⟨t212, A160, H⟩ := H
       replace H : (some t212) = some r := H
       have A16 := Aside0.mk A160
       clear A160
       obtain rfl := Option.some.inj H
       obtain ⟨Ao17, co17, eo17⟩ := Kd.R_slice HO_3.out
       subst eo17
       go_wp2_with (first | ((with_reducible refine gate_callee (f := 59) rfl ?_); refine goesL_ (some 26) rfl rfl Tryd.func59 (by kernel_rfl) rfl #[.slice Ao17 x3_1.length co17, .string (⟨#[44]⟩ : ByteArray)] rfl (by (try simp only [List.map_toArray, List.map_cons, List.map_nil]); first | done | rfl | (simp only [List.length_drop, List.length_take]; rfl)) ?_; (with_reducible refine (strings_Join.calls _ _ x3_1 (⟨#[44]⟩ : ByteArray) t212 _ ?side1 ?side2 ?side3 A16.out).mono ?_); (case side1 => repeat (first | exact (Kd.R_reads' HO_3.out).2.2 | (with_reducible refine Kd.C_alloc ?_ _) | (with_reducible refine Kd.C_drewN ?_ _) | (with_reducible refine Kd.C_drew ?_))); (case side2 => exact (Kd.R_reads' HO_3.out).2.1); (case side3 => exact own_plain HO_3.out); rintro e w18 ⟨rfl, hb⟩; refine ⟨_, rfl, ?_⟩; have n0_ := Aside0.mk (Kd.R_below (by (with_reducible repeat (first | apply Kd.R_alloc | apply Kd.R_drewN | apply Kd.R_drew)); exact HO_3.out) hb); have n1_ := Aside0.mk (below_step (by repeat (first | (with_reducible first | exact HB.out | apply below_alloc | apply pw_below_drewN | apply below_drew1) | exact HB.out)) hb); clear HO_3; clear HB; have HO_3 := n0_; have HB := n1_; clear n0_ n1_; (try clear hb); (try clear hb2); (try clear hk); (try clear hi)))
       go_ret
       exact ⟨by first | rfl | (simp [errW_none, errW_some] <;> rfl) | (simp [*, errW_none, errW_some] <;> rfl), by repeat (first | (with_reducible first | exact HB.out | apply below_alloc | apply pw_below_drewN | apply below_drew1) | exact HB.out)⟩
   ·rw [if_neg c4] at H
    exact absurd H (by simp)
  ·rw [if_neg c3] at H
   exact absurd H (by simp)
abbrev impl_soundsText.z0 : Array Bool := #[false, false, false, false, false, false, false, false, false, false, false, false, false, false, false, false, false, false, false, false, false, false, false]
abbrev impl_soundsText.z1 : Array Bool := #[true, false, false, false, false, false, false, false, false, false, false, false, false, false, false, false, false, false, false, false, false, false, false]
abbrev impl_soundsText.z2 : Array Bool := #[true, true, false, false, false, false, false, false, false, false, false, false, false, false, false, false, false, false, false, false, false, false, false]
abbrev impl_soundsText.z3 : Array Bool := #[true, true, true, false, false, false, false, false, false, false, false, false, false, false, false, false, false, false, false, false, false, false, false]
abbrev impl_soundsText.z4 : Array Bool := #[true, true, true, false, false, true, false, false, false, false, false, false, false, false, false, false, false, false, false, false, false, false, false]
abbrev impl_soundsText.z5 : Array Bool := #[true, true, true, false, false, true, false, false, false, false, true, false, false, false, false, false, false, false, false, false, false, false, false]
abbrev impl_soundsText.z6 : Array Bool := #[true, true, true, false, false, true, false, false, false, false, true, false, true, false, false, false, false, false, false, false, false, false, false]
abbrev impl_soundsText.z7 : Array Bool := #[true, true, true, false, false, true, false, false, false, false, true, false, true, false, true, false, false, false, false, false, false, false, false]
abbrev impl_soundsText.z8 : Array Bool := #[true, true, true, false, false, true, false, false, false, false, true, false, true, false, true, false, true, false, false, false, false, false, false]
abbrev impl_soundsText.z9 : Array Bool := #[true, true, true, true, false, true, false, false, false, false, true, false, true, false, true, false, true, false, false, false, false, false, false]
abbrev impl_soundsText.z10 : Array Bool := #[true, true, true, true, true, true, false, false, false, false, true, false, true, false, true, false, true, false, false, false, false, false, false]
abbrev impl_soundsText.z11 : Array Bool := #[true, true, true, true, true, true, true, false, false, false, true, false, true, false, true, false, true, false, false, false, false, false, false]
abbrev impl_soundsText.z12 : Array Bool := #[true, true, true, true, true, true, true, false, false, false, true, true, true, false, true, false, true, false, false, false, false, false, false]
abbrev impl_soundsText.z13 : Array Bool := #[true, true, true, true, true, true, true, false, false, false, true, true, true, true, true, false, true, false, false, false, false, false, false]
abbrev impl_soundsText.z14 : Array Bool := #[true, true, true, true, true, true, true, false, false, false, true, true, true, true, true, true, true, false, false, false, false, false, false]
abbrev impl_soundsText.z15 : Array Bool := #[true, true, true, true, true, true, true, false, false, false, true, true, true, true, true, true, true, true, false, false, false, false, false]
abbrev impl_soundsText.z16 : Array Bool := #[true, true, true, true, true, true, true, true, true, true, true, true, true, true, true, true, true, true, true, false, false, false, false]
abbrev impl_soundsText.z17 : Array Bool := #[true, true, true, true, true, true, true, true, false, false, true, true, true, true, true, true, true, true, false, false, false, false, false]
abbrev impl_soundsText.z18 : Array Bool := #[true, true, true, true, true, true, true, false, false, false, true, true, true, true, true, true, true, true, true, false, false, false, false]
abbrev impl_soundsText.z19 : Array Bool := #[true, true, true, true, true, true, true, true, true, false, true, true, true, true, true, true, true, true, false, false, false, false, false]
abbrev impl_soundsText.z20 : Array Bool := #[true, true, true, true, true, true, true, true, true, true, true, true, true, true, true, true, true, true, false, false, false, false, false]
abbrev impl_soundsText.z21 : Array Bool := #[true, true, true, true, true, true, true, true, false, false, true, true, true, true, true, true, true, true, true, false, false, false, false]
abbrev impl_soundsText.z22 : Array Bool := #[true, true, true, true, true, true, true, true, true, false, true, true, true, true, true, true, true, true, true, false, false, false, false]
abbrev impl_soundsText.z23 : Array Bool := #[true, true, true, true, true, true, true, true, true, true, true, true, true, true, true, true, true, true, true, true, false, false, false]
abbrev impl_soundsText.z24 : Array Bool := #[true, true, true, true, true, true, true, true, true, true, true, true, true, true, true, true, true, true, true, true, true, false, false]
abbrev impl_soundsText.z25 : Array Bool := #[true, true, true, true, true, true, true, true, true, true, true, true, true, true, true, true, true, true, true, true, true, true, false]
abbrev impl_soundsText.z26 : Array Bool := #[true, true, true, true, true, true, true, true, true, true, true, true, true, true, true, true, true, true, true, true, true, true, true]
def impl_soundsText.l0 : Nat → List ByteArray → List (S58) → Int → Int → Option (ByteArray)
 | 0, _, _, _, _ => none
 | k + 1, x3, x12, x13, x14 => if x14 < x13 then (if 0 ≤ x14 then (if x14 < (x12.length : Int) then (if ((rd_T58 x12 x14).f0).size + 1 ≤ 9223372036854775807 then ((impl_numbersText.f k ((rd_T58 x12 x14).f1)).bind fun t218 => (if (((rd_T58 x12 x14).f0) ++ (⟨#[58]⟩ : ByteArray)).size + t218.size ≤ 9223372036854775807 then (if ((((rd_T58 x12 x14).f0) ++ (⟨#[58]⟩ : ByteArray)) ++ t218).size + 1 ≤ 9223372036854775807 then ((impl_numbersText.f k (([(rd_T58 x12 x14).f2, (rd_T58 x12 x14).f3, (rd_T58 x12 x14).f4, (rd_T58 x12 x14).f5] : List Nat))).bind fun t222 => (if (((((rd_T58 x12 x14).f0) ++ (⟨#[58]⟩ : ByteArray)) ++ t218) ++ (⟨#[58]⟩ : ByteArray)).size + t222.size ≤ 9223372036854775807 then (if x14 < (x3.length : Int) then (impl_soundsText.l0 k (x3.set (x14 : Int).toNat ((((((rd_T58 x12 x14).f0) ++ (⟨#[58]⟩ : ByteArray)) ++ t218) ++ (⟨#[58]⟩ : ByteArray)) ++ t222)) x12 x13 (wrap64 (x14 + 1))) else (none)) else (none))) else (none)) else (none))) else (none)) else (none)) else (none)) else ((strings_Join.f x3 (⟨#[47]⟩ : ByteArray)).bind fun t224 => (some t224))
def impl_soundsText.f (k : Nat) (l0 : List (S58)) : Option (ByteArray) := if (l0.length : Int) = 0 then (some (⟨#[110, 111, 110, 101]⟩ : ByteArray)) else (if 0 ≤ (l0.length : Int) then (if ((l0.length : Int) : Int).toNat ≤ 17592186044416 then (impl_soundsText.l0 k (List.replicate ((l0.length : Int) : Int).toNat (⟨#[]⟩ : ByteArray)) l0 (l0.length : Int) 0) else (none)) else (none))
theorem impl_soundsText.mono_l : ∀ k, (∀ y0 y1 y2 y3, LeO (impl_soundsText.l0 k y0 y1 y2 y3) (impl_soundsText.l0 (k + 1) y0 y1 y2 y3))
 | 0 => fun _ _ _ _ r h => by simp [impl_soundsText.l0] at h
 | k + 1 => by
  have ih0 := impl_soundsText.mono_l k
  ·intro y0 y1 y2 y3
   unfold impl_soundsText.l0
   repeat' first
   | (with_reducible exact ih0 _ _ _ _)
   | (with_reducible exact impl_numbersText.mono _ _)
   | (with_reducible exact LeO.refl _)
   | (with_reducible exact LeO.none _)
   | (with_reducible refine LeO.ite ?_ ?_)
   | (with_reducible refine LeO.bind ?_ (fun _ => ?_))
   | exact ih0 _ _ _ _
   | exact impl_numbersText.mono _ _
   | exact LeO.none _
   | refine LeO.ite ?_ ?_
   | refine LeO.bind ?_ (fun _ => ?_)
theorem impl_soundsText.mono : ∀ a0 k, LeO (impl_soundsText.f k a0) (impl_soundsText.f (k + 1) a0) := by
 intro a0 k
 have ih0 := impl_soundsText.mono_l k
 unfold impl_soundsText.f
 repeat' first
   | (with_reducible exact ih0 _ _ _ _)
   | (with_reducible exact impl_numbersText.mono _ _)
   | (with_reducible exact LeO.refl _)
   | (with_reducible exact LeO.none _)
   | (with_reducible refine LeO.ite ?_ ?_)
   | (with_reducible refine LeO.bind ?_ (fun _ => ?_))
   | exact ih0 _ _ _ _
   | exact impl_numbersText.mono _ _
   | exact LeO.none _
   | refine LeO.ite ?_ ?_
   | refine LeO.bind ?_ (fun _ => ?_)
def impl_soundsText.T7 : Bool × List (List Nat × List Nat) := (true, [([], []), ([], []), ([], []), ([2], [2]), ([3], [3]), ([], []), ([5], [5]), ([6], [6]), ([4, 7], [4, 7]), ([8], [8]), ([], []), ([10], [10]), ([], []), ([12], [12]), ([], []), ([14], [14]), ([], []), ([16], [16]), ([11, 13, 15, 17], [11, 13, 15, 17]), ([18, 7], [18]), ([9, 19], [9, 19]), ([0, 1, 0, 1, 2, 3, 4, 5, 6, 7, 8, 9, 10, 11, 12, 13, 14, 15, 16, 17, 18, 19, 20], [0, 1]), ([21, 20, 19, 0, 1, 2, 3, 4, 5, 6, 7, 8, 9, 10, 11, 12, 13, 14, 15, 16, 17, 18, 19, 20], [20, 21])])
def impl_soundsText.B7 : List Nat := [0, 0, 0, 4, 12, 0, 32, 96, 252, 508, 0, 1024, 0, 4096, 0, 16384, 0, 65536, 261120, 523488, 1048572, 2097151, 4194303]
theorem impl_soundsText.tab7 : rtab .any (opsOf Tryd.f35 7) = impl_soundsText.T7 := by kernel_rfl
theorem impl_soundsText.bits7 : waitsOk impl_soundsText.T7.2 impl_soundsText.B7 = true := by kernel_rfl
set_option maxHeartbeats 8000000 in
set_option maxRecDepth 100000 in
theorem impl_soundsText.calls (k : Nat) (A0 : Option Addr) (c0 : Nat) (l0 : List (S58)) (r : ByteArray) (w : World) (hr0 : Kd.C k58 w A0 l0.length l0) (hc0 : l0.length ≤ c0) (hT_ : GLh w) (h : impl_soundsText.f k l0 = some r) :
  Calls Tryd.prog 35 #[.slice A0 l0.length c0] w fun e w' => e = .returned (.string r) ∧ Below w.heap.size w w' := by
 have hu58 := Tryd.underlying58
 have hu9 := Tryd.underlying9
 have hu37 := Tryd.underlying37
 have hu30 := Tryd.underlying30
 have HR0 := Aside0.mk hr0
 have HC0 := Aside0.mk hc0
 clear hr0 hc0
 have HGT_ := Aside0.mk hT_
 clear hT_
 have HB := Aside0.mk (Below.refl w.heap.size w)
 have H : (if (l0.length : Int) = 0 then (some (⟨#[110, 111, 110, 101]⟩ : ByteArray)) else (if 0 ≤ (l0.length : Int) then (if ((l0.length : Int) : Int).toNat ≤ 17592186044416 then (impl_soundsText.l0 k (List.replicate ((l0.length : Int) : Int).toNat (⟨#[]⟩ : ByteArray)) l0 (l0.length : Int) 0) else (none)) else (none))) = some r := h
 clear h
 by_cases c2 : (l0.length : Int) = 0
 ·rw [if_pos c2] at H
  have c2b0 : ((l0.length : Int) == 0) = true := beq_iff_eq.mpr c2
  have c2b1 : ((l0.length : Int) != 0) = false := bne_eq_false_iff_eq.mpr c2
  clear c2
  obtain rfl := Option.some.inj H
  go_enter Tryd.func35, Tryd.ntmps35
  go_wp2
  go_ret
  exact ⟨by first | rfl | (simp [errW_none, errW_some] <;> rfl) | (simp [*, errW_none, errW_some] <;> rfl), by repeat (first | (with_reducible first | exact HB.out | apply below_alloc | apply pw_below_drewN | apply below_drew1) | exact HB.out)⟩
 ·rw [if_neg c2] at H
  have c2b0 : ((l0.length : Int) == 0) = false := beq_eq_false_iff_ne.mpr c2
  have c2b1 : ((l0.length : Int) != 0) = true := bne_iff_ne.mpr c2
  have c2b2 : ¬ (l0 = []) := fun h_ => c2 (by rw [h_]; rfl)
  by_cases c3 : 0 ≤ (l0.length : Int)
  ·rw [if_pos c3] at H
   have c3b0 := eq_true c3
   have c3b1 : decide (0 ≤ (l0.length : Int)) = true := decide_eq_true c3
   clear c3
   by_cases c4 : ((l0.length : Int) : Int).toNat ≤ 17592186044416
   ·rw [if_pos c4] at H
    have c4b0 := eq_true c4
    have c4b1 : decide (((l0.length : Int) : Int).toNat ≤ 17592186044416) = true := decide_eq_true c4
    clear c4
    obtain ⟨y213, hy213⟩ : ∃ y_ : List ByteArray, y_ = (List.replicate ((l0.length : Int) : Int).toNat (⟨#[]⟩ : ByteArray)) := ⟨_, rfl⟩
    replace H : (impl_soundsText.l0 k y213 l0 (l0.length : Int) 0) = some r := by first | (rw [hy213]; with_reducible exact H) | (have H2_ := (Option.bind_some _ _).symm.trans H; rw [hy213]; with_reducible exact H2_) | (have H2_ := (Option.bind_some _ _).symm.trans H; with_reducible exact H2_) | with_reducible exact H | (rw [hy213]; exact H) | exact H
    have Ny213 := Aside0.mk hy213
    clear hy213
    have H' := Aside0.mk H
    clear H
    go_enter Tryd.func35, Tryd.ntmps35
    go_wp2_with (first | ((with_reducible refine gate_dst (N := 11) rfl ?_); refine Kd.R_make Kd.string _ 9 rfl (N := 11) rfl 73 _ _ rfl (l0.length : Int) rfl rfl Tryd.underlying73 (.string ⟨#[]⟩) 16 info9 rfl (by decide) (by omega) (⟨#[]⟩ : ByteArray) (ok := fun _ => True) (okp := fun _ => True) rfl (fun _ hk => hk) trivial (of_decide_eq_true (by first | (with_reducible assumption) | assumption)) (Nat.le_trans (Nat.mul_le_mul_right _ (of_decide_eq_true (by first | (with_reducible assumption) | assumption) : (l0.length : Int).toNat ≤ 17592186044416)) (by omega)) (Below.refl _ _) (Nat.le_refl _) ?_; intro v214 w5 ho6 hb hg_ hnew_; clear hg_ hnew_; (first | rw [← Ny213.out] at ho6 | (simp only [Int.reduceToNat] at ho6; rw [← Ny213.out] at ho6)); have n0_ := Aside0.mk (Kd.R_lower ho6 (below_size (by repeat (first | (with_reducible first | exact HB.out | apply below_alloc | apply pw_below_drewN | apply below_drew1) | exact HB.out)))); have n1_ := Aside0.mk (below_step (by repeat (first | (with_reducible first | exact HB.out | apply below_alloc | apply pw_below_drewN | apply below_drew1) | exact HB.out)) hb); clear HB; have HO215 := n0_; have HB := n1_; clear n0_ n1_; clear hb ho6))
    go_loopg [14] k (fun kq v14 w' => ∃ (x3_1 : List ByteArray) (x14_1 : Int), v14 = .int .i64 x14_1 ∧ Aside0 (impl_soundsText.l0 kq x3_1 l0 (l0.length : Int) x14_1 = some r) ∧ Aside0 (kq ≤ k) ∧ Aside0 (Kd.R Kd.string 9 w' w.heap.size (fun _ => True) v214 x3_1) ∧ Aside0 (Below w.heap.size w w'))
    case atStart => exact ⟨(y213), (0), (by first | rfl | (simp; done) | (simp [*]; done)), H', ⟨Nat.le_refl _⟩, ⟨by (with_reducible repeat (first | apply Kd.R_alloc | apply Kd.R_drewN | apply Kd.R_drew)); exact HO215.out⟩, ⟨by repeat (first | (with_reducible first | exact HB.out | apply below_alloc | apply pw_below_drewN | apply below_drew1) | exact HB.out)⟩⟩
    case round =>
     clear H'
     try clear c2
     try clear c2b0
     try clear c2b1
     try clear c2b2
     try clear p2
     try clear c3
     try clear c3b0
     try clear c3b1
     try clear c4
     try clear c4b0
     try clear c4b1
     obtain ⟨x3_1, x14_1, rfl, HA, HK1, HO_3, HB⟩ := hrel
     cases gk with
     | zero => exact absurd HA.out (by simp [impl_soundsText.l0])
     | succ k1 =>
      have H := HA.out
      clear HA
      simp only [impl_soundsText.l0] at H
      by_cases c7 : x14_1 < (l0.length : Int)
      ·rw [if_pos c7] at H
       have c7b0 : decide (x14_1 < (l0.length : Int)) = true := decide_eq_true c7
       clear c7
       by_cases c8 : 0 ≤ x14_1
       ·rw [if_pos c8] at H
        have c8b0 : decide (0 ≤ x14_1) = true := decide_eq_true c8
        clear c8
        by_cases c9 : x14_1 < (l0.length : Int)
        ·rw [if_pos c9] at H
         have c9b0 : decide (x14_1 < (l0.length : Int)) = true := decide_eq_true c9
         clear c9
         by_cases c10 : ((rd_T58 l0 x14_1).f0).size + 1 ≤ 9223372036854775807
         ·rw [if_pos c10] at H
          have c10b0 := eq_true c10
          have c10b1 : decide (((rd_T58 l0 x14_1).f0).size + 1 ≤ 9223372036854775807) = true := decide_eq_true c10
          try have c10b2 : (9223372036854775807 < ((rd_T58 l0 x14_1).f0).size + 1) = False := eq_false (Nat.not_lt.2 c10)
          replace H := Option.bind_eq_some_iff.mp H
          obtain ⟨t218, A110, H⟩ := H
          replace H : (if (((rd_T58 l0 x14_1).f0) ++ (⟨#[58]⟩ : ByteArray)).size + t218.size ≤ 9223372036854775807 then (if ((((rd_T58 l0 x14_1).f0) ++ (⟨#[58]⟩ : ByteArray)) ++ t218).size + 1 ≤ 9223372036854775807 then ((impl_numbersText.f k1 (([(rd_T58 l0 x14_1).f2, (rd_T58 l0 x14_1).f3, (rd_T58 l0 x14_1).f4, (rd_T58 l0 x14_1).f5] : List Nat))).bind fun t222 => (if (((((rd_T58 l0 x14_1).f0) ++ (⟨#[58]⟩ : ByteArray)) ++ t218) ++ (⟨#[58]⟩ : ByteArray)).size + t222.size ≤ 9223372036854775807 then (if x14_1 < (x3_1.length : Int) then (impl_soundsText.l0 k1 (x3_1.set (x14_1 : Int).toNat ((((((rd_T58 l0 x14_1).f0) ++ (⟨#[58]⟩ : ByteArray)) ++ t218) ++ (⟨#[58]⟩ : ByteArray)) ++ t222)) l0 (l0.length : Int) (wrap64 (x14_1 + 1))) else (none)) else (none))) else (none)) else (none)) = some r := H
          have A11 := Aside0.mk A110
          clear A110
          by_cases c12 : (((rd_T58 l0 x14_1).f0) ++ (⟨#[58]⟩ : ByteArray)).size + t218.size ≤ 9223372036854775807
          ·rw [if_pos c12] at H
           have c12b0 := eq_true c12
           have c12b1 : decide ((((rd_T58 l0 x14_1).f0) ++ (⟨#[58]⟩ : ByteArray)).size + t218.size ≤ 9223372036854775807) = true := decide_eq_true c12
           try have c12b2 : (9223372036854775807 < (((rd_T58 l0 x14_1).f0) ++ (⟨#[58]⟩ : ByteArray)).size + t218.size) = False := eq_false (Nat.not_lt.2 c12)
           try have c12b3 : (9223372036854775807 < (((rd_T58 l0 x14_1).f0).size + 1) + t218.size) = False := eq_false (Nat.not_lt.2 (by have h_ := c12; (repeat rw [ByteArray.size_append] at h_); exact h_))
           by_cases c13 : ((((rd_T58 l0 x14_1).f0) ++ (⟨#[58]⟩ : ByteArray)) ++ t218).size + 1 ≤ 9223372036854775807
           ·rw [if_pos c13] at H
            have c13b0 := eq_true c13
            have c13b1 : decide (((((rd_T58 l0 x14_1).f0) ++ (⟨#[58]⟩ : ByteArray)) ++ t218).size + 1 ≤ 9223372036854775807) = true := decide_eq_true c13
            try have c13b2 : (9223372036854775807 < ((((rd_T58 l0 x14_1).f0) ++ (⟨#[58]⟩ : ByteArray)) ++ t218).size + 1) = False := eq_false (Nat.not_lt.2 c13)
            try have c13b3 : (9223372036854775807 < ((((rd_T58 l0 x14_1).f0).size + 1) + t218.size) + 1) = False := eq_false (Nat.not_lt.2 (by have h_ := c13; (repeat rw [ByteArray.size_append] at h_); exact h_))
            obtain ⟨y219, hy219⟩ : ∃ y_ : List Nat, y_ = (([(rd_T58 l0 x14_1).f2, (rd_T58 l0 x14_1).f3, (rd_T58 l0 x14_1).f4, (rd_T58 l0 x14_1).f5] : List Nat)) := ⟨_, rfl⟩
            replace H : ((impl_numbersText.f k1 y219).bind fun t222 => (if (((((rd_T58 l0 x14_1).f0) ++ (⟨#[58]⟩ : ByteArray)) ++ t218) ++ (⟨#[58]⟩ : ByteArray)).size + t222.size ≤ 9223372036854775807 then (if x14_1 < (x3_1.length : Int) then (impl_soundsText.l0 k1 (x3_1.set (x14_1 : Int).toNat ((((((rd_T58 l0 x14_1).f0) ++ (⟨#[58]⟩ : ByteArray)) ++ t218) ++ (⟨#[58]⟩ : ByteArray)) ++ t222)) l0 (l0.length : Int) (wrap64 (x14_1 + 1))) else (none)) else (none))) = some r := by first | (rw [hy219]; with_reducible exact H) | (have H2_ := (Option.bind_some _ _).symm.trans H; rw [hy219]; with_reducible exact H2_) | (have H2_ := (Option.bind_some _ _).symm.trans H; with_reducible exact H2_) | with_reducible exact H | (rw [hy219]; exact H) | exact H
            have Ny219 := Aside0.mk hy219
            clear hy219
            replace H := Option.bind_eq_some_iff.mp H
            obtain ⟨t222, A140, H⟩ := H
            replace H : (if (((((rd_T58 l0 x14_1).f0) ++ (⟨#[58]⟩ : ByteArray)) ++ t218) ++ (⟨#[58]⟩ : ByteArray)).size + t222.size ≤ 9223372036854775807 then (if x14_1 < (x3_1.length : Int) then (impl_soundsText.l0 k1 (x3_1.set (x14_1 : Int).toNat ((((((rd_T58 l0 x14_1).f0) ++ (⟨#[58]⟩ : ByteArray)) ++ t218) ++ (⟨#[58]⟩ : ByteArray)) ++ t222)) l0 (l0.length : Int) (wrap64 (x14_1 + 1))) else (none)) else (none)) = some r := H
            have A14 := Aside0.mk A140
            clear A140
            by_cases c15 : (((((rd_T58 l0 x14_1).f0) ++ (⟨#[58]⟩ : ByteArray)) ++ t218) ++ (⟨#[58]⟩ : ByteArray)).size + t222.size ≤ 9223372036854775807
            ·rw [if_pos c15] at H
             have c15b0 := eq_true c15
             have c15b1 : decide ((((((rd_T58 l0 x14_1).f0) ++ (⟨#[58]⟩ : ByteArray)) ++ t218) ++ (⟨#[58]⟩ : ByteArray)).size + t222.size ≤ 9223372036854775807) = true := decide_eq_true c15
             try have c15b2 : (9223372036854775807 < (((((rd_T58 l0 x14_1).f0) ++ (⟨#[58]⟩ : ByteArray)) ++ t218) ++ (⟨#[58]⟩ : ByteArray)).size + t222.size) = False := eq_false (Nat.not_lt.2 c15)
             try have c15b3 : (9223372036854775807 < (((((rd_T58 l0 x14_1).f0).size + 1) + t218.size) + 1) + t222.size) = False := eq_false (Nat.not_lt.2 (by have h_ := c15; (repeat rw [ByteArray.size_append] at h_); exact h_))
             by_cases c16 : x14_1 < (x3_1.length : Int)
             ·rw [if_pos c16] at H
              have c16b0 : decide (x14_1 < (x3_1.length : Int)) = true := decide_eq_true c16
              clear c16
              obtain ⟨y223, hy223⟩ : ∃ y_ : List ByteArray, y_ = (x3_1.set (x14_1 : Int).toNat ((((((rd_T58 l0 x14_1).f0) ++ (⟨#[58]⟩ : ByteArray)) ++ t218) ++ (⟨#[58]⟩ : ByteArray)) ++ t222)) := ⟨_, rfl⟩
              replace H : (impl_soundsText.l0 k1 y223 l0 (l0.length : Int) (wrap64 (x14_1 + 1))) = some r := by first | (rw [hy223]; with_reducible exact H) | (have H2_ := (Option.bind_some _ _).symm.trans H; rw [hy223]; with_reducible exact H2_) | (have H2_ := (Option.bind_some _ _).symm.trans H; with_reducible exact H2_) | with_reducible exact H | (rw [hy223]; exact H) | exact H
              have Ny223 := Aside0.mk hy223
              clear hy223
              have H' := Aside0.mk H
              clear H
              have p216 : 0 ≤ (x14_1 : Int) := of_decide_eq_true (by first | (with_reducible assumption) | assumption)
              have q216 : x14_1 < (l0.length : Int) := of_decide_eq_true (by first | (with_reducible assumption) | assumption)
              obtain ⟨ad216, A216_1, c216_1, e216, hx216_0, hx216_1, hx216_2, hx216_3, hx216_4, hx216_5, hl216_1, hi216_1⟩ := at_T58 HR0.out x14_1 p216 q216
              have hw216_5 := hx216_5
              have hw216_4 := hx216_4
              have hw216_3 := hx216_3
              have hw216_2 := hx216_2
              have hw216_1 := hx216_1
              have hw216_0 := hx216_0
              cases e216
              replace hx216_0 := (HB.out.cell (World.block_lt_of_cell? w _ hx216_0)).trans hx216_0
              replace hx216_1 := (HB.out.cell (World.block_lt_of_cell? w _ hx216_1)).trans hx216_1
              replace hx216_2 := (HB.out.cell (World.block_lt_of_cell? w _ hx216_2)).trans hx216_2
              replace hx216_3 := (HB.out.cell (World.block_lt_of_cell? w _ hx216_3)).trans hx216_3
              replace hx216_4 := (HB.out.cell (World.block_lt_of_cell? w _ hx216_4)).trans hx216_4
              replace hx216_5 := (HB.out.cell (World.block_lt_of_cell? w _ hx216_5)).trans hx216_5
              have HR216_1 := Aside0.mk hi216_1
              have HC216_1 := Aside0.mk hl216_1
              clear hi216_1 hl216_1
              replace p216 := eq_true p216
              replace q216 := eq_true q216
              try go_wp2_with (first | ((with_reducible refine gate_dst (N := 5) rfl ?_); refine box_event ?hg (N := 5) ?hd (cs := #[.string (⟨#[]⟩ : ByteArray), .slice none 0 0, .float .f32 0, .float .f32 0, .float .f32 0, .float .f32 0]) (t := 58) ?hr ?_; (case hd => rfl); (case hg => rfl); (case hr => first | (go_simp; done) | (go_simp; rfl) | (simp (disch := omega) only [w64_id]; go_simp; done) | (go_simp; simp (disch := omega) only [w64_id]; done)); intro gb217 hg w18 hbox hb; have n0_ := Aside0.mk (Kd.R_below (by (with_reducible repeat (first | apply Kd.R_alloc | apply Kd.R_drewN | apply Kd.R_drew)); exact HO_3.out) hb); have n1_ := Aside0.mk (below_step (by repeat (first | (with_reducible first | exact HB.out | apply below_alloc | apply pw_below_drewN | apply below_drew1) | exact HB.out)) hb); have n2_ := Aside0.mk (hbox); have n3_ := Aside0.mk ((by rw [hg]; exact (below_size (by repeat (first | (with_reducible first | exact HB.out | apply below_alloc | apply pw_below_drewN | apply below_drew1) | exact HB.out))) : w.heap.size ≤ gb217)); have n4_ := Aside0.mk ((by rw [hg]; exact (below_size (by repeat (first | (with_reducible first | exact HB.out | apply below_alloc | apply pw_below_drewN | apply below_drew1) | exact HB.out))) : w.heap.size ≤ gb217)); clear HO_3; clear HB; have HO_3 := n0_; have HB := n1_; have BK217 := n2_; have GW217 := n3_; have GE217 := n4_; clear n0_ n1_ n2_ n3_ n4_; clear hb hbox hg; have hcz19_0 : w18.cell? ⟨gb217, 0, none⟩ = some (.string (⟨#[]⟩ : ByteArray)) := (blk_cell BK217.out 0).trans rfl; have hcz19_1 : w18.cell? ⟨gb217, 1, none⟩ = some (.slice none 0 0) := (blk_cell BK217.out 1).trans rfl; have hcz19_2 : w18.cell? ⟨gb217, 2, none⟩ = some (.float .f32 0) := (blk_cell BK217.out 2).trans rfl; have hcz19_3 : w18.cell? ⟨gb217, 3, none⟩ = some (.float .f32 0) := (blk_cell BK217.out 3).trans rfl; have hcz19_4 : w18.cell? ⟨gb217, 4, none⟩ = some (.float .f32 0) := (blk_cell BK217.out 4).trans rfl; have hcz19_5 : w18.cell? ⟨gb217, 5, none⟩ = some (.float .f32 0) := (blk_cell BK217.out 5).trans rfl; have hfz19_0 := blk_frozen BK217.out 0; have hfz19_1 := blk_frozen BK217.out 1; have hfz19_2 := blk_frozen BK217.out 2; have hfz19_3 := blk_frozen BK217.out 3; have hfz19_4 := blk_frozen BK217.out 4; have hfz19_5 := blk_frozen BK217.out 5))
              have n0_ : Aside0 (Kd.R Kd.string 9 ((((((w18.setCell ⟨gb217, 0, none⟩ (.string ((rd_T58 l0 x14_1).f0))).setCell ⟨gb217, 1, none⟩ (.slice A216_1 ((rd_T58 l0 x14_1).f1).length c216_1)).setCell ⟨gb217, 2, none⟩ (.float .f32 ((rd_T58 l0 x14_1).f2))).setCell ⟨gb217, 3, none⟩ (.float .f32 ((rd_T58 l0 x14_1).f3))).setCell ⟨gb217, 4, none⟩ (.float .f32 ((rd_T58 l0 x14_1).f4))).setCell ⟨gb217, 5, none⟩ (.float .f32 ((rd_T58 l0 x14_1).f5))) w.heap.size (fun _ => True) v214 x3_1) := ⟨by (with_reducible repeat (first | apply Kd.R_alloc | apply Kd.R_drewN | apply Kd.R_drew)); exact Kd.R_mono (Kd.R_far (p := ⟨gb217, 5, none⟩) (Kd.R_far (p := ⟨gb217, 4, none⟩) (Kd.R_far (p := ⟨gb217, 3, none⟩) (Kd.R_far (p := ⟨gb217, 2, none⟩) (Kd.R_far (p := ⟨gb217, 1, none⟩) (Kd.R_far (p := ⟨gb217, 0, none⟩) (Kd.R_types HO_3.out BK217.out (by decide)) (fun _ hk => hk.2) (.string ((rd_T58 l0 x14_1).f0))) (fun _ hk => hk.2) (.slice A216_1 ((rd_T58 l0 x14_1).f1).length c216_1)) (fun _ hk => hk.2) (.float .f32 ((rd_T58 l0 x14_1).f2))) (fun _ hk => hk.2) (.float .f32 ((rd_T58 l0 x14_1).f3))) (fun _ hk => hk.2) (.float .f32 ((rd_T58 l0 x14_1).f4))) (fun _ hk => hk.2) (.float .f32 ((rd_T58 l0 x14_1).f5))) (fun _ hk => trivial)⟩
              have n1_ : Aside0 (((((((w18.setCell ⟨gb217, 0, none⟩ (.string ((rd_T58 l0 x14_1).f0))).setCell ⟨gb217, 1, none⟩ (.slice A216_1 ((rd_T58 l0 x14_1).f1).length c216_1)).setCell ⟨gb217, 2, none⟩ (.float .f32 ((rd_T58 l0 x14_1).f2))).setCell ⟨gb217, 3, none⟩ (.float .f32 ((rd_T58 l0 x14_1).f3))).setCell ⟨gb217, 4, none⟩ (.float .f32 ((rd_T58 l0 x14_1).f4))).setCell ⟨gb217, 5, none⟩ (.float .f32 ((rd_T58 l0 x14_1).f5))).heap[gb217]? = some (.cells #[.string ((rd_T58 l0 x14_1).f0), .slice A216_1 ((rd_T58 l0 x14_1).f1).length c216_1, .float .f32 ((rd_T58 l0 x14_1).f2), .float .f32 ((rd_T58 l0 x14_1).f3), .float .f32 ((rd_T58 l0 x14_1).f4), .float .f32 ((rd_T58 l0 x14_1).f5)] 58 (0, 0))) := ⟨by (with_reducible repeat (first | refine blk_drewN ?_ _ | refine blk_drew ?_ | refine blk_alloc ?_ _)); refine blk_put (cs := #[.string ((rd_T58 l0 x14_1).f0), .slice A216_1 ((rd_T58 l0 x14_1).f1).length c216_1, .float .f32 ((rd_T58 l0 x14_1).f2), .float .f32 ((rd_T58 l0 x14_1).f3), .float .f32 ((rd_T58 l0 x14_1).f4), .float .f32 0]) ?_ 5 _ rfl; (with_reducible repeat (first | refine blk_drewN ?_ _ | refine blk_drew ?_ | refine blk_alloc ?_ _)); refine blk_put (cs := #[.string ((rd_T58 l0 x14_1).f0), .slice A216_1 ((rd_T58 l0 x14_1).f1).length c216_1, .float .f32 ((rd_T58 l0 x14_1).f2), .float .f32 ((rd_T58 l0 x14_1).f3), .float .f32 0, .float .f32 0]) ?_ 4 _ rfl; (with_reducible repeat (first | refine blk_drewN ?_ _ | refine blk_drew ?_ | refine blk_alloc ?_ _)); refine blk_put (cs := #[.string ((rd_T58 l0 x14_1).f0), .slice A216_1 ((rd_T58 l0 x14_1).f1).length c216_1, .float .f32 ((rd_T58 l0 x14_1).f2), .float .f32 0, .float .f32 0, .float .f32 0]) ?_ 3 _ rfl; (with_reducible repeat (first | refine blk_drewN ?_ _ | refine blk_drew ?_ | refine blk_alloc ?_ _)); refine blk_put (cs := #[.string ((rd_T58 l0 x14_1).f0), .slice A216_1 ((rd_T58 l0 x14_1).f1).length c216_1, .float .f32 0, .float .f32 0, .float .f32 0, .float .f32 0]) ?_ 2 _ rfl; (with_reducible repeat (first | refine blk_drewN ?_ _ | refine blk_drew ?_ | refine blk_alloc ?_ _)); refine blk_put (cs := #[.string ((rd_T58 l0 x14_1).f0), .slice none 0 0, .float .f32 0, .float .f32 0, .float .f32 0, .float .f32 0]) ?_ 1 _ rfl; (with_reducible repeat (first | refine blk_drewN ?_ _ | refine blk_drew ?_ | refine blk_alloc ?_ _)); refine blk_put (cs := #[.string (⟨#[]⟩ : ByteArray), .slice none 0 0, .float .f32 0, .float .f32 0, .float .f32 0, .float .f32 0]) ?_ 0 _ rfl; (with_reducible repeat (first | refine blk_drewN ?_ _ | refine blk_drew ?_ | refine blk_alloc ?_ _)); exact BK217.out⟩
              have n2_ : Aside0 (Below w.heap.size w ((((((w18.setCell ⟨gb217, 0, none⟩ (.string ((rd_T58 l0 x14_1).f0))).setCell ⟨gb217, 1, none⟩ (.slice A216_1 ((rd_T58 l0 x14_1).f1).length c216_1)).setCell ⟨gb217, 2, none⟩ (.float .f32 ((rd_T58 l0 x14_1).f2))).setCell ⟨gb217, 3, none⟩ (.float .f32 ((rd_T58 l0 x14_1).f3))).setCell ⟨gb217, 4, none⟩ (.float .f32 ((rd_T58 l0 x14_1).f4))).setCell ⟨gb217, 5, none⟩ (.float .f32 ((rd_T58 l0 x14_1).f5)))) := ⟨by repeat (first | (with_reducible first | exact HB.out | apply below_alloc | apply pw_below_drewN | apply below_drew1 | refine below_set ?_ GE217.out) | exact HB.out)⟩
              (try clear HO_3)
              (try clear BK217)
              (try clear HB)
              generalize ((((((w18.setCell ⟨gb217, 0, none⟩ (.string ((rd_T58 l0 x14_1).f0))).setCell ⟨gb217, 1, none⟩ (.slice A216_1 ((rd_T58 l0 x14_1).f1).length c216_1)).setCell ⟨gb217, 2, none⟩ (.float .f32 ((rd_T58 l0 x14_1).f2))).setCell ⟨gb217, 3, none⟩ (.float .f32 ((rd_T58 l0 x14_1).f3))).setCell ⟨gb217, 4, none⟩ (.float .f32 ((rd_T58 l0 x14_1).f4))).setCell ⟨gb217, 5, none⟩ (.float .f32 ((rd_T58 l0 x14_1).f5))) = w20 at n0_ n1_ n2_ ⊢
              have HO_3 := n0_
              have BK217 := n1_
              have HB := n2_
              clear n0_ n1_ n2_
              have n0_ := Aside0.mk (Kd.R_drew HO_3.out)
              have n1_ := Aside0.mk (blk_drew BK217.out)
              have n2_ := Aside0.mk (below_drew1 HB.out)
              clear HO_3
              clear BK217
              clear HB
              have HO_3 := n0_
              have BK217 := n1_
              have HB := n2_
              clear n0_ n1_ n2_
              refine start_ (n := 23) (S := fun w' => w'.cell? ⟨gb217, 0, none⟩ = some (.string ((rd_T58 l0 x14_1).f0)) ∧ w'.cell? ⟨gb217, 1, none⟩ = some (.slice A216_1 ((rd_T58 l0 x14_1).f1).length c216_1) ∧ w'.cell? ⟨gb217, 2, none⟩ = some (.float .f32 ((rd_T58 l0 x14_1).f2)) ∧ w'.cell? ⟨gb217, 3, none⟩ = some (.float .f32 ((rd_T58 l0 x14_1).f3)) ∧ w'.cell? ⟨gb217, 4, none⟩ = some (.float .f32 ((rd_T58 l0 x14_1).f4)) ∧ w'.cell? ⟨gb217, 5, none⟩ = some (.float .f32 ((rd_T58 l0 x14_1).f5)) ∧ w'.cell? (ad216.add ((x14_1).toNat * 6)) = some (.string ((rd_T58 l0 x14_1).f0)) ∧ w'.cell? ⟨(ad216.add ((x14_1).toNat * 6)).block, (ad216.add ((x14_1).toNat * 6)).off + 1, none⟩ = some (.slice A216_1 ((rd_T58 l0 x14_1).f1).length c216_1) ∧ w'.cell? ⟨(ad216.add ((x14_1).toNat * 6)).block, (ad216.add ((x14_1).toNat * 6)).off + 2, none⟩ = some (.float .f32 ((rd_T58 l0 x14_1).f2)) ∧ w'.cell? ⟨(ad216.add ((x14_1).toNat * 6)).block, (ad216.add ((x14_1).toNat * 6)).off + 3, none⟩ = some (.float .f32 ((rd_T58 l0 x14_1).f3)) ∧ w'.cell? ⟨(ad216.add ((x14_1).toNat * 6)).block, (ad216.add ((x14_1).toNat * 6)).off + 4, none⟩ = some (.float .f32 ((rd_T58 l0 x14_1).f4)) ∧ w'.cell? ⟨(ad216.add ((x14_1).toNat * 6)).block, (ad216.add ((x14_1).toNat * 6)).off + 5, none⟩ = some (.float .f32 ((rd_T58 l0 x14_1).f5))) (ds := [22]) impl_soundsText.z0 (by kernel_rfl) rfl rfl ⟨(blk_cell BK217.out 0).trans rfl, (blk_cell BK217.out 1).trans rfl, (blk_cell BK217.out 2).trans rfl, (blk_cell BK217.out 3).trans rfl, (blk_cell BK217.out 4).trans rfl, (blk_cell BK217.out 5).trans rfl, (cu_ HB.out hw216_0), (cu_ HB.out hw216_1), (cu_ HB.out hw216_2), (cu_ HB.out hw216_3), (cu_ HB.out hw216_4), (cu_ HB.out hw216_5)⟩ (fun hHeld => ?_); refine with_tabW impl_soundsText.tab7 impl_soundsText.bits7 (fun HT_ HW_ => ?_)
              generalize w20.drew = w21 at HO_3 BK217 HB hHeld ⊢
              refine pure_ (i := 0) (N := some 19) (v := ?_) (a' := ?_) impl_soundsText.z1 rfl rfl (any_of HT_.out (by kernel_rfl)) (fun _ _ _ h => h) (Or.inl ⟨by rfl, ?_⟩) ?_ ?_
              pv_
              refine pure_ (i := 1) (N := some 20) (v := ?_) (a' := ?_) impl_soundsText.z2 rfl rfl (any_of HT_.out (by kernel_rfl)) (fun _ _ _ h => h) (Or.inl ⟨by rfl, ?_⟩) ?_ ?_
              pv_
              refine pure_ (i := 2) (N := some 21) (v := ?_) (a' := ?_) impl_soundsText.z3 rfl rfl (any_of HT_.out (by kernel_rfl)) (fun _ _ _ h => h) (Or.inl ⟨by rfl, ?_⟩) ?_ ?_
              pv_
              refine pure_ (i := 5) (N := some 24) (v := ?_) (a' := ?_) impl_soundsText.z4 rfl rfl (any_of HT_.out (by kernel_rfl)) (fun _ _ _ h => h) (Or.inl ⟨by rfl, ?_⟩) ?_ ?_
              pv_
              refine pure_ (i := 10) (N := some 29) (v := ?_) (a' := ?_) impl_soundsText.z5 rfl rfl (any_of HT_.out (by kernel_rfl)) (fun _ _ _ h => h) (Or.inl ⟨by rfl, ?_⟩) ?_ ?_
              pv_
              refine pure_ (i := 12) (N := some 31) (v := ?_) (a' := ?_) impl_soundsText.z6 rfl rfl (any_of HT_.out (by kernel_rfl)) (fun _ _ _ h => h) (Or.inl ⟨by rfl, ?_⟩) ?_ ?_
              pv_
              refine pure_ (i := 14) (N := some 33) (v := ?_) (a' := ?_) impl_soundsText.z7 rfl rfl (any_of HT_.out (by kernel_rfl)) (fun _ _ _ h => h) (Or.inl ⟨by rfl, ?_⟩) ?_ ?_
              pv_
              refine pure_ (i := 16) (N := some 35) (v := ?_) (a' := ?_) impl_soundsText.z8 rfl rfl (any_of HT_.out (by kernel_rfl)) (fun _ _ _ h => h) (Or.inl ⟨by rfl, ?_⟩) ?_ ?_
              pv_
              refine take_ (i := 3) (N := some 22) (v := ?_) (a' := ?_) impl_soundsText.z9 rfl rfl (take_ofW HT_.out HW_.out (by kernel_rfl)) (fun _ _ _ h => h) (Or.inl ⟨by rfl, ?_⟩) hHeld ?_ ?_
              rotate_left
              ·rintro w' ⟨s0, s1, s2, s3, s4, s5, s6, s7, s8, s9, s10, s11⟩
               go_simp
               with_reducible rfl
              rotate_left
              ·pw_
              refine pure_ (i := 4) (N := some 23) (v := ?_) (a' := ?_) impl_soundsText.z10 rfl rfl (any_of HT_.out (by kernel_rfl)) (fun _ _ _ h => h) (Or.inl ⟨by rfl, ?_⟩) ?_ ?_
              pv_
              refine take_ (i := 6) (N := some 25) (v := ?_) (a' := ?_) impl_soundsText.z11 rfl rfl (take_ofW HT_.out HW_.out (by kernel_rfl)) (fun _ _ _ h => h) (Or.inl ⟨by rfl, ?_⟩) hHeld ?_ ?_
              rotate_left
              ·rintro w' ⟨s0, s1, s2, s3, s4, s5, s6, s7, s8, s9, s10, s11⟩
               go_simp
               with_reducible rfl
              rotate_left
              ·pw_
              refine take_ (i := 11) (N := some 30) (v := ?_) (a' := ?_) impl_soundsText.z12 rfl rfl (take_ofW HT_.out HW_.out (by kernel_rfl)) (fun _ _ _ h => h) (Or.inl ⟨by rfl, ?_⟩) hHeld ?_ ?_
              rotate_left
              ·rintro w' ⟨s0, s1, s2, s3, s4, s5, s6, s7, s8, s9, s10, s11⟩
               go_simp
               with_reducible rfl
              rotate_left
              ·pw_
              refine take_ (i := 13) (N := some 32) (v := ?_) (a' := ?_) impl_soundsText.z13 rfl rfl (take_ofW HT_.out HW_.out (by kernel_rfl)) (fun _ _ _ h => h) (Or.inl ⟨by rfl, ?_⟩) hHeld ?_ ?_
              rotate_left
              ·rintro w' ⟨s0, s1, s2, s3, s4, s5, s6, s7, s8, s9, s10, s11⟩
               go_simp
               with_reducible rfl
              rotate_left
              ·pw_
              refine take_ (i := 15) (N := some 34) (v := ?_) (a' := ?_) impl_soundsText.z14 rfl rfl (take_ofW HT_.out HW_.out (by kernel_rfl)) (fun _ _ _ h => h) (Or.inl ⟨by rfl, ?_⟩) hHeld ?_ ?_
              rotate_left
              ·rintro w' ⟨s0, s1, s2, s3, s4, s5, s6, s7, s8, s9, s10, s11⟩
               go_simp
               with_reducible rfl
              rotate_left
              ·pw_
              refine take_ (i := 17) (N := some 36) (v := ?_) (a' := ?_) impl_soundsText.z15 rfl rfl (take_ofW HT_.out HW_.out (by kernel_rfl)) (fun _ _ _ h => h) (Or.inl ⟨by rfl, ?_⟩) hHeld ?_ ?_
              rotate_left
              ·rintro w' ⟨s0, s1, s2, s3, s4, s5, s6, s7, s8, s9, s10, s11⟩
               go_simp
               with_reducible rfl
              rotate_left
              ·pw_
              refine join_ (σ := Value) 4 impl_soundsText.z16 (fun s_ => [(26, .string t218), (37, s_), (27, .string ((((rd_T58 l0 x14_1).f0) ++ (⟨#[58]⟩ : ByteArray)) ++ t218)), (28, .string (((((rd_T58 l0 x14_1).f0) ++ (⟨#[58]⟩ : ByteArray)) ++ t218) ++ (⟨#[58]⟩ : ByteArray)))]) (fun s_ w' => (w'.cell? ⟨gb217, 0, none⟩ = some (.string ((rd_T58 l0 x14_1).f0)) ∧ w'.cell? ⟨gb217, 1, none⟩ = some (.slice A216_1 ((rd_T58 l0 x14_1).f1).length c216_1) ∧ w'.cell? ⟨gb217, 2, none⟩ = some (.float .f32 ((rd_T58 l0 x14_1).f2)) ∧ w'.cell? ⟨gb217, 3, none⟩ = some (.float .f32 ((rd_T58 l0 x14_1).f3)) ∧ w'.cell? ⟨gb217, 4, none⟩ = some (.float .f32 ((rd_T58 l0 x14_1).f4)) ∧ w'.cell? ⟨gb217, 5, none⟩ = some (.float .f32 ((rd_T58 l0 x14_1).f5)) ∧ w'.cell? (ad216.add ((x14_1).toNat * 6)) = some (.string ((rd_T58 l0 x14_1).f0)) ∧ w'.cell? ⟨(ad216.add ((x14_1).toNat * 6)).block, (ad216.add ((x14_1).toNat * 6)).off + 1, none⟩ = some (.slice A216_1 ((rd_T58 l0 x14_1).f1).length c216_1) ∧ w'.cell? ⟨(ad216.add ((x14_1).toNat * 6)).block, (ad216.add ((x14_1).toNat * 6)).off + 2, none⟩ = some (.float .f32 ((rd_T58 l0 x14_1).f2)) ∧ w'.cell? ⟨(ad216.add ((x14_1).toNat * 6)).block, (ad216.add ((x14_1).toNat * 6)).off + 3, none⟩ = some (.float .f32 ((rd_T58 l0 x14_1).f3)) ∧ w'.cell? ⟨(ad216.add ((x14_1).toNat * 6)).block, (ad216.add ((x14_1).toNat * 6)).off + 4, none⟩ = some (.float .f32 ((rd_T58 l0 x14_1).f4)) ∧ w'.cell? ⟨(ad216.add ((x14_1).toNat * 6)).block, (ad216.add ((x14_1).toNat * 6)).off + 5, none⟩ = some (.float .f32 ((rd_T58 l0 x14_1).f5))) ∧ (Kd.R (Kd.float .f32) 30 w' w.heap.size (fun _ => True) s_ y219) ∧ (Kd.R Kd.string 9 w' w.heap.size (fun _ => True) v214 x3_1) ∧ (w'.heap[gb217]? = some (.cells #[.string ((rd_T58 l0 x14_1).f0), .slice A216_1 ((rd_T58 l0 x14_1).f1).length c216_1, .float .f32 ((rd_T58 l0 x14_1).f2), .float .f32 ((rd_T58 l0 x14_1).f3), .float .f32 ((rd_T58 l0 x14_1).f4), .float .f32 ((rd_T58 l0 x14_1).f5)] 58 (0, 0))) ∧ (Below w.heap.size w w')) ?_ ?_
              rotate_left
              ·intro hCont
               refine two_ (i := 7) (j := 18) (Ni := some 26) (Nj := some 37) impl_soundsText.z17 impl_soundsText.z18 rfl rfl rfl rfl (two_of HT_.out (by kernel_rfl)) (by decide) (by decide) (fun K hK => ?_) (fun K hK => ?_)
               ·skip
                refine goes_ Tryd.func58 (by kernel_rfl) rfl #[.slice A216_1 ((rd_T58 l0 x14_1).f1).length c216_1] (by rfl) rfl rfl (by (try simp only [List.map_toArray, List.map_cons, List.map_nil]); first | done | rfl | (simp only [List.length_drop, List.length_take]; rfl)) ?_
                with_reducible refine (impl_numbersText.calls k1 _ _ ((rd_T58 l0 x14_1).f1) t218 _ ?side1 ?side2 ?side3 A11.out).mono ?_
                (case side1 => repeat (first | exact (Kd.C_below HR216_1.out HB.out) | (with_reducible refine Kd.C_alloc ?_ _) | (with_reducible refine Kd.C_drewN ?_ _) | (with_reducible refine Kd.C_drew ?_)))
                (case side2 => exact HC216_1.out)
                (case side3 => repeat (first | exact (GLh_below HGT_.out HB.out) | (with_reducible refine GLh_alloc ?_ _) | (with_reducible refine GLh_drewN ?_ _) | (with_reducible refine GLh_drew ?_)))
                rintro e w22 ⟨rfl, hb⟩
                refine ⟨_, rfl, ?_⟩
                have n0_ := Aside0.mk (Kd.R_below (by (with_reducible repeat (first | apply Kd.R_alloc | apply Kd.R_drewN | apply Kd.R_drew)); exact HO_3.out) hb)
                have n1_ := Aside0.mk (blk_below (g := gb217) (o := .cells #[.string ((rd_T58 l0 x14_1).f0), .slice A216_1 ((rd_T58 l0 x14_1).f1).length c216_1, .float .f32 ((rd_T58 l0 x14_1).f2), .float .f32 ((rd_T58 l0 x14_1).f3), .float .f32 ((rd_T58 l0 x14_1).f4), .float .f32 ((rd_T58 l0 x14_1).f5)] 58 (0, 0)) (by (with_reducible repeat (first | refine blk_drewN ?_ _ | refine blk_drew ?_ | refine blk_alloc ?_ _)); exact BK217.out) hb)
                have n2_ := Aside0.mk (below_step (by repeat (first | (with_reducible first | exact HB.out | apply below_alloc | apply pw_below_drewN | apply below_drew1 | refine below_set ?_ GE217.out) | exact HB.out)) hb)
                clear HO_3
                clear BK217
                clear HB
                have HO_3 := n0_
                have BK217 := n1_
                have HB := n2_
                clear n0_ n1_ n2_
                (try clear hb)
                (try clear hb2)
                (try clear hk)
                (try clear hi)
                refine hK.out _ _ ⟨(blk_cell BK217.out 0).trans rfl, (blk_cell BK217.out 1).trans rfl, (blk_cell BK217.out 2).trans rfl, (blk_cell BK217.out 3).trans rfl, (blk_cell BK217.out 4).trans rfl, (blk_cell BK217.out 5).trans rfl, (cu_ HB.out hw216_0), (cu_ HB.out hw216_1), (cu_ HB.out hw216_2), (cu_ HB.out hw216_3), (cu_ HB.out hw216_4), (cu_ HB.out hw216_5)⟩ (fun hHeld => ?_)
                clear hK K
                refine norm_ (a' := ?_) ?_ ?_
                rotate_left
                ·show Act.put _ (some 26) _ = _
                 pw_
                refine pure_ (i := 8) (N := some 27) (v := ?_) (a' := ?_) impl_soundsText.z19 rfl rfl (any_of HT_.out (by kernel_rfl)) (fun _ _ _ h => h) (Or.inl ⟨by rfl, ?_⟩) ?_ ?_
                pv_
                refine pure_ (i := 9) (N := some 28) (v := ?_) (a' := ?_) impl_soundsText.z20 rfl rfl (any_of HT_.out (by kernel_rfl)) (fun _ _ _ h => h) (Or.inl ⟨by rfl, ?_⟩) ?_ ?_
                pv_
                refine one_ (i := 18) (N := some 37) impl_soundsText.z16 rfl rfl (one_of HT_.out (by kernel_rfl)) (by decide) (fun K hK => ?_)
                refine Kd.R_lit_step (Kd.float .f32) _ 30 ?hg (N := 37) ?hd (xs := ([(rd_T58 l0 x14_1).f2, (rd_T58 l0 x14_1).f3, (rd_T58 l0 x14_1).f4, (rd_T58 l0 x14_1).f5] : List Nat)) (inner := [.float .f32 ((rd_T58 l0 x14_1).f2), .float .f32 ((rd_T58 l0 x14_1).f3), .float .f32 ((rd_T58 l0 x14_1).f4), .float .f32 ((rd_T58 l0 x14_1).f5)]) (ok := fun _ => True) (okp := fun _ => True) ?hr ?hp (fun _ hk => hk) trivial (Below.refl _ _) (Nat.le_refl _) (by simp) ?_; (case hd => rfl); (case hg => rfl); (case hr => first | (go_simp; done) | (go_simp; rfl) | (simp (disch := omega) only [w64_id]; go_simp; done) | (go_simp; simp (disch := omega) only [w64_id]; done)); (case hp => exact (Reps.one (show Kd.M (Kd.float .f32) _ _ _ ((rd_T58 l0 x14_1).f2) [.float .f32 ((rd_T58 l0 x14_1).f2)] from rfl) (Reps.one (show Kd.M (Kd.float .f32) _ _ _ ((rd_T58 l0 x14_1).f3) [.float .f32 ((rd_T58 l0 x14_1).f3)] from rfl) (Reps.one (show Kd.M (Kd.float .f32) _ _ _ ((rd_T58 l0 x14_1).f4) [.float .f32 ((rd_T58 l0 x14_1).f4)] from rfl) (Reps.one (show Kd.M (Kd.float .f32) _ _ _ ((rd_T58 l0 x14_1).f5) [.float .f32 ((rd_T58 l0 x14_1).f5)] from rfl) (Reps.none _ _))))))
                intro v220 w23 ho24 hb hg_ hnew_
                clear hg_ hnew_
                (first | rw [← Ny219.out] at ho24 | (simp only [Int.reduceToNat] at ho24; rw [← Ny219.out] at ho24))
                have n0_ := Aside0.mk (Kd.R_below (by (with_reducible repeat (first | apply Kd.R_alloc | apply Kd.R_drewN | apply Kd.R_drew)); exact HO_3.out) hb)
                have n1_ := Aside0.mk (Kd.R_lower ho24 (below_size (by repeat (first | (with_reducible first | exact HB.out | apply below_alloc | apply pw_below_drewN | apply below_drew1 | refine below_set ?_ GE217.out) | exact HB.out))))
                have n2_ := Aside0.mk (blk_below (g := gb217) (o := .cells #[.string ((rd_T58 l0 x14_1).f0), .slice A216_1 ((rd_T58 l0 x14_1).f1).length c216_1, .float .f32 ((rd_T58 l0 x14_1).f2), .float .f32 ((rd_T58 l0 x14_1).f3), .float .f32 ((rd_T58 l0 x14_1).f4), .float .f32 ((rd_T58 l0 x14_1).f5)] 58 (0, 0)) (by (with_reducible repeat (first | refine blk_drewN ?_ _ | refine blk_drew ?_ | refine blk_alloc ?_ _)); exact BK217.out) hb)
                have n3_ := Aside0.mk (below_step (by repeat (first | (with_reducible first | exact HB.out | apply below_alloc | apply pw_below_drewN | apply below_drew1 | refine below_set ?_ GE217.out) | exact HB.out)) hb)
                clear HO_3
                clear BK217
                clear HB
                have HO_3 := n0_
                have HO221 := n1_
                have BK217 := n2_
                have HB := n3_
                clear n0_ n1_ n2_ n3_
                clear hb ho24
                refine hK.out _ _ ⟨(blk_cell BK217.out 0).trans rfl, (blk_cell BK217.out 1).trans rfl, (blk_cell BK217.out 2).trans rfl, (blk_cell BK217.out 3).trans rfl, (blk_cell BK217.out 4).trans rfl, (blk_cell BK217.out 5).trans rfl, (cu_ HB.out hw216_0), (cu_ HB.out hw216_1), (cu_ HB.out hw216_2), (cu_ HB.out hw216_3), (cu_ HB.out hw216_4), (cu_ HB.out hw216_5)⟩ (fun hHeld => ?_)
                clear hK K
                refine norm_ (a' := ?_) ?_ ?_
                rotate_left
                ·show Act.put _ (some 37) _ = _
                 pw_
                exact norm_ (by simp only [putAll, Act.put, List.setIfInBounds_toArray, List.set_cons_zero, List.set_cons_succ]) (hCont (v220) _ ⟨hHeld, (by (with_reducible repeat (first | apply Kd.R_alloc | apply Kd.R_drewN | apply Kd.R_drew)); exact HO221.out), (by (with_reducible repeat (first | apply Kd.R_alloc | apply Kd.R_drewN | apply Kd.R_drew)); exact HO_3.out), (by (with_reducible repeat (first | refine blk_drewN ?_ _ | refine blk_drew ?_ | refine blk_alloc ?_ _)); exact BK217.out), (by repeat (first | (with_reducible first | exact HB.out | apply below_alloc | apply pw_below_drewN | apply below_drew1 | refine below_set ?_ GE217.out) | exact HB.out))⟩)
               ·skip
                refine Kd.R_lit_step (Kd.float .f32) _ 30 ?hg (N := 37) ?hd (xs := ([(rd_T58 l0 x14_1).f2, (rd_T58 l0 x14_1).f3, (rd_T58 l0 x14_1).f4, (rd_T58 l0 x14_1).f5] : List Nat)) (inner := [.float .f32 ((rd_T58 l0 x14_1).f2), .float .f32 ((rd_T58 l0 x14_1).f3), .float .f32 ((rd_T58 l0 x14_1).f4), .float .f32 ((rd_T58 l0 x14_1).f5)]) (ok := fun _ => True) (okp := fun _ => True) ?hr ?hp (fun _ hk => hk) trivial (Below.refl _ _) (Nat.le_refl _) (by simp) ?_; (case hd => rfl); (case hg => rfl); (case hr => first | (go_simp; done) | (go_simp; rfl) | (simp (disch := omega) only [w64_id]; go_simp; done) | (go_simp; simp (disch := omega) only [w64_id]; done)); (case hp => exact (Reps.one (show Kd.M (Kd.float .f32) _ _ _ ((rd_T58 l0 x14_1).f2) [.float .f32 ((rd_T58 l0 x14_1).f2)] from rfl) (Reps.one (show Kd.M (Kd.float .f32) _ _ _ ((rd_T58 l0 x14_1).f3) [.float .f32 ((rd_T58 l0 x14_1).f3)] from rfl) (Reps.one (show Kd.M (Kd.float .f32) _ _ _ ((rd_T58 l0 x14_1).f4) [.float .f32 ((rd_T58 l0 x14_1).f4)] from rfl) (Reps.one (show Kd.M (Kd.float .f32) _ _ _ ((rd_T58 l0 x14_1).f5) [.float .f32 ((rd_T58 l0 x14_1).f5)] from rfl) (Reps.none _ _))))))
                intro v220 w22 ho23 hb hg_ hnew_
                clear hg_ hnew_
                (first | rw [← Ny219.out] at ho23 | (simp only [Int.reduceToNat] at ho23; rw [← Ny219.out] at ho23))
                have n0_ := Aside0.mk (Kd.R_below (by (with_reducible repeat (first | apply Kd.R_alloc | apply Kd.R_drewN | apply Kd.R_drew)); exact HO_3.out) hb)
                have n1_ := Aside0.mk (Kd.R_lower ho23 (below_size (by repeat (first | (with_reducible first | exact HB.out | apply below_alloc | apply pw_below_drewN | apply below_drew1 | refine below_set ?_ GE217.out) | exact HB.out))))
                have n2_ := Aside0.mk (blk_below (g := gb217) (o := .cells #[.string ((rd_T58 l0 x14_1).f0), .slice A216_1 ((rd_T58 l0 x14_1).f1).length c216_1, .float .f32 ((rd_T58 l0 x14_1).f2), .float .f32 ((rd_T58 l0 x14_1).f3), .float .f32 ((rd_T58 l0 x14_1).f4), .float .f32 ((rd_T58 l0 x14_1).f5)] 58 (0, 0)) (by (with_reducible repeat (first | refine blk_drewN ?_ _ | refine blk_drew ?_ | refine blk_alloc ?_ _)); exact BK217.out) hb)
                have n3_ := Aside0.mk (below_step (by repeat (first | (with_reducible first | exact HB.out | apply below_alloc | apply pw_below_drewN | apply below_drew1 | refine below_set ?_ GE217.out) | exact HB.out)) hb)
                clear HO_3
                clear BK217
                clear HB
                have HO_3 := n0_
                have HO221 := n1_
                have BK217 := n2_
                have HB := n3_
                clear n0_ n1_ n2_ n3_
                clear hb ho23
                refine hK.out _ _ ⟨(blk_cell BK217.out 0).trans rfl, (blk_cell BK217.out 1).trans rfl, (blk_cell BK217.out 2).trans rfl, (blk_cell BK217.out 3).trans rfl, (blk_cell BK217.out 4).trans rfl, (blk_cell BK217.out 5).trans rfl, (cu_ HB.out hw216_0), (cu_ HB.out hw216_1), (cu_ HB.out hw216_2), (cu_ HB.out hw216_3), (cu_ HB.out hw216_4), (cu_ HB.out hw216_5)⟩ (fun hHeld => ?_)
                clear hK K
                refine norm_ (a' := ?_) ?_ ?_
                rotate_left
                ·show Act.put _ (some 37) _ = _
                 pw_
                refine one_ (i := 7) (N := some 26) impl_soundsText.z21 rfl rfl (one_of HT_.out (by kernel_rfl)) (by decide) (fun K hK => ?_)
                refine goes_ Tryd.func58 (by kernel_rfl) rfl #[.slice A216_1 ((rd_T58 l0 x14_1).f1).length c216_1] (by rfl) rfl rfl (by (try simp only [List.map_toArray, List.map_cons, List.map_nil]); first | done | rfl | (simp only [List.length_drop, List.length_take]; rfl)) ?_
                with_reducible refine (impl_numbersText.calls k1 _ _ ((rd_T58 l0 x14_1).f1) t218 _ ?side1 ?side2 ?side3 A11.out).mono ?_
                (case side1 => repeat (first | exact (Kd.C_below HR216_1.out HB.out) | (with_reducible refine Kd.C_alloc ?_ _) | (with_reducible refine Kd.C_drewN ?_ _) | (with_reducible refine Kd.C_drew ?_)))
                (case side2 => exact HC216_1.out)
                (case side3 => repeat (first | exact (GLh_below HGT_.out HB.out) | (with_reducible refine GLh_alloc ?_ _) | (with_reducible refine GLh_drewN ?_ _) | (with_reducible refine GLh_drew ?_)))
                rintro e w24 ⟨rfl, hb⟩
                refine ⟨_, rfl, ?_⟩
                have n0_ := Aside0.mk (Kd.R_below (by (with_reducible repeat (first | apply Kd.R_alloc | apply Kd.R_drewN | apply Kd.R_drew)); exact HO_3.out) hb)
                have n1_ := Aside0.mk (Kd.R_below (by (with_reducible repeat (first | apply Kd.R_alloc | apply Kd.R_drewN | apply Kd.R_drew)); exact HO221.out) hb)
                have n2_ := Aside0.mk (blk_below (g := gb217) (o := .cells #[.string ((rd_T58 l0 x14_1).f0), .slice A216_1 ((rd_T58 l0 x14_1).f1).length c216_1, .float .f32 ((rd_T58 l0 x14_1).f2), .float .f32 ((rd_T58 l0 x14_1).f3), .float .f32 ((rd_T58 l0 x14_1).f4), .float .f32 ((rd_T58 l0 x14_1).f5)] 58 (0, 0)) (by (with_reducible repeat (first | refine blk_drewN ?_ _ | refine blk_drew ?_ | refine blk_alloc ?_ _)); exact BK217.out) hb)
                have n3_ := Aside0.mk (below_step (by repeat (first | (with_reducible first | exact HB.out | apply below_alloc | apply pw_below_drewN | apply below_drew1 | refine below_set ?_ GE217.out) | exact HB.out)) hb)
                clear HO_3
                clear HO221
                clear BK217
                clear HB
                have HO_3 := n0_
                have HO221 := n1_
                have BK217 := n2_
                have HB := n3_
                clear n0_ n1_ n2_ n3_
                (try clear hb)
                (try clear hb2)
                (try clear hk)
                (try clear hi)
                refine hK.out _ _ ⟨(blk_cell BK217.out 0).trans rfl, (blk_cell BK217.out 1).trans rfl, (blk_cell BK217.out 2).trans rfl, (blk_cell BK217.out 3).trans rfl, (blk_cell BK217.out 4).trans rfl, (blk_cell BK217.out 5).trans rfl, (cu_ HB.out hw216_0), (cu_ HB.out hw216_1), (cu_ HB.out hw216_2), (cu_ HB.out hw216_3), (cu_ HB.out hw216_4), (cu_ HB.out hw216_5)⟩ (fun hHeld => ?_)
                clear hK K
                refine norm_ (a' := ?_) ?_ ?_
                rotate_left
                ·show Act.put _ (some 26) _ = _
                 pw_
                refine pure_ (i := 8) (N := some 27) (v := ?_) (a' := ?_) impl_soundsText.z22 rfl rfl (any_of HT_.out (by kernel_rfl)) (fun _ _ _ h => h) (Or.inl ⟨by rfl, ?_⟩) ?_ ?_
                pv_
                refine pure_ (i := 9) (N := some 28) (v := ?_) (a' := ?_) impl_soundsText.z16 rfl rfl (any_of HT_.out (by kernel_rfl)) (fun _ _ _ h => h) (Or.inl ⟨by rfl, ?_⟩) ?_ ?_
                pv_
                exact norm_ (by simp only [putAll, Act.put, List.setIfInBounds_toArray, List.set_cons_zero, List.set_cons_succ]) (hCont (v220) _ ⟨hHeld, (by (with_reducible repeat (first | apply Kd.R_alloc | apply Kd.R_drewN | apply Kd.R_drew)); exact HO221.out), (by (with_reducible repeat (first | apply Kd.R_alloc | apply Kd.R_drewN | apply Kd.R_drew)); exact HO_3.out), (by (with_reducible repeat (first | refine blk_drewN ?_ _ | refine blk_drew ?_ | refine blk_alloc ?_ _)); exact BK217.out), (by repeat (first | (with_reducible first | exact HB.out | apply below_alloc | apply pw_below_drewN | apply below_drew1 | refine below_set ?_ GE217.out) | exact HB.out))⟩)
              rintro v220 w25 ⟨hS_, h0_, h1_, h2_, h3_⟩
              have n0_ : Aside0 (Kd.R (Kd.float .f32) 30 w25 w.heap.size (fun _ => True) v220 y219) := ⟨h0_⟩
              have n1_ : Aside0 (Kd.R Kd.string 9 w25 w.heap.size (fun _ => True) v214 x3_1) := ⟨h1_⟩
              have n2_ : Aside0 (w25.heap[gb217]? = some (.cells #[.string ((rd_T58 l0 x14_1).f0), .slice A216_1 ((rd_T58 l0 x14_1).f1).length c216_1, .float .f32 ((rd_T58 l0 x14_1).f2), .float .f32 ((rd_T58 l0 x14_1).f3), .float .f32 ((rd_T58 l0 x14_1).f4), .float .f32 ((rd_T58 l0 x14_1).f5)] 58 (0, 0))) := ⟨h2_⟩
              have n3_ : Aside0 (Below w.heap.size w w25) := ⟨h3_⟩
              clear HO_3
              clear BK217
              clear HB
              clear h0_ h1_ h2_ h3_
              have HO221 := n0_
              have HO_3 := n1_
              have BK217 := n2_
              have HB := n3_
              clear n0_ n1_ n2_ n3_
              have hHeld : w25.cell? ⟨gb217, 0, none⟩ = some (.string ((rd_T58 l0 x14_1).f0)) ∧ w25.cell? ⟨gb217, 1, none⟩ = some (.slice A216_1 ((rd_T58 l0 x14_1).f1).length c216_1) ∧ w25.cell? ⟨gb217, 2, none⟩ = some (.float .f32 ((rd_T58 l0 x14_1).f2)) ∧ w25.cell? ⟨gb217, 3, none⟩ = some (.float .f32 ((rd_T58 l0 x14_1).f3)) ∧ w25.cell? ⟨gb217, 4, none⟩ = some (.float .f32 ((rd_T58 l0 x14_1).f4)) ∧ w25.cell? ⟨gb217, 5, none⟩ = some (.float .f32 ((rd_T58 l0 x14_1).f5)) ∧ w25.cell? (ad216.add ((x14_1).toNat * 6)) = some (.string ((rd_T58 l0 x14_1).f0)) ∧ w25.cell? ⟨(ad216.add ((x14_1).toNat * 6)).block, (ad216.add ((x14_1).toNat * 6)).off + 1, none⟩ = some (.slice A216_1 ((rd_T58 l0 x14_1).f1).length c216_1) ∧ w25.cell? ⟨(ad216.add ((x14_1).toNat * 6)).block, (ad216.add ((x14_1).toNat * 6)).off + 2, none⟩ = some (.float .f32 ((rd_T58 l0 x14_1).f2)) ∧ w25.cell? ⟨(ad216.add ((x14_1).toNat * 6)).block, (ad216.add ((x14_1).toNat * 6)).off + 3, none⟩ = some (.float .f32 ((rd_T58 l0 x14_1).f3)) ∧ w25.cell? ⟨(ad216.add ((x14_1).toNat * 6)).block, (ad216.add ((x14_1).toNat * 6)).off + 4, none⟩ = some (.float .f32 ((rd_T58 l0 x14_1).f4)) ∧ w25.cell? ⟨(ad216.add ((x14_1).toNat * 6)).block, (ad216.add ((x14_1).toNat * 6)).off + 5, none⟩ = some (.float .f32 ((rd_T58 l0 x14_1).f5)) := hS_
              obtain ⟨Ao26, co26, eo26⟩ := Kd.R_slice HO221.out
              (first | subst eo26 | (injection eo26 with f1_ f2_ f3_; have f4_ := f1_.symm; have f5_ := f3_.symm; clear f1_ f2_ f3_; subst f4_; subst f5_))
              refine norm_ (a' := ?_) ?_ ?_
              rotate_left
              ·simp only [putAll, Act.put, List.setIfInBounds_toArray, List.set_cons_zero, List.set_cons_succ]
               rfl
              refine one_ (i := 19) (N := some 38) impl_soundsText.z23 rfl rfl (one_of HT_.out (by kernel_rfl)) (by decide) (fun K hK => ?_)
              refine goes_ Tryd.func58 (by kernel_rfl) rfl #[.slice Ao26 y219.length co26] (by rfl) rfl rfl (by (try simp only [List.map_toArray, List.map_cons, List.map_nil]); first | done | rfl | (simp only [List.length_drop, List.length_take]; rfl)) ?_
              with_reducible refine (impl_numbersText.calls k1 _ _ y219 t222 _ ?side1 ?side2 ?side3 A14.out).mono ?_
              (case side1 => repeat (first | exact (Kd.R_reads' HO221.out).2.2 | (with_reducible refine Kd.C_alloc ?_ _) | (with_reducible refine Kd.C_drewN ?_ _) | (with_reducible refine Kd.C_drew ?_)))
              (case side2 => exact (Kd.R_reads' HO221.out).2.1)
              (case side3 => repeat (first | exact (GLh_below HGT_.out HB.out) | (with_reducible refine GLh_alloc ?_ _) | (with_reducible refine GLh_drewN ?_ _) | (with_reducible refine GLh_drew ?_)))
              rintro e w27 ⟨rfl, hb⟩
              refine ⟨_, rfl, ?_⟩
              have n0_ := Aside0.mk (Kd.R_below (by (with_reducible repeat (first | apply Kd.R_alloc | apply Kd.R_drewN | apply Kd.R_drew)); exact HO_3.out) hb)
              have n1_ := Aside0.mk (Kd.R_below (by (with_reducible repeat (first | apply Kd.R_alloc | apply Kd.R_drewN | apply Kd.R_drew)); exact HO221.out) hb)
              have n2_ := Aside0.mk (blk_below (g := gb217) (o := .cells #[.string ((rd_T58 l0 x14_1).f0), .slice A216_1 ((rd_T58 l0 x14_1).f1).length c216_1, .float .f32 ((rd_T58 l0 x14_1).f2), .float .f32 ((rd_T58 l0 x14_1).f3), .float .f32 ((rd_T58 l0 x14_1).f4), .float .f32 ((rd_T58 l0 x14_1).f5)] 58 (0, 0)) (by (with_reducible repeat (first | refine blk_drewN ?_ _ | refine blk_drew ?_ | refine blk_alloc ?_ _)); exact BK217.out) hb)
              have n3_ := Aside0.mk (below_step (by repeat (first | (with_reducible first | exact HB.out | apply below_alloc | apply pw_below_drewN | apply below_drew1 | refine below_set ?_ GE217.out) | exact HB.out)) hb)
              clear HO_3
              clear HO221
              clear BK217
              clear HB
              have HO_3 := n0_
              have HO221 := n1_
              have BK217 := n2_
              have HB := n3_
              clear n0_ n1_ n2_ n3_
              (try clear hb)
              (try clear hb2)
              (try clear hk)
              (try clear hi)
              have p17 : 0 ≤ (x14_1 : Int) := of_decide_eq_true (by first | (with_reducible assumption) | assumption)
              have q17 : (x14_1 : Int) < ((x3_1.length : Int) : Int) := of_decide_eq_true (by first | (with_reducible assumption) | assumption)
              obtain ⟨go17, co17, eo17, gb17, gl17, cl17, HG17⟩ := Kd.R_form HO_3.out (by omega)
              (first | cases eo17 | (injection eo17 with ea_ en_ ec_; (first | subst ea_ | (injection ea_ with ea_; subst ea_)); subst ec_; clear en_))
              have GB17 := Aside0.mk gb17
              have GG17 := Aside0.mk HG17
              clear gb17 gl17 HG17
              obtain ⟨hx17_0, hf17_0⟩ := Kd.R_celln (⟨#[]⟩ : ByteArray) HO_3.out (x14_1 : Int) p17 q17
              replace p17 := eq_true p17
              replace q17 := eq_true q17
              have HP28 := Kd.R_putn HO_3.out (x14_1 : Int) ((((((rd_T58 l0 x14_1).f0) ++ (⟨#[58]⟩ : ByteArray)) ++ t218) ++ (⟨#[58]⟩ : ByteArray)) ++ t222)
              rw [← Ny223.out] at HP28
              have HQ28 := Aside0.mk HP28
              clear HP28
              refine hK.out _ _ ⟨(blk_cell BK217.out 0).trans rfl, (blk_cell BK217.out 1).trans rfl, (blk_cell BK217.out 2).trans rfl, (blk_cell BK217.out 3).trans rfl, (blk_cell BK217.out 4).trans rfl, (blk_cell BK217.out 5).trans rfl, (cu_ HB.out hw216_0), (cu_ HB.out hw216_1), (cu_ HB.out hw216_2), (cu_ HB.out hw216_3), (cu_ HB.out hw216_4), (cu_ HB.out hw216_5)⟩ (fun hHeld => ?_)
              clear hK K
              refine norm_ (a' := ?_) ?_ ?_
              rotate_left
              ·show Act.put _ (some 38) _ = _
               pw_
              refine pure_ (i := 20) (N := some 39) (v := ?_) (a' := ?_) impl_soundsText.z24 rfl rfl (any_of HT_.out (by kernel_rfl)) (fun _ _ _ h => h) (Or.inl ⟨by rfl, ?_⟩) ?_ ?_
              pv_
              refine pure_ (i := 21) (N := some 40) (v := ?_) (a' := ?_) impl_soundsText.z25 rfl rfl (any_of HT_.out (by kernel_rfl)) (fun _ _ _ h => h) (Or.inl ⟨by rfl, ?_⟩) ?_ ?_
              pv_
              refine last_ (i := 22) (N := none) impl_soundsText.z26 rfl rfl (one_of HT_.out (by kernel_rfl)) (by decide) (fun K hK => ?_)
              refine skip_ (w1 := ?_) (by rfl) rfl ?_ ?_
              rotate_left
              ·go_simp
               rfl
              refine hK.out _ _ ?_
              clear hK K
              refine done_ (done_of HT_.out (by kernel_rfl)) ?_
              try go_wp2
              go_roundg k1
              case measure => have := HK1.out; omega
              case rel => exact ⟨(y223), (wrap64 (x14_1 + 1)), (by first | rfl | (simp; done) | (simp [*]; done)), H', ⟨by have := HK1.out; omega⟩, ⟨by (with_reducible repeat (first | apply Kd.R_alloc | apply Kd.R_drewN | apply Kd.R_drew)); exact HQ28.out⟩, ⟨by repeat (first | (with_reducible first | exact HB.out | apply below_alloc | apply pw_below_drewN | apply below_drew1 | refine below_set ?_ GB17.out | refine below_set ?_ GE217.out) | exact HB.out)⟩⟩
             ·rw [if_neg c16] at H
              exact absurd H (by simp)
            ·rw [if_neg c15] at H
             exact absurd H (by simp)
           ·rw [if_neg c13] at H
            exact absurd H (by simp)
          ·rw [if_neg c12] at H
           exact absurd H (by simp)
         ·rw [if_neg c10] at H
          exact absurd H (by simp)
        ·rw [if_neg c9] at H
         exact absurd H (by simp)
       ·rw [if_neg c8] at H
        exact absurd H (by simp)
      ·rw [if_neg c7] at H
       have c7b0 : decide (x14_1 < (l0.length : Int)) = false := decide_eq_false c7
       clear c7
       replace H := Option.bind_eq_some_iff.mp H
       obtain ⟨t224, A290, H⟩ := H
       replace H : (some t224) = some r := H
       have A29 := Aside0.mk A290
       clear A290
       obtain rfl := Option.some.inj H
       obtain ⟨Ao30, co30, eo30⟩ := Kd.R_slice HO_3.out
       subst eo30
       go_wp2_with (first | ((with_reducible refine gate_callee (f := 59) rfl ?_); refine goesL_ (some 43) rfl rfl Tryd.func59 (by kernel_rfl) rfl #[.slice Ao30 x3_1.length co30, .string (⟨#[47]⟩ : ByteArray)] rfl (by (try simp only [List.map_toArray, List.map_cons, List.map_nil]); first | done | rfl | (simp only [List.length_drop, List.length_take]; rfl)) ?_; (with_reducible refine (strings_Join.calls _ _ x3_1 (⟨#[47]⟩ : ByteArray) t224 _ ?side1 ?side2 ?side3 A29.out).mono ?_); (case side1 => repeat (first | exact (Kd.R_reads' HO_3.out).2.2 | (with_reducible refine Kd.C_alloc ?_ _) | (with_reducible refine Kd.C_drewN ?_ _) | (with_reducible refine Kd.C_drew ?_))); (case side2 => exact (Kd.R_reads' HO_3.out).2.1); (case side3 => exact own_plain HO_3.out); rintro e w31 ⟨rfl, hb⟩; refine ⟨_, rfl, ?_⟩; have n0_ := Aside0.mk (Kd.R_below (by (with_reducible repeat (first | apply Kd.R_alloc | apply Kd.R_drewN | apply Kd.R_drew)); exact HO_3.out) hb); have n1_ := Aside0.mk (below_step (by repeat (first | (with_reducible first | exact HB.out | apply below_alloc | apply pw_below_drewN | apply below_drew1) | exact HB.out)) hb); clear HO_3; clear HB; have HO_3 := n0_; have HB := n1_; clear n0_ n1_; (try clear hb); (try clear hb2); (try clear hk); (try clear hi)))
       go_ret
       exact ⟨by first | rfl | (simp [errW_none, errW_some] <;> rfl) | (simp [*, errW_none, errW_some] <;> rfl), by repeat (first | (with_reducible first | exact HB.out | apply below_alloc | apply pw_below_drewN | apply below_drew1) | exact HB.out)⟩
   ·rw [if_neg c4] at H
    exact absurd H (by simp)
  ·rw [if_neg c3] at H
   exact absurd H (by simp)
def impl_SoundsText.f (k : Nat) (l0 : List (S58)) : Option (ByteArray × Bool) := (impl_AreSounds.f k l0).bind fun t225 => (if t225 = true then ((impl_soundsText.f k l0).bind fun t226 => (some (t226, true))) else (some ((⟨#[]⟩ : ByteArray), false)))
theorem impl_SoundsText.mono : ∀ a0 k, LeO (impl_SoundsText.f k a0) (impl_SoundsText.f (k + 1) a0) := by
  intro a0 k
  unfold impl_SoundsText.f
  repeat' first
      | (with_reducible exact impl_AreSounds.mono _ _)
      | (with_reducible exact impl_soundsText.mono _ _)
      | (with_reducible exact LeO.refl _)
      | (with_reducible exact LeO.none _)
      | (with_reducible refine LeO.ite ?_ ?_)
      | (with_reducible refine LeO.bind ?_ (fun _ => ?_))
      | exact impl_AreSounds.mono _ _
      | exact impl_soundsText.mono _ _
      | exact LeO.none _
      | refine LeO.ite ?_ ?_
      | refine LeO.bind ?_ (fun _ => ?_)
set_option maxHeartbeats 8000000 in
set_option maxRecDepth 100000 in
theorem impl_SoundsText.calls (k : Nat) (A0 : Option Addr) (c0 : Nat) (l0 : List (S58)) (r1 : ByteArray) (r2 : Bool) (w : World) (hr0 : Kd.C k58 w A0 l0.length l0) (hc0 : l0.length ≤ c0) (hT_ : GLh w) (h : impl_SoundsText.f k l0 = some (r1, r2)) :
    Calls Tryd.prog 11 #[.slice A0 l0.length c0] w fun e w' => e = .returned (.tuple #[.string r1, .bool r2]) ∧ Below w.heap.size w w' := by
  have HR0 := Aside0.mk hr0
  have HC0 := Aside0.mk hc0
  clear hr0 hc0
  have HGT_ := Aside0.mk hT_
  clear hT_
  have HB := Aside0.mk (Below.refl w.heap.size w)
  have H : ((impl_AreSounds.f k l0).bind fun t225 => (if t225 = true then ((impl_soundsText.f k l0).bind fun t226 => (some (t226, true))) else (some ((⟨#[]⟩ : ByteArray), false)))) = some (r1, r2) := h
  clear h
  replace H := Option.bind_eq_some_iff.mp H
  obtain ⟨t225, A20, H⟩ := H
  replace H : (if t225 = true then ((impl_soundsText.f k l0).bind fun t226 => (some (t226, true))) else (some ((⟨#[]⟩ : ByteArray), false))) = some (r1, r2) := H
  have A2 := Aside0.mk A20
  clear A20
  by_cases c3 : t225 = true
  · subst c3
    have H1 : ((impl_soundsText.f k l0).bind fun t226 => (some (t226, true))) = some (r1, r2) := by rw [if_pos rfl] at H; exact H
    clear H
    have H := H1
    clear H1
    replace H := Option.bind_eq_some_iff.mp H
    obtain ⟨t226, A40, H⟩ := H
    replace H : (some (t226, true)) = some (r1, r2) := H
    have A4 := Aside0.mk A40
    clear A40
    simp only [Option.some.injEq, Prod.mk.injEq] at H
    obtain ⟨rfl, rfl⟩ := H
    go_enter Tryd.func11, Tryd.ntmps11
    go_wp2_with (first | ((with_reducible refine gate_callee (f := 34) rfl ?_); refine goesL_ (some 5) rfl rfl Tryd.func34 (by kernel_rfl) rfl #[.slice A0 l0.length c0] rfl (by (try simp only [List.map_toArray, List.map_cons, List.map_nil]); first | done | rfl | (simp only [List.length_drop, List.length_take]; rfl)) ?_; (with_reducible refine (impl_AreSounds.calls k _ _ l0 true _ ?side1 ?side2 A2.out).mono ?_); (case side1 => repeat (first | exact HR0.out | (with_reducible refine Kd.C_alloc ?_ _) | (with_reducible refine Kd.C_drewN ?_ _) | (with_reducible refine Kd.C_drew ?_))); (case side2 => exact HC0.out); rintro e w5 ⟨rfl, hb⟩; refine ⟨_, rfl, ?_⟩; have n0_ := Aside0.mk (below_step (by repeat (first | (with_reducible first | exact HB.out | apply below_alloc | apply pw_below_drewN | apply below_drew1) | exact HB.out)) hb); clear HB; have HB := n0_; clear n0_; (try clear hb); (try clear hb2); (try clear hk); (try clear hi)) | ((with_reducible refine gate_callee (f := 35) rfl ?_); refine goesL_ (some 8) rfl rfl Tryd.func35 (by kernel_rfl) rfl #[.slice A0 l0.length c0] rfl (by (try simp only [List.map_toArray, List.map_cons, List.map_nil]); first | done | rfl | (simp only [List.length_drop, List.length_take]; rfl)) ?_; (with_reducible refine (impl_soundsText.calls k _ _ l0 t226 _ ?side1 ?side2 ?side3 A4.out).mono ?_); (case side1 => repeat (first | exact (Kd.C_below HR0.out HB.out) | (with_reducible refine Kd.C_alloc ?_ _) | (with_reducible refine Kd.C_drewN ?_ _) | (with_reducible refine Kd.C_drew ?_))); (case side2 => exact HC0.out); (case side3 => repeat (first | exact (GLh_below HGT_.out HB.out) | (with_reducible refine GLh_alloc ?_ _) | (with_reducible refine GLh_drewN ?_ _) | (with_reducible refine GLh_drew ?_))); rintro e w6 ⟨rfl, hb⟩; refine ⟨_, rfl, ?_⟩; have n0_ := Aside0.mk (below_step (by repeat (first | (with_reducible first | exact HB.out | apply below_alloc | apply pw_below_drewN | apply below_drew1) | exact HB.out)) hb); clear HB; have HB := n0_; clear n0_; (try clear hb); (try clear hb2); (try clear hk); (try clear hi)))
    go_ret2
    exact ⟨by first | rfl | (simp [errW_none, errW_some] <;> rfl) | (simp [*, errW_none, errW_some] <;> rfl), by repeat (first | (with_reducible first | exact HB.out | apply below_alloc | apply pw_below_drewN | apply below_drew1) | exact HB.out)⟩
  · replace c3 := Bool.eq_false_iff.mpr c3
    subst c3
    have H1 : (some ((⟨#[]⟩ : ByteArray), false)) = some (r1, r2) := by rw [if_neg (show ¬ (false = true) by decide)] at H; exact H
    clear H
    have H := H1
    clear H1
    simp only [Option.some.injEq, Prod.mk.injEq] at H
    obtain ⟨rfl, rfl⟩ := H
    go_enter Tryd.func11, Tryd.ntmps11
    go_wp2_with (first | ((with_reducible refine gate_callee (f := 34) rfl ?_); refine goesL_ (some 5) rfl rfl Tryd.func34 (by kernel_rfl) rfl #[.slice A0 l0.length c0] rfl (by (try simp only [List.map_toArray, List.map_cons, List.map_nil]); first | done | rfl | (simp only [List.length_drop, List.length_take]; rfl)) ?_; (with_reducible refine (impl_AreSounds.calls k _ _ l0 false _ ?side1 ?side2 A2.out).mono ?_); (case side1 => repeat (first | exact HR0.out | (with_reducible refine Kd.C_alloc ?_ _) | (with_reducible refine Kd.C_drewN ?_ _) | (with_reducible refine Kd.C_drew ?_))); (case side2 => exact HC0.out); rintro e w7 ⟨rfl, hb⟩; refine ⟨_, rfl, ?_⟩; have n0_ := Aside0.mk (below_step (by repeat (first | (with_reducible first | exact HB.out | apply below_alloc | apply pw_below_drewN | apply below_drew1) | exact HB.out)) hb); clear HB; have HB := n0_; clear n0_; (try clear hb); (try clear hb2); (try clear hk); (try clear hi)))
    go_ret2
    exact ⟨by first | rfl | (simp [errW_none, errW_some] <;> rfl) | (simp [*, errW_none, errW_some] <;> rfl), by repeat (first | (with_reducible first | exact HB.out | apply below_alloc | apply pw_below_drewN | apply below_drew1) | exact HB.out)⟩
def laws_eqSound.f (a0_0 : ByteArray) (l0_1 : List Nat) (a0_2 a0_3 a0_4 a0_5 : Nat) (a1_0 : ByteArray) (l1_1 : List Nat) (a1_2 a1_3 a1_4 a1_5 : Nat) : Option Bool := if a0_0 = a1_0 ∧ l0_1 = l1_1 ∧ a0_2 = a1_2 ∧ a0_3 = a1_3 ∧ a0_4 = a1_4 ∧ a0_5 = a1_5 ∧ l0_1.length ≤ 1048576 ∧ (∀ x ∈ l0_1, x < 4294967296) ∧ a0_2 < 4294967296 ∧ a0_3 < 4294967296 ∧ a0_4 < 4294967296 ∧ a0_5 < 4294967296 then some true else none
theorem laws_eqSound.calls (a0_0 : ByteArray) (A0_1 : Option Addr) (c0_1 : Nat) (l0_1 : List Nat) (a0_2 a0_3 a0_4 a0_5 : Nat) (a1_0 : ByteArray) (A1_1 : Option Addr) (c1_1 : Nat) (l1_1 : List Nat) (a1_2 a1_3 a1_4 a1_5 : Nat) (r : Bool) (w : World) (hr0_1 : Kd.C (Kd.float .f32) w A0_1 l0_1.length l0_1) (hc0_1 : l0_1.length ≤ c0_1) (hr1_1 : Kd.C (Kd.float .f32) w A1_1 l1_1.length l1_1) (hc1_1 : l1_1.length ≤ c1_1) (h : laws_eqSound.f a0_0 l0_1 a0_2 a0_3 a0_4 a0_5 a1_0 l1_1 a1_2 a1_3 a1_4 a1_5 = some r) :
    Calls Tryd.prog 36 #[.agg #[.string a0_0, .slice A0_1 l0_1.length c0_1, .float .f32 a0_2, .float .f32 a0_3, .float .f32 a0_4, .float .f32 a0_5], .agg #[.string a1_0, .slice A1_1 l1_1.length c1_1, .float .f32 a1_2, .float .f32 a1_3, .float .f32 a1_4, .float .f32 a1_5]] w fun e w' => e = .returned (.bool r) ∧ Below w.heap.size w w' := by
  unfold laws_eqSound.f at h
  split at h
  · rename_i hh
    obtain rfl := Option.some.inj h
    obtain ⟨rfl, rfl, rfl, rfl, rfl, rfl, hl, hx, h2, h3, h4, h5⟩ := hh
    exact giv_eqSound A0_1 A1_1 c0_1 c1_1 a0_0 l0_1 a0_2 a0_3 a0_4 a0_5 w hr0_1 hr1_1 hl hx h2 h3 h4 h5
  · cases h
end Go.Proofs.YtdfpfiecpcgffaaDoor.PFnExactSoundsText
