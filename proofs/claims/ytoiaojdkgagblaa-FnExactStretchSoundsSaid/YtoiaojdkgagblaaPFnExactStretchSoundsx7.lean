import Derived.Test.YtoiaojdkgagblaaCloSt
import Derived.Test.YtoiaojdkgagblaaPFnExactStretchSoundsx0
import Derived.Test.YtoiaojdkgagblaaPFnExactStretchSoundsx4
import Derived.Test.YtoiaojdkgagblaaPFnExactStretchSoundsx6
namespace Go.Proofs.Ytoiaojdkgagblaa.PFnExactStretchSounds
open Go.RowKit Go.Proofs.YtoiaojdkgagblaaW.PrintWords Go.Proofs.YtoiaojdkgagblaaW.PrintLast Go.Proofs.YtoiaojdkgagblaaW.PrintMore
open Go.Proofs.YtoiaojdkgagblaaW.PrintFl
attribute [local go_sem high] binOp_feq binOp_fne binOp_fls binOp_fle binOp_fgr binOp_fge binOp_sle binOp_sgt
attribute [local go_sem] run_fopr run_fconv run_fint run_stf run_stc ext_f32bits ext_f64bits ext_f32frombits
attribute [local go_sem] max2_int min2_int max_two min_two max_three min_three max_four min_four
set_option linter.unusedVariables false
set_option linter.unusedSimpArgs false
def impl_cloneSounds.f (l : List (S138)) : Option (List (S138)) := if l.length < 2513169434916 then (if (l.all fun x => decide (x.f1.length < 35184372088832)) = true then some l else none) else none
theorem impl_cloneSounds.calls (A0 : Option Addr) (c0 : Nat) (l0 : List (S138)) (r : List (S138)) (w : World) (hr0 : Kd.C k138 w A0 l0.length l0) (hc0 : l0.length ≤ c0) (h : impl_cloneSounds.f l0 = some r) :
    Calls Try.prog 103 #[.slice A0 l0.length c0] w fun e w' => ∃ v0_ : Value, e = .returned (v0_) ∧ Kd.S k138 138 w' w.heap.size (fun _ => True) v0_ r ∧ Below w.heap.size w w' := by
  unfold impl_cloneSounds.f at h
  split at h
  · rename_i h1
    split at h
    · rename_i h2
      obtain rfl := Option.some.inj h
      exact Clo.clone_sounds A0 c0 l0 w hr0 hc0 h1 (fun x hx => of_decide_eq_true (List.all_eq_true.1 h2 x hx))
    · cases h
  · cases h
mutual
def impl_StretchSounds.j0 : Nat → List (S138) → Nat → Bool → Option ((List (S138)) × Bool)
 | 0, _, _, _ => none
 | k + 1, x0, x1, x15 => if x15 = true then (some (([] : List (S138)), false)) else ((impl_cloneSounds.f x0).bind fun t222 => (impl_StretchSounds.l0 k x1 t222 (t222.length : Int) 0))
def impl_StretchSounds.l0 : Nat → Nat → List (S138) → Int → Int → Option ((List (S138)) × Bool)
 | 0, _, _, _, _ => none
 | k + 1, x1, x6, x19, x20 => if x20 < x19 then (if 0 ≤ x20 then (if x20 < (x6.length : Int) then (if (foprOk .mul .f32 ((rd_T138 x6 x20).f2) x1) = true then ((some (x6.set (x20 : Int).toNat (⟨(rd_T138 x6 x20).f0, (rd_T138 x6 x20).f1, fopr .mul .f32 ((rd_T138 x6 x20).f2) x1, (rd_T138 x6 x20).f3, (rd_T138 x6 x20).f4, (rd_T138 x6 x20).f5⟩ : S138) : List (S138))).bind fun y226 => (if (foprOk .mul .f32 ((rd_T138 y226 x20).f3) x1) = true then (impl_StretchSounds.l0 k x1 (y226.set (x20 : Int).toNat (⟨(rd_T138 y226 x20).f0, (rd_T138 y226 x20).f1, (rd_T138 y226 x20).f2, fopr .mul .f32 ((rd_T138 y226 x20).f3) x1, (rd_T138 y226 x20).f4, (rd_T138 y226 x20).f5⟩ : S138)) x19 (wrap64 (x20 + 1))) else (none))) else (none)) else (none)) else (none)) else ((impl_AreSounds.f k x6).bind fun t229 => (if t229 = true then (some (x6, true)) else (some (([] : List (S138)), false))))
end
def impl_StretchSounds.f (k : Nat) (l0 : List (S138)) (a1 : Nat) : Option ((List (S138)) × Bool) := (impl_AreSounds.f k l0).bind fun t220 => (if t220 = true then ((impl_IsFinite.f a1).bind fun t221 => (impl_StretchSounds.j0 k l0 a1 (!t221))) else (impl_StretchSounds.j0 k l0 a1 true))
theorem impl_StretchSounds.mono_l : ∀ k, (∀ y0 y1 y2, LeO (impl_StretchSounds.j0 k y0 y1 y2) (impl_StretchSounds.j0 (k + 1) y0 y1 y2)) ∧ (∀ y0 y1 y2 y3, LeO (impl_StretchSounds.l0 k y0 y1 y2 y3) (impl_StretchSounds.l0 (k + 1) y0 y1 y2 y3))
 | 0 => ⟨fun _ _ _ r h => by simp [impl_StretchSounds.j0] at h, fun _ _ _ _ r h => by simp [impl_StretchSounds.l0] at h⟩
 | k + 1 => by
  obtain ⟨ih0, ih1⟩ := impl_StretchSounds.mono_l k
  refine ⟨?_, ?_⟩
  ·intro y0 y1 y2
   unfold impl_StretchSounds.j0
   repeat' first
   | (with_reducible exact ih0 _ _ _)
   | (with_reducible exact ih1 _ _ _ _)
   | (with_reducible exact impl_AreSounds.mono _ _)
   | (with_reducible exact LeO.refl _)
   | (with_reducible exact LeO.none _)
   | (with_reducible refine LeO.ite ?_ ?_)
   | (with_reducible refine LeO.bind ?_ (fun _ => ?_))
   | exact ih0 _ _ _
   | exact ih1 _ _ _ _
   | exact impl_AreSounds.mono _ _
   | exact LeO.none _
   | refine LeO.ite ?_ ?_
   | refine LeO.bind ?_ (fun _ => ?_)
  ·intro y0 y1 y2 y3
   unfold impl_StretchSounds.l0
   repeat' first
   | (with_reducible exact ih0 _ _ _)
   | (with_reducible exact ih1 _ _ _ _)
   | (with_reducible exact impl_AreSounds.mono _ _)
   | (with_reducible exact LeO.refl _)
   | (with_reducible exact LeO.none _)
   | (with_reducible refine LeO.ite ?_ ?_)
   | (with_reducible refine LeO.bind ?_ (fun _ => ?_))
   | exact ih0 _ _ _
   | exact ih1 _ _ _ _
   | exact impl_AreSounds.mono _ _
   | exact LeO.none _
   | refine LeO.ite ?_ ?_
   | refine LeO.bind ?_ (fun _ => ?_)
theorem impl_StretchSounds.mono : ∀ a0 a1 k, LeO (impl_StretchSounds.f k a0 a1) (impl_StretchSounds.f (k + 1) a0 a1) := by
 intro a0 a1 k
 obtain ⟨ih0, ih1⟩ := impl_StretchSounds.mono_l k
 unfold impl_StretchSounds.f
 repeat' first
   | (with_reducible exact ih0 _ _ _)
   | (with_reducible exact ih1 _ _ _ _)
   | (with_reducible exact impl_AreSounds.mono _ _)
   | (with_reducible exact LeO.refl _)
   | (with_reducible exact LeO.none _)
   | (with_reducible refine LeO.ite ?_ ?_)
   | (with_reducible refine LeO.bind ?_ (fun _ => ?_))
   | exact ih0 _ _ _
   | exact ih1 _ _ _ _
   | exact impl_AreSounds.mono _ _
   | exact LeO.none _
   | refine LeO.ite ?_ ?_
   | refine LeO.bind ?_ (fun _ => ?_)
set_option maxHeartbeats 8000000 in
set_option maxRecDepth 100000 in
theorem impl_StretchSounds.calls (k : Nat) (A0 : Option Addr) (c0 : Nat) (l0 : List (S138)) (a1 : Nat) (r1 : List (S138)) (r2 : Bool) (w : World) (hr0 : Kd.C k138 w A0 l0.length l0) (hc0 : l0.length ≤ c0) (h : impl_StretchSounds.f k l0 a1 = some (r1, r2)) :
  Calls Try.prog 43 #[.slice A0 l0.length c0, .float .f32 a1] w fun e w' => ∃ v0_ : Value, e = .returned (.tuple #[v0_, .bool r2]) ∧ Kd.S k138 138 w' w.heap.size (fun _ => True) v0_ r1 ∧ Below w.heap.size w w' := by
 have hu36 := Try.underlying36
 have HR0 := Aside0.mk hr0
 have HC0 := Aside0.mk hc0
 clear hr0 hc0
 have HB := Aside0.mk (Below.refl w.heap.size w)
 have H : ((impl_AreSounds.f k l0).bind fun t220 => (if t220 = true then ((impl_IsFinite.f a1).bind fun t221 => (impl_StretchSounds.j0 k l0 a1 (!t221))) else (impl_StretchSounds.j0 k l0 a1 true))) = some (r1, r2) := h
 clear h
 have HC3 := Aside0.mk H
 clear H
 go_enter Try.func43, Try.ntmps43
 go_upto_region 1 with (fail)
 go_cut [15] (fun v15 wc => ∃ (kq : Nat) (x15_2 : Bool), v15 = .bool x15_2 ∧ Aside0 (impl_StretchSounds.j0 kq l0 a1 x15_2 = some (r1, r2)) ∧ Aside0 (kq ≤ k) ∧ Aside0 (Below w.heap.size w wc))
 case first =>
  have H := HC3.out
  clear HC3
  replace H := Option.bind_eq_some_iff.mp H
  obtain ⟨t220, A40, H⟩ := H
  replace H : (if t220 = true then ((impl_IsFinite.f a1).bind fun t221 => (impl_StretchSounds.j0 k l0 a1 (!t221))) else (impl_StretchSounds.j0 k l0 a1 true)) = some (r1, r2) := H
  have A4 := Aside0.mk A40
  clear A40
  by_cases c5 : t220 = true
  ·subst c5
   have H1 : ((impl_IsFinite.f a1).bind fun t221 => (impl_StretchSounds.j0 k l0 a1 (!t221))) = some (r1, r2) := by rw [if_pos rfl] at H; exact H
   clear H
   have H := H1
   clear H1
   replace H := Option.bind_eq_some_iff.mp H
   obtain ⟨t221, A60, H⟩ := H
   replace H : (impl_StretchSounds.j0 k l0 a1 (!t221)) = some (r1, r2) := H
   have A6 := Aside0.mk A60
   clear A60
   have H' := Aside0.mk H
   clear H
   go_wp2_with (first | ((with_reducible refine gate_callee (f := 102) rfl ?_); refine goesL_ (some 9) rfl rfl Try.func102 (by kernel_rfl) rfl #[.slice A0 l0.length c0] rfl (by (try simp only [List.map_toArray, List.map_cons, List.map_nil]); first | done | rfl | (simp only [List.length_drop, List.length_take]; rfl)) ?_; (with_reducible refine (impl_AreSounds.calls k _ _ l0 true _ ?side1 ?side2 A4.out).mono ?_); (case side1 => repeat (first | exact (Kd.C_below HR0.out HB.out) | (with_reducible refine Kd.C_alloc ?_ _) | (with_reducible refine Kd.C_drewN ?_ _) | (with_reducible refine Kd.C_drew ?_))); (case side2 => exact HC0.out); rintro e w7 ⟨rfl, hb⟩; refine ⟨_, rfl, ?_⟩; have n0_ := Aside0.mk (below_step (by repeat (first | (with_reducible first | exact HB.out | apply below_alloc | apply pw_below_drewN | apply below_drew1) | exact HB.out)) hb); clear HB; have HB := n0_; clear n0_; (try clear hb); (try clear hb2); (try clear hk); (try clear hi)) | (go_at_call 80; (with_reducible refine (impl_IsFinite.calls a1 t221 _ A6.out).mono ?_); rintro e w' ⟨rfl, ⟨nd, rfl⟩⟩))
   go_meet
   case rel => exact ⟨_, (!t221), (by first | rfl | (simp; done) | (simp [*]; done)), H', ⟨by first | omega | exact Nat.le_refl _⟩, ⟨by repeat (first | (with_reducible first | exact HB.out | apply below_alloc | apply pw_below_drewN | apply below_drew1) | exact HB.out)⟩⟩
  ·replace c5 := Bool.eq_false_iff.mpr c5
   subst c5
   have H1 : (impl_StretchSounds.j0 k l0 a1 true) = some (r1, r2) := by rw [if_neg (show ¬ (false = true) by decide)] at H; exact H
   clear H
   have H := H1
   clear H1
   have H' := Aside0.mk H
   clear H
   go_wp2_with (first | ((with_reducible refine gate_callee (f := 102) rfl ?_); refine goesL_ (some 9) rfl rfl Try.func102 (by kernel_rfl) rfl #[.slice A0 l0.length c0] rfl (by (try simp only [List.map_toArray, List.map_cons, List.map_nil]); first | done | rfl | (simp only [List.length_drop, List.length_take]; rfl)) ?_; (with_reducible refine (impl_AreSounds.calls k _ _ l0 false _ ?side1 ?side2 A4.out).mono ?_); (case side1 => repeat (first | exact (Kd.C_below HR0.out HB.out) | (with_reducible refine Kd.C_alloc ?_ _) | (with_reducible refine Kd.C_drewN ?_ _) | (with_reducible refine Kd.C_drew ?_))); (case side2 => exact HC0.out); rintro e w8 ⟨rfl, hb⟩; refine ⟨_, rfl, ?_⟩; have n0_ := Aside0.mk (below_step (by repeat (first | (with_reducible first | exact HB.out | apply below_alloc | apply pw_below_drewN | apply below_drew1) | exact HB.out)) hb); clear HB; have HB := n0_; clear n0_; (try clear hb); (try clear hb2); (try clear hk); (try clear hi)))
   go_meet
   case rel => exact ⟨_, (true), (by first | rfl | (simp; done) | (simp [*]; done)), H', ⟨by first | omega | exact Nat.le_refl _⟩, ⟨by repeat (first | (with_reducible first | exact HB.out | apply below_alloc | apply pw_below_drewN | apply below_drew1) | exact HB.out)⟩⟩
 case rest =>
  clear HC3
  try clear c1
  try clear p2
  try clear c4
  try clear c5
  obtain ⟨kq, x15_2, rfl, HA, HJ2, HB⟩ := hcut
  cases kq with
  | zero => exact absurd HA.out (by simp [impl_StretchSounds.j0])
  | succ kj2 =>
   have H := HA.out
   clear HA
   simp only [impl_StretchSounds.j0] at H
   by_cases c9 : x15_2 = true
   ·subst c9
    have H1 : (some (([] : List (S138)), false)) = some (r1, r2) := by rw [if_pos rfl] at H; exact H
    clear H
    have H := H1
    clear H1
    simp only [Option.some.injEq, Prod.mk.injEq] at H
    obtain ⟨rfl, rfl⟩ := H
    go_wp2
    go_ret2
    exact ⟨_, by first | rfl | (simp [errW_none, errW_some] <;> rfl) | (simp [*, errW_none, errW_some] <;> rfl), by first | exact Kd.S_nil _ _ _ _ _ | exact Kd.N_nil _ _ _ _ _ | exact Kd.V_nil _ _ _ _ _ | exact Kd.Q_nil _ _ _ _ _ | exact Kd.R_nil _ _ _ _ _, by repeat (first | (with_reducible first | exact HB.out | apply below_alloc | apply pw_below_drewN | apply below_drew1) | exact HB.out)⟩
   ·replace c9 := Bool.eq_false_iff.mpr c9
    subst c9
    have H1 : ((impl_cloneSounds.f l0).bind fun t222 => (impl_StretchSounds.l0 kj2 a1 t222 (t222.length : Int) 0)) = some (r1, r2) := by rw [if_neg (show ¬ (false = true) by decide)] at H; exact H
    clear H
    have H := H1
    clear H1
    replace H := Option.bind_eq_some_iff.mp H
    obtain ⟨t222, A100, H⟩ := H
    replace H : (impl_StretchSounds.l0 kj2 a1 t222 (t222.length : Int) 0) = some (r1, r2) := H
    have A10 := Aside0.mk A100
    clear A100
    have H' := Aside0.mk H
    clear H
    go_wp2_with (first | ((with_reducible refine gate_callee (f := 103) rfl ?_); refine goesL_ (some 17) rfl rfl Try.func103 (by kernel_rfl) rfl #[.slice A0 l0.length c0] rfl (by (try simp only [List.map_toArray, List.map_cons, List.map_nil]); first | done | rfl | (simp only [List.length_drop, List.length_take]; rfl)) ?_; (with_reducible refine (impl_cloneSounds.calls _ _ l0 t222 _ ?side1 ?side2 A10.out).mono ?_); (case side1 => repeat (first | exact (Kd.C_below HR0.out HB.out) | (with_reducible refine Kd.C_alloc ?_ _) | (with_reducible refine Kd.C_drewN ?_ _) | (with_reducible refine Kd.C_drew ?_))); (case side2 => exact HC0.out); rintro e w11 ⟨v223, rfl, ho0, hb⟩; refine ⟨_, rfl, ?_⟩; have n0_ := Aside0.mk (Kd.S_lower ho0 (below_size (by repeat (first | (with_reducible first | exact HB.out | apply below_alloc | apply pw_below_drewN | apply below_drew1) | exact HB.out)))); have n1_ := Aside0.mk (below_step (by repeat (first | (with_reducible first | exact HB.out | apply below_alloc | apply pw_below_drewN | apply below_drew1) | exact HB.out)) hb); clear HB; have HO224 := n0_; have HB := n1_; clear n0_ n1_; (try clear hb); (try clear hb2); (try clear hk); (try clear hi); (try clear ho0); obtain ⟨Ao12, co12, eo12⟩ := Kd.S_slice HO224.out; subst eo12))
    go_loopg [20] kj2 (fun kq v20 w' => ∃ (x6_2 : List (S138)) (x20_2 : Int), v20 = .int .i64 x20_2 ∧ Aside0 (impl_StretchSounds.l0 kq a1 x6_2 (t222.length : Int) x20_2 = some (r1, r2)) ∧ Aside0 (kq ≤ kj2) ∧ Aside0 (Kd.S k138 138 w' w.heap.size (fun _ => True) (.slice Ao12 t222.length co12) x6_2) ∧ Aside0 (Below w.heap.size w w'))
    case atStart => exact ⟨(t222), (0), (by first | rfl | (simp; done) | (simp [*]; done)), H', ⟨Nat.le_refl _⟩, ⟨by (with_reducible repeat (first | apply Kd.S_alloc | apply Kd.S_drewN | apply Kd.S_drew)); exact HO224.out⟩, ⟨by repeat (first | (with_reducible first | exact HB.out | apply below_alloc | apply pw_below_drewN | apply below_drew1) | exact HB.out)⟩⟩
    case round =>
     clear H'
     try clear c1
     try clear p2
     try clear c4
     try clear c5
     try clear c9
     try clear c10
     try clear p2
     obtain ⟨x6_2, x20_2, rfl, HA, HK2, HO_6, HB⟩ := hrel
     have hl6_2 := (Kd.S_reads' HO_6.out).1
     rw [hl6_2] at HO_6
     (try simp only [hl6_2])
     cases gk with
     | zero => exact absurd HA.out (by simp [impl_StretchSounds.l0])
     | succ k2 =>
      have H := HA.out
      clear HA
      simp only [impl_StretchSounds.l0] at H
      by_cases c13 : x20_2 < (t222.length : Int)
      ·rw [if_pos c13] at H
       have c13b0 : decide (x20_2 < (t222.length : Int)) = true := decide_eq_true c13
       (try rw [hl6_2] at c13b0)
       clear c13
       by_cases c14 : 0 ≤ x20_2
       ·rw [if_pos c14] at H
        have c14b0 : decide (0 ≤ x20_2) = true := decide_eq_true c14
        clear c14
        by_cases c15 : x20_2 < (x6_2.length : Int)
        ·rw [if_pos c15] at H
         have c15b0 : decide (x20_2 < (x6_2.length : Int)) = true := decide_eq_true c15
         (try rw [hl6_2] at c15b0)
         clear c15
         by_cases c16 : (foprOk .mul .f32 ((rd_T138 x6_2 x20_2).f2) a1) = true
         ·rw [if_pos c16] at H
          have c16b0 : (foprOk .mul .f32 ((rd_T138 x6_2 x20_2).f2) a1) = true := c16
          clear c16
          obtain ⟨y226, hy226⟩ : ∃ y_ : List (S138), y_ = (x6_2.set (x20_2 : Int).toNat (⟨(rd_T138 x6_2 x20_2).f0, (rd_T138 x6_2 x20_2).f1, fopr .mul .f32 ((rd_T138 x6_2 x20_2).f2) a1, (rd_T138 x6_2 x20_2).f3, (rd_T138 x6_2 x20_2).f4, (rd_T138 x6_2 x20_2).f5⟩ : S138)) := ⟨_, rfl⟩
          replace H : (if (foprOk .mul .f32 ((rd_T138 y226 x20_2).f3) a1) = true then (impl_StretchSounds.l0 k2 a1 (y226.set (x20_2 : Int).toNat (⟨(rd_T138 y226 x20_2).f0, (rd_T138 y226 x20_2).f1, (rd_T138 y226 x20_2).f2, fopr .mul .f32 ((rd_T138 y226 x20_2).f3) a1, (rd_T138 y226 x20_2).f4, (rd_T138 y226 x20_2).f5⟩ : S138)) (t222.length : Int) (wrap64 (x20_2 + 1))) else (none)) = some (r1, r2) := by first | (rw [hy226]; with_reducible exact H) | (have H2_ := (Option.bind_some _ _).symm.trans H; rw [hy226]; with_reducible exact H2_) | (have H2_ := (Option.bind_some _ _).symm.trans H; with_reducible exact H2_) | with_reducible exact H | (rw [hy226]; exact H) | exact H
          have Ny226 := Aside0.mk hy226
          clear hy226
          by_cases c18 : (foprOk .mul .f32 ((rd_T138 y226 x20_2).f3) a1) = true
          ·rw [if_pos c18] at H
           have c18b0 : (foprOk .mul .f32 ((rd_T138 y226 x20_2).f3) a1) = true := c18
           clear c18
           obtain ⟨y228, hy228⟩ : ∃ y_ : List (S138), y_ = (y226.set (x20_2 : Int).toNat (⟨(rd_T138 y226 x20_2).f0, (rd_T138 y226 x20_2).f1, (rd_T138 y226 x20_2).f2, fopr .mul .f32 ((rd_T138 y226 x20_2).f3) a1, (rd_T138 y226 x20_2).f4, (rd_T138 y226 x20_2).f5⟩ : S138)) := ⟨_, rfl⟩
           replace H : (impl_StretchSounds.l0 k2 a1 y228 (t222.length : Int) (wrap64 (x20_2 + 1))) = some (r1, r2) := by first | (rw [hy228]; with_reducible exact H) | (have H2_ := (Option.bind_some _ _).symm.trans H; rw [hy228]; with_reducible exact H2_) | (have H2_ := (Option.bind_some _ _).symm.trans H; with_reducible exact H2_) | with_reducible exact H | (rw [hy228]; exact H) | exact H
           have Ny228 := Aside0.mk hy228
           clear hy228
           have H' := Aside0.mk H
           clear H
           have p225 : 0 ≤ (x20_2 : Int) := of_decide_eq_true (by first | (with_reducible assumption) | assumption)
           have q225 : x20_2 < (x6_2.length : Int) := of_decide_eq_true (by first | (with_reducible assumption) | assumption)
           obtain ⟨ad225, A225_1, c225_1, e225, hx225_0, hx225_1, hx225_2, hx225_3, hx225_4, hx225_5, hl225_1, hi225_1⟩ := at_T138 (Kd.S_reads' HO_6.out).2.2 x20_2 p225 q225
           cases e225
           obtain ⟨ce225, hce225, hMe225, hcc225⟩ := Kd.S_get HO_6.out z138 x20_2 p225 (by first | exact q225 | exact of_decide_eq_true (by first | (with_reducible assumption) | assumption) | (have e_ := (Kd.S_reads' HO_6.out).1; omega))
           obtain ⟨ve225_1, rfl, ge225_1⟩ := k138_openM hMe225
           have hv225_1 := hcc225 1 _ rfl
           rw [add_field _ _ 1 (by omega)] at hv225_1
           replace hv225_1 := Option.some.inj (hv225_1.symm.trans hx225_1)
           rw [hv225_1] at ge225_1
           have HL225_1 := Aside0.mk (show Kd.R (Kd.float .f32) 36 _ _ _ _ ((rd_T138 x6_2 x20_2).f1) from ge225_1)
           clear hv225_1 ge225_1
           clear hcc225 hce225
           have HR225_1 := Aside0.mk hi225_1
           have HC225_1 := Aside0.mk hl225_1
           clear hi225_1 hl225_1
           replace p225 := eq_true p225
           replace q225 := eq_true q225
           have p17 : 0 ≤ (x20_2 : Int) := of_decide_eq_true (by first | (with_reducible assumption) | assumption)
           have q17 : (x20_2 : Int) < ((x6_2.length : Int) : Int) := of_decide_eq_true (by first | (with_reducible assumption) | assumption)
           obtain ⟨go17, co17, eo17, gb17, gl17, cl17, HG17⟩ := Kd.S_form HO_6.out (by omega)
           (first | cases eo17 | (injection eo17 with ea_ en_ ec_; (first | subst ea_ | (injection ea_ with ea_; subst ea_)); subst ec_; clear en_))
           have GB17 := Aside0.mk gb17
           have GG17 := Aside0.mk HG17
           clear gb17 gl17 HG17
           (first | simp only [add_plain] at hx225_0 | skip)
           (first | simp only [add_plain] at hx225_1 | skip)
           (first | simp only [add_plain] at hx225_2 | skip)
           (first | simp only [add_plain] at hx225_3 | skip)
           (first | simp only [add_plain] at hx225_4 | skip)
           (first | simp only [add_plain] at hx225_5 | skip)
           obtain ⟨_, ce17, hcl17, hM17, hcc17, hfr17, _, _⟩ := Kd.S_elem HO_6.out z138 (x20_2 : Int) p17 q17
           obtain ⟨ve17_1, rfl, ge17_1⟩ := k138_openM hM17
           have hx17_0 : wr.cell? ⟨go17, (x20_2 : Int).toNat * 6, none⟩ = some (.string ((rd_T138 x6_2 x20_2).f0)) := hcc17 0 _ rfl
           have hx17_1 : wr.cell? ⟨go17, (x20_2 : Int).toNat * 6 + 1, none⟩ = some (ve17_1) := hcc17 1 _ rfl
           have hx17_2 : wr.cell? ⟨go17, (x20_2 : Int).toNat * 6 + 2, none⟩ = some (.float .f32 ((rd_T138 x6_2 x20_2).f2)) := hcc17 2 _ rfl
           have hx17_3 : wr.cell? ⟨go17, (x20_2 : Int).toNat * 6 + 3, none⟩ = some (.float .f32 ((rd_T138 x6_2 x20_2).f3)) := hcc17 3 _ rfl
           have hx17_4 : wr.cell? ⟨go17, (x20_2 : Int).toNat * 6 + 4, none⟩ = some (.float .f32 ((rd_T138 x6_2 x20_2).f4)) := hcc17 4 _ rfl
           have hx17_5 : wr.cell? ⟨go17, (x20_2 : Int).toNat * 6 + 5, none⟩ = some (.float .f32 ((rd_T138 x6_2 x20_2).f5)) := hcc17 5 _ rfl
           have hf17_0 : wr.frozen? ⟨go17, (x20_2 : Int).toNat * 6, none⟩ = false := hfr17 0
           have hf17_1 : wr.frozen? ⟨go17, (x20_2 : Int).toNat * 6 + 1, none⟩ = false := hfr17 1
           have hf17_2 : wr.frozen? ⟨go17, (x20_2 : Int).toNat * 6 + 2, none⟩ = false := hfr17 2
           have hf17_3 : wr.frozen? ⟨go17, (x20_2 : Int).toNat * 6 + 3, none⟩ = false := hfr17 3
           have hf17_4 : wr.frozen? ⟨go17, (x20_2 : Int).toNat * 6 + 4, none⟩ = false := hfr17 4
           have hf17_5 : wr.frozen? ⟨go17, (x20_2 : Int).toNat * 6 + 5, none⟩ = false := hfr17 5
           (try clear hM17); clear hcl17 hcc17 hfr17
           replace p17 := eq_true p17
           replace q17 := eq_true q17
           have HX20 := Aside0.mk (show Kd.S k138 138 wr w.heap.size (fun k_ => ((fun _ => True)) k_ ∧ ¬ ((fun _ => False)) k_) (.slice (some ⟨go17, 0, none⟩) x6_2.length co12) x6_2 from (by (with_reducible repeat (first | apply Kd.S_alloc | apply Kd.S_drewN | apply Kd.S_drew)); exact Kd.S_mono HO_6.out (fun k_ hk => ⟨trivial, fun e_ => e_⟩)))
           obtain ⟨oki20, ce20, hcl20, hM20, hcc20, hfr20, hoki20, hH20⟩ := Kd.S_elem HX20.out z138 (x20_2 : Int) (of_decide_eq_true (by first | (with_reducible assumption) | assumption)) (by have h_ : (x20_2 : Int) < ((x6_2.length : Int) : Int) := of_decide_eq_true (by first | (with_reducible assumption) | assumption); first | exact h_ | (have e_ := (Kd.S_reads' HO_6.out).1; omega) | simpa using h_)
           obtain ⟨ve20_1, rfl, ge20_1⟩ := k138_openM hM20
           have HP20 := Kd.S_seg hH20 (of_decide_eq_true (by first | (with_reducible assumption) | assumption)) (by have h_ : (x20_2 : Int) < ((x6_2.length : Int) : Int) := of_decide_eq_true (by first | (with_reducible assumption) | assumption); first | exact h_ | (have e_ := (Kd.S_reads' HO_6.out).1; omega) | simpa using h_) (seg := [.float .f32 (fopr .mul .f32 ((rd_T138 x6_2 x20_2).f2) a1)]) (j := 2) (show 3 ≤ 6 from by decide) (x' := (⟨(rd_T138 x6_2 x20_2).f0, (rd_T138 x6_2 x20_2).f1, fopr .mul .f32 ((rd_T138 x6_2 x20_2).f2) a1, (rd_T138 x6_2 x20_2).f3, (rd_T138 x6_2 x20_2).f4, (rd_T138 x6_2 x20_2).f5⟩ : S138)) (k138_mkM _ _ _ (⟨(rd_T138 x6_2 x20_2).f0, (rd_T138 x6_2 x20_2).f1, fopr .mul .f32 ((rd_T138 x6_2 x20_2).f2) a1, (rd_T138 x6_2 x20_2).f3, (rd_T138 x6_2 x20_2).f4, (rd_T138 x6_2 x20_2).f5⟩ : S138) (Kd.R_mono ge20_1 (fun _ h_ => Or.inl h_))) (fun _ hk => hk) (fun k_ hk_ => hk_.elim)
           have hx20_2 := hcc20 2 _ rfl
           (try simp only [show (k138).sz = 6 from rfl, Nat.mul_one, Nat.add_zero] at hx20_2)
           have hf20_2 := hfr20 2
           (try simp only [show (k138).sz = 6 from rfl, Nat.mul_one, Nat.add_zero] at hf20_2)
           (try clear hM20); clear hcl20 hcc20 hfr20 hoki20 hH20
           go_wp2_with (first | ((with_reducible refine gate_store (t := 36) (p := 33) rfl ?_); refine store_event (t := 36) (p := 33) (v := ?vo_w21) (w1 := (wr.setCell ⟨go17, (x20_2 : Int).toNat * 6 + 2, none⟩ (.float .f32 (fopr .mul .f32 ((rd_T138 x6_2 x20_2).f2) a1)))) ?hg ?ho ?hn ?hr ?_; (case ho => rfl); (case hg => rfl); (case hn => rfl); (case hr => first | (go_simp; done) | (go_simp; rfl) | (simp (disch := omega) only [w64_id]; go_simp; done) | (go_simp; simp (disch := omega) only [w64_id]; done)); intro w21 hw; have hg : wr.grownBy w21 (some go17) := (by rw [hw]; exact HP20.2); have hp_ : Kd.S k138 138 w21 w.heap.size (fun _ => True) (.slice (some ⟨go17, 0, none⟩) x6_2.length co12) y226 := (by rw [hw, Ny226.out]; exact HP20.1); clear HP20; have n0_ := Aside0.mk (hp_); have n1_ := Aside0.mk (Kd.R_after (v := (.slice (some ⟨go17, 0, none⟩) x6_2.length co12)) (v1 := (.slice (some ⟨go17, 0, none⟩) x6_2.length co12)) (ok := (fun _ => True)) (by (with_reducible repeat (first | apply Kd.R_alloc | apply Kd.R_drewN | apply Kd.R_drew)); exact HL225_1.out) hg (.inl rfl)); have n2_ := Aside0.mk ((by rw [hw]; exact below_set (HB.out) GB17.out : Below w.heap.size w w21)); clear HO_6; clear HL225_1; clear HB; have HO_6 := n0_; have HL225_1 := n1_; have HB := n2_; clear n0_ n1_ n2_; clear hg hw hp_; have p227 : 0 ≤ (x20_2 : Int) := of_decide_eq_true (by first | (with_reducible assumption) | assumption); have q227 : x20_2 < (y226.length : Int) := (by have h_ : (x20_2 : Int) < ((x6_2.length : Int) : Int) := of_decide_eq_true (by first | (with_reducible assumption) | assumption); first | (have e_ := (Kd.S_reads' HO_6.out).1; omega) | simpa only [Ny226.out, List.length_set] using h_); have ql227 : ((x20_2 : Int) < ((x6_2.length : Int) : Int)) = True := eq_true (of_decide_eq_true (by first | (with_reducible assumption) | assumption)); obtain ⟨ad227, A227_1, c227_1, e227, hx227_0, hx227_1, hx227_2, hx227_3, hx227_4, hx227_5, hl227_1, hi227_1⟩ := at_T138 (Kd.S_reads' HO_6.out).2.2 x20_2 p227 q227; obtain rfl : (⟨go17, 0, none⟩ : Addr) = ad227 := (by injection e227); obtain ⟨ce227, hce227, hMe227, hcc227⟩ := Kd.S_get HO_6.out z138 x20_2 p227 (by first | exact q227 | exact of_decide_eq_true (by first | (with_reducible assumption) | assumption) | (have e_ := (Kd.S_reads' HO_6.out).1; omega)); obtain ⟨ve227_1, rfl, ge227_1⟩ := k138_openM hMe227; have hv227_1 := hcc227 1 _ rfl; rw [add_field _ _ 1 (by omega)] at hv227_1; replace hv227_1 := Option.some.inj (hv227_1.symm.trans hx227_1); rw [hv227_1] at ge227_1; have HL227_1 := Aside0.mk (show Kd.R (Kd.float .f32) 36 _ _ _ _ ((rd_T138 y226 x20_2).f1) from ge227_1); clear hv227_1 ge227_1; clear hcc227 hce227; (first | simp only [add_plain] at hx227_0 | simp only [add_at] at hx227_0 | simp only [Addr.add, Nat.zero_add] at hx227_0 | skip); (first | simp only [add_plain] at hx227_1 | simp only [add_at] at hx227_1 | simp only [Addr.add, Nat.zero_add] at hx227_1 | skip); (first | simp only [add_plain] at hx227_2 | simp only [add_at] at hx227_2 | simp only [Addr.add, Nat.zero_add] at hx227_2 | skip); (first | simp only [add_plain] at hx227_3 | simp only [add_at] at hx227_3 | simp only [Addr.add, Nat.zero_add] at hx227_3 | skip); (first | simp only [add_plain] at hx227_4 | simp only [add_at] at hx227_4 | simp only [Addr.add, Nat.zero_add] at hx227_4 | skip); (first | simp only [add_plain] at hx227_5 | simp only [add_at] at hx227_5 | simp only [Addr.add, Nat.zero_add] at hx227_5 | skip); have HR227_1 := Aside0.mk hi227_1; have HC227_1 := Aside0.mk hl227_1; clear hi227_1 hl227_1; replace p227 := eq_true p227; replace q227 := eq_true q227; have p19 : 0 ≤ (x20_2 : Int) := of_decide_eq_true (by first | (with_reducible assumption) | assumption); have q19 : (x20_2 : Int) < ((x6_2.length : Int) : Int) := of_decide_eq_true (by first | (with_reducible assumption) | assumption); obtain ⟨_, ce19, hcl19, hM19, hcc19, hfr19, _, _⟩ := Kd.S_elem HO_6.out z138 (x20_2 : Int) p19 q19; obtain ⟨ve19_1, rfl, ge19_1⟩ := k138_openM hM19; have hx19_0 : w21.cell? ⟨go17, (x20_2 : Int).toNat * 6, none⟩ = some (.string ((rd_T138 y226 x20_2).f0)) := hcc19 0 _ rfl; have hx19_1 : w21.cell? ⟨go17, (x20_2 : Int).toNat * 6 + 1, none⟩ = some (ve19_1) := hcc19 1 _ rfl; have hx19_2 : w21.cell? ⟨go17, (x20_2 : Int).toNat * 6 + 2, none⟩ = some (.float .f32 ((rd_T138 y226 x20_2).f2)) := hcc19 2 _ rfl; have hx19_3 : w21.cell? ⟨go17, (x20_2 : Int).toNat * 6 + 3, none⟩ = some (.float .f32 ((rd_T138 y226 x20_2).f3)) := hcc19 3 _ rfl; have hx19_4 : w21.cell? ⟨go17, (x20_2 : Int).toNat * 6 + 4, none⟩ = some (.float .f32 ((rd_T138 y226 x20_2).f4)) := hcc19 4 _ rfl; have hx19_5 : w21.cell? ⟨go17, (x20_2 : Int).toNat * 6 + 5, none⟩ = some (.float .f32 ((rd_T138 y226 x20_2).f5)) := hcc19 5 _ rfl; have hf19_0 : w21.frozen? ⟨go17, (x20_2 : Int).toNat * 6, none⟩ = false := hfr19 0; have hf19_1 : w21.frozen? ⟨go17, (x20_2 : Int).toNat * 6 + 1, none⟩ = false := hfr19 1; have hf19_2 : w21.frozen? ⟨go17, (x20_2 : Int).toNat * 6 + 2, none⟩ = false := hfr19 2; have hf19_3 : w21.frozen? ⟨go17, (x20_2 : Int).toNat * 6 + 3, none⟩ = false := hfr19 3; have hf19_4 : w21.frozen? ⟨go17, (x20_2 : Int).toNat * 6 + 4, none⟩ = false := hfr19 4; have hf19_5 : w21.frozen? ⟨go17, (x20_2 : Int).toNat * 6 + 5, none⟩ = false := hfr19 5; (try clear hM19); clear hcl19 hcc19 hfr19; replace p19 := eq_true p19; replace q19 := eq_true q19; have HX22 := Aside0.mk (show Kd.S k138 138 w21 w.heap.size (fun k_ => ((fun _ => True)) k_ ∧ ¬ ((fun _ => False)) k_) (.slice (some ⟨go17, 0, none⟩) x6_2.length co12) y226 from (by (with_reducible repeat (first | apply Kd.S_alloc | apply Kd.S_drewN | apply Kd.S_drew)); exact Kd.S_mono HO_6.out (fun k_ hk => ⟨trivial, fun e_ => e_⟩))); obtain ⟨oki22, ce22, hcl22, hM22, hcc22, hfr22, hoki22, hH22⟩ := Kd.S_elem HX22.out z138 (x20_2 : Int) (of_decide_eq_true (by first | (with_reducible assumption) | assumption)) (by have h_ : (x20_2 : Int) < ((x6_2.length : Int) : Int) := of_decide_eq_true (by first | (with_reducible assumption) | assumption); first | exact h_ | (have e_ := (Kd.S_reads' HO_6.out).1; omega) | simpa using h_); obtain ⟨ve22_1, rfl, ge22_1⟩ := k138_openM hM22; have HP22 := Kd.S_seg hH22 (of_decide_eq_true (by first | (with_reducible assumption) | assumption)) (by have h_ : (x20_2 : Int) < ((x6_2.length : Int) : Int) := of_decide_eq_true (by first | (with_reducible assumption) | assumption); first | exact h_ | (have e_ := (Kd.S_reads' HO_6.out).1; omega) | simpa using h_) (seg := [.float .f32 (fopr .mul .f32 ((rd_T138 y226 x20_2).f3) a1)]) (j := 3) (show 4 ≤ 6 from by decide) (x' := (⟨(rd_T138 y226 x20_2).f0, (rd_T138 y226 x20_2).f1, (rd_T138 y226 x20_2).f2, fopr .mul .f32 ((rd_T138 y226 x20_2).f3) a1, (rd_T138 y226 x20_2).f4, (rd_T138 y226 x20_2).f5⟩ : S138)) (k138_mkM _ _ _ (⟨(rd_T138 y226 x20_2).f0, (rd_T138 y226 x20_2).f1, (rd_T138 y226 x20_2).f2, fopr .mul .f32 ((rd_T138 y226 x20_2).f3) a1, (rd_T138 y226 x20_2).f4, (rd_T138 y226 x20_2).f5⟩ : S138) (Kd.R_mono ge22_1 (fun _ h_ => Or.inl h_))) (fun _ hk => hk) (fun k_ hk_ => hk_.elim); have hx22_3 := hcc22 3 _ rfl; (try simp only [show (k138).sz = 6 from rfl, Nat.mul_one, Nat.add_zero] at hx22_3); have hf22_3 := hfr22 3; (try simp only [show (k138).sz = 6 from rfl, Nat.mul_one, Nat.add_zero] at hf22_3); (try clear hM22); clear hcl22 hcc22 hfr22 hoki22 hH22) | ((with_reducible refine gate_store (t := 36) (p := 44) rfl ?_); refine store_event (t := 36) (p := 44) (v := ?vo_w23) (w1 := (w21.setCell ⟨go17, (x20_2 : Int).toNat * 6 + 3, none⟩ (.float .f32 (fopr .mul .f32 ((rd_T138 y226 x20_2).f3) a1)))) ?hg ?ho ?hn ?hr ?_; (case ho => rfl); (case hg => rfl); (case hn => rfl); (case hr => first | (go_simp; done) | (go_simp; rfl) | (simp (disch := omega) only [w64_id]; go_simp; done) | (go_simp; simp (disch := omega) only [w64_id]; done)); intro w23 hw; have hg : w21.grownBy w23 (some go17) := (by rw [hw]; exact HP22.2); have hp_ : Kd.S k138 138 w23 w.heap.size (fun _ => True) (.slice (some ⟨go17, 0, none⟩) x6_2.length co12) y228 := (by rw [hw, Ny228.out]; exact HP22.1); clear HP22; have n0_ := Aside0.mk (hp_); have n1_ := Aside0.mk (Kd.R_after (v := (.slice (some ⟨go17, 0, none⟩) x6_2.length co12)) (v1 := (.slice (some ⟨go17, 0, none⟩) x6_2.length co12)) (ok := (fun _ => True)) (by (with_reducible repeat (first | apply Kd.R_alloc | apply Kd.R_drewN | apply Kd.R_drew)); exact HL225_1.out) hg (.inl rfl)); have n2_ := Aside0.mk (Kd.R_after (v := (.slice (some ⟨go17, 0, none⟩) x6_2.length co12)) (v1 := (.slice (some ⟨go17, 0, none⟩) x6_2.length co12)) (ok := (fun _ => True)) (by (with_reducible repeat (first | apply Kd.R_alloc | apply Kd.R_drewN | apply Kd.R_drew)); exact HL227_1.out) hg (.inl rfl)); have n3_ := Aside0.mk ((by rw [hw]; exact below_set (HB.out) GB17.out : Below w.heap.size w w23)); clear HO_6; clear HL225_1; clear HL227_1; clear HB; have HO_6 := n0_; have HL225_1 := n1_; have HL227_1 := n2_; have HB := n3_; clear n0_ n1_ n2_ n3_; clear hg hw hp_))
           (try simp only [← hl6_2])
           go_roundg k2
           case measure => have := HJ2.out; have := HK2.out; omega
           case rel => exact ⟨(y228), (wrap64 (x20_2 + 1)), (by first | rfl | (simp; done) | (simp [*]; done)), H', ⟨by have := HJ2.out; have := HK2.out; omega⟩, ⟨by (try simp only [hl6_2]); (with_reducible repeat (first | apply Kd.S_alloc | apply Kd.S_drewN | apply Kd.S_drew)); exact HO_6.out⟩, ⟨by repeat (first | (with_reducible first | exact HB.out | apply below_alloc | apply pw_below_drewN | apply below_drew1) | exact HB.out)⟩⟩
          ·rw [if_neg c18] at H
           exact absurd H (by simp)
         ·rw [if_neg c16] at H
          exact absurd H (by simp)
        ·rw [if_neg c15] at H
         exact absurd H (by simp)
       ·rw [if_neg c14] at H
        exact absurd H (by simp)
      ·rw [if_neg c13] at H
       have c13b0 : decide (x20_2 < (t222.length : Int)) = false := decide_eq_false c13
       (try rw [hl6_2] at c13b0)
       clear c13
       replace H := Option.bind_eq_some_iff.mp H
       obtain ⟨t229, A240, H⟩ := H
       replace H : (if t229 = true then (some (x6_2, true)) else (some (([] : List (S138)), false))) = some (r1, r2) := H
       have A24 := Aside0.mk A240
       clear A240
       by_cases c25 : t229 = true
       ·subst c25
        have H1 : (some (x6_2, true)) = some (r1, r2) := by rw [if_pos rfl] at H; exact H
        clear H
        have H := H1
        clear H1
        simp only [Option.some.injEq, Prod.mk.injEq] at H
        obtain ⟨rfl, rfl⟩ := H
        go_wp2_with (first | ((with_reducible refine gate_callee (f := 102) rfl ?_); refine goesL_ (some 47) rfl rfl Try.func102 (by kernel_rfl) rfl #[.slice Ao12 x6_2.length co12] rfl (by (try simp only [List.map_toArray, List.map_cons, List.map_nil]); first | done | rfl | (simp only [List.length_drop, List.length_take]; rfl)) ?_; (with_reducible refine (impl_AreSounds.calls k2 _ _ x6_2 true _ ?side1 ?side2 A24.out).mono ?_); (case side1 => repeat (first | exact (Kd.S_reads' HO_6.out).2.2 | (with_reducible refine Kd.C_alloc ?_ _) | (with_reducible refine Kd.C_drewN ?_ _) | (with_reducible refine Kd.C_drew ?_))); (case side2 => exact (Kd.S_reads' HO_6.out).2.1); rintro e w26 ⟨rfl, hb⟩; refine ⟨_, rfl, ?_⟩; have n0_ := Aside0.mk (Kd.S_below (by (with_reducible repeat (first | apply Kd.S_alloc | apply Kd.S_drewN | apply Kd.S_drew)); exact HO_6.out) hb); have n1_ := Aside0.mk (below_step (by repeat (first | (with_reducible first | exact HB.out | apply below_alloc | apply pw_below_drewN | apply below_drew1) | exact HB.out)) hb); clear HO_6; clear HB; have HO_6 := n0_; have HB := n1_; clear n0_ n1_; (try clear hb); (try clear hb2); (try clear hk); (try clear hi)))
        go_ret2
        exact ⟨_, by first | rfl | (simp [errW_none, errW_some] <;> rfl) | (simp [*, errW_none, errW_some] <;> rfl), by (with_reducible repeat (first | apply Kd.S_alloc | apply Kd.S_drewN | apply Kd.S_drew)); exact HO_6.out, by repeat (first | (with_reducible first | exact HB.out | apply below_alloc | apply pw_below_drewN | apply below_drew1) | exact HB.out)⟩
       ·replace c25 := Bool.eq_false_iff.mpr c25
        subst c25
        have H1 : (some (([] : List (S138)), false)) = some (r1, r2) := by rw [if_neg (show ¬ (false = true) by decide)] at H; exact H
        clear H
        have H := H1
        clear H1
        simp only [Option.some.injEq, Prod.mk.injEq] at H
        obtain ⟨rfl, rfl⟩ := H
        go_wp2_with (first | ((with_reducible refine gate_callee (f := 102) rfl ?_); refine goesL_ (some 47) rfl rfl Try.func102 (by kernel_rfl) rfl #[.slice Ao12 x6_2.length co12] rfl (by (try simp only [List.map_toArray, List.map_cons, List.map_nil]); first | done | rfl | (simp only [List.length_drop, List.length_take]; rfl)) ?_; (with_reducible refine (impl_AreSounds.calls k2 _ _ x6_2 false _ ?side1 ?side2 A24.out).mono ?_); (case side1 => repeat (first | exact (Kd.S_reads' HO_6.out).2.2 | (with_reducible refine Kd.C_alloc ?_ _) | (with_reducible refine Kd.C_drewN ?_ _) | (with_reducible refine Kd.C_drew ?_))); (case side2 => exact (Kd.S_reads' HO_6.out).2.1); rintro e w27 ⟨rfl, hb⟩; refine ⟨_, rfl, ?_⟩; have n0_ := Aside0.mk (Kd.S_below (by (with_reducible repeat (first | apply Kd.S_alloc | apply Kd.S_drewN | apply Kd.S_drew)); exact HO_6.out) hb); have n1_ := Aside0.mk (below_step (by repeat (first | (with_reducible first | exact HB.out | apply below_alloc | apply pw_below_drewN | apply below_drew1) | exact HB.out)) hb); clear HO_6; clear HB; have HO_6 := n0_; have HB := n1_; clear n0_ n1_; (try clear hb); (try clear hb2); (try clear hk); (try clear hi)))
        go_ret2
        exact ⟨_, by first | rfl | (simp [errW_none, errW_some] <;> rfl) | (simp [*, errW_none, errW_some] <;> rfl), by first | exact Kd.S_nil _ _ _ _ _ | exact Kd.N_nil _ _ _ _ _ | exact Kd.V_nil _ _ _ _ _ | exact Kd.Q_nil _ _ _ _ _ | exact Kd.R_nil _ _ _ _ _, by repeat (first | (with_reducible first | exact HB.out | apply below_alloc | apply pw_below_drewN | apply below_drew1) | exact HB.out)⟩
def laws_eqSound.f (a0_0 : ByteArray) (l0_1 : List Nat) (a0_2 a0_3 a0_4 a0_5 : Nat) (a1_0 : ByteArray) (l1_1 : List Nat) (a1_2 a1_3 a1_4 a1_5 : Nat) : Option Bool := if a0_0 = a1_0 ∧ l0_1 = l1_1 ∧ a0_2 = a1_2 ∧ a0_3 = a1_3 ∧ a0_4 = a1_4 ∧ a0_5 = a1_5 ∧ l0_1.length ≤ 1048576 ∧ (∀ x ∈ l0_1, x < 4294967296) ∧ a0_2 < 4294967296 ∧ a0_3 < 4294967296 ∧ a0_4 < 4294967296 ∧ a0_5 < 4294967296 then some true else none
theorem laws_eqSound.calls (a0_0 : ByteArray) (A0_1 : Option Addr) (c0_1 : Nat) (l0_1 : List Nat) (a0_2 a0_3 a0_4 a0_5 : Nat) (a1_0 : ByteArray) (A1_1 : Option Addr) (c1_1 : Nat) (l1_1 : List Nat) (a1_2 a1_3 a1_4 a1_5 : Nat) (r : Bool) (w : World) (hr0_1 : Kd.C (Kd.float .f32) w A0_1 l0_1.length l0_1) (hc0_1 : l0_1.length ≤ c0_1) (hr1_1 : Kd.C (Kd.float .f32) w A1_1 l1_1.length l1_1) (hc1_1 : l1_1.length ≤ c1_1) (h : laws_eqSound.f a0_0 l0_1 a0_2 a0_3 a0_4 a0_5 a1_0 l1_1 a1_2 a1_3 a1_4 a1_5 = some r) :
    Calls Try.prog 104 #[.agg #[.string a0_0, .slice A0_1 l0_1.length c0_1, .float .f32 a0_2, .float .f32 a0_3, .float .f32 a0_4, .float .f32 a0_5], .agg #[.string a1_0, .slice A1_1 l1_1.length c1_1, .float .f32 a1_2, .float .f32 a1_3, .float .f32 a1_4, .float .f32 a1_5]] w fun e w' => e = .returned (.bool r) ∧ Below w.heap.size w w' := by
  unfold laws_eqSound.f at h
  split at h
  · rename_i hh
    obtain rfl := Option.some.inj h
    obtain ⟨rfl, rfl, rfl, rfl, rfl, rfl, hl, hx, h2, h3, h4, h5⟩ := hh
    exact giv_eqSound A0_1 A1_1 c0_1 c1_1 a0_0 l0_1 a0_2 a0_3 a0_4 a0_5 w hr0_1 hr1_1 hl hx h2 h3 h4 h5
  · cases h
abbrev laws_eqSoundS.z0 : Array Bool := #[false, false, false, false, false, false, false, false, false, false]
abbrev laws_eqSoundS.z1 : Array Bool := #[true, false, false, false, false, false, false, false, false, false]
abbrev laws_eqSoundS.z2 : Array Bool := #[true, true, false, false, false, false, false, false, false, false]
abbrev laws_eqSoundS.z3 : Array Bool := #[true, true, true, false, false, false, false, false, false, false]
abbrev laws_eqSoundS.z4 : Array Bool := #[true, true, true, false, true, false, false, false, false, false]
abbrev laws_eqSoundS.z5 : Array Bool := #[true, true, true, false, true, true, false, false, false, false]
abbrev laws_eqSoundS.z6 : Array Bool := #[true, true, true, false, true, true, true, false, false, false]
abbrev laws_eqSoundS.z7 : Array Bool := #[true, true, true, true, true, true, true, false, false, false]
abbrev laws_eqSoundS.z8 : Array Bool := #[true, true, true, true, true, true, true, true, false, false]
abbrev laws_eqSoundS.z9 : Array Bool := #[true, true, true, true, true, true, true, true, true, false]
abbrev laws_eqSoundS.z10 : Array Bool := #[true, true, true, true, true, true, true, true, true, true]
def laws_eqSoundS.l0 : Nat → List (S138) → List (S138) → Int → Option (Bool)
 | 0, _, _, _ => none
 | k + 1, x0, x1, x5 => if x5 < (x0.length : Int) then (if 0 ≤ x5 then (if x5 < (x1.length : Int) then ((laws_eqSound.f ((rd_T138 x0 x5).f0) ((rd_T138 x0 x5).f1) ((rd_T138 x0 x5).f2) ((rd_T138 x0 x5).f3) ((rd_T138 x0 x5).f4) ((rd_T138 x0 x5).f5) ((rd_T138 x1 x5).f0) ((rd_T138 x1 x5).f1) ((rd_T138 x1 x5).f2) ((rd_T138 x1 x5).f3) ((rd_T138 x1 x5).f4) ((rd_T138 x1 x5).f5)).bind fun t232 => (if t232 = true then (laws_eqSoundS.l0 k x0 x1 (wrap64 (x5 + 1))) else (some false))) else (none)) else (none)) else (some true)
def laws_eqSoundS.f (k : Nat) (l0 : List (S138)) (l1 : List (S138)) : Option (Bool) := if (l0.length : Int) = (l1.length : Int) then (laws_eqSoundS.l0 k l0 l1 0) else (some false)
theorem laws_eqSoundS.mono_l : ∀ k, (∀ y0 y1 y2, LeO (laws_eqSoundS.l0 k y0 y1 y2) (laws_eqSoundS.l0 (k + 1) y0 y1 y2))
 | 0 => fun _ _ _ r h => by simp [laws_eqSoundS.l0] at h
 | k + 1 => by
  have ih0 := laws_eqSoundS.mono_l k
  ·intro y0 y1 y2
   unfold laws_eqSoundS.l0
   repeat' first
   | (with_reducible exact ih0 _ _ _)
   | (with_reducible exact LeO.refl _)
   | (with_reducible exact LeO.none _)
   | (with_reducible refine LeO.ite ?_ ?_)
   | (with_reducible refine LeO.bind ?_ (fun _ => ?_))
   | exact ih0 _ _ _
   | exact LeO.none _
   | refine LeO.ite ?_ ?_
   | refine LeO.bind ?_ (fun _ => ?_)
theorem laws_eqSoundS.mono : ∀ a0 a1 k, LeO (laws_eqSoundS.f k a0 a1) (laws_eqSoundS.f (k + 1) a0 a1) := by
 intro a0 a1 k
 have ih0 := laws_eqSoundS.mono_l k
 unfold laws_eqSoundS.f
 repeat' first
   | (with_reducible exact ih0 _ _ _)
   | (with_reducible exact LeO.refl _)
   | (with_reducible exact LeO.none _)
   | (with_reducible refine LeO.ite ?_ ?_)
   | (with_reducible refine LeO.bind ?_ (fun _ => ?_))
   | exact ih0 _ _ _
   | exact LeO.none _
   | refine LeO.ite ?_ ?_
   | refine LeO.bind ?_ (fun _ => ?_)
def laws_eqSoundS.T6 : Bool × List (List Nat × List Nat) := (true, [([], []), ([], []), ([0, 1], [0, 1]), ([2], [2]), ([], []), ([], []), ([4, 5], [4, 5]), ([6], [6]), ([3, 7], [3, 7]), ([8], [8])])
def laws_eqSoundS.B6 : List Nat := [0, 0, 3, 7, 0, 0, 48, 112, 255, 511]
theorem laws_eqSoundS.tab6 : rtab .any (opsOf Try.f44 6) = laws_eqSoundS.T6 := by kernel_rfl
theorem laws_eqSoundS.bits6 : waitsOk laws_eqSoundS.T6.2 laws_eqSoundS.B6 = true := by kernel_rfl
set_option maxHeartbeats 8000000 in
set_option maxRecDepth 100000 in
theorem laws_eqSoundS.calls (k : Nat) (A0 : Option Addr) (c0 : Nat) (l0 : List (S138)) (A1 : Option Addr) (c1 : Nat) (l1 : List (S138)) (r : Bool) (w : World) (hr0 : Kd.C k138 w A0 l0.length l0) (hc0 : l0.length ≤ c0) (hr1 : Kd.C k138 w A1 l1.length l1) (hc1 : l1.length ≤ c1) (h : laws_eqSoundS.f k l0 l1 = some r) :
  Calls Try.prog 44 #[.slice A0 l0.length c0, .slice A1 l1.length c1] w fun e w' => e = .returned (.bool r) ∧ Below w.heap.size w w' := by
 have hu138 := Try.underlying138
 have HR0 := Aside0.mk hr0
 have HC0 := Aside0.mk hc0
 clear hr0 hc0
 have HR1 := Aside0.mk hr1
 have HC1 := Aside0.mk hc1
 clear hr1 hc1
 have HB := Aside0.mk (Below.refl w.heap.size w)
 have H : (if (l0.length : Int) = (l1.length : Int) then (laws_eqSoundS.l0 k l0 l1 0) else (some false)) = some r := h
 clear h
 by_cases c3 : (l0.length : Int) = (l1.length : Int)
 ·rw [if_pos c3] at H
  have c3b0 : ((l0.length : Int) == (l1.length : Int)) = true := beq_iff_eq.mpr c3
  have c3b1 : ((l0.length : Int) != (l1.length : Int)) = false := bne_eq_false_iff_eq.mpr c3
  have c3b2 : (l0.length == l1.length) = true := by first | simpa using c3 | (simp at c3 ⊢; omega)
  clear c3
  have H' := Aside0.mk H
  clear H
  go_enter Try.func44, Try.ntmps44
  go_wp2
  go_loopg [5] k (fun kq v5 w' => ∃ (x5_1 : Int), v5 = .int .i64 x5_1 ∧ Aside0 (laws_eqSoundS.l0 kq l0 l1 x5_1 = some r) ∧ Aside0 (kq ≤ k) ∧ Aside0 (Below w.heap.size w w'))
  case atStart => exact ⟨(0), (by first | rfl | (simp; done) | (simp [*]; done)), H', ⟨Nat.le_refl _⟩, ⟨by repeat (first | (with_reducible first | exact HB.out | apply below_alloc | apply pw_below_drewN | apply below_drew1) | exact HB.out)⟩⟩
  case round =>
   clear H'
   try clear c1
   try clear p2
   try clear c3
   try clear c3b0
   try clear c3b1
   try clear c3b2
   obtain ⟨x5_1, rfl, HA, HK1, HB⟩ := hrel
   cases gk with
   | zero => exact absurd HA.out (by simp [laws_eqSoundS.l0])
   | succ k1 =>
    have H := HA.out
    clear HA
    simp only [laws_eqSoundS.l0] at H
    by_cases c4 : x5_1 < (l0.length : Int)
    ·rw [if_pos c4] at H
     have c4b0 : decide (x5_1 < (l0.length : Int)) = true := decide_eq_true c4
     clear c4
     by_cases c5 : 0 ≤ x5_1
     ·rw [if_pos c5] at H
      have c5b0 : decide (0 ≤ x5_1) = true := decide_eq_true c5
      clear c5
      by_cases c6 : x5_1 < (l1.length : Int)
      ·rw [if_pos c6] at H
       have c6b0 : decide (x5_1 < (l1.length : Int)) = true := decide_eq_true c6
       clear c6
       replace H := Option.bind_eq_some_iff.mp H
       obtain ⟨t232, A70, H⟩ := H
       replace H : (if t232 = true then (laws_eqSoundS.l0 k1 l0 l1 (wrap64 (x5_1 + 1))) else (some false)) = some r := H
       have A7 := Aside0.mk A70
       clear A70
       by_cases c8 : t232 = true
       ·subst c8
        have H1 : (laws_eqSoundS.l0 k1 l0 l1 (wrap64 (x5_1 + 1))) = some r := by rw [if_pos rfl] at H; exact H
        clear H
        have H := H1
        clear H1
        have H' := Aside0.mk H
        clear H
        try go_wp2
        have n0_ := Aside0.mk (below_drew1 HB.out)
        clear HB
        have HB := n0_
        clear n0_
        have p230 : 0 ≤ (x5_1 : Int) := of_decide_eq_true (by first | (with_reducible assumption) | assumption)
        have q230 : x5_1 < (l0.length : Int) := of_decide_eq_true (by first | (with_reducible assumption) | assumption)
        obtain ⟨ad230, A230_1, c230_1, e230, hx230_0, hx230_1, hx230_2, hx230_3, hx230_4, hx230_5, hl230_1, hi230_1⟩ := at_T138 HR0.out x5_1 p230 q230
        have hw230_5 := hx230_5
        have hw230_4 := hx230_4
        have hw230_3 := hx230_3
        have hw230_2 := hx230_2
        have hw230_1 := hx230_1
        have hw230_0 := hx230_0
        cases e230
        replace hx230_0 := (HB.out.cell (World.block_lt_of_cell? w _ hx230_0)).trans hx230_0
        replace hx230_1 := (HB.out.cell (World.block_lt_of_cell? w _ hx230_1)).trans hx230_1
        replace hx230_2 := (HB.out.cell (World.block_lt_of_cell? w _ hx230_2)).trans hx230_2
        replace hx230_3 := (HB.out.cell (World.block_lt_of_cell? w _ hx230_3)).trans hx230_3
        replace hx230_4 := (HB.out.cell (World.block_lt_of_cell? w _ hx230_4)).trans hx230_4
        replace hx230_5 := (HB.out.cell (World.block_lt_of_cell? w _ hx230_5)).trans hx230_5
        have HR230_1 := Aside0.mk hi230_1
        have HC230_1 := Aside0.mk hl230_1
        clear hi230_1 hl230_1
        replace p230 := eq_true p230
        replace q230 := eq_true q230
        have p231 : 0 ≤ (x5_1 : Int) := of_decide_eq_true (by first | (with_reducible assumption) | assumption)
        have q231 : x5_1 < (l1.length : Int) := of_decide_eq_true (by first | (with_reducible assumption) | assumption)
        obtain ⟨ad231, A231_1, c231_1, e231, hx231_0, hx231_1, hx231_2, hx231_3, hx231_4, hx231_5, hl231_1, hi231_1⟩ := at_T138 HR1.out x5_1 p231 q231
        have hw231_5 := hx231_5
        have hw231_4 := hx231_4
        have hw231_3 := hx231_3
        have hw231_2 := hx231_2
        have hw231_1 := hx231_1
        have hw231_0 := hx231_0
        cases e231
        replace hx231_0 := (HB.out.cell (World.block_lt_of_cell? w _ hx231_0)).trans hx231_0
        replace hx231_1 := (HB.out.cell (World.block_lt_of_cell? w _ hx231_1)).trans hx231_1
        replace hx231_2 := (HB.out.cell (World.block_lt_of_cell? w _ hx231_2)).trans hx231_2
        replace hx231_3 := (HB.out.cell (World.block_lt_of_cell? w _ hx231_3)).trans hx231_3
        replace hx231_4 := (HB.out.cell (World.block_lt_of_cell? w _ hx231_4)).trans hx231_4
        replace hx231_5 := (HB.out.cell (World.block_lt_of_cell? w _ hx231_5)).trans hx231_5
        have HR231_1 := Aside0.mk hi231_1
        have HC231_1 := Aside0.mk hl231_1
        clear hi231_1 hl231_1
        replace p231 := eq_true p231
        replace q231 := eq_true q231
        refine start_ (n := 10) (S := fun w' => w'.cell? (ad230.add ((x5_1).toNat * 6)) = some (.string ((rd_T138 l0 x5_1).f0)) ∧ w'.cell? ⟨(ad230.add ((x5_1).toNat * 6)).block, (ad230.add ((x5_1).toNat * 6)).off + 1, none⟩ = some (.slice A230_1 ((rd_T138 l0 x5_1).f1).length c230_1) ∧ w'.cell? ⟨(ad230.add ((x5_1).toNat * 6)).block, (ad230.add ((x5_1).toNat * 6)).off + 2, none⟩ = some (.float .f32 ((rd_T138 l0 x5_1).f2)) ∧ w'.cell? ⟨(ad230.add ((x5_1).toNat * 6)).block, (ad230.add ((x5_1).toNat * 6)).off + 3, none⟩ = some (.float .f32 ((rd_T138 l0 x5_1).f3)) ∧ w'.cell? ⟨(ad230.add ((x5_1).toNat * 6)).block, (ad230.add ((x5_1).toNat * 6)).off + 4, none⟩ = some (.float .f32 ((rd_T138 l0 x5_1).f4)) ∧ w'.cell? ⟨(ad230.add ((x5_1).toNat * 6)).block, (ad230.add ((x5_1).toNat * 6)).off + 5, none⟩ = some (.float .f32 ((rd_T138 l0 x5_1).f5)) ∧ w'.cell? (ad231.add ((x5_1).toNat * 6)) = some (.string ((rd_T138 l1 x5_1).f0)) ∧ w'.cell? ⟨(ad231.add ((x5_1).toNat * 6)).block, (ad231.add ((x5_1).toNat * 6)).off + 1, none⟩ = some (.slice A231_1 ((rd_T138 l1 x5_1).f1).length c231_1) ∧ w'.cell? ⟨(ad231.add ((x5_1).toNat * 6)).block, (ad231.add ((x5_1).toNat * 6)).off + 2, none⟩ = some (.float .f32 ((rd_T138 l1 x5_1).f2)) ∧ w'.cell? ⟨(ad231.add ((x5_1).toNat * 6)).block, (ad231.add ((x5_1).toNat * 6)).off + 3, none⟩ = some (.float .f32 ((rd_T138 l1 x5_1).f3)) ∧ w'.cell? ⟨(ad231.add ((x5_1).toNat * 6)).block, (ad231.add ((x5_1).toNat * 6)).off + 4, none⟩ = some (.float .f32 ((rd_T138 l1 x5_1).f4)) ∧ w'.cell? ⟨(ad231.add ((x5_1).toNat * 6)).block, (ad231.add ((x5_1).toNat * 6)).off + 5, none⟩ = some (.float .f32 ((rd_T138 l1 x5_1).f5))) (ds := []) laws_eqSoundS.z0 (by kernel_rfl) rfl rfl ⟨(cu_ HB.out hw230_0), (cu_ HB.out hw230_1), (cu_ HB.out hw230_2), (cu_ HB.out hw230_3), (cu_ HB.out hw230_4), (cu_ HB.out hw230_5), (cu_ HB.out hw231_0), (cu_ HB.out hw231_1), (cu_ HB.out hw231_2), (cu_ HB.out hw231_3), (cu_ HB.out hw231_4), (cu_ HB.out hw231_5)⟩ (fun hHeld => ?_); refine with_tabW laws_eqSoundS.tab6 laws_eqSoundS.bits6 (fun HT_ HW_ => ?_)
        generalize wr.drew = w9 at HB HR230_1 HR231_1 hx230_0 hx230_1 hx230_2 hx230_3 hx230_4 hx230_5 hx231_0 hx231_1 hx231_2 hx231_3 hx231_4 hx231_5 hHeld ⊢
        refine pure_ (i := 0) (N := some 17) (v := ?_) (a' := ?_) laws_eqSoundS.z1 rfl rfl (any_of HT_.out (by kernel_rfl)) (fun _ _ _ h => h) (Or.inl ⟨by rfl, ?_⟩) ?_ ?_
        pv_
        refine pure_ (i := 1) (N := some 18) (v := ?_) (a' := ?_) laws_eqSoundS.z2 rfl rfl (any_of HT_.out (by kernel_rfl)) (fun _ _ _ h => h) (Or.inl ⟨by rfl, ?_⟩) ?_ ?_
        pv_
        refine pure_ (i := 2) (N := some 19) (v := ?_) (a' := ?_) laws_eqSoundS.z3 rfl rfl (any_of HT_.out (by kernel_rfl)) (fun _ _ _ h => h) (Or.inl ⟨by rfl, ?_⟩) ?_ ?_
        pv_
        refine pure_ (i := 4) (N := some 21) (v := ?_) (a' := ?_) laws_eqSoundS.z4 rfl rfl (any_of HT_.out (by kernel_rfl)) (fun _ _ _ h => h) (Or.inl ⟨by rfl, ?_⟩) ?_ ?_
        pv_
        refine pure_ (i := 5) (N := some 22) (v := ?_) (a' := ?_) laws_eqSoundS.z5 rfl rfl (any_of HT_.out (by kernel_rfl)) (fun _ _ _ h => h) (Or.inl ⟨by rfl, ?_⟩) ?_ ?_
        pv_
        refine pure_ (i := 6) (N := some 23) (v := ?_) (a' := ?_) laws_eqSoundS.z6 rfl rfl (any_of HT_.out (by kernel_rfl)) (fun _ _ _ h => h) (Or.inl ⟨by rfl, ?_⟩) ?_ ?_
        pv_
        refine take_ (i := 3) (N := some 20) (v := ?_) (a' := ?_) laws_eqSoundS.z7 rfl rfl (take_ofW HT_.out HW_.out (by kernel_rfl)) (fun _ _ _ h => h) (Or.inl ⟨by rfl, ?_⟩) hHeld ?_ ?_
        rotate_left
        ·rintro w' ⟨s0, s1, s2, s3, s4, s5, s6, s7, s8, s9, s10, s11⟩
         go_simp
         with_reducible rfl
        rotate_left
        ·pw_
        refine take_ (i := 7) (N := some 24) (v := ?_) (a' := ?_) laws_eqSoundS.z8 rfl rfl (take_ofW HT_.out HW_.out (by kernel_rfl)) (fun _ _ _ h => h) (Or.inl ⟨by rfl, ?_⟩) hHeld ?_ ?_
        rotate_left
        ·rintro w' ⟨s0, s1, s2, s3, s4, s5, s6, s7, s8, s9, s10, s11⟩
         go_simp
         with_reducible rfl
        rotate_left
        ·pw_
        refine one_ (i := 8) (N := some 25) laws_eqSoundS.z9 rfl rfl (one_of HT_.out (by kernel_rfl)) (by decide) (fun K hK => ?_)
        refine goes_ Try.func104 (by kernel_rfl) rfl #[.agg #[.string ((rd_T138 l0 x5_1).f0), .slice A230_1 ((rd_T138 l0 x5_1).f1).length c230_1, .float .f32 ((rd_T138 l0 x5_1).f2), .float .f32 ((rd_T138 l0 x5_1).f3), .float .f32 ((rd_T138 l0 x5_1).f4), .float .f32 ((rd_T138 l0 x5_1).f5)], .agg #[.string ((rd_T138 l1 x5_1).f0), .slice A231_1 ((rd_T138 l1 x5_1).f1).length c231_1, .float .f32 ((rd_T138 l1 x5_1).f2), .float .f32 ((rd_T138 l1 x5_1).f3), .float .f32 ((rd_T138 l1 x5_1).f4), .float .f32 ((rd_T138 l1 x5_1).f5)]] (by rfl) rfl rfl (by (try simp only [List.map_toArray, List.map_cons, List.map_nil]); first | done | rfl | (simp only [List.length_drop, List.length_take]; rfl)) ?_
        with_reducible refine (laws_eqSound.calls ((rd_T138 l0 x5_1).f0) _ _ ((rd_T138 l0 x5_1).f1) ((rd_T138 l0 x5_1).f2) ((rd_T138 l0 x5_1).f3) ((rd_T138 l0 x5_1).f4) ((rd_T138 l0 x5_1).f5) ((rd_T138 l1 x5_1).f0) _ _ ((rd_T138 l1 x5_1).f1) ((rd_T138 l1 x5_1).f2) ((rd_T138 l1 x5_1).f3) ((rd_T138 l1 x5_1).f4) ((rd_T138 l1 x5_1).f5) true _ ?side1 ?side2 ?side3 ?side4 A7.out).mono ?_
        (case side1 => repeat (first | exact (Kd.C_below HR230_1.out HB.out) | (with_reducible refine Kd.C_alloc ?_ _) | (with_reducible refine Kd.C_drewN ?_ _) | (with_reducible refine Kd.C_drew ?_)))
        (case side2 => exact HC230_1.out)
        (case side3 => repeat (first | exact (Kd.C_below HR231_1.out HB.out) | (with_reducible refine Kd.C_alloc ?_ _) | (with_reducible refine Kd.C_drewN ?_ _) | (with_reducible refine Kd.C_drew ?_)))
        (case side4 => exact HC231_1.out)
        rintro e w10 ⟨rfl, hb⟩
        refine ⟨_, rfl, ?_⟩
        have n0_ := Aside0.mk (below_step (by repeat (first | (with_reducible first | exact HB.out | apply below_alloc | apply pw_below_drewN | apply below_drew1) | exact HB.out)) hb)
        clear HB
        have HB := n0_
        clear n0_
        (try clear hb)
        (try clear hb2)
        (try clear hk)
        (try clear hi)
        refine hK.out _ _ ⟨(cu_ HB.out hw230_0), (cu_ HB.out hw230_1), (cu_ HB.out hw230_2), (cu_ HB.out hw230_3), (cu_ HB.out hw230_4), (cu_ HB.out hw230_5), (cu_ HB.out hw231_0), (cu_ HB.out hw231_1), (cu_ HB.out hw231_2), (cu_ HB.out hw231_3), (cu_ HB.out hw231_4), (cu_ HB.out hw231_5)⟩ (fun hHeld => ?_)
        clear hK K
        refine norm_ (a' := ?_) ?_ ?_
        rotate_left
        ·show Act.put _ (some 25) _ = _
         pw_
        refine pure_ (i := 9) (N := some 26) (v := ?_) (a' := ?_) laws_eqSoundS.z10 rfl rfl (any_of HT_.out (by kernel_rfl)) (fun _ _ _ h => h) (Or.inl ⟨by rfl, ?_⟩) ?_ ?_
        pv_
        refine done_ (done_of HT_.out (by kernel_rfl)) ?_
        try go_wp2
        go_roundg k1
        case measure => have := HK1.out; omega
        case rel => exact ⟨(wrap64 (x5_1 + 1)), (by first | rfl | (simp; done) | (simp [*]; done)), H', ⟨by have := HK1.out; omega⟩, ⟨by repeat (first | (with_reducible first | exact HB.out | apply below_alloc | apply pw_below_drewN | apply below_drew1) | exact HB.out)⟩⟩
       ·replace c8 := Bool.eq_false_iff.mpr c8
        subst c8
        have H1 : (some false) = some r := by rw [if_neg (show ¬ (false = true) by decide)] at H; exact H
        clear H
        have H := H1
        clear H1
        obtain rfl := Option.some.inj H
        try go_wp2
        have n0_ := Aside0.mk (below_drew1 HB.out)
        clear HB
        have HB := n0_
        clear n0_
        have p230 : 0 ≤ (x5_1 : Int) := of_decide_eq_true (by first | (with_reducible assumption) | assumption)
        have q230 : x5_1 < (l0.length : Int) := of_decide_eq_true (by first | (with_reducible assumption) | assumption)
        obtain ⟨ad230, A230_1, c230_1, e230, hx230_0, hx230_1, hx230_2, hx230_3, hx230_4, hx230_5, hl230_1, hi230_1⟩ := at_T138 HR0.out x5_1 p230 q230
        have hw230_5 := hx230_5
        have hw230_4 := hx230_4
        have hw230_3 := hx230_3
        have hw230_2 := hx230_2
        have hw230_1 := hx230_1
        have hw230_0 := hx230_0
        cases e230
        replace hx230_0 := (HB.out.cell (World.block_lt_of_cell? w _ hx230_0)).trans hx230_0
        replace hx230_1 := (HB.out.cell (World.block_lt_of_cell? w _ hx230_1)).trans hx230_1
        replace hx230_2 := (HB.out.cell (World.block_lt_of_cell? w _ hx230_2)).trans hx230_2
        replace hx230_3 := (HB.out.cell (World.block_lt_of_cell? w _ hx230_3)).trans hx230_3
        replace hx230_4 := (HB.out.cell (World.block_lt_of_cell? w _ hx230_4)).trans hx230_4
        replace hx230_5 := (HB.out.cell (World.block_lt_of_cell? w _ hx230_5)).trans hx230_5
        have HR230_1 := Aside0.mk hi230_1
        have HC230_1 := Aside0.mk hl230_1
        clear hi230_1 hl230_1
        replace p230 := eq_true p230
        replace q230 := eq_true q230
        have p231 : 0 ≤ (x5_1 : Int) := of_decide_eq_true (by first | (with_reducible assumption) | assumption)
        have q231 : x5_1 < (l1.length : Int) := of_decide_eq_true (by first | (with_reducible assumption) | assumption)
        obtain ⟨ad231, A231_1, c231_1, e231, hx231_0, hx231_1, hx231_2, hx231_3, hx231_4, hx231_5, hl231_1, hi231_1⟩ := at_T138 HR1.out x5_1 p231 q231
        have hw231_5 := hx231_5
        have hw231_4 := hx231_4
        have hw231_3 := hx231_3
        have hw231_2 := hx231_2
        have hw231_1 := hx231_1
        have hw231_0 := hx231_0
        cases e231
        replace hx231_0 := (HB.out.cell (World.block_lt_of_cell? w _ hx231_0)).trans hx231_0
        replace hx231_1 := (HB.out.cell (World.block_lt_of_cell? w _ hx231_1)).trans hx231_1
        replace hx231_2 := (HB.out.cell (World.block_lt_of_cell? w _ hx231_2)).trans hx231_2
        replace hx231_3 := (HB.out.cell (World.block_lt_of_cell? w _ hx231_3)).trans hx231_3
        replace hx231_4 := (HB.out.cell (World.block_lt_of_cell? w _ hx231_4)).trans hx231_4
        replace hx231_5 := (HB.out.cell (World.block_lt_of_cell? w _ hx231_5)).trans hx231_5
        have HR231_1 := Aside0.mk hi231_1
        have HC231_1 := Aside0.mk hl231_1
        clear hi231_1 hl231_1
        replace p231 := eq_true p231
        replace q231 := eq_true q231
        refine start_ (n := 10) (S := fun w' => w'.cell? (ad230.add ((x5_1).toNat * 6)) = some (.string ((rd_T138 l0 x5_1).f0)) ∧ w'.cell? ⟨(ad230.add ((x5_1).toNat * 6)).block, (ad230.add ((x5_1).toNat * 6)).off + 1, none⟩ = some (.slice A230_1 ((rd_T138 l0 x5_1).f1).length c230_1) ∧ w'.cell? ⟨(ad230.add ((x5_1).toNat * 6)).block, (ad230.add ((x5_1).toNat * 6)).off + 2, none⟩ = some (.float .f32 ((rd_T138 l0 x5_1).f2)) ∧ w'.cell? ⟨(ad230.add ((x5_1).toNat * 6)).block, (ad230.add ((x5_1).toNat * 6)).off + 3, none⟩ = some (.float .f32 ((rd_T138 l0 x5_1).f3)) ∧ w'.cell? ⟨(ad230.add ((x5_1).toNat * 6)).block, (ad230.add ((x5_1).toNat * 6)).off + 4, none⟩ = some (.float .f32 ((rd_T138 l0 x5_1).f4)) ∧ w'.cell? ⟨(ad230.add ((x5_1).toNat * 6)).block, (ad230.add ((x5_1).toNat * 6)).off + 5, none⟩ = some (.float .f32 ((rd_T138 l0 x5_1).f5)) ∧ w'.cell? (ad231.add ((x5_1).toNat * 6)) = some (.string ((rd_T138 l1 x5_1).f0)) ∧ w'.cell? ⟨(ad231.add ((x5_1).toNat * 6)).block, (ad231.add ((x5_1).toNat * 6)).off + 1, none⟩ = some (.slice A231_1 ((rd_T138 l1 x5_1).f1).length c231_1) ∧ w'.cell? ⟨(ad231.add ((x5_1).toNat * 6)).block, (ad231.add ((x5_1).toNat * 6)).off + 2, none⟩ = some (.float .f32 ((rd_T138 l1 x5_1).f2)) ∧ w'.cell? ⟨(ad231.add ((x5_1).toNat * 6)).block, (ad231.add ((x5_1).toNat * 6)).off + 3, none⟩ = some (.float .f32 ((rd_T138 l1 x5_1).f3)) ∧ w'.cell? ⟨(ad231.add ((x5_1).toNat * 6)).block, (ad231.add ((x5_1).toNat * 6)).off + 4, none⟩ = some (.float .f32 ((rd_T138 l1 x5_1).f4)) ∧ w'.cell? ⟨(ad231.add ((x5_1).toNat * 6)).block, (ad231.add ((x5_1).toNat * 6)).off + 5, none⟩ = some (.float .f32 ((rd_T138 l1 x5_1).f5))) (ds := []) laws_eqSoundS.z0 (by kernel_rfl) rfl rfl ⟨(cu_ HB.out hw230_0), (cu_ HB.out hw230_1), (cu_ HB.out hw230_2), (cu_ HB.out hw230_3), (cu_ HB.out hw230_4), (cu_ HB.out hw230_5), (cu_ HB.out hw231_0), (cu_ HB.out hw231_1), (cu_ HB.out hw231_2), (cu_ HB.out hw231_3), (cu_ HB.out hw231_4), (cu_ HB.out hw231_5)⟩ (fun hHeld => ?_); refine with_tabW laws_eqSoundS.tab6 laws_eqSoundS.bits6 (fun HT_ HW_ => ?_)
        generalize wr.drew = w11 at HB HR230_1 HR231_1 hx230_0 hx230_1 hx230_2 hx230_3 hx230_4 hx230_5 hx231_0 hx231_1 hx231_2 hx231_3 hx231_4 hx231_5 hHeld ⊢
        refine pure_ (i := 0) (N := some 17) (v := ?_) (a' := ?_) laws_eqSoundS.z1 rfl rfl (any_of HT_.out (by kernel_rfl)) (fun _ _ _ h => h) (Or.inl ⟨by rfl, ?_⟩) ?_ ?_
        pv_
        refine pure_ (i := 1) (N := some 18) (v := ?_) (a' := ?_) laws_eqSoundS.z2 rfl rfl (any_of HT_.out (by kernel_rfl)) (fun _ _ _ h => h) (Or.inl ⟨by rfl, ?_⟩) ?_ ?_
        pv_
        refine pure_ (i := 2) (N := some 19) (v := ?_) (a' := ?_) laws_eqSoundS.z3 rfl rfl (any_of HT_.out (by kernel_rfl)) (fun _ _ _ h => h) (Or.inl ⟨by rfl, ?_⟩) ?_ ?_
        pv_
        refine pure_ (i := 4) (N := some 21) (v := ?_) (a' := ?_) laws_eqSoundS.z4 rfl rfl (any_of HT_.out (by kernel_rfl)) (fun _ _ _ h => h) (Or.inl ⟨by rfl, ?_⟩) ?_ ?_
        pv_
        refine pure_ (i := 5) (N := some 22) (v := ?_) (a' := ?_) laws_eqSoundS.z5 rfl rfl (any_of HT_.out (by kernel_rfl)) (fun _ _ _ h => h) (Or.inl ⟨by rfl, ?_⟩) ?_ ?_
        pv_
        refine pure_ (i := 6) (N := some 23) (v := ?_) (a' := ?_) laws_eqSoundS.z6 rfl rfl (any_of HT_.out (by kernel_rfl)) (fun _ _ _ h => h) (Or.inl ⟨by rfl, ?_⟩) ?_ ?_
        pv_
        refine take_ (i := 3) (N := some 20) (v := ?_) (a' := ?_) laws_eqSoundS.z7 rfl rfl (take_ofW HT_.out HW_.out (by kernel_rfl)) (fun _ _ _ h => h) (Or.inl ⟨by rfl, ?_⟩) hHeld ?_ ?_
        rotate_left
        ·rintro w' ⟨s0, s1, s2, s3, s4, s5, s6, s7, s8, s9, s10, s11⟩
         go_simp
         with_reducible rfl
        rotate_left
        ·pw_
        refine take_ (i := 7) (N := some 24) (v := ?_) (a' := ?_) laws_eqSoundS.z8 rfl rfl (take_ofW HT_.out HW_.out (by kernel_rfl)) (fun _ _ _ h => h) (Or.inl ⟨by rfl, ?_⟩) hHeld ?_ ?_
        rotate_left
        ·rintro w' ⟨s0, s1, s2, s3, s4, s5, s6, s7, s8, s9, s10, s11⟩
         go_simp
         with_reducible rfl
        rotate_left
        ·pw_
        refine one_ (i := 8) (N := some 25) laws_eqSoundS.z9 rfl rfl (one_of HT_.out (by kernel_rfl)) (by decide) (fun K hK => ?_)
        refine goes_ Try.func104 (by kernel_rfl) rfl #[.agg #[.string ((rd_T138 l0 x5_1).f0), .slice A230_1 ((rd_T138 l0 x5_1).f1).length c230_1, .float .f32 ((rd_T138 l0 x5_1).f2), .float .f32 ((rd_T138 l0 x5_1).f3), .float .f32 ((rd_T138 l0 x5_1).f4), .float .f32 ((rd_T138 l0 x5_1).f5)], .agg #[.string ((rd_T138 l1 x5_1).f0), .slice A231_1 ((rd_T138 l1 x5_1).f1).length c231_1, .float .f32 ((rd_T138 l1 x5_1).f2), .float .f32 ((rd_T138 l1 x5_1).f3), .float .f32 ((rd_T138 l1 x5_1).f4), .float .f32 ((rd_T138 l1 x5_1).f5)]] (by rfl) rfl rfl (by (try simp only [List.map_toArray, List.map_cons, List.map_nil]); first | done | rfl | (simp only [List.length_drop, List.length_take]; rfl)) ?_
        with_reducible refine (laws_eqSound.calls ((rd_T138 l0 x5_1).f0) _ _ ((rd_T138 l0 x5_1).f1) ((rd_T138 l0 x5_1).f2) ((rd_T138 l0 x5_1).f3) ((rd_T138 l0 x5_1).f4) ((rd_T138 l0 x5_1).f5) ((rd_T138 l1 x5_1).f0) _ _ ((rd_T138 l1 x5_1).f1) ((rd_T138 l1 x5_1).f2) ((rd_T138 l1 x5_1).f3) ((rd_T138 l1 x5_1).f4) ((rd_T138 l1 x5_1).f5) false _ ?side1 ?side2 ?side3 ?side4 A7.out).mono ?_
        (case side1 => repeat (first | exact (Kd.C_below HR230_1.out HB.out) | (with_reducible refine Kd.C_alloc ?_ _) | (with_reducible refine Kd.C_drewN ?_ _) | (with_reducible refine Kd.C_drew ?_)))
        (case side2 => exact HC230_1.out)
        (case side3 => repeat (first | exact (Kd.C_below HR231_1.out HB.out) | (with_reducible refine Kd.C_alloc ?_ _) | (with_reducible refine Kd.C_drewN ?_ _) | (with_reducible refine Kd.C_drew ?_)))
        (case side4 => exact HC231_1.out)
        rintro e w12 ⟨rfl, hb⟩
        refine ⟨_, rfl, ?_⟩
        have n0_ := Aside0.mk (below_step (by repeat (first | (with_reducible first | exact HB.out | apply below_alloc | apply pw_below_drewN | apply below_drew1) | exact HB.out)) hb)
        clear HB
        have HB := n0_
        clear n0_
        (try clear hb)
        (try clear hb2)
        (try clear hk)
        (try clear hi)
        refine hK.out _ _ ⟨(cu_ HB.out hw230_0), (cu_ HB.out hw230_1), (cu_ HB.out hw230_2), (cu_ HB.out hw230_3), (cu_ HB.out hw230_4), (cu_ HB.out hw230_5), (cu_ HB.out hw231_0), (cu_ HB.out hw231_1), (cu_ HB.out hw231_2), (cu_ HB.out hw231_3), (cu_ HB.out hw231_4), (cu_ HB.out hw231_5)⟩ (fun hHeld => ?_)
        clear hK K
        refine norm_ (a' := ?_) ?_ ?_
        rotate_left
        ·show Act.put _ (some 25) _ = _
         pw_
        refine pure_ (i := 9) (N := some 26) (v := ?_) (a' := ?_) laws_eqSoundS.z10 rfl rfl (any_of HT_.out (by kernel_rfl)) (fun _ _ _ h => h) (Or.inl ⟨by rfl, ?_⟩) ?_ ?_
        pv_
        refine done_ (done_of HT_.out (by kernel_rfl)) ?_
        try go_wp2
        go_ret
        exact ⟨by first | rfl | (simp [errW_none, errW_some] <;> rfl) | (simp [*, errW_none, errW_some] <;> rfl), by repeat (first | (with_reducible first | exact HB.out | apply below_alloc | apply pw_below_drewN | apply below_drew1) | exact HB.out)⟩
      ·rw [if_neg c6] at H
       exact absurd H (by simp)
     ·rw [if_neg c5] at H
      exact absurd H (by simp)
    ·rw [if_neg c4] at H
     have c4b0 : decide (x5_1 < (l0.length : Int)) = false := decide_eq_false c4
     clear c4
     obtain rfl := Option.some.inj H
     go_wp2
     go_ret
     exact ⟨by first | rfl | (simp [errW_none, errW_some] <;> rfl) | (simp [*, errW_none, errW_some] <;> rfl), by repeat (first | (with_reducible first | exact HB.out | apply below_alloc | apply pw_below_drewN | apply below_drew1) | exact HB.out)⟩
 ·rw [if_neg c3] at H
  have c3b0 : ((l0.length : Int) == (l1.length : Int)) = false := beq_eq_false_iff_ne.mpr c3
  have c3b1 : ((l0.length : Int) != (l1.length : Int)) = true := bne_iff_ne.mpr c3
  have c3b2 : (l0.length == l1.length) = false := by first | simpa using c3 | (simp at c3 ⊢; omega)
  obtain rfl := Option.some.inj H
  go_enter Try.func44, Try.ntmps44
  go_wp2
  go_ret
  exact ⟨by first | rfl | (simp [errW_none, errW_some] <;> rfl) | (simp [*, errW_none, errW_some] <;> rfl), by repeat (first | (with_reducible first | exact HB.out | apply below_alloc | apply pw_below_drewN | apply below_drew1) | exact HB.out)⟩
def laws_markFloat32S.l0 : Nat → List Nat → Int → Int → Option (Int × List Nat)
  | 0, _, _, _ => none
  | k + 1, x0, x1, x5 => if x5 < (x0.length : Int) then (if 0 ≤ x5 then (laws_markFloat32S.l0 k (x0.set (x5 : Int).toNat (floatOfInt .f32 x1)) (wrap64 (x1 + 1)) (wrap64 (x5 + 1))) else (none)) else (some (x1, x0))
def laws_markFloat32S.f (k : Nat) (l0 : List Nat) (a1 : Int) : Option (Int × List Nat) := laws_markFloat32S.l0 k l0 a1 0
theorem laws_markFloat32S.mono_l : ∀ k, (∀ y0 y1 y2, LeO (laws_markFloat32S.l0 k y0 y1 y2) (laws_markFloat32S.l0 (k + 1) y0 y1 y2))
  | 0 => fun _ _ _ r h => by simp [laws_markFloat32S.l0] at h
  | k + 1 => by
    have ih0 := laws_markFloat32S.mono_l k
    · intro y0 y1 y2
      unfold laws_markFloat32S.l0
      repeat' first
      | (with_reducible exact ih0 _ _ _)
      | (with_reducible exact LeO.refl _)
      | (with_reducible exact LeO.none _)
      | (with_reducible refine LeO.ite ?_ ?_)
      | (with_reducible refine LeO.bind ?_ (fun _ => ?_))
      | exact ih0 _ _ _
      | exact LeO.none _
      | refine LeO.ite ?_ ?_
      | refine LeO.bind ?_ (fun _ => ?_)
theorem laws_markFloat32S.mono : ∀ a0 a1 k, LeO (laws_markFloat32S.f k a0 a1) (laws_markFloat32S.f (k + 1) a0 a1) := by
  intro a0 a1 k
  have ih0 := laws_markFloat32S.mono_l k
  unfold laws_markFloat32S.f
  repeat' first
      | (with_reducible exact ih0 _ _ _)
      | (with_reducible exact LeO.refl _)
      | (with_reducible exact LeO.none _)
      | (with_reducible refine LeO.ite ?_ ?_)
      | (with_reducible refine LeO.bind ?_ (fun _ => ?_))
      | exact ih0 _ _ _
      | exact LeO.none _
      | refine LeO.ite ?_ ?_
      | refine LeO.bind ?_ (fun _ => ?_)
set_option maxHeartbeats 8000000 in
set_option maxRecDepth 100000 in
theorem laws_markFloat32S.calls (k : Nat) (P0_ : Nat → Prop) (u9000_ : Value) (l0 : List Nat) (a1 : Int) (r1 : Int) (r2 : List Nat) (w0 w : World) (hB : Below w0.heap.size w0 w) (ho0 : Kd.R (Kd.float .f32) 36 w w0.heap.size P0_ u9000_ l0) (h : laws_markFloat32S.f k l0 a1 = some (r1, r2)) :
    Calls Try.prog 26 #[u9000_, .int .i64 a1] w fun e w' => e = .returned (.int .i64 r1) ∧ Kd.R (Kd.float .f32) 36 w' w0.heap.size (fun k_ => (P0_ k_ ∨ w.heap.size ≤ k_)) u9000_ r2 ∧ Below w0.heap.size w0 w' ∧ Kept w w' (fun k_ => P0_ k_) := by
  have hu36 := Try.underlying36
  have HO0 := Aside0.mk (show Kd.R (Kd.float .f32) 36 w w0.heap.size (fun k_ => (P0_ k_ ∨ w.heap.size ≤ k_)) u9000_ l0 from Kd.R_mono ho0 (fun k_ hk => (.inl hk)))
  have HK := Aside0.mk (Kept.refl w (fun k_ => P0_ k_))
  have HW0 := Aside0.mk hB.size
  have HB := Aside0.mk hB
  clear hB
  have H : (laws_markFloat32S.l0 k l0 a1 0) = some (r1, r2) := h
  clear h
  have H' := Aside0.mk H
  clear H
  go_enter Try.func26, Try.ntmps26
  go_wp2
  go_loopg [1, 5] k (fun kq v1 v5 w' => ∃ (x0_1 : List Nat) (x1_1 : Int) (x5_1 : Int), v1 = .int .i64 x1_1 ∧ v5 = .int .i64 x5_1 ∧ Aside0 (laws_markFloat32S.l0 kq x0_1 x1_1 x5_1 = some (r1, r2)) ∧ Aside0 (kq ≤ k) ∧ Aside0 (Kd.R (Kd.float .f32) 36 w' w0.heap.size (fun k_ => (P0_ k_ ∨ w.heap.size ≤ k_)) u9000_ x0_1) ∧ Aside0 (Kept w w' (fun k_ => P0_ k_)) ∧ Aside0 (Below w0.heap.size w0 w'))
  case atStart => exact ⟨(l0), (a1), (0), (by first | rfl | (simp; done) | (simp [*]; done)), (by first | rfl | (simp; done) | (simp [*]; done)), H', ⟨Nat.le_refl _⟩, ⟨by (with_reducible repeat (first | apply Kd.R_alloc | apply Kd.R_drewN | apply Kd.R_drew)); exact HO0.out⟩, ⟨by repeat (first | (with_reducible first | exact HK.out | apply Kept.alloc | apply Kept.drewN | apply Kept.drew) | exact HK.out)⟩, ⟨by repeat (first | (with_reducible first | exact HB.out | apply below_alloc | apply pw_below_drewN | apply below_drew1) | exact HB.out)⟩⟩
  case round =>
    clear H'
    try clear c2
    try clear p2
    obtain ⟨x0_1, x1_1, x5_1, rfl, rfl, HA, HK1, HO_0, HK, HB⟩ := hrel
    cases gk with
    | zero => exact absurd HA.out (by simp [laws_markFloat32S.l0])
    | succ k1 =>
      have H := HA.out
      clear HA
      simp only [laws_markFloat32S.l0] at H
      by_cases c3 : x5_1 < (x0_1.length : Int)
      · rw [if_pos c3] at H
        have c3b0 : decide (x5_1 < (x0_1.length : Int)) = true := decide_eq_true c3
        clear c3
        by_cases c4 : 0 ≤ x5_1
        · rw [if_pos c4] at H
          have c4b0 : decide (0 ≤ x5_1) = true := decide_eq_true c4
          clear c4
          obtain ⟨y233, hy233⟩ : ∃ y_ : List Nat, y_ = (x0_1.set (x5_1 : Int).toNat (floatOfInt .f32 x1_1)) := ⟨_, rfl⟩
          replace H : (laws_markFloat32S.l0 k1 y233 (wrap64 (x1_1 + 1)) (wrap64 (x5_1 + 1))) = some (r1, r2) := by first | (rw [hy233]; with_reducible exact H) | (have H2_ := (Option.bind_some _ _).symm.trans H; rw [hy233]; with_reducible exact H2_) | (have H2_ := (Option.bind_some _ _).symm.trans H; with_reducible exact H2_) | with_reducible exact H | (rw [hy233]; exact H) | exact H
          have Ny233 := Aside0.mk hy233
          clear hy233
          have H' := Aside0.mk H
          clear H
          obtain ⟨Ao6, co6, eo6⟩ := Kd.R_slice HO_0.out
          subst eo6
          have p5 : 0 ≤ (x5_1 : Int) := of_decide_eq_true (by first | (with_reducible assumption) | assumption)
          have q5 : (x5_1 : Int) < ((x0_1.length : Int) : Int) := of_decide_eq_true (by first | (with_reducible assumption) | assumption)
          obtain ⟨go5, co5, eo5, gb5, gl5, cl5, HG5⟩ := Kd.R_form HO_0.out (by omega)
          (first | cases eo5 | (injection eo5 with ea_ en_ ec_; (first | subst ea_ | (injection ea_ with ea_; subst ea_)); subst ec_; clear en_))
          have GB5 := Aside0.mk gb5
          have GG5 := Aside0.mk HG5
          clear gb5 gl5 HG5
          have HMgo5 := Aside0.mk (show (P0_ go5 ∨ w.heap.size ≤ go5) from (HO_0.out.1 _ rfl))
          obtain ⟨hx5_0, hf5_0⟩ := Kd.R_celln 0 HO_0.out (x5_1 : Int) p5 q5
          replace p5 := eq_true p5
          replace q5 := eq_true q5
          have HP7 := Kd.R_putg HO_0.out (x5_1 : Int) (floatOfInt .f32 x1_1)
          go_wp2_with (first | ((with_reducible refine gate_store (t := 36) (p := 16) rfl ?_); refine store_event (t := 36) (p := 16) (v := ?vo_w8) (w1 := (wr.setCell ⟨go5, (x5_1 : Int).toNat, none⟩ (.float .f32 (floatOfInt .f32 x1_1)))) ?hg ?ho ?hn ?hr ?_; (case ho => rfl); (case hg => rfl); (case hn => rfl); (case hr => first | (go_simp; done) | (go_simp; rfl) | (simp (disch := omega) only [w64_id]; go_simp; done) | (go_simp; simp (disch := omega) only [w64_id]; done)); intro w8 hw; have hg : wr.grownBy w8 (some go5) := (by rw [hw]; exact HP7.2); have hp_ : Kd.R (Kd.float .f32) 36 w8 w0.heap.size (fun k_ => (P0_ k_ ∨ w.heap.size ≤ k_)) (.slice (some ⟨go5, 0, none⟩) x0_1.length co6) y233 := (by rw [hw, Ny233.out]; exact HP7.1); clear HP7; have n0_ := Aside0.mk (hp_); have n1_ := Aside0.mk ((by rw [hw]; exact below_set (HB.out) GB5.out : Below w0.heap.size w0 w8)); have n2_ := Aside0.mk (Kept.of_grown (S := (fun k_ => P0_ k_)) hg (by repeat (first | (with_reducible first | exact HK.out | apply Kept.alloc | apply Kept.drewN | apply Kept.drew) | exact HK.out)) (fun k_ e_ => (HO_0.out.1 k_ e_))); clear HO_0; clear HB; clear HK; have HO_0 := n0_; have HB := n1_; have HK := n2_; clear n0_ n1_ n2_; clear hg hw hp_))
          go_roundg k1
          case measure => have := HK1.out; omega
          case rel => exact ⟨(y233), (wrap64 (x1_1 + 1)), (wrap64 (x5_1 + 1)), (by first | rfl | (simp; done) | (simp [*]; done)), (by first | rfl | (simp; done) | (simp [*]; done)), H', ⟨by have := HK1.out; omega⟩, ⟨by (with_reducible repeat (first | apply Kd.R_alloc | apply Kd.R_drewN | apply Kd.R_drew)); exact HO_0.out⟩, ⟨by repeat (first | (with_reducible first | exact HK.out | apply Kept.alloc | apply Kept.drewN | apply Kept.drew) | exact HK.out)⟩, ⟨by repeat (first | (with_reducible first | exact HB.out | apply below_alloc | apply pw_below_drewN | apply below_drew1) | exact HB.out)⟩⟩
        · rw [if_neg c4] at H
          exact absurd H (by simp)
      · rw [if_neg c3] at H
        have c3b0 : decide (x5_1 < (x0_1.length : Int)) = false := decide_eq_false c3
        clear c3
        simp only [Option.some.injEq, Prod.mk.injEq] at H
        obtain ⟨rfl, rfl⟩ := H
        obtain ⟨Ao9, co9, eo9⟩ := Kd.R_slice HO_0.out
        subst eo9
        go_wp2
        go_ret
        exact ⟨by first | rfl | (simp [errW_none, errW_some] <;> rfl) | (simp [*, errW_none, errW_some] <;> rfl), by (with_reducible repeat (first | apply Kd.R_alloc | apply Kd.R_drewN | apply Kd.R_drew)); exact HO_0.out, by repeat (first | (with_reducible first | exact HB.out | apply below_alloc | apply pw_below_drewN | apply below_drew1) | exact HB.out), by repeat (first | (with_reducible first | exact HK.out | apply Kept.alloc | apply Kept.drewN | apply Kept.drew) | exact HK.out)⟩
def laws_markText.l0 : Nat → Int → ByteArray → Option (ByteArray)
  | 0, _, _ => none
  | k + 1, x0, x3 => if x0 > 0 then ((some (([(wrap64 (48 + (Int.tmod x0 10))) % 256] : List Int) : List Int)).bind fun y234 => (if (strOfNums y234).size + x3.size ≤ 9223372036854775807 then (laws_markText.l0 k (wrap64 (Int.tdiv x0 10)) ((strOfNums y234) ++ x3)) else (none))) else (if 1 + x3.size ≤ 9223372036854775807 then (some ((⟨#[109]⟩ : ByteArray) ++ x3)) else (none))
def laws_markText.f (k : Nat) (a0 : Int) : Option (ByteArray) := if a0 ≤ 0 then (some (⟨#[109, 48]⟩ : ByteArray)) else (laws_markText.l0 k a0 (⟨#[]⟩ : ByteArray))
theorem laws_markText.mono_l : ∀ k, (∀ y0 y1, LeO (laws_markText.l0 k y0 y1) (laws_markText.l0 (k + 1) y0 y1))
  | 0 => fun _ _ r h => by simp [laws_markText.l0] at h
  | k + 1 => by
    have ih0 := laws_markText.mono_l k
    · intro y0 y1
      unfold laws_markText.l0
      repeat' first
      | (with_reducible exact ih0 _ _)
      | (with_reducible exact LeO.refl _)
      | (with_reducible exact LeO.none _)
      | (with_reducible refine LeO.ite ?_ ?_)
      | (with_reducible refine LeO.bind ?_ (fun _ => ?_))
      | exact ih0 _ _
      | exact LeO.none _
      | refine LeO.ite ?_ ?_
      | refine LeO.bind ?_ (fun _ => ?_)
theorem laws_markText.mono : ∀ a0 k, LeO (laws_markText.f k a0) (laws_markText.f (k + 1) a0) := by
  intro a0 k
  have ih0 := laws_markText.mono_l k
  unfold laws_markText.f
  repeat' first
      | (with_reducible exact ih0 _ _)
      | (with_reducible exact LeO.refl _)
      | (with_reducible exact LeO.none _)
      | (with_reducible refine LeO.ite ?_ ?_)
      | (with_reducible refine LeO.bind ?_ (fun _ => ?_))
      | exact ih0 _ _
      | exact LeO.none _
      | refine LeO.ite ?_ ?_
      | refine LeO.bind ?_ (fun _ => ?_)
set_option maxHeartbeats 8000000 in
set_option maxRecDepth 100000 in
theorem laws_markText.calls (k : Nat) (a0 : Int) (r : ByteArray) (w : World) (h : laws_markText.f k a0 = some r) :
    Calls Try.prog 105 #[.int .i64 a0] w fun e w' => e = .returned (.string r) ∧ Below w.heap.size w w' := by
  have HB := Aside0.mk (Below.refl w.heap.size w)
  have H : (if a0 ≤ 0 then (some (⟨#[109, 48]⟩ : ByteArray)) else (laws_markText.l0 k a0 (⟨#[]⟩ : ByteArray))) = some r := h
  clear h
  by_cases c2 : a0 ≤ 0
  · rw [if_pos c2] at H
    have c2b0 : decide (a0 ≤ 0) = true := decide_eq_true c2
    clear c2
    obtain rfl := Option.some.inj H
    go_enter Try.func105, Try.ntmps105
    go_wp2
    go_ret
    exact ⟨by first | rfl | (simp [errW_none, errW_some] <;> rfl) | (simp [*, errW_none, errW_some] <;> rfl), by repeat (first | (with_reducible first | exact HB.out | apply below_alloc | apply pw_below_drewN | apply below_drew1) | exact HB.out)⟩
  · rw [if_neg c2] at H
    have c2b0 : decide (a0 ≤ 0) = false := decide_eq_false c2
    clear c2
    have H' := Aside0.mk H
    clear H
    go_enter Try.func105, Try.ntmps105
    go_wp2
    go_loopg [0, 3] k (fun kq v0 v3 w' => ∃ (x0_1 : Int) (x3_1 : ByteArray), v0 = .int .i64 x0_1 ∧ v3 = .string x3_1 ∧ Aside0 (laws_markText.l0 kq x0_1 x3_1 = some r) ∧ Aside0 (kq ≤ k) ∧ Aside0 (Below w.heap.size w w'))
    case atStart => exact ⟨(a0), ((⟨#[]⟩ : ByteArray)), (by first | rfl | (simp; done) | (simp [*]; done)), (by first | rfl | (simp; done) | (simp [*]; done)), H', ⟨Nat.le_refl _⟩, ⟨by repeat (first | (with_reducible first | exact HB.out | apply below_alloc | apply pw_below_drewN | apply below_drew1) | exact HB.out)⟩⟩
    case round =>
      clear H'
      try clear c1
      try clear c2
      try clear c2b0
      try clear p2
      obtain ⟨x0_1, x3_1, rfl, rfl, HA, HK1, HB⟩ := hrel
      cases gk with
      | zero => exact absurd HA.out (by simp [laws_markText.l0])
      | succ k1 =>
        have H := HA.out
        clear HA
        simp only [laws_markText.l0] at H
        by_cases c3 : x0_1 > 0
        · rw [if_pos c3] at H
          have c3b0 : decide (0 < x0_1) = true := decide_eq_true c3
          clear c3
          obtain ⟨y234, hy234⟩ : ∃ y_ : List Int, y_ = (([(wrap64 (48 + (Int.tmod x0_1 10))) % 256] : List Int)) := ⟨_, rfl⟩
          replace H : (if (strOfNums y234).size + x3_1.size ≤ 9223372036854775807 then (laws_markText.l0 k1 (wrap64 (Int.tdiv x0_1 10)) ((strOfNums y234) ++ x3_1)) else (none)) = some r := by first | (rw [hy234]; with_reducible exact H) | (have H2_ := (Option.bind_some _ _).symm.trans H; rw [hy234]; with_reducible exact H2_) | (have H2_ := (Option.bind_some _ _).symm.trans H; with_reducible exact H2_) | with_reducible exact H | (rw [hy234]; exact H) | exact H
          have Ny234 := Aside0.mk hy234
          clear hy234
          by_cases c4 : (strOfNums y234).size + x3_1.size ≤ 9223372036854775807
          · rw [if_pos c4] at H
            have c4b0 := eq_true c4
            have c4b1 : decide ((strOfNums y234).size + x3_1.size ≤ 9223372036854775807) = true := decide_eq_true c4
            try have c4b2 : (9223372036854775807 < (strOfNums y234).size + x3_1.size) = False := eq_false (Nat.not_lt.2 c4)
            have H' := Aside0.mk H
            clear H
            go_wp2_with (first | ((with_reducible refine gate_dst (N := 12) rfl ?_); refine Kd.R_lit (Kd.int .u8) _ 5 ?hg (N := 12) ?hd (xs := ([(wrap64 (48 + (Int.tmod x0_1 10))) % 256] : List Int)) (inner := [.int .u8 ((wrap64 (48 + (Int.tmod x0_1 10))) % 256)]) (ok := fun _ => True) (okp := fun _ => True) ?hr ?hp (fun _ hk => hk) trivial (Below.refl _ _) (Nat.le_refl _) (by simp) ?_; (case hd => rfl); (case hg => rfl); (case hr => first | (go_simp; done) | (go_simp; rfl) | (simp (disch := omega) only [w64_id]; go_simp; done) | (go_simp; simp (disch := omega) only [w64_id]; done)); (case hp => exact (Reps.one (show Kd.M (Kd.int .u8) _ _ _ ((wrap64 (48 + (Int.tmod x0_1 10))) % 256) [.int .u8 ((wrap64 (48 + (Int.tmod x0_1 10))) % 256)] from rfl) (Reps.none _ _))); intro v235 w5 ho6 hb hg_ hnew_; clear hg_ hnew_; (first | rw [← Ny234.out] at ho6 | (simp only [Int.reduceToNat] at ho6; rw [← Ny234.out] at ho6)); have n0_ := Aside0.mk (Kd.R_lower ho6 (below_size (by repeat (first | (with_reducible first | exact HB.out | apply below_alloc | apply pw_below_drewN | apply below_drew1) | exact HB.out)))); have n1_ := Aside0.mk (below_step (by repeat (first | (with_reducible first | exact HB.out | apply below_alloc | apply pw_below_drewN | apply below_drew1) | exact HB.out)) hb); clear HB; have HO236 := n0_; have HB := n1_; clear n0_ n1_; clear hb ho6; have hcv7 := own_string (P := Try.prog) Try.underlying34 Try.underlying5 Try.underlying9 (Kd.own_of_R HO236.out)))
            go_roundg k1
            case measure => have := HK1.out; omega
            case rel => exact ⟨(wrap64 (Int.tdiv x0_1 10)), ((strOfNums y234) ++ x3_1), (by first | rfl | (simp; done) | (simp [*]; done)), (by first | rfl | (simp; done) | (simp [*]; done)), H', ⟨by have := HK1.out; omega⟩, ⟨by repeat (first | (with_reducible first | exact HB.out | apply below_alloc | apply pw_below_drewN | apply below_drew1) | exact HB.out)⟩⟩
          · rw [if_neg c4] at H
            exact absurd H (by simp)
        · rw [if_neg c3] at H
          have c3b0 : decide (0 < x0_1) = false := decide_eq_false c3
          clear c3
          by_cases c8 : 1 + x3_1.size ≤ 9223372036854775807
          · rw [if_pos c8] at H
            have c8b0 := eq_true c8
            have c8b1 : decide (1 + x3_1.size ≤ 9223372036854775807) = true := decide_eq_true c8
            try have c8b2 : (9223372036854775807 < 1 + x3_1.size) = False := eq_false (Nat.not_lt.2 c8)
            obtain rfl := Option.some.inj H
            go_wp2
            go_ret
            exact ⟨by first | rfl | (simp [errW_none, errW_some] <;> rfl) | (simp [*, errW_none, errW_some] <;> rfl), by repeat (first | (with_reducible first | exact HB.out | apply below_alloc | apply pw_below_drewN | apply below_drew1) | exact HB.out)⟩
          · rw [if_neg c8] at H
            exact absurd H (by simp)
end Go.Proofs.Ytoiaojdkgagblaa.PFnExactStretchSounds
