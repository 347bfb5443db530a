import Derived.Test.YteooifighndmkaaPFnExactFrameAtx0
import Derived.Test.YteooifighndmkaaPFnExactFrameAtx2
import Derived.Deep.RegionLaw
import Derived.Lib.Hide
namespace Go.Proofs.Yteooifighndmkaa.PFnExactFrameAt
open Go.RowKit Go.Proofs.YteooifighndmkaaW.PrintWords Go.Proofs.YteooifighndmkaaW.PrintLast Go.Proofs.YteooifighndmkaaW.PrintMore
open Go.Proofs.YteooifighndmkaaW.PrintFl
attribute [local go_sem high] binOp_feq binOp_fne binOp_fls binOp_fle binOp_fgr binOp_fge binOp_sle binOp_sgt
attribute [local go_sem] run_fopr run_fconv run_fint run_stf run_stc
attribute [local go_sem] max2_int min2_int max_two min_two max_three min_three max_four min_four
set_option linter.unusedVariables false
set_option linter.unusedSimpArgs false
def spec_l06Frame.f (k : Nat) (l0 : List (S29)) : Option (Bool) := if 0 < (l0.length : Int) then ((spec_l02Areas.f k ((rd_T29 l0 0).f0)).bind fun t189 => (if t189 = true then ((spec_l02Least.f ((rd_T29 l0 0).f1)).bind fun t192 => (if t192 = true then ((spec_l02Share.f ((rd_T29 l0 0).f2)).bind fun t195 => (if t195 = true then ((spec_l02Share.f ((rd_T29 l0 0).f3)).bind fun t198 => (some t198)) else (some false))) else (some false))) else (some false))) else (none)
theorem spec_l06Frame.mono : ∀ a0 k, LeO (spec_l06Frame.f k a0) (spec_l06Frame.f (k + 1) a0) := by
 intro a0 k
 unfold spec_l06Frame.f
 repeat' first
   | (with_reducible exact spec_l02Areas.mono _ _)
   | (with_reducible exact LeO.refl _)
   | (with_reducible exact LeO.none _)
   | (with_reducible refine LeO.ite ?_ ?_)
   | (with_reducible refine LeO.bind ?_ (fun _ => ?_))
   | exact spec_l02Areas.mono _ _
   | exact LeO.none _
   | refine LeO.ite ?_ ?_
   | refine LeO.bind ?_ (fun _ => ?_)
set_option maxHeartbeats 8000000 in
set_option maxRecDepth 100000 in
theorem spec_l06Frame.calls (k : Nat) (A0 : Option Addr) (l0 : List S29) (r : Bool) (w : World) (hr0 : Kd.C k29 w A0 l0.length l0) (h : spec_l06Frame.f k l0 = some r) :
    Calls Try.prog 111 #[.pointer A0] w fun e w' => e = .returned (.bool r) ∧ Drawn0 w w' := by
  unfold spec_l06Frame.f at h
  by_cases c : 0 < (l0.length : Int)
  · rw [if_pos c] at h
    obtain ⟨ad, A1, c1, rfl, x0, x1, x2, x3, hl1, hi1⟩ := at_T29 hr0 0 (by decide) c
    rw [show ((0 : Int)).toNat * 4 = 0 from rfl, Addr.add_zero'] at x0 x1 x2 x3
    clear hr0 c
    obtain ⟨t0, h0, h⟩ := Option.bind_eq_some_iff.mp h
    have H0 := Lib.hid (show ∀ W, Drawn0 w W → Calls Try.prog 115 #[.slice A1 (rd_T29 l0 0).f0.length c1] W fun e w' => e = .returned (.bool t0) ∧ Drawn0 W w' from fun W hW => spec_l02Areas.calls k A1 c1 _ t0 W (by obtain ⟨n_, rfl⟩ := hW; exact Kd.C_drewN hi1 n_) hl1 h0)
    clear h0
    cases t0 with
    | false =>
      rw [if_neg (by decide)] at h
      obtain rfl := Option.some.inj h
      clear h
      go_enter Try.func111, Try.ntmps111
      go_wp2_with (first | (go_at_call 115; (with_reducible refine (H0.out _ (by repeat (first | exact Drawn0.refl _ | apply Drawn0.step))).mono ?_); rintro e_ w_ ⟨rfl, ⟨nd, rfl⟩⟩))
      go_ret
      exact ⟨rfl, by repeat (first | exact Drawn0.refl _ | apply Drawn0.step)⟩
    | true =>
      rw [if_pos rfl] at h
      obtain ⟨t1, h1, h⟩ := Option.bind_eq_some_iff.mp h
      have H1 := Lib.hid (show ∀ W, Drawn0 w W → Calls Try.prog 42 #[.float .f32 (rd_T29 l0 0).f1] W fun e w' => e = .returned (.bool t1) ∧ Drawn0 W w' from fun W hW => spec_l02Least.calls _ t1 W h1)
      clear h1
      cases t1 with
      | false =>
        rw [if_neg (by decide)] at h
        obtain rfl := Option.some.inj h
        clear h
        go_enter Try.func111, Try.ntmps111
        go_wp2_with (first | (go_at_call 115; (with_reducible refine (H0.out _ (by repeat (first | exact Drawn0.refl _ | apply Drawn0.step))).mono ?_); rintro e_ w_ ⟨rfl, ⟨nd, rfl⟩⟩) | (go_at_call 42; (with_reducible refine (H1.out _ (by repeat (first | exact Drawn0.refl _ | apply Drawn0.step))).mono ?_); rintro e_ w_ ⟨rfl, ⟨nd, rfl⟩⟩))
        go_ret
        exact ⟨rfl, by repeat (first | exact Drawn0.refl _ | apply Drawn0.step)⟩
      | true =>
        rw [if_pos rfl] at h
        obtain ⟨t2, h2, h⟩ := Option.bind_eq_some_iff.mp h
        have H2 := Lib.hid (show ∀ W, Drawn0 w W → Calls Try.prog 97 #[.float .f32 (rd_T29 l0 0).f2] W fun e w' => e = .returned (.bool t2) ∧ Drawn0 W w' from fun W hW => spec_l02Share.calls _ t2 W h2)
        clear h2
        cases t2 with
        | false =>
          rw [if_neg (by decide)] at h
          obtain rfl := Option.some.inj h
          clear h
          go_enter Try.func111, Try.ntmps111
          go_wp2_with (first | (go_at_call 115; (with_reducible refine (H0.out _ (by repeat (first | exact Drawn0.refl _ | apply Drawn0.step))).mono ?_); rintro e_ w_ ⟨rfl, ⟨nd, rfl⟩⟩) | (go_at_call 42; (with_reducible refine (H1.out _ (by repeat (first | exact Drawn0.refl _ | apply Drawn0.step))).mono ?_); rintro e_ w_ ⟨rfl, ⟨nd, rfl⟩⟩) | (go_at_call 97; (with_reducible refine (H2.out _ (by repeat (first | exact Drawn0.refl _ | apply Drawn0.step))).mono ?_); rintro e_ w_ ⟨rfl, ⟨nd, rfl⟩⟩))
          go_ret
          exact ⟨rfl, by repeat (first | exact Drawn0.refl _ | apply Drawn0.step)⟩
        | true =>
          rw [if_pos rfl] at h
          obtain ⟨t3, h3, h⟩ := Option.bind_eq_some_iff.mp h
          have H3 := Lib.hid (show ∀ W, Drawn0 w W → Calls Try.prog 97 #[.float .f32 (rd_T29 l0 0).f3] W fun e w' => e = .returned (.bool t3) ∧ Drawn0 W w' from fun W hW => spec_l02Share.calls _ t3 W h3)
          clear h3
          obtain rfl := Option.some.inj h
          clear h
          go_enter Try.func111, Try.ntmps111
          go_wp2_with (first | (go_at_call 115; (with_reducible refine (H0.out _ (by repeat (first | exact Drawn0.refl _ | apply Drawn0.step))).mono ?_); rintro e_ w_ ⟨rfl, ⟨nd, rfl⟩⟩) | (go_at_call 42; (with_reducible refine (H1.out _ (by repeat (first | exact Drawn0.refl _ | apply Drawn0.step))).mono ?_); rintro e_ w_ ⟨rfl, ⟨nd, rfl⟩⟩) | (go_at_call 97; (with_reducible refine (H2.out _ (by repeat (first | exact Drawn0.refl _ | apply Drawn0.step))).mono ?_); rintro e_ w_ ⟨rfl, ⟨nd, rfl⟩⟩) | (go_at_call 97; (with_reducible refine (H3.out _ (by repeat (first | exact Drawn0.refl _ | apply Drawn0.step))).mono ?_); rintro e_ w_ ⟨rfl, ⟨nd, rfl⟩⟩))
          go_ret
          exact ⟨rfl, by repeat (first | exact Drawn0.refl _ | apply Drawn0.step)⟩
  · rw [if_neg c] at h; cases h
end Go.Proofs.Yteooifighndmkaa.PFnExactFrameAt
