/- Printed by a program of this session (the kit's print, with contracts of this session's own): what functions come to, and that their code comes to it. -/
import Derived.Test.YtiebjnppmcpffaaDoorPFnSpokenx0
import Derived.Test.YtiebjnppmcpffaaDoorPFnSpokenx1
import Derived.Test.YtiebjnppmcpffaaDoorPFnSpokenx2
namespace Go.Proofs.YtiebjnppmcpffaaDoor.PFnSpoken
open Go.RowKit Go.Proofs.YtiebjnppmcpffaaDoorW.PrintWords Go.Proofs.YtiebjnppmcpffaaDoorW.PrintLast Go.Proofs.YtiebjnppmcpffaaDoorW.PrintMore
open Go.Proofs.YtiebjnppmcpffaaDoorW.PrintFl
attribute [local go_sem high] binOp_feq binOp_fne binOp_fls binOp_fle binOp_fgr binOp_fge
attribute [local go_sem] run_fopr run_fconv run_fint run_stf run_stc 
attribute [local go_sem] max2_int min2_int max_two min_two max_three min_three max_four min_four   -- for this text's walks alone
set_option linter.unusedVariables false
set_option linter.unusedSimpArgs false

/-! ### laws_FnSpoken: function 5 -/
def laws_FnSpoken.j0 : Nat → Int → ByteArray → Bool → Option (Bool)
  | 0, _, _, _ => none
  | k + 1, x5, x7, x105 => if x105 = true then (some false) else (if x7.size + 5 ≤ 9223372036854775807 then ((impl_ReadNumberWords.f k (x7 ++ (⟨#[32, 122, 101, 114, 111]⟩ : ByteArray))).bind fun bt175 => ((impl_NumberWords.f (wrap64 ((-1) - x5))).bind fun bt177 => ((impl_SpeakNumbers.f k x7).bind fun bt179 => (if bt175.2 = true then (some false) else (if bt177.2 = true then (some false) else (if bt179.2 = true then (some (bt179.1.toList == x7.toList)) else (some false))))))) else (none))
def laws_FnSpoken.f (k : Nat) (l0 : List Int) (l1 : List Int) : Option (Bool) := (laws_b10Long.f l0 l1).bind fun t158 => (if t158 = true then (some true) else ((laws_b10At.f l0 0 256).bind fun t159 => ((laws_b10At.f l0 1 64).bind fun t160 => ((laws_b10At.f l1 0 256).bind fun t161 => ((laws_b10At.f l1 1 200).bind fun t162 => ((impl_NumberWords.f (wrap64 ((wrap64 (t159 * 3906)) + t160))).bind fun bt163 => ((impl_NumberWords.f (wrap64 ((wrap64 (3 * t161)) + t162))).bind fun bt165 => ((impl_ReadNumberWords.f k bt163.1).bind fun bt167 => ((impl_ReadNumberWords.f k bt165.1).bind fun bt169 => ((spec_Decimal.f k (wrap64 ((wrap64 (t159 * 3906)) + t160))).bind fun t171 => (if 2 + t171.size ≤ 9223372036854775807 then (if ((⟨#[120, 32]⟩ : ByteArray) ++ t171).size + 3 ≤ 9223372036854775807 then ((spec_Decimal.f k (wrap64 ((wrap64 (3 * t161)) + t162))).bind fun t172 => (if (((⟨#[120, 32]⟩ : ByteArray) ++ t171) ++ (⟨#[32, 121, 32]⟩ : ByteArray)).size + t172.size ≤ 9223372036854775807 then ((impl_SpeakNumbers.f k ((((⟨#[120, 32]⟩ : ByteArray) ++ t171) ++ (⟨#[32, 121, 32]⟩ : ByteArray)) ++ t172)).bind fun bt173 => (if bt163.2 = true then (if bt165.2 = true then (if bt167.2 = true then (if bt169.2 = true then (if bt173.2 = true then (if bt167.1 = (wrap64 ((wrap64 (t159 * 3906)) + t160)) then (if bt169.1 = (wrap64 ((wrap64 (3 * t161)) + t162)) then (if 2 + bt163.1.size ≤ 9223372036854775807 then (if ((⟨#[120, 32]⟩ : ByteArray) ++ bt163.1).size + 3 ≤ 9223372036854775807 then (if (((⟨#[120, 32]⟩ : ByteArray) ++ bt163.1) ++ (⟨#[32, 121, 32]⟩ : ByteArray)).size + bt165.1.size ≤ 9223372036854775807 then (laws_FnSpoken.j0 k (wrap64 ((wrap64 (t159 * 3906)) + t160)) bt163.1 (bt173.1.toList != ((((⟨#[120, 32]⟩ : ByteArray) ++ bt163.1) ++ (⟨#[32, 121, 32]⟩ : ByteArray)) ++ bt165.1).toList)) else (none)) else (none)) else (none)) else (laws_FnSpoken.j0 k (wrap64 ((wrap64 (t159 * 3906)) + t160)) bt163.1 true)) else (laws_FnSpoken.j0 k (wrap64 ((wrap64 (t159 * 3906)) + t160)) bt163.1 true)) else (laws_FnSpoken.j0 k (wrap64 ((wrap64 (t159 * 3906)) + t160)) bt163.1 true)) else (laws_FnSpoken.j0 k (wrap64 ((wrap64 (t159 * 3906)) + t160)) bt163.1 true)) else (laws_FnSpoken.j0 k (wrap64 ((wrap64 (t159 * 3906)) + t160)) bt163.1 true)) else (laws_FnSpoken.j0 k (wrap64 ((wrap64 (t159 * 3906)) + t160)) bt163.1 true)) else (laws_FnSpoken.j0 k (wrap64 ((wrap64 (t159 * 3906)) + t160)) bt163.1 true))) else (none))) else (none)) else (none))))))))))))
theorem laws_FnSpoken.mono_l : ∀ k, (∀ y0 y1 y2, LeO (laws_FnSpoken.j0 k y0 y1 y2) (laws_FnSpoken.j0 (k + 1) y0 y1 y2))
  | 0 => fun _ _ _ r h => by simp [laws_FnSpoken.j0] at h
  | k + 1 => by
    have ih0 := laws_FnSpoken.mono_l k
    · intro y0 y1 y2
      unfold laws_FnSpoken.j0
      repeat' first
      | (with_reducible exact ih0 _ _ _)
      | (with_reducible exact impl_ReadNumberWords.mono _ _)
      | (with_reducible exact impl_SpeakNumbers.mono _ _)
      | (with_reducible exact spec_Decimal.mono _ _)
      | (with_reducible exact LeO.refl _)
      | (with_reducible exact LeO.none _)
      | (with_reducible refine LeO.ite ?_ ?_)
      | (with_reducible refine LeO.bind ?_ (fun _ => ?_))
      | exact ih0 _ _ _
      | exact impl_ReadNumberWords.mono _ _
      | exact impl_SpeakNumbers.mono _ _
      | exact spec_Decimal.mono _ _
      | exact LeO.none _
      | refine LeO.ite ?_ ?_
      | refine LeO.bind ?_ (fun _ => ?_)
theorem laws_FnSpoken.mono : ∀ a0 a1 k, LeO (laws_FnSpoken.f k a0 a1) (laws_FnSpoken.f (k + 1) a0 a1) := by
  intro a0 a1 k
  have ih0 := laws_FnSpoken.mono_l k
  unfold laws_FnSpoken.f
  repeat' first
      | (with_reducible exact ih0 _ _ _)
      | (with_reducible exact impl_ReadNumberWords.mono _ _)
      | (with_reducible exact impl_SpeakNumbers.mono _ _)
      | (with_reducible exact spec_Decimal.mono _ _)
      | (with_reducible exact LeO.refl _)
      | (with_reducible exact LeO.none _)
      | (with_reducible refine LeO.ite ?_ ?_)
      | (with_reducible refine LeO.bind ?_ (fun _ => ?_))
      | exact ih0 _ _ _
      | exact impl_ReadNumberWords.mono _ _
      | exact impl_SpeakNumbers.mono _ _
      | exact spec_Decimal.mono _ _
      | exact LeO.none _
      | refine LeO.ite ?_ ?_
      | refine LeO.bind ?_ (fun _ => ?_)
set_option maxHeartbeats 8000000 in
set_option maxRecDepth 100000 in
theorem laws_FnSpoken.calls (k : Nat) (A0 : Option Addr) (c0 : Nat) (l0 : List Int) (A1 : Option Addr) (c1 : Nat) (l1 : List Int) (r : Bool) (w : World) (hr0 : Kd.C (Kd.int .u8) w A0 l0.length l0) (hc0 : l0.length ≤ c0) (hr1 : Kd.C (Kd.int .u8) w A1 l1.length l1) (hc1 : l1.length ≤ c1) (hT_ : GLs w) (h : laws_FnSpoken.f k l0 l1 = some r) :
    Calls Tryd.prog 5 #[.slice A0 l0.length c0, .slice A1 l1.length c1] w fun e w' => e = .returned (.bool r) ∧ Below w.heap.size w w' := by
  have HR0 := Aside0.mk hr0
  have HC0 := Aside0.mk hc0
  clear hr0 hc0
  have HR1 := Aside0.mk hr1
  have HC1 := Aside0.mk hc1
  clear hr1 hc1
  have HT_ := Aside0.mk hT_
  clear hT_
  have HB := Aside0.mk (Below.refl w.heap.size w)
  have H : ((laws_b10Long.f l0 l1).bind fun t158 => (if t158 = true then (some true) else ((laws_b10At.f l0 0 256).bind fun t159 => ((laws_b10At.f l0 1 64).bind fun t160 => ((laws_b10At.f l1 0 256).bind fun t161 => ((laws_b10At.f l1 1 200).bind fun t162 => ((impl_NumberWords.f (wrap64 ((wrap64 (t159 * 3906)) + t160))).bind fun bt163 => ((impl_NumberWords.f (wrap64 ((wrap64 (3 * t161)) + t162))).bind fun bt165 => ((impl_ReadNumberWords.f k bt163.1).bind fun bt167 => ((impl_ReadNumberWords.f k bt165.1).bind fun bt169 => ((spec_Decimal.f k (wrap64 ((wrap64 (t159 * 3906)) + t160))).bind fun t171 => (if 2 + t171.size ≤ 9223372036854775807 then (if ((⟨#[120, 32]⟩ : ByteArray) ++ t171).size + 3 ≤ 9223372036854775807 then ((spec_Decimal.f k (wrap64 ((wrap64 (3 * t161)) + t162))).bind fun t172 => (if (((⟨#[120, 32]⟩ : ByteArray) ++ t171) ++ (⟨#[32, 121, 32]⟩ : ByteArray)).size + t172.size ≤ 9223372036854775807 then ((impl_SpeakNumbers.f k ((((⟨#[120, 32]⟩ : ByteArray) ++ t171) ++ (⟨#[32, 121, 32]⟩ : ByteArray)) ++ t172)).bind fun bt173 => (if bt163.2 = true then (if bt165.2 = true then (if bt167.2 = true then (if bt169.2 = true then (if bt173.2 = true then (if bt167.1 = (wrap64 ((wrap64 (t159 * 3906)) + t160)) then (if bt169.1 = (wrap64 ((wrap64 (3 * t161)) + t162)) then (if 2 + bt163.1.size ≤ 9223372036854775807 then (if ((⟨#[120, 32]⟩ : ByteArray) ++ bt163.1).size + 3 ≤ 9223372036854775807 then (if (((⟨#[120, 32]⟩ : ByteArray) ++ bt163.1) ++ (⟨#[32, 121, 32]⟩ : ByteArray)).size + bt165.1.size ≤ 9223372036854775807 then (laws_FnSpoken.j0 k (wrap64 ((wrap64 (t159 * 3906)) + t160)) bt163.1 (bt173.1.toList != ((((⟨#[120, 32]⟩ : ByteArray) ++ bt163.1) ++ (⟨#[32, 121, 32]⟩ : ByteArray)) ++ bt165.1).toList)) else (none)) else (none)) else (none)) else (laws_FnSpoken.j0 k (wrap64 ((wrap64 (t159 * 3906)) + t160)) bt163.1 true)) else (laws_FnSpoken.j0 k (wrap64 ((wrap64 (t159 * 3906)) + t160)) bt163.1 true)) else (laws_FnSpoken.j0 k (wrap64 ((wrap64 (t159 * 3906)) + t160)) bt163.1 true)) else (laws_FnSpoken.j0 k (wrap64 ((wrap64 (t159 * 3906)) + t160)) bt163.1 true)) else (laws_FnSpoken.j0 k (wrap64 ((wrap64 (t159 * 3906)) + t160)) bt163.1 true)) else (laws_FnSpoken.j0 k (wrap64 ((wrap64 (t159 * 3906)) + t160)) bt163.1 true)) else (laws_FnSpoken.j0 k (wrap64 ((wrap64 (t159 * 3906)) + t160)) bt163.1 true))) else (none))) else (none)) else (none))))))))))))) = some r := h
  clear h
  replace H := Option.bind_eq_some_iff.mp H
  obtain ⟨t158, A30, H⟩ := H
  replace H : (if t158 = true then (some true) else ((laws_b10At.f l0 0 256).bind fun t159 => ((laws_b10At.f l0 1 64).bind fun t160 => ((laws_b10At.f l1 0 256).bind fun t161 => ((laws_b10At.f l1 1 200).bind fun t162 => ((impl_NumberWords.f (wrap64 ((wrap64 (t159 * 3906)) + t160))).bind fun bt163 => ((impl_NumberWords.f (wrap64 ((wrap64 (3 * t161)) + t162))).bind fun bt165 => ((impl_ReadNumberWords.f k bt163.1).bind fun bt167 => ((impl_ReadNumberWords.f k bt165.1).bind fun bt169 => ((spec_Decimal.f k (wrap64 ((wrap64 (t159 * 3906)) + t160))).bind fun t171 => (if 2 + t171.size ≤ 9223372036854775807 then (if ((⟨#[120, 32]⟩ : ByteArray) ++ t171).size + 3 ≤ 9223372036854775807 then ((spec_Decimal.f k (wrap64 ((wrap64 (3 * t161)) + t162))).bind fun t172 => (if (((⟨#[120, 32]⟩ : ByteArray) ++ t171) ++ (⟨#[32, 121, 32]⟩ : ByteArray)).size + t172.size ≤ 9223372036854775807 then ((impl_SpeakNumbers.f k ((((⟨#[120, 32]⟩ : ByteArray) ++ t171) ++ (⟨#[32, 121, 32]⟩ : ByteArray)) ++ t172)).bind fun bt173 => (if bt163.2 = true then (if bt165.2 = true then (if bt167.2 = true then (if bt169.2 = true then (if bt173.2 = true then (if bt167.1 = (wrap64 ((wrap64 (t159 * 3906)) + t160)) then (if bt169.1 = (wrap64 ((wrap64 (3 * t161)) + t162)) then (if 2 + bt163.1.size ≤ 9223372036854775807 then (if ((⟨#[120, 32]⟩ : ByteArray) ++ bt163.1).size + 3 ≤ 9223372036854775807 then (if (((⟨#[120, 32]⟩ : ByteArray) ++ bt163.1) ++ (⟨#[32, 121, 32]⟩ : ByteArray)).size + bt165.1.size ≤ 9223372036854775807 then (laws_FnSpoken.j0 k (wrap64 ((wrap64 (t159 * 3906)) + t160)) bt163.1 (bt173.1.toList != ((((⟨#[120, 32]⟩ : ByteArray) ++ bt163.1) ++ (⟨#[32, 121, 32]⟩ : ByteArray)) ++ bt165.1).toList)) else (none)) else (none)) else (none)) else (laws_FnSpoken.j0 k (wrap64 ((wrap64 (t159 * 3906)) + t160)) bt163.1 true)) else (laws_FnSpoken.j0 k (wrap64 ((wrap64 (t159 * 3906)) + t160)) bt163.1 true)) else (laws_FnSpoken.j0 k (wrap64 ((wrap64 (t159 * 3906)) + t160)) bt163.1 true)) else (laws_FnSpoken.j0 k (wrap64 ((wrap64 (t159 * 3906)) + t160)) bt163.1 true)) else (laws_FnSpoken.j0 k (wrap64 ((wrap64 (t159 * 3906)) + t160)) bt163.1 true)) else (laws_FnSpoken.j0 k (wrap64 ((wrap64 (t159 * 3906)) + t160)) bt163.1 true)) else (laws_FnSpoken.j0 k (wrap64 ((wrap64 (t159 * 3906)) + t160)) bt163.1 true))) else (none))) else (none)) else (none)))))))))))) = some r := H
  have A3 := Aside0.mk A30
  clear A30
  by_cases c4 : t158 = true
  · subst c4
    have H1 : (some true) = some r := by rw [if_pos rfl] at H; exact H
    clear H
    have H := H1
    clear H1
    obtain rfl := Option.some.inj H
    go_enter Tryd.func5, Tryd.ntmps5
    go_wp2_with (first | ((with_reducible refine gate_callee (f := 11) rfl ?_); refine goesL_ (some 25) rfl rfl Tryd.func11 (by kernel_rfl) rfl #[.slice A0 l0.length c0, .slice A1 l1.length c1] rfl (by (try simp only [List.map_toArray, List.map_cons, List.map_nil]); first | done | rfl | (simp only [List.length_drop, List.length_take]; rfl)) ?_; (with_reducible refine (laws_b10Long.calls _ _ l0 _ _ l1 true _ ?side1 ?side2 ?side3 ?side4 A3.out).mono ?_); (case side1 => repeat (first | exact HR0.out | (with_reducible refine Kd.C_alloc ?_ _) | (with_reducible refine Kd.C_drewN ?_ _) | (with_reducible refine Kd.C_drew ?_))); (case side2 => exact HC0.out); (case side3 => repeat (first | exact HR1.out | (with_reducible refine Kd.C_alloc ?_ _) | (with_reducible refine Kd.C_drewN ?_ _) | (with_reducible refine Kd.C_drew ?_))); (case side4 => exact HC1.out); rintro e w' ⟨rfl, ⟨nd, rfl⟩⟩; refine ⟨_, rfl, ?_⟩))
    go_ret
    exact ⟨by first | rfl | (simp [errW_none, errW_some] <;> rfl) | (simp [*, errW_none, errW_some] <;> rfl), by repeat (first | (with_reducible first | exact HB.out | apply below_alloc | apply pw_below_drewN | apply below_drew1) | exact HB.out)⟩
  · replace c4 := Bool.eq_false_iff.mpr c4
    subst c4
    have H1 : ((laws_b10At.f l0 0 256).bind fun t159 => ((laws_b10At.f l0 1 64).bind fun t160 => ((laws_b10At.f l1 0 256).bind fun t161 => ((laws_b10At.f l1 1 200).bind fun t162 => ((impl_NumberWords.f (wrap64 ((wrap64 (t159 * 3906)) + t160))).bind fun bt163 => ((impl_NumberWords.f (wrap64 ((wrap64 (3 * t161)) + t162))).bind fun bt165 => ((impl_ReadNumberWords.f k bt163.1).bind fun bt167 => ((impl_ReadNumberWords.f k bt165.1).bind fun bt169 => ((spec_Decimal.f k (wrap64 ((wrap64 (t159 * 3906)) + t160))).bind fun t171 => (if 2 + t171.size ≤ 9223372036854775807 then (if ((⟨#[120, 32]⟩ : ByteArray) ++ t171).size + 3 ≤ 9223372036854775807 then ((spec_Decimal.f k (wrap64 ((wrap64 (3 * t161)) + t162))).bind fun t172 => (if (((⟨#[120, 32]⟩ : ByteArray) ++ t171) ++ (⟨#[32, 121, 32]⟩ : ByteArray)).size + t172.size ≤ 9223372036854775807 then ((impl_SpeakNumbers.f k ((((⟨#[120, 32]⟩ : ByteArray) ++ t171) ++ (⟨#[32, 121, 32]⟩ : ByteArray)) ++ t172)).bind fun bt173 => (if bt163.2 = true then (if bt165.2 = true then (if bt167.2 = true then (if bt169.2 = true then (if bt173.2 = true then (if bt167.1 = (wrap64 ((wrap64 (t159 * 3906)) + t160)) then (if bt169.1 = (wrap64 ((wrap64 (3 * t161)) + t162)) then (if 2 + bt163.1.size ≤ 9223372036854775807 then (if ((⟨#[120, 32]⟩ : ByteArray) ++ bt163.1).size + 3 ≤ 9223372036854775807 then (if (((⟨#[120, 32]⟩ : ByteArray) ++ bt163.1) ++ (⟨#[32, 121, 32]⟩ : ByteArray)).size + bt165.1.size ≤ 9223372036854775807 then (laws_FnSpoken.j0 k (wrap64 ((wrap64 (t159 * 3906)) + t160)) bt163.1 (bt173.1.toList != ((((⟨#[120, 32]⟩ : ByteArray) ++ bt163.1) ++ (⟨#[32, 121, 32]⟩ : ByteArray)) ++ bt165.1).toList)) else (none)) else (none)) else (none)) else (laws_FnSpoken.j0 k (wrap64 ((wrap64 (t159 * 3906)) + t160)) bt163.1 true)) else (laws_FnSpoken.j0 k (wrap64 ((wrap64 (t159 * 3906)) + t160)) bt163.1 true)) else (laws_FnSpoken.j0 k (wrap64 ((wrap64 (t159 * 3906)) + t160)) bt163.1 true)) else (laws_FnSpoken.j0 k (wrap64 ((wrap64 (t159 * 3906)) + t160)) bt163.1 true)) else (laws_FnSpoken.j0 k (wrap64 ((wrap64 (t159 * 3906)) + t160)) bt163.1 true)) else (laws_FnSpoken.j0 k (wrap64 ((wrap64 (t159 * 3906)) + t160)) bt163.1 true)) else (laws_FnSpoken.j0 k (wrap64 ((wrap64 (t159 * 3906)) + t160)) bt163.1 true))) else (none))) else (none)) else (none))))))))))) = some r := by rw [if_neg (show ¬ (false = true) by decide)] at H; exact H
    clear H
    have H := H1
    clear H1
    replace H := Option.bind_eq_some_iff.mp H
    obtain ⟨t159, A50, H⟩ := H
    replace H : ((laws_b10At.f l0 1 64).bind fun t160 => ((laws_b10At.f l1 0 256).bind fun t161 => ((laws_b10At.f l1 1 200).bind fun t162 => ((impl_NumberWords.f (wrap64 ((wrap64 (t159 * 3906)) + t160))).bind fun bt163 => ((impl_NumberWords.f (wrap64 ((wrap64 (3 * t161)) + t162))).bind fun bt165 => ((impl_ReadNumberWords.f k bt163.1).bind fun bt167 => ((impl_ReadNumberWords.f k bt165.1).bind fun bt169 => ((spec_Decimal.f k (wrap64 ((wrap64 (t159 * 3906)) + t160))).bind fun t171 => (if 2 + t171.size ≤ 9223372036854775807 then (if ((⟨#[120, 32]⟩ : ByteArray) ++ t171).size + 3 ≤ 9223372036854775807 then ((spec_Decimal.f k (wrap64 ((wrap64 (3 * t161)) + t162))).bind fun t172 => (if (((⟨#[120, 32]⟩ : ByteArray) ++ t171) ++ (⟨#[32, 121, 32]⟩ : ByteArray)).size + t172.size ≤ 9223372036854775807 then ((impl_SpeakNumbers.f k ((((⟨#[120, 32]⟩ : ByteArray) ++ t171) ++ (⟨#[32, 121, 32]⟩ : ByteArray)) ++ t172)).bind fun bt173 => (if bt163.2 = true then (if bt165.2 = true then (if bt167.2 = true then (if bt169.2 = true then (if bt173.2 = true then (if bt167.1 = (wrap64 ((wrap64 (t159 * 3906)) + t160)) then (if bt169.1 = (wrap64 ((wrap64 (3 * t161)) + t162)) then (if 2 + bt163.1.size ≤ 9223372036854775807 then (if ((⟨#[120, 32]⟩ : ByteArray) ++ bt163.1).size + 3 ≤ 9223372036854775807 then (if (((⟨#[120, 32]⟩ : ByteArray) ++ bt163.1) ++ (⟨#[32, 121, 32]⟩ : ByteArray)).size + bt165.1.size ≤ 9223372036854775807 then (laws_FnSpoken.j0 k (wrap64 ((wrap64 (t159 * 3906)) + t160)) bt163.1 (bt173.1.toList != ((((⟨#[120, 32]⟩ : ByteArray) ++ bt163.1) ++ (⟨#[32, 121, 32]⟩ : ByteArray)) ++ bt165.1).toList)) else (none)) else (none)) else (none)) else (laws_FnSpoken.j0 k (wrap64 ((wrap64 (t159 * 3906)) + t160)) bt163.1 true)) else (laws_FnSpoken.j0 k (wrap64 ((wrap64 (t159 * 3906)) + t160)) bt163.1 true)) else (laws_FnSpoken.j0 k (wrap64 ((wrap64 (t159 * 3906)) + t160)) bt163.1 true)) else (laws_FnSpoken.j0 k (wrap64 ((wrap64 (t159 * 3906)) + t160)) bt163.1 true)) else (laws_FnSpoken.j0 k (wrap64 ((wrap64 (t159 * 3906)) + t160)) bt163.1 true)) else (laws_FnSpoken.j0 k (wrap64 ((wrap64 (t159 * 3906)) + t160)) bt163.1 true)) else (laws_FnSpoken.j0 k (wrap64 ((wrap64 (t159 * 3906)) + t160)) bt163.1 true))) else (none))) else (none)) else (none)))))))))) = some r := H
    have A5 := Aside0.mk A50
    clear A50
    replace H := Option.bind_eq_some_iff.mp H
    obtain ⟨t160, A60, H⟩ := H
    replace H : ((laws_b10At.f l1 0 256).bind fun t161 => ((laws_b10At.f l1 1 200).bind fun t162 => ((impl_NumberWords.f (wrap64 ((wrap64 (t159 * 3906)) + t160))).bind fun bt163 => ((impl_NumberWords.f (wrap64 ((wrap64 (3 * t161)) + t162))).bind fun bt165 => ((impl_ReadNumberWords.f k bt163.1).bind fun bt167 => ((impl_ReadNumberWords.f k bt165.1).bind fun bt169 => ((spec_Decimal.f k (wrap64 ((wrap64 (t159 * 3906)) + t160))).bind fun t171 => (if 2 + t171.size ≤ 9223372036854775807 then (if ((⟨#[120, 32]⟩ : ByteArray) ++ t171).size + 3 ≤ 9223372036854775807 then ((spec_Decimal.f k (wrap64 ((wrap64 (3 * t161)) + t162))).bind fun t172 => (if (((⟨#[120, 32]⟩ : ByteArray) ++ t171) ++ (⟨#[32, 121, 32]⟩ : ByteArray)).size + t172.size ≤ 9223372036854775807 then ((impl_SpeakNumbers.f k ((((⟨#[120, 32]⟩ : ByteArray) ++ t171) ++ (⟨#[32, 121, 32]⟩ : ByteArray)) ++ t172)).bind fun bt173 => (if bt163.2 = true then (if bt165.2 = true then (if bt167.2 = true then (if bt169.2 = true then (if bt173.2 = true then (if bt167.1 = (wrap64 ((wrap64 (t159 * 3906)) + t160)) then (if bt169.1 = (wrap64 ((wrap64 (3 * t161)) + t162)) then (if 2 + bt163.1.size ≤ 9223372036854775807 then (if ((⟨#[120, 32]⟩ : ByteArray) ++ bt163.1).size + 3 ≤ 9223372036854775807 then (if (((⟨#[120, 32]⟩ : ByteArray) ++ bt163.1) ++ (⟨#[32, 121, 32]⟩ : ByteArray)).size + bt165.1.size ≤ 9223372036854775807 then (laws_FnSpoken.j0 k (wrap64 ((wrap64 (t159 * 3906)) + t160)) bt163.1 (bt173.1.toList != ((((⟨#[120, 32]⟩ : ByteArray) ++ bt163.1) ++ (⟨#[32, 121, 32]⟩ : ByteArray)) ++ bt165.1).toList)) else (none)) else (none)) else (none)) else (laws_FnSpoken.j0 k (wrap64 ((wrap64 (t159 * 3906)) + t160)) bt163.1 true)) else (laws_FnSpoken.j0 k (wrap64 ((wrap64 (t159 * 3906)) + t160)) bt163.1 true)) else (laws_FnSpoken.j0 k (wrap64 ((wrap64 (t159 * 3906)) + t160)) bt163.1 true)) else (laws_FnSpoken.j0 k (wrap64 ((wrap64 (t159 * 3906)) + t160)) bt163.1 true)) else (laws_FnSpoken.j0 k (wrap64 ((wrap64 (t159 * 3906)) + t160)) bt163.1 true)) else (laws_FnSpoken.j0 k (wrap64 ((wrap64 (t159 * 3906)) + t160)) bt163.1 true)) else (laws_FnSpoken.j0 k (wrap64 ((wrap64 (t159 * 3906)) + t160)) bt163.1 true))) else (none))) else (none)) else (none))))))))) = some r := H
    have A6 := Aside0.mk A60
    clear A60
    replace H := Option.bind_eq_some_iff.mp H
    obtain ⟨t161, A70, H⟩ := H
    replace H : ((laws_b10At.f l1 1 200).bind fun t162 => ((impl_NumberWords.f (wrap64 ((wrap64 (t159 * 3906)) + t160))).bind fun bt163 => ((impl_NumberWords.f (wrap64 ((wrap64 (3 * t161)) + t162))).bind fun bt165 => ((impl_ReadNumberWords.f k bt163.1).bind fun bt167 => ((impl_ReadNumberWords.f k bt165.1).bind fun bt169 => ((spec_Decimal.f k (wrap64 ((wrap64 (t159 * 3906)) + t160))).bind fun t171 => (if 2 + t171.size ≤ 9223372036854775807 then (if ((⟨#[120, 32]⟩ : ByteArray) ++ t171).size + 3 ≤ 9223372036854775807 then ((spec_Decimal.f k (wrap64 ((wrap64 (3 * t161)) + t162))).bind fun t172 => (if (((⟨#[120, 32]⟩ : ByteArray) ++ t171) ++ (⟨#[32, 121, 32]⟩ : ByteArray)).size + t172.size ≤ 9223372036854775807 then ((impl_SpeakNumbers.f k ((((⟨#[120, 32]⟩ : ByteArray) ++ t171) ++ (⟨#[32, 121, 32]⟩ : ByteArray)) ++ t172)).bind fun bt173 => (if bt163.2 = true then (if bt165.2 = true then (if bt167.2 = true then (if bt169.2 = true then (if bt173.2 = true then (if bt167.1 = (wrap64 ((wrap64 (t159 * 3906)) + t160)) then (if bt169.1 = (wrap64 ((wrap64 (3 * t161)) + t162)) then (if 2 + bt163.1.size ≤ 9223372036854775807 then (if ((⟨#[120, 32]⟩ : ByteArray) ++ bt163.1).size + 3 ≤ 9223372036854775807 then (if (((⟨#[120, 32]⟩ : ByteArray) ++ bt163.1) ++ (⟨#[32, 121, 32]⟩ : ByteArray)).size + bt165.1.size ≤ 9223372036854775807 then (laws_FnSpoken.j0 k (wrap64 ((wrap64 (t159 * 3906)) + t160)) bt163.1 (bt173.1.toList != ((((⟨#[120, 32]⟩ : ByteArray) ++ bt163.1) ++ (⟨#[32, 121, 32]⟩ : ByteArray)) ++ bt165.1).toList)) else (none)) else (none)) else (none)) else (laws_FnSpoken.j0 k (wrap64 ((wrap64 (t159 * 3906)) + t160)) bt163.1 true)) else (laws_FnSpoken.j0 k (wrap64 ((wrap64 (t159 * 3906)) + t160)) bt163.1 true)) else (laws_FnSpoken.j0 k (wrap64 ((wrap64 (t159 * 3906)) + t160)) bt163.1 true)) else (laws_FnSpoken.j0 k (wrap64 ((wrap64 (t159 * 3906)) + t160)) bt163.1 true)) else (laws_FnSpoken.j0 k (wrap64 ((wrap64 (t159 * 3906)) + t160)) bt163.1 true)) else (laws_FnSpoken.j0 k (wrap64 ((wrap64 (t159 * 3906)) + t160)) bt163.1 true)) else (laws_FnSpoken.j0 k (wrap64 ((wrap64 (t159 * 3906)) + t160)) bt163.1 true))) else (none))) else (none)) else (none)))))))) = some r := H
    have A7 := Aside0.mk A70
    clear A70
    replace H := Option.bind_eq_some_iff.mp H
    obtain ⟨t162, A80, H⟩ := H
    replace H : ((impl_NumberWords.f (wrap64 ((wrap64 (t159 * 3906)) + t160))).bind fun bt163 => ((impl_NumberWords.f (wrap64 ((wrap64 (3 * t161)) + t162))).bind fun bt165 => ((impl_ReadNumberWords.f k bt163.1).bind fun bt167 => ((impl_ReadNumberWords.f k bt165.1).bind fun bt169 => ((spec_Decimal.f k (wrap64 ((wrap64 (t159 * 3906)) + t160))).bind fun t171 => (if 2 + t171.size ≤ 9223372036854775807 then (if ((⟨#[120, 32]⟩ : ByteArray) ++ t171).size + 3 ≤ 9223372036854775807 then ((spec_Decimal.f k (wrap64 ((wrap64 (3 * t161)) + t162))).bind fun t172 => (if (((⟨#[120, 32]⟩ : ByteArray) ++ t171) ++ (⟨#[32, 121, 32]⟩ : ByteArray)).size + t172.size ≤ 9223372036854775807 then ((impl_SpeakNumbers.f k ((((⟨#[120, 32]⟩ : ByteArray) ++ t171) ++ (⟨#[32, 121, 32]⟩ : ByteArray)) ++ t172)).bind fun bt173 => (if bt163.2 = true then (if bt165.2 = true then (if bt167.2 = true then (if bt169.2 = true then (if bt173.2 = true then (if bt167.1 = (wrap64 ((wrap64 (t159 * 3906)) + t160)) then (if bt169.1 = (wrap64 ((wrap64 (3 * t161)) + t162)) then (if 2 + bt163.1.size ≤ 9223372036854775807 then (if ((⟨#[120, 32]⟩ : ByteArray) ++ bt163.1).size + 3 ≤ 9223372036854775807 then (if (((⟨#[120, 32]⟩ : ByteArray) ++ bt163.1) ++ (⟨#[32, 121, 32]⟩ : ByteArray)).size + bt165.1.size ≤ 9223372036854775807 then (laws_FnSpoken.j0 k (wrap64 ((wrap64 (t159 * 3906)) + t160)) bt163.1 (bt173.1.toList != ((((⟨#[120, 32]⟩ : ByteArray) ++ bt163.1) ++ (⟨#[32, 121, 32]⟩ : ByteArray)) ++ bt165.1).toList)) else (none)) else (none)) else (none)) else (laws_FnSpoken.j0 k (wrap64 ((wrap64 (t159 * 3906)) + t160)) bt163.1 true)) else (laws_FnSpoken.j0 k (wrap64 ((wrap64 (t159 * 3906)) + t160)) bt163.1 true)) else (laws_FnSpoken.j0 k (wrap64 ((wrap64 (t159 * 3906)) + t160)) bt163.1 true)) else (laws_FnSpoken.j0 k (wrap64 ((wrap64 (t159 * 3906)) + t160)) bt163.1 true)) else (laws_FnSpoken.j0 k (wrap64 ((wrap64 (t159 * 3906)) + t160)) bt163.1 true)) else (laws_FnSpoken.j0 k (wrap64 ((wrap64 (t159 * 3906)) + t160)) bt163.1 true)) else (laws_FnSpoken.j0 k (wrap64 ((wrap64 (t159 * 3906)) + t160)) bt163.1 true))) else (none))) else (none)) else (none))))))) = some r := H
    have A8 := Aside0.mk A80
    clear A80
    replace H := Option.bind_eq_some_iff.mp H
    obtain ⟨⟨t163, t164⟩, A90, H⟩ := H
    replace H : ((impl_NumberWords.f (wrap64 ((wrap64 (3 * t161)) + t162))).bind fun bt165 => ((impl_ReadNumberWords.f k t163).bind fun bt167 => ((impl_ReadNumberWords.f k bt165.1).bind fun bt169 => ((spec_Decimal.f k (wrap64 ((wrap64 (t159 * 3906)) + t160))).bind fun t171 => (if 2 + t171.size ≤ 9223372036854775807 then (if ((⟨#[120, 32]⟩ : ByteArray) ++ t171).size + 3 ≤ 9223372036854775807 then ((spec_Decimal.f k (wrap64 ((wrap64 (3 * t161)) + t162))).bind fun t172 => (if (((⟨#[120, 32]⟩ : ByteArray) ++ t171) ++ (⟨#[32, 121, 32]⟩ : ByteArray)).size + t172.size ≤ 9223372036854775807 then ((impl_SpeakNumbers.f k ((((⟨#[120, 32]⟩ : ByteArray) ++ t171) ++ (⟨#[32, 121, 32]⟩ : ByteArray)) ++ t172)).bind fun bt173 => (if t164 = true then (if bt165.2 = true then (if bt167.2 = true then (if bt169.2 = true then (if bt173.2 = true then (if bt167.1 = (wrap64 ((wrap64 (t159 * 3906)) + t160)) then (if bt169.1 = (wrap64 ((wrap64 (3 * t161)) + t162)) then (if 2 + t163.size ≤ 9223372036854775807 then (if ((⟨#[120, 32]⟩ : ByteArray) ++ t163).size + 3 ≤ 9223372036854775807 then (if (((⟨#[120, 32]⟩ : ByteArray) ++ t163) ++ (⟨#[32, 121, 32]⟩ : ByteArray)).size + bt165.1.size ≤ 9223372036854775807 then (laws_FnSpoken.j0 k (wrap64 ((wrap64 (t159 * 3906)) + t160)) t163 (bt173.1.toList != ((((⟨#[120, 32]⟩ : ByteArray) ++ t163) ++ (⟨#[32, 121, 32]⟩ : ByteArray)) ++ bt165.1).toList)) else (none)) else (none)) else (none)) else (laws_FnSpoken.j0 k (wrap64 ((wrap64 (t159 * 3906)) + t160)) t163 true)) else (laws_FnSpoken.j0 k (wrap64 ((wrap64 (t159 * 3906)) + t160)) t163 true)) else (laws_FnSpoken.j0 k (wrap64 ((wrap64 (t159 * 3906)) + t160)) t163 true)) else (laws_FnSpoken.j0 k (wrap64 ((wrap64 (t159 * 3906)) + t160)) t163 true)) else (laws_FnSpoken.j0 k (wrap64 ((wrap64 (t159 * 3906)) + t160)) t163 true)) else (laws_FnSpoken.j0 k (wrap64 ((wrap64 (t159 * 3906)) + t160)) t163 true)) else (laws_FnSpoken.j0 k (wrap64 ((wrap64 (t159 * 3906)) + t160)) t163 true))) else (none))) else (none)) else (none)))))) = some r := H
    have A9 := Aside0.mk A90
    clear A90
    replace H := Option.bind_eq_some_iff.mp H
    obtain ⟨⟨t165, t166⟩, A100, H⟩ := H
    replace H : ((impl_ReadNumberWords.f k t163).bind fun bt167 => ((impl_ReadNumberWords.f k t165).bind fun bt169 => ((spec_Decimal.f k (wrap64 ((wrap64 (t159 * 3906)) + t160))).bind fun t171 => (if 2 + t171.size ≤ 9223372036854775807 then (if ((⟨#[120, 32]⟩ : ByteArray) ++ t171).size + 3 ≤ 9223372036854775807 then ((spec_Decimal.f k (wrap64 ((wrap64 (3 * t161)) + t162))).bind fun t172 => (if (((⟨#[120, 32]⟩ : ByteArray) ++ t171) ++ (⟨#[32, 121, 32]⟩ : ByteArray)).size + t172.size ≤ 9223372036854775807 then ((impl_SpeakNumbers.f k ((((⟨#[120, 32]⟩ : ByteArray) ++ t171) ++ (⟨#[32, 121, 32]⟩ : ByteArray)) ++ t172)).bind fun bt173 => (if t164 = true then (if t166 = true then (if bt167.2 = true then (if bt169.2 = true then (if bt173.2 = true then (if bt167.1 = (wrap64 ((wrap64 (t159 * 3906)) + t160)) then (if bt169.1 = (wrap64 ((wrap64 (3 * t161)) + t162)) then (if 2 + t163.size ≤ 9223372036854775807 then (if ((⟨#[120, 32]⟩ : ByteArray) ++ t163).size + 3 ≤ 9223372036854775807 then (if (((⟨#[120, 32]⟩ : ByteArray) ++ t163) ++ (⟨#[32, 121, 32]⟩ : ByteArray)).size + t165.size ≤ 9223372036854775807 then (laws_FnSpoken.j0 k (wrap64 ((wrap64 (t159 * 3906)) + t160)) t163 (bt173.1.toList != ((((⟨#[120, 32]⟩ : ByteArray) ++ t163) ++ (⟨#[32, 121, 32]⟩ : ByteArray)) ++ t165).toList)) else (none)) else (none)) else (none)) else (laws_FnSpoken.j0 k (wrap64 ((wrap64 (t159 * 3906)) + t160)) t163 true)) else (laws_FnSpoken.j0 k (wrap64 ((wrap64 (t159 * 3906)) + t160)) t163 true)) else (laws_FnSpoken.j0 k (wrap64 ((wrap64 (t159 * 3906)) + t160)) t163 true)) else (laws_FnSpoken.j0 k (wrap64 ((wrap64 (t159 * 3906)) + t160)) t163 true)) else (laws_FnSpoken.j0 k (wrap64 ((wrap64 (t159 * 3906)) + t160)) t163 true)) else (laws_FnSpoken.j0 k (wrap64 ((wrap64 (t159 * 3906)) + t160)) t163 true)) else (laws_FnSpoken.j0 k (wrap64 ((wrap64 (t159 * 3906)) + t160)) t163 true))) else (none))) else (none)) else (none))))) = some r := H
    have A10 := Aside0.mk A100
    clear A100
    replace H := Option.bind_eq_some_iff.mp H
    obtain ⟨⟨t167, t168⟩, A110, H⟩ := H
    replace H : ((impl_ReadNumberWords.f k t165).bind fun bt169 => ((spec_Decimal.f k (wrap64 ((wrap64 (t159 * 3906)) + t160))).bind fun t171 => (if 2 + t171.size ≤ 9223372036854775807 then (if ((⟨#[120, 32]⟩ : ByteArray) ++ t171).size + 3 ≤ 9223372036854775807 then ((spec_Decimal.f k (wrap64 ((wrap64 (3 * t161)) + t162))).bind fun t172 => (if (((⟨#[120, 32]⟩ : ByteArray) ++ t171) ++ (⟨#[32, 121, 32]⟩ : ByteArray)).size + t172.size ≤ 9223372036854775807 then ((impl_SpeakNumbers.f k ((((⟨#[120, 32]⟩ : ByteArray) ++ t171) ++ (⟨#[32, 121, 32]⟩ : ByteArray)) ++ t172)).bind fun bt173 => (if t164 = true then (if t166 = true then (if t168 = true then (if bt169.2 = true then (if bt173.2 = true then (if t167 = (wrap64 ((wrap64 (t159 * 3906)) + t160)) then (if bt169.1 = (wrap64 ((wrap64 (3 * t161)) + t162)) then (if 2 + t163.size ≤ 9223372036854775807 then (if ((⟨#[120, 32]⟩ : ByteArray) ++ t163).size + 3 ≤ 9223372036854775807 then (if (((⟨#[120, 32]⟩ : ByteArray) ++ t163) ++ (⟨#[32, 121, 32]⟩ : ByteArray)).size + t165.size ≤ 9223372036854775807 then (laws_FnSpoken.j0 k (wrap64 ((wrap64 (t159 * 3906)) + t160)) t163 (bt173.1.toList != ((((⟨#[120, 32]⟩ : ByteArray) ++ t163) ++ (⟨#[32, 121, 32]⟩ : ByteArray)) ++ t165).toList)) else (none)) else (none)) else (none)) else (laws_FnSpoken.j0 k (wrap64 ((wrap64 (t159 * 3906)) + t160)) t163 true)) else (laws_FnSpoken.j0 k (wrap64 ((wrap64 (t159 * 3906)) + t160)) t163 true)) else (laws_FnSpoken.j0 k (wrap64 ((wrap64 (t159 * 3906)) + t160)) t163 true)) else (laws_FnSpoken.j0 k (wrap64 ((wrap64 (t159 * 3906)) + t160)) t163 true)) else (laws_FnSpoken.j0 k (wrap64 ((wrap64 (t159 * 3906)) + t160)) t163 true)) else (laws_FnSpoken.j0 k (wrap64 ((wrap64 (t159 * 3906)) + t160)) t163 true)) else (laws_FnSpoken.j0 k (wrap64 ((wrap64 (t159 * 3906)) + t160)) t163 true))) else (none))) else (none)) else (none)))) = some r := H
    have A11 := Aside0.mk A110
    clear A110
    replace H := Option.bind_eq_some_iff.mp H
    obtain ⟨⟨t169, t170⟩, A120, H⟩ := H
    replace H : ((spec_Decimal.f k (wrap64 ((wrap64 (t159 * 3906)) + t160))).bind fun t171 => (if 2 + t171.size ≤ 9223372036854775807 then (if ((⟨#[120, 32]⟩ : ByteArray) ++ t171).size + 3 ≤ 9223372036854775807 then ((spec_Decimal.f k (wrap64 ((wrap64 (3 * t161)) + t162))).bind fun t172 => (if (((⟨#[120, 32]⟩ : ByteArray) ++ t171) ++ (⟨#[32, 121, 32]⟩ : ByteArray)).size + t172.size ≤ 9223372036854775807 then ((impl_SpeakNumbers.f k ((((⟨#[120, 32]⟩ : ByteArray) ++ t171) ++ (⟨#[32, 121, 32]⟩ : ByteArray)) ++ t172)).bind fun bt173 => (if t164 = true then (if t166 = true then (if t168 = true then (if t170 = true then (if bt173.2 = true then (if t167 = (wrap64 ((wrap64 (t159 * 3906)) + t160)) then (if t169 = (wrap64 ((wrap64 (3 * t161)) + t162)) then (if 2 + t163.size ≤ 9223372036854775807 then (if ((⟨#[120, 32]⟩ : ByteArray) ++ t163).size + 3 ≤ 9223372036854775807 then (if (((⟨#[120, 32]⟩ : ByteArray) ++ t163) ++ (⟨#[32, 121, 32]⟩ : ByteArray)).size + t165.size ≤ 9223372036854775807 then (laws_FnSpoken.j0 k (wrap64 ((wrap64 (t159 * 3906)) + t160)) t163 (bt173.1.toList != ((((⟨#[120, 32]⟩ : ByteArray) ++ t163) ++ (⟨#[32, 121, 32]⟩ : ByteArray)) ++ t165).toList)) else (none)) else (none)) else (none)) else (laws_FnSpoken.j0 k (wrap64 ((wrap64 (t159 * 3906)) + t160)) t163 true)) else (laws_FnSpoken.j0 k (wrap64 ((wrap64 (t159 * 3906)) + t160)) t163 true)) else (laws_FnSpoken.j0 k (wrap64 ((wrap64 (t159 * 3906)) + t160)) t163 true)) else (laws_FnSpoken.j0 k (wrap64 ((wrap64 (t159 * 3906)) + t160)) t163 true)) else (laws_FnSpoken.j0 k (wrap64 ((wrap64 (t159 * 3906)) + t160)) t163 true)) else (laws_FnSpoken.j0 k (wrap64 ((wrap64 (t159 * 3906)) + t160)) t163 true)) else (laws_FnSpoken.j0 k (wrap64 ((wrap64 (t159 * 3906)) + t160)) t163 true))) else (none))) else (none)) else (none))) = some r := H
    have A12 := Aside0.mk A120
    clear A120
    replace H := Option.bind_eq_some_iff.mp H
    obtain ⟨t171, A130, H⟩ := H
    replace H : (if 2 + t171.size ≤ 9223372036854775807 then (if ((⟨#[120, 32]⟩ : ByteArray) ++ t171).size + 3 ≤ 9223372036854775807 then ((spec_Decimal.f k (wrap64 ((wrap64 (3 * t161)) + t162))).bind fun t172 => (if (((⟨#[120, 32]⟩ : ByteArray) ++ t171) ++ (⟨#[32, 121, 32]⟩ : ByteArray)).size + t172.size ≤ 9223372036854775807 then ((impl_SpeakNumbers.f k ((((⟨#[120, 32]⟩ : ByteArray) ++ t171) ++ (⟨#[32, 121, 32]⟩ : ByteArray)) ++ t172)).bind fun bt173 => (if t164 = true then (if t166 = true then (if t168 = true then (if t170 = true then (if bt173.2 = true then (if t167 = (wrap64 ((wrap64 (t159 * 3906)) + t160)) then (if t169 = (wrap64 ((wrap64 (3 * t161)) + t162)) then (if 2 + t163.size ≤ 9223372036854775807 then (if ((⟨#[120, 32]⟩ : ByteArray) ++ t163).size + 3 ≤ 9223372036854775807 then (if (((⟨#[120, 32]⟩ : ByteArray) ++ t163) ++ (⟨#[32, 121, 32]⟩ : ByteArray)).size + t165.size ≤ 9223372036854775807 then (laws_FnSpoken.j0 k (wrap64 ((wrap64 (t159 * 3906)) + t160)) t163 (bt173.1.toList != ((((⟨#[120, 32]⟩ : ByteArray) ++ t163) ++ (⟨#[32, 121, 32]⟩ : ByteArray)) ++ t165).toList)) else (none)) else (none)) else (none)) else (laws_FnSpoken.j0 k (wrap64 ((wrap64 (t159 * 3906)) + t160)) t163 true)) else (laws_FnSpoken.j0 k (wrap64 ((wrap64 (t159 * 3906)) + t160)) t163 true)) else (laws_FnSpoken.j0 k (wrap64 ((wrap64 (t159 * 3906)) + t160)) t163 true)) else (laws_FnSpoken.j0 k (wrap64 ((wrap64 (t159 * 3906)) + t160)) t163 true)) else (laws_FnSpoken.j0 k (wrap64 ((wrap64 (t159 * 3906)) + t160)) t163 true)) else (laws_FnSpoken.j0 k (wrap64 ((wrap64 (t159 * 3906)) + t160)) t163 true)) else (laws_FnSpoken.j0 k (wrap64 ((wrap64 (t159 * 3906)) + t160)) t163 true))) else (none))) else (none)) else (none)) = some r := H
    have A13 := Aside0.mk A130
    clear A130
    by_cases c14 : 2 + t171.size ≤ 9223372036854775807
    · rw [if_pos c14] at H
      have c14b0 := eq_true c14
      have c14b1 : decide (2 + t171.size ≤ 9223372036854775807) = true := decide_eq_true c14
      try have c14b2 : (9223372036854775807 < 2 + t171.size) = False := eq_false (Nat.not_lt.2 c14)
      by_cases c15 : ((⟨#[120, 32]⟩ : ByteArray) ++ t171).size + 3 ≤ 9223372036854775807
      · rw [if_pos c15] at H
        have c15b0 := eq_true c15
        have c15b1 : decide (((⟨#[120, 32]⟩ : ByteArray) ++ t171).size + 3 ≤ 9223372036854775807) = true := decide_eq_true c15
        try have c15b2 : (9223372036854775807 < ((⟨#[120, 32]⟩ : ByteArray) ++ t171).size + 3) = False := eq_false (Nat.not_lt.2 c15)
        try have c15b3 : (9223372036854775807 < (2 + t171.size) + 3) = False := eq_false (Nat.not_lt.2 (by have h_ := c15; (repeat rw [ByteArray.size_append] at h_); exact h_))
        replace H := Option.bind_eq_some_iff.mp H
        obtain ⟨t172, A160, H⟩ := H
        replace H : (if (((⟨#[120, 32]⟩ : ByteArray) ++ t171) ++ (⟨#[32, 121, 32]⟩ : ByteArray)).size + t172.size ≤ 9223372036854775807 then ((impl_SpeakNumbers.f k ((((⟨#[120, 32]⟩ : ByteArray) ++ t171) ++ (⟨#[32, 121, 32]⟩ : ByteArray)) ++ t172)).bind fun bt173 => (if t164 = true then (if t166 = true then (if t168 = true then (if t170 = true then (if bt173.2 = true then (if t167 = (wrap64 ((wrap64 (t159 * 3906)) + t160)) then (if t169 = (wrap64 ((wrap64 (3 * t161)) + t162)) then (if 2 + t163.size ≤ 9223372036854775807 then (if ((⟨#[120, 32]⟩ : ByteArray) ++ t163).size + 3 ≤ 9223372036854775807 then (if (((⟨#[120, 32]⟩ : ByteArray) ++ t163) ++ (⟨#[32, 121, 32]⟩ : ByteArray)).size + t165.size ≤ 9223372036854775807 then (laws_FnSpoken.j0 k (wrap64 ((wrap64 (t159 * 3906)) + t160)) t163 (bt173.1.toList != ((((⟨#[120, 32]⟩ : ByteArray) ++ t163) ++ (⟨#[32, 121, 32]⟩ : ByteArray)) ++ t165).toList)) else (none)) else (none)) else (none)) else (laws_FnSpoken.j0 k (wrap64 ((wrap64 (t159 * 3906)) + t160)) t163 true)) else (laws_FnSpoken.j0 k (wrap64 ((wrap64 (t159 * 3906)) + t160)) t163 true)) else (laws_FnSpoken.j0 k (wrap64 ((wrap64 (t159 * 3906)) + t160)) t163 true)) else (laws_FnSpoken.j0 k (wrap64 ((wrap64 (t159 * 3906)) + t160)) t163 true)) else (laws_FnSpoken.j0 k (wrap64 ((wrap64 (t159 * 3906)) + t160)) t163 true)) else (laws_FnSpoken.j0 k (wrap64 ((wrap64 (t159 * 3906)) + t160)) t163 true)) else (laws_FnSpoken.j0 k (wrap64 ((wrap64 (t159 * 3906)) + t160)) t163 true))) else (none)) = some r := H
        have A16 := Aside0.mk A160
        clear A160
        by_cases c17 : (((⟨#[120, 32]⟩ : ByteArray) ++ t171) ++ (⟨#[32, 121, 32]⟩ : ByteArray)).size + t172.size ≤ 9223372036854775807
        · rw [if_pos c17] at H
          have c17b0 := eq_true c17
          have c17b1 : decide ((((⟨#[120, 32]⟩ : ByteArray) ++ t171) ++ (⟨#[32, 121, 32]⟩ : ByteArray)).size + t172.size ≤ 9223372036854775807) = true := decide_eq_true c17
          try have c17b2 : (9223372036854775807 < (((⟨#[120, 32]⟩ : ByteArray) ++ t171) ++ (⟨#[32, 121, 32]⟩ : ByteArray)).size + t172.size) = False := eq_false (Nat.not_lt.2 c17)
          try have c17b3 : (9223372036854775807 < ((2 + t171.size) + 3) + t172.size) = False := eq_false (Nat.not_lt.2 (by have h_ := c17; (repeat rw [ByteArray.size_append] at h_); exact h_))
          replace H := Option.bind_eq_some_iff.mp H
          obtain ⟨⟨t173, t174⟩, A180, H⟩ := H
          replace H : (if t164 = true then (if t166 = true then (if t168 = true then (if t170 = true then (if t174 = true then (if t167 = (wrap64 ((wrap64 (t159 * 3906)) + t160)) then (if t169 = (wrap64 ((wrap64 (3 * t161)) + t162)) then (if 2 + t163.size ≤ 9223372036854775807 then (if ((⟨#[120, 32]⟩ : ByteArray) ++ t163).size + 3 ≤ 9223372036854775807 then (if (((⟨#[120, 32]⟩ : ByteArray) ++ t163) ++ (⟨#[32, 121, 32]⟩ : ByteArray)).size + t165.size ≤ 9223372036854775807 then (laws_FnSpoken.j0 k (wrap64 ((wrap64 (t159 * 3906)) + t160)) t163 (t173.toList != ((((⟨#[120, 32]⟩ : ByteArray) ++ t163) ++ (⟨#[32, 121, 32]⟩ : ByteArray)) ++ t165).toList)) else (none)) else (none)) else (none)) else (laws_FnSpoken.j0 k (wrap64 ((wrap64 (t159 * 3906)) + t160)) t163 true)) else (laws_FnSpoken.j0 k (wrap64 ((wrap64 (t159 * 3906)) + t160)) t163 true)) else (laws_FnSpoken.j0 k (wrap64 ((wrap64 (t159 * 3906)) + t160)) t163 true)) else (laws_FnSpoken.j0 k (wrap64 ((wrap64 (t159 * 3906)) + t160)) t163 true)) else (laws_FnSpoken.j0 k (wrap64 ((wrap64 (t159 * 3906)) + t160)) t163 true)) else (laws_FnSpoken.j0 k (wrap64 ((wrap64 (t159 * 3906)) + t160)) t163 true)) else (laws_FnSpoken.j0 k (wrap64 ((wrap64 (t159 * 3906)) + t160)) t163 true)) = some r := H
          have A18 := Aside0.mk A180
          clear A180
          have HC19 := Aside0.mk H
          clear H
          go_enter Tryd.func5, Tryd.ntmps5
          go_upto_region 10 with (first | ((with_reducible refine gate_callee (f := 11) rfl ?_); refine goesL_ (some 25) rfl rfl Tryd.func11 (by kernel_rfl) rfl #[.slice A0 l0.length c0, .slice A1 l1.length c1] rfl (by (try simp only [List.map_toArray, List.map_cons, List.map_nil]); first | done | rfl | (simp only [List.length_drop, List.length_take]; rfl)) ?_; (with_reducible refine (laws_b10Long.calls _ _ l0 _ _ l1 false _ ?side1 ?side2 ?side3 ?side4 A3.out).mono ?_); (case side1 => repeat (first | exact HR0.out | (with_reducible refine Kd.C_alloc ?_ _) | (with_reducible refine Kd.C_drewN ?_ _) | (with_reducible refine Kd.C_drew ?_))); (case side2 => exact HC0.out); (case side3 => repeat (first | exact HR1.out | (with_reducible refine Kd.C_alloc ?_ _) | (with_reducible refine Kd.C_drewN ?_ _) | (with_reducible refine Kd.C_drew ?_))); (case side4 => exact HC1.out); rintro e w' ⟨rfl, ⟨nd, rfl⟩⟩; refine ⟨_, rfl, ?_⟩) | ((with_reducible refine gate_callee (f := 12) rfl ?_); refine goesL_ (some 27) rfl rfl Tryd.func12 (by kernel_rfl) rfl #[.slice A0 l0.length c0, .int .i64 0, .int .i64 256] rfl (by (try simp only [List.map_toArray, List.map_cons, List.map_nil]); first | done | rfl | (simp only [List.length_drop, List.length_take]; rfl)) ?_; (with_reducible refine (laws_b10At.calls _ _ l0 0 256 t159 _ ?side1 ?side2 A5.out).mono ?_); (case side1 => repeat (first | exact HR0.out | (with_reducible refine Kd.C_alloc ?_ _) | (with_reducible refine Kd.C_drewN ?_ _) | (with_reducible refine Kd.C_drew ?_))); (case side2 => exact HC0.out); rintro e w' ⟨rfl, ⟨nd, rfl⟩⟩; refine ⟨_, rfl, ?_⟩) | ((with_reducible refine gate_callee (f := 12) rfl ?_); refine goesL_ (some 30) rfl rfl Tryd.func12 (by kernel_rfl) rfl #[.slice A0 l0.length c0, .int .i64 1, .int .i64 64] rfl (by (try simp only [List.map_toArray, List.map_cons, List.map_nil]); first | done | rfl | (simp only [List.length_drop, List.length_take]; rfl)) ?_; (with_reducible refine (laws_b10At.calls _ _ l0 1 64 t160 _ ?side1 ?side2 A6.out).mono ?_); (case side1 => repeat (first | exact HR0.out | (with_reducible refine Kd.C_alloc ?_ _) | (with_reducible refine Kd.C_drewN ?_ _) | (with_reducible refine Kd.C_drew ?_))); (case side2 => exact HC0.out); rintro e w' ⟨rfl, ⟨nd, rfl⟩⟩; refine ⟨_, rfl, ?_⟩) | ((with_reducible refine gate_callee (f := 12) rfl ?_); refine goesL_ (some 33) rfl rfl Tryd.func12 (by kernel_rfl) rfl #[.slice A1 l1.length c1, .int .i64 0, .int .i64 256] rfl (by (try simp only [List.map_toArray, List.map_cons, List.map_nil]); first | done | rfl | (simp only [List.length_drop, List.length_take]; rfl)) ?_; (with_reducible refine (laws_b10At.calls _ _ l1 0 256 t161 _ ?side1 ?side2 A7.out).mono ?_); (case side1 => repeat (first | exact HR1.out | (with_reducible refine Kd.C_alloc ?_ _) | (with_reducible refine Kd.C_drewN ?_ _) | (with_reducible refine Kd.C_drew ?_))); (case side2 => exact HC1.out); rintro e w' ⟨rfl, ⟨nd, rfl⟩⟩; refine ⟨_, rfl, ?_⟩) | ((with_reducible refine gate_callee (f := 12) rfl ?_); refine goesL_ (some 36) rfl rfl Tryd.func12 (by kernel_rfl) rfl #[.slice A1 l1.length c1, .int .i64 1, .int .i64 200] rfl (by (try simp only [List.map_toArray, List.map_cons, List.map_nil]); first | done | rfl | (simp only [List.length_drop, List.length_take]; rfl)) ?_; (with_reducible refine (laws_b10At.calls _ _ l1 1 200 t162 _ ?side1 ?side2 A8.out).mono ?_); (case side1 => repeat (first | exact HR1.out | (with_reducible refine Kd.C_alloc ?_ _) | (with_reducible refine Kd.C_drewN ?_ _) | (with_reducible refine Kd.C_drew ?_))); (case side2 => exact HC1.out); rintro e w' ⟨rfl, ⟨nd, rfl⟩⟩; refine ⟨_, rfl, ?_⟩) | ((with_reducible refine gate_callee (f := 8) rfl ?_); refine goesL_ (some 40) rfl rfl Tryd.func8 (by kernel_rfl) rfl #[.int .i64 (wrap64 ((wrap64 (t159 * 3906)) + t160))] rfl (by (try simp only [List.map_toArray, List.map_cons, List.map_nil]); first | done | rfl | (simp only [List.length_drop, List.length_take]; rfl)) ?_; (with_reducible refine (impl_NumberWords.calls (wrap64 ((wrap64 (t159 * 3906)) + t160)) t163 t164 _ ?side1 A9.out).mono ?_); (case side1 => repeat (first | exact HT_.out | (with_reducible refine GLs_alloc ?_ _) | (with_reducible refine GLs_drewN ?_ _) | (with_reducible refine GLs_drew ?_))); rintro e w' ⟨rfl, ⟨nd, rfl⟩⟩; refine ⟨_, rfl, ?_⟩) | ((with_reducible refine gate_callee (f := 8) rfl ?_); refine goesL_ (some 45) rfl rfl Tryd.func8 (by kernel_rfl) rfl #[.int .i64 (wrap64 ((wrap64 (3 * t161)) + t162))] rfl (by (try simp only [List.map_toArray, List.map_cons, List.map_nil]); first | done | rfl | (simp only [List.length_drop, List.length_take]; rfl)) ?_; (with_reducible refine (impl_NumberWords.calls (wrap64 ((wrap64 (3 * t161)) + t162)) t165 t166 _ ?side1 A10.out).mono ?_); (case side1 => repeat (first | exact HT_.out | (with_reducible refine GLs_alloc ?_ _) | (with_reducible refine GLs_drewN ?_ _) | (with_reducible refine GLs_drew ?_))); rintro e w' ⟨rfl, ⟨nd, rfl⟩⟩; refine ⟨_, rfl, ?_⟩) | ((with_reducible refine gate_callee (f := 10) rfl ?_); refine goesL_ (some 50) rfl rfl Tryd.func10 (by kernel_rfl) rfl #[.string t163] rfl (by (try simp only [List.map_toArray, List.map_cons, List.map_nil]); first | done | rfl | (simp only [List.length_drop, List.length_take]; rfl)) ?_; (with_reducible refine (impl_ReadNumberWords.calls k t163 t167 t168 _ ?side1 A11.out).mono ?_); (case side1 => repeat (first | exact HT_.out | (with_reducible refine GLs_alloc ?_ _) | (with_reducible refine GLs_drewN ?_ _) | (with_reducible refine GLs_drew ?_))); rintro e w' ⟨rfl, ⟨nd, rfl⟩⟩; refine ⟨_, rfl, ?_⟩) | ((with_reducible refine gate_callee (f := 10) rfl ?_); refine goesL_ (some 55) rfl rfl Tryd.func10 (by kernel_rfl) rfl #[.string t165] rfl (by (try simp only [List.map_toArray, List.map_cons, List.map_nil]); first | done | rfl | (simp only [List.length_drop, List.length_take]; rfl)) ?_; (with_reducible refine (impl_ReadNumberWords.calls k t165 t169 t170 _ ?side1 A12.out).mono ?_); (case side1 => repeat (first | exact HT_.out | (with_reducible refine GLs_alloc ?_ _) | (with_reducible refine GLs_drewN ?_ _) | (with_reducible refine GLs_drew ?_))); rintro e w' ⟨rfl, ⟨nd, rfl⟩⟩; refine ⟨_, rfl, ?_⟩) | ((with_reducible refine gate_callee (f := 14) rfl ?_); refine goesL_ (some 60) rfl rfl Tryd.func14 (by kernel_rfl) rfl #[.int .i64 (wrap64 ((wrap64 (t159 * 3906)) + t160))] rfl (by (try simp only [List.map_toArray, List.map_cons, List.map_nil]); first | done | rfl | (simp only [List.length_drop, List.length_take]; rfl)) ?_; (with_reducible refine (spec_Decimal.calls k (wrap64 ((wrap64 (t159 * 3906)) + t160)) t171 _ A13.out).mono ?_); rintro e w20 ⟨rfl, hb⟩; refine ⟨_, rfl, ?_⟩; have n0_ := Aside0.mk (below_step (by repeat (first | (with_reducible first | exact HB.out | apply below_alloc | apply pw_below_drewN | apply below_drew1) | exact HB.out)) hb); clear HB; have HB := n0_; clear n0_; (try clear hb); (try clear hb2); (try clear hk); (try clear hi)) | ((with_reducible refine gate_callee (f := 14) rfl ?_); refine goesL_ (some 64) rfl rfl Tryd.func14 (by kernel_rfl) rfl #[.int .i64 (wrap64 ((wrap64 (3 * t161)) + t162))] rfl (by (try simp only [List.map_toArray, List.map_cons, List.map_nil]); first | done | rfl | (simp only [List.length_drop, List.length_take]; rfl)) ?_; (with_reducible refine (spec_Decimal.calls k (wrap64 ((wrap64 (3 * t161)) + t162)) t172 _ A16.out).mono ?_); rintro e w21 ⟨rfl, hb⟩; refine ⟨_, rfl, ?_⟩; have n0_ := Aside0.mk (below_step (by repeat (first | (with_reducible first | exact HB.out | apply below_alloc | apply pw_below_drewN | apply below_drew1) | exact HB.out)) hb); clear HB; have HB := n0_; clear n0_; (try clear hb); (try clear hb2); (try clear hk); (try clear hi)) | ((with_reducible refine gate_callee (f := 13) rfl ?_); refine goesL_ (some 66) rfl rfl Tryd.func13 (by kernel_rfl) rfl #[.string ((((⟨#[120, 32]⟩ : ByteArray) ++ t171) ++ (⟨#[32, 121, 32]⟩ : ByteArray)) ++ t172)] rfl (by (try simp only [List.map_toArray, List.map_cons, List.map_nil]); first | done | rfl | (simp only [List.length_drop, List.length_take]; rfl)) ?_; (with_reducible refine (impl_SpeakNumbers.calls k ((((⟨#[120, 32]⟩ : ByteArray) ++ t171) ++ (⟨#[32, 121, 32]⟩ : ByteArray)) ++ t172) t173 t174 _ ?side1 A18.out).mono ?_); (case side1 => repeat (first | exact (GLs_below HT_.out HB.out) | (with_reducible refine GLs_alloc ?_ _) | (with_reducible refine GLs_drewN ?_ _) | (with_reducible refine GLs_drew ?_))); rintro e w22 ⟨rfl, hb⟩; refine ⟨_, rfl, ?_⟩; have n0_ := Aside0.mk (below_step (by repeat (first | (with_reducible first | exact HB.out | apply below_alloc | apply pw_below_drewN | apply below_drew1) | exact HB.out)) hb); clear HB; have HB := n0_; clear n0_; (try clear hb); (try clear hb2); (try clear hk); (try clear hi)))
          (try simp only [Act.put, List.setIfInBounds_toArray, List.set_cons_zero, List.set_cons_succ])
          go_cut [105] (fun v105 wc => ∃ (kq : Nat) (x105_18 : Bool), v105 = .bool x105_18 ∧ Aside0 (laws_FnSpoken.j0 kq (wrap64 ((wrap64 (t159 * 3906)) + t160)) t163 x105_18 = some r) ∧ Aside0 (kq ≤ k) ∧ Aside0 (Below w.heap.size w wc))
          case first =>
            have H := HC19.out
            clear HC19
            by_cases c23 : t164 = true
            · subst c23
              have H1 : (if t166 = true then (if t168 = true then (if t170 = true then (if t174 = true then (if t167 = (wrap64 ((wrap64 (t159 * 3906)) + t160)) then (if t169 = (wrap64 ((wrap64 (3 * t161)) + t162)) then (if 2 + t163.size ≤ 9223372036854775807 then (if ((⟨#[120, 32]⟩ : ByteArray) ++ t163).size + 3 ≤ 9223372036854775807 then (if (((⟨#[120, 32]⟩ : ByteArray) ++ t163) ++ (⟨#[32, 121, 32]⟩ : ByteArray)).size + t165.size ≤ 9223372036854775807 then (laws_FnSpoken.j0 k (wrap64 ((wrap64 (t159 * 3906)) + t160)) t163 (t173.toList != ((((⟨#[120, 32]⟩ : ByteArray) ++ t163) ++ (⟨#[32, 121, 32]⟩ : ByteArray)) ++ t165).toList)) else (none)) else (none)) else (none)) else (laws_FnSpoken.j0 k (wrap64 ((wrap64 (t159 * 3906)) + t160)) t163 true)) else (laws_FnSpoken.j0 k (wrap64 ((wrap64 (t159 * 3906)) + t160)) t163 true)) else (laws_FnSpoken.j0 k (wrap64 ((wrap64 (t159 * 3906)) + t160)) t163 true)) else (laws_FnSpoken.j0 k (wrap64 ((wrap64 (t159 * 3906)) + t160)) t163 true)) else (laws_FnSpoken.j0 k (wrap64 ((wrap64 (t159 * 3906)) + t160)) t163 true)) else (laws_FnSpoken.j0 k (wrap64 ((wrap64 (t159 * 3906)) + t160)) t163 true)) = some r := by rw [if_pos rfl] at H; exact H
              clear H
              have H := H1
              clear H1
              by_cases c24 : t166 = true
              · subst c24
                have H1 : (if t168 = true then (if t170 = true then (if t174 = true then (if t167 = (wrap64 ((wrap64 (t159 * 3906)) + t160)) then (if t169 = (wrap64 ((wrap64 (3 * t161)) + t162)) then (if 2 + t163.size ≤ 9223372036854775807 then (if ((⟨#[120, 32]⟩ : ByteArray) ++ t163).size + 3 ≤ 9223372036854775807 then (if (((⟨#[120, 32]⟩ : ByteArray) ++ t163) ++ (⟨#[32, 121, 32]⟩ : ByteArray)).size + t165.size ≤ 9223372036854775807 then (laws_FnSpoken.j0 k (wrap64 ((wrap64 (t159 * 3906)) + t160)) t163 (t173.toList != ((((⟨#[120, 32]⟩ : ByteArray) ++ t163) ++ (⟨#[32, 121, 32]⟩ : ByteArray)) ++ t165).toList)) else (none)) else (none)) else (none)) else (laws_FnSpoken.j0 k (wrap64 ((wrap64 (t159 * 3906)) + t160)) t163 true)) else (laws_FnSpoken.j0 k (wrap64 ((wrap64 (t159 * 3906)) + t160)) t163 true)) else (laws_FnSpoken.j0 k (wrap64 ((wrap64 (t159 * 3906)) + t160)) t163 true)) else (laws_FnSpoken.j0 k (wrap64 ((wrap64 (t159 * 3906)) + t160)) t163 true)) else (laws_FnSpoken.j0 k (wrap64 ((wrap64 (t159 * 3906)) + t160)) t163 true)) = some r := by rw [if_pos rfl] at H; exact H
                clear H
                have H := H1
                clear H1
                by_cases c25 : t168 = true
                · subst c25
                  have H1 : (if t170 = true then (if t174 = true then (if t167 = (wrap64 ((wrap64 (t159 * 3906)) + t160)) then (if t169 = (wrap64 ((wrap64 (3 * t161)) + t162)) then (if 2 + t163.size ≤ 9223372036854775807 then (if ((⟨#[120, 32]⟩ : ByteArray) ++ t163).size + 3 ≤ 9223372036854775807 then (if (((⟨#[120, 32]⟩ : ByteArray) ++ t163) ++ (⟨#[32, 121, 32]⟩ : ByteArray)).size + t165.size ≤ 9223372036854775807 then (laws_FnSpoken.j0 k (wrap64 ((wrap64 (t159 * 3906)) + t160)) t163 (t173.toList != ((((⟨#[120, 32]⟩ : ByteArray) ++ t163) ++ (⟨#[32, 121, 32]⟩ : ByteArray)) ++ t165).toList)) else (none)) else (none)) else (none)) else (laws_FnSpoken.j0 k (wrap64 ((wrap64 (t159 * 3906)) + t160)) t163 true)) else (laws_FnSpoken.j0 k (wrap64 ((wrap64 (t159 * 3906)) + t160)) t163 true)) else (laws_FnSpoken.j0 k (wrap64 ((wrap64 (t159 * 3906)) + t160)) t163 true)) else (laws_FnSpoken.j0 k (wrap64 ((wrap64 (t159 * 3906)) + t160)) t163 true)) = some r := by rw [if_pos rfl] at H; exact H
                  clear H
                  have H := H1
                  clear H1
                  by_cases c26 : t170 = true
                  · subst c26
                    have H1 : (if t174 = true then (if t167 = (wrap64 ((wrap64 (t159 * 3906)) + t160)) then (if t169 = (wrap64 ((wrap64 (3 * t161)) + t162)) then (if 2 + t163.size ≤ 9223372036854775807 then (if ((⟨#[120, 32]⟩ : ByteArray) ++ t163).size + 3 ≤ 9223372036854775807 then (if (((⟨#[120, 32]⟩ : ByteArray) ++ t163) ++ (⟨#[32, 121, 32]⟩ : ByteArray)).size + t165.size ≤ 9223372036854775807 then (laws_FnSpoken.j0 k (wrap64 ((wrap64 (t159 * 3906)) + t160)) t163 (t173.toList != ((((⟨#[120, 32]⟩ : ByteArray) ++ t163) ++ (⟨#[32, 121, 32]⟩ : ByteArray)) ++ t165).toList)) else (none)) else (none)) else (none)) else (laws_FnSpoken.j0 k (wrap64 ((wrap64 (t159 * 3906)) + t160)) t163 true)) else (laws_FnSpoken.j0 k (wrap64 ((wrap64 (t159 * 3906)) + t160)) t163 true)) else (laws_FnSpoken.j0 k (wrap64 ((wrap64 (t159 * 3906)) + t160)) t163 true)) = some r := by rw [if_pos rfl] at H; exact H
                    clear H
                    have H := H1
                    clear H1
                    by_cases c27 : t174 = true
                    · subst c27
                      have H1 : (if t167 = (wrap64 ((wrap64 (t159 * 3906)) + t160)) then (if t169 = (wrap64 ((wrap64 (3 * t161)) + t162)) then (if 2 + t163.size ≤ 9223372036854775807 then (if ((⟨#[120, 32]⟩ : ByteArray) ++ t163).size + 3 ≤ 9223372036854775807 then (if (((⟨#[120, 32]⟩ : ByteArray) ++ t163) ++ (⟨#[32, 121, 32]⟩ : ByteArray)).size + t165.size ≤ 9223372036854775807 then (laws_FnSpoken.j0 k (wrap64 ((wrap64 (t159 * 3906)) + t160)) t163 (t173.toList != ((((⟨#[120, 32]⟩ : ByteArray) ++ t163) ++ (⟨#[32, 121, 32]⟩ : ByteArray)) ++ t165).toList)) else (none)) else (none)) else (none)) else (laws_FnSpoken.j0 k (wrap64 ((wrap64 (t159 * 3906)) + t160)) t163 true)) else (laws_FnSpoken.j0 k (wrap64 ((wrap64 (t159 * 3906)) + t160)) t163 true)) = some r := by rw [if_pos rfl] at H; exact H
                      clear H
                      have H := H1
                      clear H1
                      by_cases c28 : t167 = (wrap64 ((wrap64 (t159 * 3906)) + t160))
                      · rw [if_pos c28] at H
                        have c28b0 : (t167 == (wrap64 ((wrap64 (t159 * 3906)) + t160))) = true := beq_iff_eq.mpr c28
                        have c28b1 : (t167 != (wrap64 ((wrap64 (t159 * 3906)) + t160))) = false := bne_eq_false_iff_eq.mpr c28
                        clear c28
                        (first | rw [c28b0] | (simp only [i64_w, i32_w]; rw [c28b0]) | skip)
                        by_cases c29 : t169 = (wrap64 ((wrap64 (3 * t161)) + t162))
                        · rw [if_pos c29] at H
                          have c29b0 : (t169 == (wrap64 ((wrap64 (3 * t161)) + t162))) = true := beq_iff_eq.mpr c29
                          have c29b1 : (t169 != (wrap64 ((wrap64 (3 * t161)) + t162))) = false := bne_eq_false_iff_eq.mpr c29
                          clear c29
                          by_cases c30 : 2 + t163.size ≤ 9223372036854775807
                          · rw [if_pos c30] at H
                            have c30b0 := eq_true c30
                            have c30b1 : decide (2 + t163.size ≤ 9223372036854775807) = true := decide_eq_true c30
                            try have c30b2 : (9223372036854775807 < 2 + t163.size) = False := eq_false (Nat.not_lt.2 c30)
                            by_cases c31 : ((⟨#[120, 32]⟩ : ByteArray) ++ t163).size + 3 ≤ 9223372036854775807
                            · rw [if_pos c31] at H
                              have c31b0 := eq_true c31
                              have c31b1 : decide (((⟨#[120, 32]⟩ : ByteArray) ++ t163).size + 3 ≤ 9223372036854775807) = true := decide_eq_true c31
                              try have c31b2 : (9223372036854775807 < ((⟨#[120, 32]⟩ : ByteArray) ++ t163).size + 3) = False := eq_false (Nat.not_lt.2 c31)
                              try have c31b3 : (9223372036854775807 < (2 + t163.size) + 3) = False := eq_false (Nat.not_lt.2 (by have h_ := c31; (repeat rw [ByteArray.size_append] at h_); exact h_))
                              by_cases c32 : (((⟨#[120, 32]⟩ : ByteArray) ++ t163) ++ (⟨#[32, 121, 32]⟩ : ByteArray)).size + t165.size ≤ 9223372036854775807
                              · rw [if_pos c32] at H
                                have c32b0 := eq_true c32
                                have c32b1 : decide ((((⟨#[120, 32]⟩ : ByteArray) ++ t163) ++ (⟨#[32, 121, 32]⟩ : ByteArray)).size + t165.size ≤ 9223372036854775807) = true := decide_eq_true c32
                                try have c32b2 : (9223372036854775807 < (((⟨#[120, 32]⟩ : ByteArray) ++ t163) ++ (⟨#[32, 121, 32]⟩ : ByteArray)).size + t165.size) = False := eq_false (Nat.not_lt.2 c32)
                                try have c32b3 : (9223372036854775807 < ((2 + t163.size) + 3) + t165.size) = False := eq_false (Nat.not_lt.2 (by have h_ := c32; (repeat rw [ByteArray.size_append] at h_); exact h_))
                                have H' := Aside0.mk H
                                clear H
                                go_wp2
                                go_meet
                                case rel => exact ⟨_, ((t173.toList != ((((⟨#[120, 32]⟩ : ByteArray) ++ t163) ++ (⟨#[32, 121, 32]⟩ : ByteArray)) ++ t165).toList)), (by first | rfl | (simp; done) | (simp [*]; done)), H', ⟨by first | omega | exact Nat.le_refl _⟩, ⟨by repeat (first | (with_reducible first | exact HB.out | apply below_alloc | apply pw_below_drewN | apply below_drew1) | exact HB.out)⟩⟩
                              · rw [if_neg c32] at H
                                exact absurd H (by simp)
                            · rw [if_neg c31] at H
                              exact absurd H (by simp)
                          · rw [if_neg c30] at H
                            exact absurd H (by simp)
                        · rw [if_neg c29] at H
                          have c29b0 : (t169 == (wrap64 ((wrap64 (3 * t161)) + t162))) = false := beq_eq_false_iff_ne.mpr c29
                          have c29b1 : (t169 != (wrap64 ((wrap64 (3 * t161)) + t162))) = true := bne_iff_ne.mpr c29
                          have H' := Aside0.mk H
                          clear H
                          go_wp2
                          go_meet
                          case rel => exact ⟨_, (true), (by first | rfl | (simp; done) | (simp [*]; done)), H', ⟨by first | omega | exact Nat.le_refl _⟩, ⟨by repeat (first | (with_reducible first | exact HB.out | apply below_alloc | apply pw_below_drewN | apply below_drew1) | exact HB.out)⟩⟩
                      · rw [if_neg c28] at H
                        have c28b0 : (t167 == (wrap64 ((wrap64 (t159 * 3906)) + t160))) = false := beq_eq_false_iff_ne.mpr c28
                        have c28b1 : (t167 != (wrap64 ((wrap64 (t159 * 3906)) + t160))) = true := bne_iff_ne.mpr c28
                        (first | rw [c28b0] | (simp only [i64_w, i32_w]; rw [c28b0]) | skip)
                        have H' := Aside0.mk H
                        clear H
                        go_wp2
                        go_meet
                        case rel => exact ⟨_, (true), (by first | rfl | (simp; done) | (simp [*]; done)), H', ⟨by first | omega | exact Nat.le_refl _⟩, ⟨by repeat (first | (with_reducible first | exact HB.out | apply below_alloc | apply pw_below_drewN | apply below_drew1) | exact HB.out)⟩⟩
                    · replace c27 := Bool.eq_false_iff.mpr c27
                      subst c27
                      have H1 : (laws_FnSpoken.j0 k (wrap64 ((wrap64 (t159 * 3906)) + t160)) t163 true) = some r := by rw [if_neg (show ¬ (false = true) by decide)] at H; exact H
                      clear H
                      have H := H1
                      clear H1
                      have H' := Aside0.mk H
                      clear H
                      go_wp2
                      go_meet
                      case rel => exact ⟨_, (true), (by first | rfl | (simp; done) | (simp [*]; done)), H', ⟨by first | omega | exact Nat.le_refl _⟩, ⟨by repeat (first | (with_reducible first | exact HB.out | apply below_alloc | apply pw_below_drewN | apply below_drew1) | exact HB.out)⟩⟩
                  · replace c26 := Bool.eq_false_iff.mpr c26
                    subst c26
                    have H1 : (laws_FnSpoken.j0 k (wrap64 ((wrap64 (t159 * 3906)) + t160)) t163 true) = some r := by rw [if_neg (show ¬ (false = true) by decide)] at H; exact H
                    clear H
                    have H := H1
                    clear H1
                    have H' := Aside0.mk H
                    clear H
                    go_wp2
                    go_meet
                    case rel => exact ⟨_, (true), (by first | rfl | (simp; done) | (simp [*]; done)), H', ⟨by first | omega | exact Nat.le_refl _⟩, ⟨by repeat (first | (with_reducible first | exact HB.out | apply below_alloc | apply pw_below_drewN | apply below_drew1) | exact HB.out)⟩⟩
                · replace c25 := Bool.eq_false_iff.mpr c25
                  subst c25
                  have H1 : (laws_FnSpoken.j0 k (wrap64 ((wrap64 (t159 * 3906)) + t160)) t163 true) = some r := by rw [if_neg (show ¬ (false = true) by decide)] at H; exact H
                  clear H
                  have H := H1
                  clear H1
                  have H' := Aside0.mk H
                  clear H
                  go_wp2
                  go_meet
                  case rel => exact ⟨_, (true), (by first | rfl | (simp; done) | (simp [*]; done)), H', ⟨by first | omega | exact Nat.le_refl _⟩, ⟨by repeat (first | (with_reducible first | exact HB.out | apply below_alloc | apply pw_below_drewN | apply below_drew1) | exact HB.out)⟩⟩
              · replace c24 := Bool.eq_false_iff.mpr c24
                subst c24
                have H1 : (laws_FnSpoken.j0 k (wrap64 ((wrap64 (t159 * 3906)) + t160)) t163 true) = some r := by rw [if_neg (show ¬ (false = true) by decide)] at H; exact H
                clear H
                have H := H1
                clear H1
                have H' := Aside0.mk H
                clear H
                go_wp2
                go_meet
                case rel => exact ⟨_, (true), (by first | rfl | (simp; done) | (simp [*]; done)), H', ⟨by first | omega | exact Nat.le_refl _⟩, ⟨by repeat (first | (with_reducible first | exact HB.out | apply below_alloc | apply pw_below_drewN | apply below_drew1) | exact HB.out)⟩⟩
            · replace c23 := Bool.eq_false_iff.mpr c23
              subst c23
              have H1 : (laws_FnSpoken.j0 k (wrap64 ((wrap64 (t159 * 3906)) + t160)) t163 true) = some r := by rw [if_neg (show ¬ (false = true) by decide)] at H; exact H
              clear H
              have H := H1
              clear H1
              have H' := Aside0.mk H
              clear H
              go_wp2
              go_meet
              case rel => exact ⟨_, (true), (by first | rfl | (simp; done) | (simp [*]; done)), H', ⟨by first | omega | exact Nat.le_refl _⟩, ⟨by repeat (first | (with_reducible first | exact HB.out | apply below_alloc | apply pw_below_drewN | apply below_drew1) | exact HB.out)⟩⟩
          case rest =>
            clear HC19
            try clear c1
            try clear c2
            try clear p2
            try clear c3
            try clear c4
            try clear c5
            try clear p6
            try clear c8
            try clear c10
            try clear c11
            try clear c12
            try clear c13
            try clear c14
            try clear c14b0
            try clear c14b1
            try clear c14b2
            try clear c15
            try clear c15b0
            try clear c15b1
            try clear c15b2
            try clear c17
            try clear c17b0
            try clear c17b1
            try clear c17b2
            try clear c23
            try clear c24
            try clear c25
            try clear c26
            try clear c27
            try clear c28
            try clear c28b0
            try clear c28b1
            try clear c29
            try clear c29b0
            try clear c29b1
            try clear c30
            try clear c30b0
            try clear c30b1
            try clear c30b2
            try clear c31
            try clear c31b0
            try clear c31b1
            try clear c31b2
            try clear c32
            try clear c32b0
            try clear c32b1
            try clear c32b2
            obtain ⟨kq, x105_18, rfl, HA, HJ18, HB⟩ := hcut
            cases kq with
            | zero => exact absurd HA.out (by simp [laws_FnSpoken.j0])
            | succ kj18 =>
              have H := HA.out
              clear HA
              simp only [laws_FnSpoken.j0] at H
              by_cases c33 : x105_18 = true
              · subst c33
                have H1 : (some false) = some r := by rw [if_pos rfl] at H; exact H
                clear H
                have H := H1
                clear H1
                obtain rfl := Option.some.inj H
                go_wp2
                go_ret
                exact ⟨by first | rfl | (simp [errW_none, errW_some] <;> rfl) | (simp [*, errW_none, errW_some] <;> rfl), by repeat (first | (with_reducible first | exact HB.out | apply below_alloc | apply pw_below_drewN | apply below_drew1) | exact HB.out)⟩
              · replace c33 := Bool.eq_false_iff.mpr c33
                subst c33
                have H1 : (if t163.size + 5 ≤ 9223372036854775807 then ((impl_ReadNumberWords.f kj18 (t163 ++ (⟨#[32, 122, 101, 114, 111]⟩ : ByteArray))).bind fun bt175 => ((impl_NumberWords.f (wrap64 ((-1) - (wrap64 ((wrap64 (t159 * 3906)) + t160))))).bind fun bt177 => ((impl_SpeakNumbers.f kj18 t163).bind fun bt179 => (if bt175.2 = true then (some false) else (if bt177.2 = true then (some false) else (if bt179.2 = true then (some (bt179.1.toList == t163.toList)) else (some false))))))) else (none)) = some r := by rw [if_neg (show ¬ (false = true) by decide)] at H; exact H
                clear H
                have H := H1
                clear H1
                by_cases c34 : t163.size + 5 ≤ 9223372036854775807
                · rw [if_pos c34] at H
                  have c34b0 := eq_true c34
                  have c34b1 : decide (t163.size + 5 ≤ 9223372036854775807) = true := decide_eq_true c34
                  try have c34b2 : (9223372036854775807 < t163.size + 5) = False := eq_false (Nat.not_lt.2 c34)
                  replace H := Option.bind_eq_some_iff.mp H
                  obtain ⟨⟨t175, t176⟩, A350, H⟩ := H
                  replace H : ((impl_NumberWords.f (wrap64 ((-1) - (wrap64 ((wrap64 (t159 * 3906)) + t160))))).bind fun bt177 => ((impl_SpeakNumbers.f kj18 t163).bind fun bt179 => (if t176 = true then (some false) else (if bt177.2 = true then (some false) else (if bt179.2 = true then (some (bt179.1.toList == t163.toList)) else (some false)))))) = some r := H
                  have A35 := Aside0.mk A350
                  clear A350
                  replace H := Option.bind_eq_some_iff.mp H
                  obtain ⟨⟨t177, t178⟩, A360, H⟩ := H
                  replace H : ((impl_SpeakNumbers.f kj18 t163).bind fun bt179 => (if t176 = true then (some false) else (if t178 = true then (some false) else (if bt179.2 = true then (some (bt179.1.toList == t163.toList)) else (some false))))) = some r := H
                  have A36 := Aside0.mk A360
                  clear A360
                  replace H := Option.bind_eq_some_iff.mp H
                  obtain ⟨⟨t179, t180⟩, A370, H⟩ := H
                  replace H : (if t176 = true then (some false) else (if t178 = true then (some false) else (if t180 = true then (some (t179.toList == t163.toList)) else (some false)))) = some r := H
                  have A37 := Aside0.mk A370
                  clear A370
                  by_cases c38 : t176 = true
                  · subst c38
                    have H1 : (some false) = some r := by rw [if_pos rfl] at H; exact H
                    clear H
                    have H := H1
                    clear H1
                    obtain rfl := Option.some.inj H
                    go_wp2_with (first | ((with_reducible refine gate_callee (f := 10) rfl ?_); refine goesL_ (some 109) rfl rfl Tryd.func10 (by kernel_rfl) rfl #[.string (t163 ++ (⟨#[32, 122, 101, 114, 111]⟩ : ByteArray))] rfl (by (try simp only [List.map_toArray, List.map_cons, List.map_nil]); first | done | rfl | (simp only [List.length_drop, List.length_take]; rfl)) ?_; (with_reducible refine (impl_ReadNumberWords.calls kj18 (t163 ++ (⟨#[32, 122, 101, 114, 111]⟩ : ByteArray)) t175 true _ ?side1 A35.out).mono ?_); (case side1 => repeat (first | exact (GLs_below HT_.out HB.out) | (with_reducible refine GLs_alloc ?_ _) | (with_reducible refine GLs_drewN ?_ _) | (with_reducible refine GLs_drew ?_))); rintro e w' ⟨rfl, ⟨nd, rfl⟩⟩; refine ⟨_, rfl, ?_⟩) | ((with_reducible refine gate_callee (f := 8) rfl ?_); refine goesL_ (some 115) rfl rfl Tryd.func8 (by kernel_rfl) rfl #[.int .i64 (wrap64 ((-1) - (wrap64 ((wrap64 (t159 * 3906)) + t160))))] rfl (by (try simp only [List.map_toArray, List.map_cons, List.map_nil]); first | done | rfl | (simp only [List.length_drop, List.length_take]; rfl)) ?_; (with_reducible refine (impl_NumberWords.calls (wrap64 ((-1) - (wrap64 ((wrap64 (t159 * 3906)) + t160)))) t177 t178 _ ?side1 A36.out).mono ?_); (case side1 => repeat (first | exact (GLs_below HT_.out (by repeat (first | (with_reducible first | exact HB.out | apply below_alloc | apply pw_below_drewN | apply below_drew1) | exact HB.out))) | (with_reducible refine GLs_alloc ?_ _) | (with_reducible refine GLs_drewN ?_ _) | (with_reducible refine GLs_drew ?_))); rintro e w' ⟨rfl, ⟨nd, rfl⟩⟩; refine ⟨_, rfl, ?_⟩) | ((with_reducible refine gate_callee (f := 13) rfl ?_); refine goesL_ (some 120) rfl rfl Tryd.func13 (by kernel_rfl) rfl #[.string t163] rfl (by (try simp only [List.map_toArray, List.map_cons, List.map_nil]); first | done | rfl | (simp only [List.length_drop, List.length_take]; rfl)) ?_; (with_reducible refine (impl_SpeakNumbers.calls kj18 t163 t179 t180 _ ?side1 A37.out).mono ?_); (case side1 => repeat (first | exact (GLs_below HT_.out (by repeat (first | (with_reducible first | exact HB.out | apply below_alloc | apply pw_below_drewN | apply below_drew1) | exact HB.out))) | (with_reducible refine GLs_alloc ?_ _) | (with_reducible refine GLs_drewN ?_ _) | (with_reducible refine GLs_drew ?_))); rintro e w39 ⟨rfl, hb⟩; refine ⟨_, rfl, ?_⟩; have n0_ := Aside0.mk (below_step (by repeat (first | (with_reducible first | exact HB.out | apply below_alloc | apply pw_below_drewN | apply below_drew1) | exact HB.out)) hb); clear HB; have HB := n0_; clear n0_; (try clear hb); (try clear hb2); (try clear hk); (try clear hi)))
                    go_ret
                    exact ⟨by first | rfl | (simp [errW_none, errW_some] <;> rfl) | (simp [*, errW_none, errW_some] <;> rfl), by repeat (first | (with_reducible first | exact HB.out | apply below_alloc | apply pw_below_drewN | apply below_drew1) | exact HB.out)⟩
                  · replace c38 := Bool.eq_false_iff.mpr c38
                    subst c38
                    have H1 : (if t178 = true then (some false) else (if t180 = true then (some (t179.toList == t163.toList)) else (some false))) = some r := by rw [if_neg (show ¬ (false = true) by decide)] at H; exact H
                    clear H
                    have H := H1
                    clear H1
                    by_cases c40 : t178 = true
                    · subst c40
                      have H1 : (some false) = some r := by rw [if_pos rfl] at H; exact H
                      clear H
                      have H := H1
                      clear H1
                      obtain rfl := Option.some.inj H
                      go_wp2_with (first | ((with_reducible refine gate_callee (f := 10) rfl ?_); refine goesL_ (some 109) rfl rfl Tryd.func10 (by kernel_rfl) rfl #[.string (t163 ++ (⟨#[32, 122, 101, 114, 111]⟩ : ByteArray))] rfl (by (try simp only [List.map_toArray, List.map_cons, List.map_nil]); first | done | rfl | (simp only [List.length_drop, List.length_take]; rfl)) ?_; (with_reducible refine (impl_ReadNumberWords.calls kj18 (t163 ++ (⟨#[32, 122, 101, 114, 111]⟩ : ByteArray)) t175 false _ ?side1 A35.out).mono ?_); (case side1 => repeat (first | exact (GLs_below HT_.out HB.out) | (with_reducible refine GLs_alloc ?_ _) | (with_reducible refine GLs_drewN ?_ _) | (with_reducible refine GLs_drew ?_))); rintro e w' ⟨rfl, ⟨nd, rfl⟩⟩; refine ⟨_, rfl, ?_⟩) | ((with_reducible refine gate_callee (f := 8) rfl ?_); refine goesL_ (some 115) rfl rfl Tryd.func8 (by kernel_rfl) rfl #[.int .i64 (wrap64 ((-1) - (wrap64 ((wrap64 (t159 * 3906)) + t160))))] rfl (by (try simp only [List.map_toArray, List.map_cons, List.map_nil]); first | done | rfl | (simp only [List.length_drop, List.length_take]; rfl)) ?_; (with_reducible refine (impl_NumberWords.calls (wrap64 ((-1) - (wrap64 ((wrap64 (t159 * 3906)) + t160)))) t177 true _ ?side1 A36.out).mono ?_); (case side1 => repeat (first | exact (GLs_below HT_.out (by repeat (first | (with_reducible first | exact HB.out | apply below_alloc | apply pw_below_drewN | apply below_drew1) | exact HB.out))) | (with_reducible refine GLs_alloc ?_ _) | (with_reducible refine GLs_drewN ?_ _) | (with_reducible refine GLs_drew ?_))); rintro e w' ⟨rfl, ⟨nd, rfl⟩⟩; refine ⟨_, rfl, ?_⟩) | ((with_reducible refine gate_callee (f := 13) rfl ?_); refine goesL_ (some 120) rfl rfl Tryd.func13 (by kernel_rfl) rfl #[.string t163] rfl (by (try simp only [List.map_toArray, List.map_cons, List.map_nil]); first | done | rfl | (simp only [List.length_drop, List.length_take]; rfl)) ?_; (with_reducible refine (impl_SpeakNumbers.calls kj18 t163 t179 t180 _ ?side1 A37.out).mono ?_); (case side1 => repeat (first | exact (GLs_below HT_.out (by repeat (first | (with_reducible first | exact HB.out | apply below_alloc | apply pw_below_drewN | apply below_drew1) | exact HB.out))) | (with_reducible refine GLs_alloc ?_ _) | (with_reducible refine GLs_drewN ?_ _) | (with_reducible refine GLs_drew ?_))); rintro e w41 ⟨rfl, hb⟩; refine ⟨_, rfl, ?_⟩; have n0_ := Aside0.mk (below_step (by repeat (first | (with_reducible first | exact HB.out | apply below_alloc | apply pw_below_drewN | apply below_drew1) | exact HB.out)) hb); clear HB; have HB := n0_; clear n0_; (try clear hb); (try clear hb2); (try clear hk); (try clear hi)))
                      go_ret
                      exact ⟨by first | rfl | (simp [errW_none, errW_some] <;> rfl) | (simp [*, errW_none, errW_some] <;> rfl), by repeat (first | (with_reducible first | exact HB.out | apply below_alloc | apply pw_below_drewN | apply below_drew1) | exact HB.out)⟩
                    · replace c40 := Bool.eq_false_iff.mpr c40
                      subst c40
                      have H1 : (if t180 = true then (some (t179.toList == t163.toList)) else (some false)) = some r := by rw [if_neg (show ¬ (false = true) by decide)] at H; exact H
                      clear H
                      have H := H1
                      clear H1
                      by_cases c42 : t180 = true
                      · subst c42
                        have H1 : (some (t179.toList == t163.toList)) = some r := by rw [if_pos rfl] at H; exact H
                        clear H
                        have H := H1
                        clear H1
                        obtain rfl := Option.some.inj H
                        go_wp2_with (first | ((with_reducible refine gate_callee (f := 10) rfl ?_); refine goesL_ (some 109) rfl rfl Tryd.func10 (by kernel_rfl) rfl #[.string (t163 ++ (⟨#[32, 122, 101, 114, 111]⟩ : ByteArray))] rfl (by (try simp only [List.map_toArray, List.map_cons, List.map_nil]); first | done | rfl | (simp only [List.length_drop, List.length_take]; rfl)) ?_; (with_reducible refine (impl_ReadNumberWords.calls kj18 (t163 ++ (⟨#[32, 122, 101, 114, 111]⟩ : ByteArray)) t175 false _ ?side1 A35.out).mono ?_); (case side1 => repeat (first | exact (GLs_below HT_.out HB.out) | (with_reducible refine GLs_alloc ?_ _) | (with_reducible refine GLs_drewN ?_ _) | (with_reducible refine GLs_drew ?_))); rintro e w' ⟨rfl, ⟨nd, rfl⟩⟩; refine ⟨_, rfl, ?_⟩) | ((with_reducible refine gate_callee (f := 8) rfl ?_); refine goesL_ (some 115) rfl rfl Tryd.func8 (by kernel_rfl) rfl #[.int .i64 (wrap64 ((-1) - (wrap64 ((wrap64 (t159 * 3906)) + t160))))] rfl (by (try simp only [List.map_toArray, List.map_cons, List.map_nil]); first | done | rfl | (simp only [List.length_drop, List.length_take]; rfl)) ?_; (with_reducible refine (impl_NumberWords.calls (wrap64 ((-1) - (wrap64 ((wrap64 (t159 * 3906)) + t160)))) t177 false _ ?side1 A36.out).mono ?_); (case side1 => repeat (first | exact (GLs_below HT_.out (by repeat (first | (with_reducible first | exact HB.out | apply below_alloc | apply pw_below_drewN | apply below_drew1) | exact HB.out))) | (with_reducible refine GLs_alloc ?_ _) | (with_reducible refine GLs_drewN ?_ _) | (with_reducible refine GLs_drew ?_))); rintro e w' ⟨rfl, ⟨nd, rfl⟩⟩; refine ⟨_, rfl, ?_⟩) | ((with_reducible refine gate_callee (f := 13) rfl ?_); refine goesL_ (some 120) rfl rfl Tryd.func13 (by kernel_rfl) rfl #[.string t163] rfl (by (try simp only [List.map_toArray, List.map_cons, List.map_nil]); first | done | rfl | (simp only [List.length_drop, List.length_take]; rfl)) ?_; (with_reducible refine (impl_SpeakNumbers.calls kj18 t163 t179 true _ ?side1 A37.out).mono ?_); (case side1 => repeat (first | exact (GLs_below HT_.out (by repeat (first | (with_reducible first | exact HB.out | apply below_alloc | apply pw_below_drewN | apply below_drew1) | exact HB.out))) | (with_reducible refine GLs_alloc ?_ _) | (with_reducible refine GLs_drewN ?_ _) | (with_reducible refine GLs_drew ?_))); rintro e w43 ⟨rfl, hb⟩; refine ⟨_, rfl, ?_⟩; have n0_ := Aside0.mk (below_step (by repeat (first | (with_reducible first | exact HB.out | apply below_alloc | apply pw_below_drewN | apply below_drew1) | exact HB.out)) hb); clear HB; have HB := n0_; clear n0_; (try clear hb); (try clear hb2); (try clear hk); (try clear hi)))
                        go_ret
                        exact ⟨by first | rfl | (simp [errW_none, errW_some] <;> rfl) | (simp [*, errW_none, errW_some] <;> rfl), by repeat (first | (with_reducible first | exact HB.out | apply below_alloc | apply pw_below_drewN | apply below_drew1) | exact HB.out)⟩
                      · replace c42 := Bool.eq_false_iff.mpr c42
                        subst c42
                        have H1 : (some false) = some r := by rw [if_neg (show ¬ (false = true) by decide)] at H; exact H
                        clear H
                        have H := H1
                        clear H1
                        obtain rfl := Option.some.inj H
                        go_wp2_with (first | ((with_reducible refine gate_callee (f := 10) rfl ?_); refine goesL_ (some 109) rfl rfl Tryd.func10 (by kernel_rfl) rfl #[.string (t163 ++ (⟨#[32, 122, 101, 114, 111]⟩ : ByteArray))] rfl (by (try simp only [List.map_toArray, List.map_cons, List.map_nil]); first | done | rfl | (simp only [List.length_drop, List.length_take]; rfl)) ?_; (with_reducible refine (impl_ReadNumberWords.calls kj18 (t163 ++ (⟨#[32, 122, 101, 114, 111]⟩ : ByteArray)) t175 false _ ?side1 A35.out).mono ?_); (case side1 => repeat (first | exact (GLs_below HT_.out HB.out) | (with_reducible refine GLs_alloc ?_ _) | (with_reducible refine GLs_drewN ?_ _) | (with_reducible refine GLs_drew ?_))); rintro e w' ⟨rfl, ⟨nd, rfl⟩⟩; refine ⟨_, rfl, ?_⟩) | ((with_reducible refine gate_callee (f := 8) rfl ?_); refine goesL_ (some 115) rfl rfl Tryd.func8 (by kernel_rfl) rfl #[.int .i64 (wrap64 ((-1) - (wrap64 ((wrap64 (t159 * 3906)) + t160))))] rfl (by (try simp only [List.map_toArray, List.map_cons, List.map_nil]); first | done | rfl | (simp only [List.length_drop, List.length_take]; rfl)) ?_; (with_reducible refine (impl_NumberWords.calls (wrap64 ((-1) - (wrap64 ((wrap64 (t159 * 3906)) + t160)))) t177 false _ ?side1 A36.out).mono ?_); (case side1 => repeat (first | exact (GLs_below HT_.out (by repeat (first | (with_reducible first | exact HB.out | apply below_alloc | apply pw_below_drewN | apply below_drew1) | exact HB.out))) | (with_reducible refine GLs_alloc ?_ _) | (with_reducible refine GLs_drewN ?_ _) | (with_reducible refine GLs_drew ?_))); rintro e w' ⟨rfl, ⟨nd, rfl⟩⟩; refine ⟨_, rfl, ?_⟩) | ((with_reducible refine gate_callee (f := 13) rfl ?_); refine goesL_ (some 120) rfl rfl Tryd.func13 (by kernel_rfl) rfl #[.string t163] rfl (by (try simp only [List.map_toArray, List.map_cons, List.map_nil]); first | done | rfl | (simp only [List.length_drop, List.length_take]; rfl)) ?_; (with_reducible refine (impl_SpeakNumbers.calls kj18 t163 t179 false _ ?side1 A37.out).mono ?_); (case side1 => repeat (first | exact (GLs_below HT_.out (by repeat (first | (with_reducible first | exact HB.out | apply below_alloc | apply pw_below_drewN | apply below_drew1) | exact HB.out))) | (with_reducible refine GLs_alloc ?_ _) | (with_reducible refine GLs_drewN ?_ _) | (with_reducible refine GLs_drew ?_))); rintro e w44 ⟨rfl, hb⟩; refine ⟨_, rfl, ?_⟩; have n0_ := Aside0.mk (below_step (by repeat (first | (with_reducible first | exact HB.out | apply below_alloc | apply pw_below_drewN | apply below_drew1) | exact HB.out)) hb); clear HB; have HB := n0_; clear n0_; (try clear hb); (try clear hb2); (try clear hk); (try clear hi)))
                        go_ret
                        exact ⟨by first | rfl | (simp [errW_none, errW_some] <;> rfl) | (simp [*, errW_none, errW_some] <;> rfl), by repeat (first | (with_reducible first | exact HB.out | apply below_alloc | apply pw_below_drewN | apply below_drew1) | exact HB.out)⟩
                · rw [if_neg c34] at H
                  exact absurd H (by simp)
        · rw [if_neg c17] at H
          exact absurd H (by simp)
      · rw [if_neg c15] at H
        exact absurd H (by simp)
    · rw [if_neg c14] at H
      exact absurd H (by simp)

/-- THE ONE PURE STATEMENT of laws_FnSpoken: yours. -/
def laws_FnSpoken.Pure : Prop := ∀ (l0 : List Int) (l1 : List Int), l0.length ≤ maxLen → l0.length * 1 ≤ 140737488351232 → (∀ x ∈ l0, (Lit.int .u8 x).wf = true) → l1.length ≤ maxLen → l1.length * 1 ≤ 140737488351232 → (∀ x ∈ l1, (Lit.int .u8 x).wf = true) → ∃ k, laws_FnSpoken.f k l0 l1 = some true
theorem laws_FnSpoken.walk (P : laws_FnSpoken.Pure) (a0 : Option Addr) (len0 cap0 : Nat) (z0 : List Int) (a1 : Option Addr) (len1 cap1 : Nat) (z1 : List Int) (w : World) (w0 : (a0 = none ∧ len0 = 0 ∧ cap0 = 0 ∧ z0 = []) ∨ ∃ x, a0 = some x ∧ len0 ≤ cap0 ∧ cap0 ≤ maxLen ∧ z0.length = cap0 ∧ (∀ i, i < z0.length → w.cell? (x.add i) = some (.int .u8 (z0.getD i 0))) ∧ ∀ n ∈ z0, (Lit.int .u8 n).wf = true) (y0 : len0 * 1 ≤ 140737488351232) (w1 : (a1 = none ∧ len1 = 0 ∧ cap1 = 0 ∧ z1 = []) ∨ ∃ x, a1 = some x ∧ len1 ≤ cap1 ∧ cap1 ≤ maxLen ∧ z1.length = cap1 ∧ (∀ i, i < z1.length → w.cell? (x.add i) = some (.int .u8 (z1.getD i 0))) ∧ ∀ n ∈ z1, (Lit.int .u8 n).wf = true) (y1 : len1 * 1 ≤ 140737488351232) (hT_ : GLs w) :
    Calls Tryd.prog 5 #[.slice a0 len0 cap0, .slice a1 len1 cap1] w fun e w' => e = .returned (.bool true) ∧ Below w.heap.size w w' := by
  obtain ⟨l0, rfl, hr0, hm0, hw0, hc0⟩ := ReadsInt.ofRowC w0
  obtain ⟨l1, rfl, hr1, hm1, hw1, hc1⟩ := ReadsInt.ofRowC w1
  obtain ⟨k, h⟩ := P l0 l1 hm0 y0 hw0 hm1 y1 hw1
  refine (laws_FnSpoken.calls k _ _ l0 _ _ l1 true w (Kd.C_of_reads (d := (0 : Int)) (h1 := fun _ => rfl) hr0) hc0 (Kd.C_of_reads (d := (0 : Int)) (h1 := fun _ => rfl) hr1) hc1 hT_ h).mono ?_
  rintro e w' ⟨rfl, hd⟩
  exact ⟨rfl, hd⟩

end Go.Proofs.YtiebjnppmcpffaaDoor.PFnSpoken
