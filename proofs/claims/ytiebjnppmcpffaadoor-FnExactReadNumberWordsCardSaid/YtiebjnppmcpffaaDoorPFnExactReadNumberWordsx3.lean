/- Printed by a program of this session (the kit's print, with contracts of this session's own): what functions come to, and that their code comes to it. -/
import Derived.Test.YtiebjnppmcpffaaDoorPFnExactReadNumberWordsx0
import Derived.Test.YtiebjnppmcpffaaDoorPFnExactReadNumberWordsx2
namespace Go.Proofs.YtiebjnppmcpffaaDoor.PFnExactReadNumberWords
open Go.RowKit Go.Proofs.YtiebjnppmcpffaaDoorW.PrintWords Go.Proofs.YtiebjnppmcpffaaDoorW.PrintLast Go.Proofs.YtiebjnppmcpffaaDoorW.PrintMore
open Go.Proofs.YtiebjnppmcpffaaDoorW.PrintFl
attribute [local go_sem high] binOp_feq binOp_fne binOp_fls binOp_fle binOp_fgr binOp_fge
attribute [local go_sem] run_fopr run_fconv run_fint run_stf run_stc 
attribute [local go_sem] max2_int min2_int max_two min_two max_three min_three max_four min_four   -- for this text's walks alone
set_option linter.unusedVariables false
set_option linter.unusedSimpArgs false

/-! ### impl_ReadNumberWords: function 10 -/
def impl_ReadNumberWords.j0 : Nat → ByteArray → ByteArray → ByteArray → Bool → Option (Int × Bool)
  | 0, _, _, _, _ => none
  | k + 1, x0, x4, x5, x6 => (strings_TrimSuffix.f x4 (⟨#[32]⟩ : ByteArray)).bind fun t173 => ((impl_smallNumber.f k t173).bind fun bt174 => ((strings_TrimPrefix.f x5 (⟨#[32]⟩ : ByteArray)).bind fun t176 => ((impl_smallNumber.f k t176).bind fun bt177 => (if x6 = true then (if bt174.2 = true then (if bt177.2 = true then ((impl_numberWords.f (wrap64 ((wrap64 (1000 * bt174.1)) + bt177.1))).bind fun t179 => (if t179.toList = x0.toList then (some (wrap64 ((wrap64 (1000 * bt174.1)) + bt177.1), true)) else (some (0, false)))) else (some (0, false))) else (some (0, false))) else (if bt177.2 = true then ((impl_numberWords.f (wrap64 (bt177.1))).bind fun t180 => (if t180.toList = x0.toList then (some (wrap64 (bt177.1), true)) else (some (0, false)))) else (some (0, false)))))))
def impl_ReadNumberWords.f (k : Nat) (a0 : ByteArray) : Option (Int × Bool) := if (a0.size : Int) > 256 then (some (0, false)) else ((strings_Cut.f a0 (⟨#[116, 104, 111, 117, 115, 97, 110, 100]⟩ : ByteArray)).bind fun bt170 => (if bt170.2.2 = true then (impl_ReadNumberWords.j0 k a0 bt170.1 bt170.2.1 bt170.2.2) else (impl_ReadNumberWords.j0 k a0 (⟨#[]⟩ : ByteArray) a0 bt170.2.2)))
theorem impl_ReadNumberWords.mono_l : ∀ k, (∀ y0 y1 y2 y3, LeO (impl_ReadNumberWords.j0 k y0 y1 y2 y3) (impl_ReadNumberWords.j0 (k + 1) y0 y1 y2 y3))
  | 0 => fun _ _ _ _ r h => by simp [impl_ReadNumberWords.j0] at h
  | k + 1 => by
    have ih0 := impl_ReadNumberWords.mono_l k
    · intro y0 y1 y2 y3
      unfold impl_ReadNumberWords.j0
      repeat' first
      | (with_reducible exact ih0 _ _ _ _)
      | (with_reducible exact impl_smallNumber.mono _ _)
      | (with_reducible exact LeO.refl _)
      | (with_reducible exact LeO.none _)
      | (with_reducible refine LeO.ite ?_ ?_)
      | (with_reducible refine LeO.bind ?_ (fun _ => ?_))
      | exact ih0 _ _ _ _
      | exact impl_smallNumber.mono _ _
      | exact LeO.none _
      | refine LeO.ite ?_ ?_
      | refine LeO.bind ?_ (fun _ => ?_)
theorem impl_ReadNumberWords.mono : ∀ a0 k, LeO (impl_ReadNumberWords.f k a0) (impl_ReadNumberWords.f (k + 1) a0) := by
  intro a0 k
  have ih0 := impl_ReadNumberWords.mono_l k
  unfold impl_ReadNumberWords.f
  repeat' first
      | (with_reducible exact ih0 _ _ _ _)
      | (with_reducible exact impl_smallNumber.mono _ _)
      | (with_reducible exact LeO.refl _)
      | (with_reducible exact LeO.none _)
      | (with_reducible refine LeO.ite ?_ ?_)
      | (with_reducible refine LeO.bind ?_ (fun _ => ?_))
      | exact ih0 _ _ _ _
      | exact impl_smallNumber.mono _ _
      | exact LeO.none _
      | refine LeO.ite ?_ ?_
      | refine LeO.bind ?_ (fun _ => ?_)
set_option maxHeartbeats 8000000 in
set_option maxRecDepth 100000 in
theorem impl_ReadNumberWords.calls (k : Nat) (a0 : ByteArray) (r1 : Int) (r2 : Bool) (w : World) (hT_ : GLr w) (h : impl_ReadNumberWords.f k a0 = some (r1, r2)) :
    Calls Tryd.prog 10 #[.string a0] w fun e w' => e = .returned (.tuple #[.int .i64 r1, .bool r2]) ∧ Drawn0 w w' := by
  have HT_ := Aside0.mk hT_
  clear hT_
  have H : (if (a0.size : Int) > 256 then (some (0, false)) else ((strings_Cut.f a0 (⟨#[116, 104, 111, 117, 115, 97, 110, 100]⟩ : ByteArray)).bind fun bt170 => (if bt170.2.2 = true then (impl_ReadNumberWords.j0 k a0 bt170.1 bt170.2.1 bt170.2.2) else (impl_ReadNumberWords.j0 k a0 (⟨#[]⟩ : ByteArray) a0 bt170.2.2)))) = some (r1, r2) := h
  clear h
  by_cases c2 : (a0.size : Int) > 256
  · rw [if_pos c2] at H
    have c2b0 : decide (256 < (a0.size : Int)) = true := decide_eq_true c2
    have c2b1 : decide (256 < a0.size) = true := decide_eq_true (by omega)
    clear c2
    simp only [Option.some.injEq, Prod.mk.injEq] at H
    obtain ⟨rfl, rfl⟩ := H
    go_enter Tryd.func10, Tryd.ntmps10
    go_wp2
    go_ret2
    exact ⟨by first | rfl | (simp; done) | (simp [*]; done), by repeat (first | exact Drawn0.refl _ | apply Drawn0.step)⟩
  · rw [if_neg c2] at H
    have c2b0 : decide (256 < (a0.size : Int)) = false := decide_eq_false c2
    have c2b1 : decide (256 < a0.size) = false := decide_eq_false (by omega)
    clear c2
    replace H := Option.bind_eq_some_iff.mp H
    obtain ⟨⟨t170, t171, t172⟩, A30, H⟩ := H
    replace H : (if t172 = true then (impl_ReadNumberWords.j0 k a0 t170 t171 t172) else (impl_ReadNumberWords.j0 k a0 (⟨#[]⟩ : ByteArray) a0 t172)) = some (r1, r2) := H
    have A3 := Aside0.mk A30
    clear A30
    have HC4 := Aside0.mk H
    clear H
    go_enter Tryd.func10, Tryd.ntmps10
    go_upto_if 22 with (first | ((with_reducible refine gate_callee (f := 22) rfl ?_); refine goesL_ (some 17) rfl rfl Tryd.func22 (by kernel_rfl) rfl #[.string a0, .string (⟨#[116, 104, 111, 117, 115, 97, 110, 100]⟩ : ByteArray)] rfl (by (try simp only [List.map_toArray, List.map_cons, List.map_nil]); first | done | rfl | (simp only [List.length_drop, List.length_take]; rfl)) ?_; (with_reducible refine (strings_Cut.calls a0 (⟨#[116, 104, 111, 117, 115, 97, 110, 100]⟩ : ByteArray) t170 t171 t172 _ ?side1 A3.out).mono ?_); (case side1 => repeat (first | exact HT_.out | (with_reducible refine GLr_alloc ?_ _) | (with_reducible refine GLr_drewN ?_ _) | (with_reducible refine GLr_drew ?_))); rintro e w' ⟨rfl, ⟨nd, rfl⟩⟩; refine ⟨_, rfl, ?_⟩))
    (try simp only [Act.put, List.setIfInBounds_toArray, List.set_cons_zero, List.set_cons_succ])
    go_cut [4, 5] (fun v4 v5 wc => ∃ (kq : Nat) (x4_3 : ByteArray) (x5_3 : ByteArray), v4 = .string x4_3 ∧ v5 = .string x5_3 ∧ Aside0 (impl_ReadNumberWords.j0 kq a0 x4_3 x5_3 t172 = some (r1, r2)) ∧ Aside0 (kq ≤ k) ∧ Drawn0 w wc)
    case first =>
      have H := HC4.out
      clear HC4
      by_cases c5 : t172 = true
      · subst c5
        have H1 : (impl_ReadNumberWords.j0 k a0 t170 t171 true) = some (r1, r2) := by rw [if_pos rfl] at H; exact H
        clear H
        have H := H1
        clear H1
        have H' := Aside0.mk H
        clear H
        go_wp2
        go_meet
        case rel => exact ⟨_, (t170), (t171), (by first | rfl | (simp; done) | (simp [*]; done)), (by first | rfl | (simp; done) | (simp [*]; done)), H', ⟨by first | omega | exact Nat.le_refl _⟩, by repeat (first | exact Drawn0.refl _ | apply Drawn0.step)⟩
      · replace c5 := Bool.eq_false_iff.mpr c5
        subst c5
        have H1 : (impl_ReadNumberWords.j0 k a0 (⟨#[]⟩ : ByteArray) a0 false) = some (r1, r2) := by rw [if_neg (show ¬ (false = true) by decide)] at H; exact H
        clear H
        have H := H1
        clear H1
        have H' := Aside0.mk H
        clear H
        go_wp2
        go_meet
        case rel => exact ⟨_, ((⟨#[]⟩ : ByteArray)), (a0), (by first | rfl | (simp; done) | (simp [*]; done)), (by first | rfl | (simp; done) | (simp [*]; done)), H', ⟨by first | omega | exact Nat.le_refl _⟩, by repeat (first | exact Drawn0.refl _ | apply Drawn0.step)⟩
    case rest =>
      clear HC4
      try clear c1
      try clear c2
      try clear c2b0
      try clear c2b1
      try clear p2
      try clear c5
      obtain ⟨kq, x4_3, x5_3, rfl, rfl, HA, HJ3, ⟨mc3, rfl⟩⟩ := hcut
      cases kq with
      | zero => exact absurd HA.out (by simp [impl_ReadNumberWords.j0])
      | succ kj3 =>
        have H := HA.out
        clear HA
        simp only [impl_ReadNumberWords.j0] at H
        replace H := Option.bind_eq_some_iff.mp H
        obtain ⟨t173, A60, H⟩ := H
        replace H : ((impl_smallNumber.f kj3 t173).bind fun bt174 => ((strings_TrimPrefix.f x5_3 (⟨#[32]⟩ : ByteArray)).bind fun t176 => ((impl_smallNumber.f kj3 t176).bind fun bt177 => (if t172 = true then (if bt174.2 = true then (if bt177.2 = true then ((impl_numberWords.f (wrap64 ((wrap64 (1000 * bt174.1)) + bt177.1))).bind fun t179 => (if t179.toList = a0.toList then (some (wrap64 ((wrap64 (1000 * bt174.1)) + bt177.1), true)) else (some (0, false)))) else (some (0, false))) else (some (0, false))) else (if bt177.2 = true then ((impl_numberWords.f (wrap64 (bt177.1))).bind fun t180 => (if t180.toList = a0.toList then (some (wrap64 (bt177.1), true)) else (some (0, false)))) else (some (0, false))))))) = some (r1, r2) := H
        have A6 := Aside0.mk A60
        clear A60
        replace H := Option.bind_eq_some_iff.mp H
        obtain ⟨⟨t174, t175⟩, A70, H⟩ := H
        replace H : ((strings_TrimPrefix.f x5_3 (⟨#[32]⟩ : ByteArray)).bind fun t176 => ((impl_smallNumber.f kj3 t176).bind fun bt177 => (if t172 = true then (if t175 = true then (if bt177.2 = true then ((impl_numberWords.f (wrap64 ((wrap64 (1000 * t174)) + bt177.1))).bind fun t179 => (if t179.toList = a0.toList then (some (wrap64 ((wrap64 (1000 * t174)) + bt177.1), true)) else (some (0, false)))) else (some (0, false))) else (some (0, false))) else (if bt177.2 = true then ((impl_numberWords.f (wrap64 (bt177.1))).bind fun t180 => (if t180.toList = a0.toList then (some (wrap64 (bt177.1), true)) else (some (0, false)))) else (some (0, false)))))) = some (r1, r2) := H
        have A7 := Aside0.mk A70
        clear A70
        replace H := Option.bind_eq_some_iff.mp H
        obtain ⟨t176, A80, H⟩ := H
        replace H : ((impl_smallNumber.f kj3 t176).bind fun bt177 => (if t172 = true then (if t175 = true then (if bt177.2 = true then ((impl_numberWords.f (wrap64 ((wrap64 (1000 * t174)) + bt177.1))).bind fun t179 => (if t179.toList = a0.toList then (some (wrap64 ((wrap64 (1000 * t174)) + bt177.1), true)) else (some (0, false)))) else (some (0, false))) else (some (0, false))) else (if bt177.2 = true then ((impl_numberWords.f (wrap64 (bt177.1))).bind fun t180 => (if t180.toList = a0.toList then (some (wrap64 (bt177.1), true)) else (some (0, false)))) else (some (0, false))))) = some (r1, r2) := H
        have A8 := Aside0.mk A80
        clear A80
        replace H := Option.bind_eq_some_iff.mp H
        obtain ⟨⟨t177, t178⟩, A90, H⟩ := H
        replace H : (if t172 = true then (if t175 = true then (if t178 = true then ((impl_numberWords.f (wrap64 ((wrap64 (1000 * t174)) + t177))).bind fun t179 => (if t179.toList = a0.toList then (some (wrap64 ((wrap64 (1000 * t174)) + t177), true)) else (some (0, false)))) else (some (0, false))) else (some (0, false))) else (if t178 = true then ((impl_numberWords.f (wrap64 (t177))).bind fun t180 => (if t180.toList = a0.toList then (some (wrap64 (t177), true)) else (some (0, false)))) else (some (0, false)))) = some (r1, r2) := H
        have A9 := Aside0.mk A90
        clear A90
        by_cases c10 : t172 = true
        · subst c10
          have H1 : (if t175 = true then (if t178 = true then ((impl_numberWords.f (wrap64 ((wrap64 (1000 * t174)) + t177))).bind fun t179 => (if t179.toList = a0.toList then (some (wrap64 ((wrap64 (1000 * t174)) + t177), true)) else (some (0, false)))) else (some (0, false))) else (some (0, false))) = some (r1, r2) := by rw [if_pos rfl] at H; exact H
          clear H
          have H := H1
          clear H1
          by_cases c11 : t175 = true
          · subst c11
            have H1 : (if t178 = true then ((impl_numberWords.f (wrap64 ((wrap64 (1000 * t174)) + t177))).bind fun t179 => (if t179.toList = a0.toList then (some (wrap64 ((wrap64 (1000 * t174)) + t177), true)) else (some (0, false)))) else (some (0, false))) = some (r1, r2) := by rw [if_pos rfl] at H; exact H
            clear H
            have H := H1
            clear H1
            by_cases c12 : t178 = true
            · subst c12
              have H1 : ((impl_numberWords.f (wrap64 ((wrap64 (1000 * t174)) + t177))).bind fun t179 => (if t179.toList = a0.toList then (some (wrap64 ((wrap64 (1000 * t174)) + t177), true)) else (some (0, false)))) = some (r1, r2) := by rw [if_pos rfl] at H; exact H
              clear H
              have H := H1
              clear H1
              replace H := Option.bind_eq_some_iff.mp H
              obtain ⟨t179, A130, H⟩ := H
              replace H : (if t179.toList = a0.toList then (some (wrap64 ((wrap64 (1000 * t174)) + t177), true)) else (some (0, false))) = some (r1, r2) := H
              have A13 := Aside0.mk A130
              clear A130
              by_cases c14 : t179.toList = a0.toList
              · rw [if_pos c14] at H
                have c14b0 : (t179.toList == a0.toList) = true := beq_iff_eq.mpr c14
                have c14b1 : (t179.toList != a0.toList) = false := bne_eq_false_iff_eq.mpr c14
                clear c14
                simp only [Option.some.injEq, Prod.mk.injEq] at H
                obtain ⟨rfl, rfl⟩ := H
                go_wp2_with (first | ((with_reducible refine gate_callee (f := 24) rfl ?_); refine goesL_ (some 26) rfl rfl Tryd.func24 (by kernel_rfl) rfl #[.string x4_3, .string (⟨#[32]⟩ : ByteArray)] rfl (by (try simp only [List.map_toArray, List.map_cons, List.map_nil]); first | done | rfl | (simp only [List.length_drop, List.length_take]; rfl)) ?_; (with_reducible refine (strings_TrimSuffix.calls x4_3 (⟨#[32]⟩ : ByteArray) t173 _ A6.out).mono ?_); rintro e w' ⟨rfl, ⟨nd, rfl⟩⟩; refine ⟨_, rfl, ?_⟩) | ((with_reducible refine gate_callee (f := 23) rfl ?_); refine goesL_ (some 27) rfl rfl Tryd.func23 (by kernel_rfl) rfl #[.string t173] rfl (by (try simp only [List.map_toArray, List.map_cons, List.map_nil]); first | done | rfl | (simp only [List.length_drop, List.length_take]; rfl)) ?_; (with_reducible refine (impl_smallNumber.calls kj3 t173 t174 true _ ?side1 A7.out).mono ?_); (case side1 => repeat (first | exact HT_.out | (with_reducible refine GLr_alloc ?_ _) | (with_reducible refine GLr_drewN ?_ _) | (with_reducible refine GLr_drew ?_))); rintro e w' ⟨rfl, ⟨nd, rfl⟩⟩; refine ⟨_, rfl, ?_⟩) | ((with_reducible refine gate_callee (f := 25) rfl ?_); refine goesL_ (some 32) rfl rfl Tryd.func25 (by kernel_rfl) rfl #[.string x5_3, .string (⟨#[32]⟩ : ByteArray)] rfl (by (try simp only [List.map_toArray, List.map_cons, List.map_nil]); first | done | rfl | (simp only [List.length_drop, List.length_take]; rfl)) ?_; (with_reducible refine (strings_TrimPrefix.calls x5_3 (⟨#[32]⟩ : ByteArray) t176 _ A8.out).mono ?_); rintro e w' ⟨rfl, ⟨nd, rfl⟩⟩; refine ⟨_, rfl, ?_⟩) | ((with_reducible refine gate_callee (f := 23) rfl ?_); refine goesL_ (some 33) rfl rfl Tryd.func23 (by kernel_rfl) rfl #[.string t176] rfl (by (try simp only [List.map_toArray, List.map_cons, List.map_nil]); first | done | rfl | (simp only [List.length_drop, List.length_take]; rfl)) ?_; (with_reducible refine (impl_smallNumber.calls kj3 t176 t177 true _ ?side1 A9.out).mono ?_); (case side1 => repeat (first | exact HT_.out | (with_reducible refine GLr_alloc ?_ _) | (with_reducible refine GLr_drewN ?_ _) | (with_reducible refine GLr_drew ?_))); rintro e w' ⟨rfl, ⟨nd, rfl⟩⟩; refine ⟨_, rfl, ?_⟩) | (go_at_call 19; (with_reducible refine (impl_numberWords.calls (wrap64 ((wrap64 (1000 * t174)) + t177)) t179 _ ?side1 A13.out).mono ?_); (case side1 => repeat (first | exact HT_.out | (with_reducible refine GLr_alloc ?_ _) | (with_reducible refine GLr_drewN ?_ _) | (with_reducible refine GLr_drew ?_))); rintro e w' ⟨rfl, ⟨nd, rfl⟩⟩))
                go_ret2
                exact ⟨by first | rfl | (simp; done) | (simp [*]; done), by repeat (first | exact Drawn0.refl _ | apply Drawn0.step)⟩
              · rw [if_neg c14] at H
                have c14b0 : (t179.toList == a0.toList) = false := beq_eq_false_iff_ne.mpr c14
                have c14b1 : (t179.toList != a0.toList) = true := bne_iff_ne.mpr c14
                simp only [Option.some.injEq, Prod.mk.injEq] at H
                obtain ⟨rfl, rfl⟩ := H
                go_wp2_with (first | ((with_reducible refine gate_callee (f := 24) rfl ?_); refine goesL_ (some 26) rfl rfl Tryd.func24 (by kernel_rfl) rfl #[.string x4_3, .string (⟨#[32]⟩ : ByteArray)] rfl (by (try simp only [List.map_toArray, List.map_cons, List.map_nil]); first | done | rfl | (simp only [List.length_drop, List.length_take]; rfl)) ?_; (with_reducible refine (strings_TrimSuffix.calls x4_3 (⟨#[32]⟩ : ByteArray) t173 _ A6.out).mono ?_); rintro e w' ⟨rfl, ⟨nd, rfl⟩⟩; refine ⟨_, rfl, ?_⟩) | ((with_reducible refine gate_callee (f := 23) rfl ?_); refine goesL_ (some 27) rfl rfl Tryd.func23 (by kernel_rfl) rfl #[.string t173] rfl (by (try simp only [List.map_toArray, List.map_cons, List.map_nil]); first | done | rfl | (simp only [List.length_drop, List.length_take]; rfl)) ?_; (with_reducible refine (impl_smallNumber.calls kj3 t173 t174 true _ ?side1 A7.out).mono ?_); (case side1 => repeat (first | exact HT_.out | (with_reducible refine GLr_alloc ?_ _) | (with_reducible refine GLr_drewN ?_ _) | (with_reducible refine GLr_drew ?_))); rintro e w' ⟨rfl, ⟨nd, rfl⟩⟩; refine ⟨_, rfl, ?_⟩) | ((with_reducible refine gate_callee (f := 25) rfl ?_); refine goesL_ (some 32) rfl rfl Tryd.func25 (by kernel_rfl) rfl #[.string x5_3, .string (⟨#[32]⟩ : ByteArray)] rfl (by (try simp only [List.map_toArray, List.map_cons, List.map_nil]); first | done | rfl | (simp only [List.length_drop, List.length_take]; rfl)) ?_; (with_reducible refine (strings_TrimPrefix.calls x5_3 (⟨#[32]⟩ : ByteArray) t176 _ A8.out).mono ?_); rintro e w' ⟨rfl, ⟨nd, rfl⟩⟩; refine ⟨_, rfl, ?_⟩) | ((with_reducible refine gate_callee (f := 23) rfl ?_); refine goesL_ (some 33) rfl rfl Tryd.func23 (by kernel_rfl) rfl #[.string t176] rfl (by (try simp only [List.map_toArray, List.map_cons, List.map_nil]); first | done | rfl | (simp only [List.length_drop, List.length_take]; rfl)) ?_; (with_reducible refine (impl_smallNumber.calls kj3 t176 t177 true _ ?side1 A9.out).mono ?_); (case side1 => repeat (first | exact HT_.out | (with_reducible refine GLr_alloc ?_ _) | (with_reducible refine GLr_drewN ?_ _) | (with_reducible refine GLr_drew ?_))); rintro e w' ⟨rfl, ⟨nd, rfl⟩⟩; refine ⟨_, rfl, ?_⟩) | (go_at_call 19; (with_reducible refine (impl_numberWords.calls (wrap64 ((wrap64 (1000 * t174)) + t177)) t179 _ ?side1 A13.out).mono ?_); (case side1 => repeat (first | exact HT_.out | (with_reducible refine GLr_alloc ?_ _) | (with_reducible refine GLr_drewN ?_ _) | (with_reducible refine GLr_drew ?_))); rintro e w' ⟨rfl, ⟨nd, rfl⟩⟩))
                go_ret2
                exact ⟨by first | rfl | (simp; done) | (simp [*]; done), by repeat (first | exact Drawn0.refl _ | apply Drawn0.step)⟩
            · replace c12 := Bool.eq_false_iff.mpr c12
              subst c12
              have H1 : (some (0, false)) = some (r1, r2) := by rw [if_neg (show ¬ (false = true) by decide)] at H; exact H
              clear H
              have H := H1
              clear H1
              simp only [Option.some.injEq, Prod.mk.injEq] at H
              obtain ⟨rfl, rfl⟩ := H
              go_wp2_with (first | ((with_reducible refine gate_callee (f := 24) rfl ?_); refine goesL_ (some 26) rfl rfl Tryd.func24 (by kernel_rfl) rfl #[.string x4_3, .string (⟨#[32]⟩ : ByteArray)] rfl (by (try simp only [List.map_toArray, List.map_cons, List.map_nil]); first | done | rfl | (simp only [List.length_drop, List.length_take]; rfl)) ?_; (with_reducible refine (strings_TrimSuffix.calls x4_3 (⟨#[32]⟩ : ByteArray) t173 _ A6.out).mono ?_); rintro e w' ⟨rfl, ⟨nd, rfl⟩⟩; refine ⟨_, rfl, ?_⟩) | ((with_reducible refine gate_callee (f := 23) rfl ?_); refine goesL_ (some 27) rfl rfl Tryd.func23 (by kernel_rfl) rfl #[.string t173] rfl (by (try simp only [List.map_toArray, List.map_cons, List.map_nil]); first | done | rfl | (simp only [List.length_drop, List.length_take]; rfl)) ?_; (with_reducible refine (impl_smallNumber.calls kj3 t173 t174 true _ ?side1 A7.out).mono ?_); (case side1 => repeat (first | exact HT_.out | (with_reducible refine GLr_alloc ?_ _) | (with_reducible refine GLr_drewN ?_ _) | (with_reducible refine GLr_drew ?_))); rintro e w' ⟨rfl, ⟨nd, rfl⟩⟩; refine ⟨_, rfl, ?_⟩) | ((with_reducible refine gate_callee (f := 25) rfl ?_); refine goesL_ (some 32) rfl rfl Tryd.func25 (by kernel_rfl) rfl #[.string x5_3, .string (⟨#[32]⟩ : ByteArray)] rfl (by (try simp only [List.map_toArray, List.map_cons, List.map_nil]); first | done | rfl | (simp only [List.length_drop, List.length_take]; rfl)) ?_; (with_reducible refine (strings_TrimPrefix.calls x5_3 (⟨#[32]⟩ : ByteArray) t176 _ A8.out).mono ?_); rintro e w' ⟨rfl, ⟨nd, rfl⟩⟩; refine ⟨_, rfl, ?_⟩) | ((with_reducible refine gate_callee (f := 23) rfl ?_); refine goesL_ (some 33) rfl rfl Tryd.func23 (by kernel_rfl) rfl #[.string t176] rfl (by (try simp only [List.map_toArray, List.map_cons, List.map_nil]); first | done | rfl | (simp only [List.length_drop, List.length_take]; rfl)) ?_; (with_reducible refine (impl_smallNumber.calls kj3 t176 t177 false _ ?side1 A9.out).mono ?_); (case side1 => repeat (first | exact HT_.out | (with_reducible refine GLr_alloc ?_ _) | (with_reducible refine GLr_drewN ?_ _) | (with_reducible refine GLr_drew ?_))); rintro e w' ⟨rfl, ⟨nd, rfl⟩⟩; refine ⟨_, rfl, ?_⟩))
              go_ret2
              exact ⟨by first | rfl | (simp; done) | (simp [*]; done), by repeat (first | exact Drawn0.refl _ | apply Drawn0.step)⟩
          · replace c11 := Bool.eq_false_iff.mpr c11
            subst c11
            have H1 : (some (0, false)) = some (r1, r2) := by rw [if_neg (show ¬ (false = true) by decide)] at H; exact H
            clear H
            have H := H1
            clear H1
            simp only [Option.some.injEq, Prod.mk.injEq] at H
            obtain ⟨rfl, rfl⟩ := H
            go_wp2_with (first | ((with_reducible refine gate_callee (f := 24) rfl ?_); refine goesL_ (some 26) rfl rfl Tryd.func24 (by kernel_rfl) rfl #[.string x4_3, .string (⟨#[32]⟩ : ByteArray)] rfl (by (try simp only [List.map_toArray, List.map_cons, List.map_nil]); first | done | rfl | (simp only [List.length_drop, List.length_take]; rfl)) ?_; (with_reducible refine (strings_TrimSuffix.calls x4_3 (⟨#[32]⟩ : ByteArray) t173 _ A6.out).mono ?_); rintro e w' ⟨rfl, ⟨nd, rfl⟩⟩; refine ⟨_, rfl, ?_⟩) | ((with_reducible refine gate_callee (f := 23) rfl ?_); refine goesL_ (some 27) rfl rfl Tryd.func23 (by kernel_rfl) rfl #[.string t173] rfl (by (try simp only [List.map_toArray, List.map_cons, List.map_nil]); first | done | rfl | (simp only [List.length_drop, List.length_take]; rfl)) ?_; (with_reducible refine (impl_smallNumber.calls kj3 t173 t174 false _ ?side1 A7.out).mono ?_); (case side1 => repeat (first | exact HT_.out | (with_reducible refine GLr_alloc ?_ _) | (with_reducible refine GLr_drewN ?_ _) | (with_reducible refine GLr_drew ?_))); rintro e w' ⟨rfl, ⟨nd, rfl⟩⟩; refine ⟨_, rfl, ?_⟩) | ((with_reducible refine gate_callee (f := 25) rfl ?_); refine goesL_ (some 32) rfl rfl Tryd.func25 (by kernel_rfl) rfl #[.string x5_3, .string (⟨#[32]⟩ : ByteArray)] rfl (by (try simp only [List.map_toArray, List.map_cons, List.map_nil]); first | done | rfl | (simp only [List.length_drop, List.length_take]; rfl)) ?_; (with_reducible refine (strings_TrimPrefix.calls x5_3 (⟨#[32]⟩ : ByteArray) t176 _ A8.out).mono ?_); rintro e w' ⟨rfl, ⟨nd, rfl⟩⟩; refine ⟨_, rfl, ?_⟩) | ((with_reducible refine gate_callee (f := 23) rfl ?_); refine goesL_ (some 33) rfl rfl Tryd.func23 (by kernel_rfl) rfl #[.string t176] rfl (by (try simp only [List.map_toArray, List.map_cons, List.map_nil]); first | done | rfl | (simp only [List.length_drop, List.length_take]; rfl)) ?_; (with_reducible refine (impl_smallNumber.calls kj3 t176 t177 t178 _ ?side1 A9.out).mono ?_); (case side1 => repeat (first | exact HT_.out | (with_reducible refine GLr_alloc ?_ _) | (with_reducible refine GLr_drewN ?_ _) | (with_reducible refine GLr_drew ?_))); rintro e w' ⟨rfl, ⟨nd, rfl⟩⟩; refine ⟨_, rfl, ?_⟩))
            go_ret2
            exact ⟨by first | rfl | (simp; done) | (simp [*]; done), by repeat (first | exact Drawn0.refl _ | apply Drawn0.step)⟩
        · replace c10 := Bool.eq_false_iff.mpr c10
          subst c10
          have H1 : (if t178 = true then ((impl_numberWords.f (wrap64 (t177))).bind fun t180 => (if t180.toList = a0.toList then (some (wrap64 (t177), true)) else (some (0, false)))) else (some (0, false))) = some (r1, r2) := by rw [if_neg (show ¬ (false = true) by decide)] at H; exact H
          clear H
          have H := H1
          clear H1
          by_cases c15 : t178 = true
          · subst c15
            have H1 : ((impl_numberWords.f (wrap64 (t177))).bind fun t180 => (if t180.toList = a0.toList then (some (wrap64 (t177), true)) else (some (0, false)))) = some (r1, r2) := by rw [if_pos rfl] at H; exact H
            clear H
            have H := H1
            clear H1
            replace H := Option.bind_eq_some_iff.mp H
            obtain ⟨t180, A160, H⟩ := H
            replace H : (if t180.toList = a0.toList then (some (wrap64 (t177), true)) else (some (0, false))) = some (r1, r2) := H
            have A16 := Aside0.mk A160
            clear A160
            by_cases c17 : t180.toList = a0.toList
            · rw [if_pos c17] at H
              have c17b0 : (t180.toList == a0.toList) = true := beq_iff_eq.mpr c17
              have c17b1 : (t180.toList != a0.toList) = false := bne_eq_false_iff_eq.mpr c17
              clear c17
              simp only [Option.some.injEq, Prod.mk.injEq] at H
              obtain ⟨rfl, rfl⟩ := H
              go_wp2_with (first | ((with_reducible refine gate_callee (f := 24) rfl ?_); refine goesL_ (some 26) rfl rfl Tryd.func24 (by kernel_rfl) rfl #[.string x4_3, .string (⟨#[32]⟩ : ByteArray)] rfl (by (try simp only [List.map_toArray, List.map_cons, List.map_nil]); first | done | rfl | (simp only [List.length_drop, List.length_take]; rfl)) ?_; (with_reducible refine (strings_TrimSuffix.calls x4_3 (⟨#[32]⟩ : ByteArray) t173 _ A6.out).mono ?_); rintro e w' ⟨rfl, ⟨nd, rfl⟩⟩; refine ⟨_, rfl, ?_⟩) | ((with_reducible refine gate_callee (f := 23) rfl ?_); refine goesL_ (some 27) rfl rfl Tryd.func23 (by kernel_rfl) rfl #[.string t173] rfl (by (try simp only [List.map_toArray, List.map_cons, List.map_nil]); first | done | rfl | (simp only [List.length_drop, List.length_take]; rfl)) ?_; (with_reducible refine (impl_smallNumber.calls kj3 t173 t174 t175 _ ?side1 A7.out).mono ?_); (case side1 => repeat (first | exact HT_.out | (with_reducible refine GLr_alloc ?_ _) | (with_reducible refine GLr_drewN ?_ _) | (with_reducible refine GLr_drew ?_))); rintro e w' ⟨rfl, ⟨nd, rfl⟩⟩; refine ⟨_, rfl, ?_⟩) | ((with_reducible refine gate_callee (f := 25) rfl ?_); refine goesL_ (some 32) rfl rfl Tryd.func25 (by kernel_rfl) rfl #[.string x5_3, .string (⟨#[32]⟩ : ByteArray)] rfl (by (try simp only [List.map_toArray, List.map_cons, List.map_nil]); first | done | rfl | (simp only [List.length_drop, List.length_take]; rfl)) ?_; (with_reducible refine (strings_TrimPrefix.calls x5_3 (⟨#[32]⟩ : ByteArray) t176 _ A8.out).mono ?_); rintro e w' ⟨rfl, ⟨nd, rfl⟩⟩; refine ⟨_, rfl, ?_⟩) | ((with_reducible refine gate_callee (f := 23) rfl ?_); refine goesL_ (some 33) rfl rfl Tryd.func23 (by kernel_rfl) rfl #[.string t176] rfl (by (try simp only [List.map_toArray, List.map_cons, List.map_nil]); first | done | rfl | (simp only [List.length_drop, List.length_take]; rfl)) ?_; (with_reducible refine (impl_smallNumber.calls kj3 t176 t177 true _ ?side1 A9.out).mono ?_); (case side1 => repeat (first | exact HT_.out | (with_reducible refine GLr_alloc ?_ _) | (with_reducible refine GLr_drewN ?_ _) | (with_reducible refine GLr_drew ?_))); rintro e w' ⟨rfl, ⟨nd, rfl⟩⟩; refine ⟨_, rfl, ?_⟩) | (go_at_call 19; (with_reducible refine (impl_numberWords.calls (wrap64 (t177)) t180 _ ?side1 A16.out).mono ?_); (case side1 => repeat (first | exact HT_.out | (with_reducible refine GLr_alloc ?_ _) | (with_reducible refine GLr_drewN ?_ _) | (with_reducible refine GLr_drew ?_))); rintro e w' ⟨rfl, ⟨nd, rfl⟩⟩))
              go_ret2
              exact ⟨by first | rfl | (simp; done) | (simp [*]; done), by repeat (first | exact Drawn0.refl _ | apply Drawn0.step)⟩
            · rw [if_neg c17] at H
              have c17b0 : (t180.toList == a0.toList) = false := beq_eq_false_iff_ne.mpr c17
              have c17b1 : (t180.toList != a0.toList) = true := bne_iff_ne.mpr c17
              simp only [Option.some.injEq, Prod.mk.injEq] at H
              obtain ⟨rfl, rfl⟩ := H
              go_wp2_with (first | ((with_reducible refine gate_callee (f := 24) rfl ?_); refine goesL_ (some 26) rfl rfl Tryd.func24 (by kernel_rfl) rfl #[.string x4_3, .string (⟨#[32]⟩ : ByteArray)] rfl (by (try simp only [List.map_toArray, List.map_cons, List.map_nil]); first | done | rfl | (simp only [List.length_drop, List.length_take]; rfl)) ?_; (with_reducible refine (strings_TrimSuffix.calls x4_3 (⟨#[32]⟩ : ByteArray) t173 _ A6.out).mono ?_); rintro e w' ⟨rfl, ⟨nd, rfl⟩⟩; refine ⟨_, rfl, ?_⟩) | ((with_reducible refine gate_callee (f := 23) rfl ?_); refine goesL_ (some 27) rfl rfl Tryd.func23 (by kernel_rfl) rfl #[.string t173] rfl (by (try simp only [List.map_toArray, List.map_cons, List.map_nil]); first | done | rfl | (simp only [List.length_drop, List.length_take]; rfl)) ?_; (with_reducible refine (impl_smallNumber.calls kj3 t173 t174 t175 _ ?side1 A7.out).mono ?_); (case side1 => repeat (first | exact HT_.out | (with_reducible refine GLr_alloc ?_ _) | (with_reducible refine GLr_drewN ?_ _) | (with_reducible refine GLr_drew ?_))); rintro e w' ⟨rfl, ⟨nd, rfl⟩⟩; refine ⟨_, rfl, ?_⟩) | ((with_reducible refine gate_callee (f := 25) rfl ?_); refine goesL_ (some 32) rfl rfl Tryd.func25 (by kernel_rfl) rfl #[.string x5_3, .string (⟨#[32]⟩ : ByteArray)] rfl (by (try simp only [List.map_toArray, List.map_cons, List.map_nil]); first | done | rfl | (simp only [List.length_drop, List.length_take]; rfl)) ?_; (with_reducible refine (strings_TrimPrefix.calls x5_3 (⟨#[32]⟩ : ByteArray) t176 _ A8.out).mono ?_); rintro e w' ⟨rfl, ⟨nd, rfl⟩⟩; refine ⟨_, rfl, ?_⟩) | ((with_reducible refine gate_callee (f := 23) rfl ?_); refine goesL_ (some 33) rfl rfl Tryd.func23 (by kernel_rfl) rfl #[.string t176] rfl (by (try simp only [List.map_toArray, List.map_cons, List.map_nil]); first | done | rfl | (simp only [List.length_drop, List.length_take]; rfl)) ?_; (with_reducible refine (impl_smallNumber.calls kj3 t176 t177 true _ ?side1 A9.out).mono ?_); (case side1 => repeat (first | exact HT_.out | (with_reducible refine GLr_alloc ?_ _) | (with_reducible refine GLr_drewN ?_ _) | (with_reducible refine GLr_drew ?_))); rintro e w' ⟨rfl, ⟨nd, rfl⟩⟩; refine ⟨_, rfl, ?_⟩) | (go_at_call 19; (with_reducible refine (impl_numberWords.calls (wrap64 (t177)) t180 _ ?side1 A16.out).mono ?_); (case side1 => repeat (first | exact HT_.out | (with_reducible refine GLr_alloc ?_ _) | (with_reducible refine GLr_drewN ?_ _) | (with_reducible refine GLr_drew ?_))); rintro e w' ⟨rfl, ⟨nd, rfl⟩⟩))
              go_ret2
              exact ⟨by first | rfl | (simp; done) | (simp [*]; done), by repeat (first | exact Drawn0.refl _ | apply Drawn0.step)⟩
          · replace c15 := Bool.eq_false_iff.mpr c15
            subst c15
            have H1 : (some (0, false)) = some (r1, r2) := by rw [if_neg (show ¬ (false = true) by decide)] at H; exact H
            clear H
            have H := H1
            clear H1
            simp only [Option.some.injEq, Prod.mk.injEq] at H
            obtain ⟨rfl, rfl⟩ := H
            go_wp2_with (first | ((with_reducible refine gate_callee (f := 24) rfl ?_); refine goesL_ (some 26) rfl rfl Tryd.func24 (by kernel_rfl) rfl #[.string x4_3, .string (⟨#[32]⟩ : ByteArray)] rfl (by (try simp only [List.map_toArray, List.map_cons, List.map_nil]); first | done | rfl | (simp only [List.length_drop, List.length_take]; rfl)) ?_; (with_reducible refine (strings_TrimSuffix.calls x4_3 (⟨#[32]⟩ : ByteArray) t173 _ A6.out).mono ?_); rintro e w' ⟨rfl, ⟨nd, rfl⟩⟩; refine ⟨_, rfl, ?_⟩) | ((with_reducible refine gate_callee (f := 23) rfl ?_); refine goesL_ (some 27) rfl rfl Tryd.func23 (by kernel_rfl) rfl #[.string t173] rfl (by (try simp only [List.map_toArray, List.map_cons, List.map_nil]); first | done | rfl | (simp only [List.length_drop, List.length_take]; rfl)) ?_; (with_reducible refine (impl_smallNumber.calls kj3 t173 t174 t175 _ ?side1 A7.out).mono ?_); (case side1 => repeat (first | exact HT_.out | (with_reducible refine GLr_alloc ?_ _) | (with_reducible refine GLr_drewN ?_ _) | (with_reducible refine GLr_drew ?_))); rintro e w' ⟨rfl, ⟨nd, rfl⟩⟩; refine ⟨_, rfl, ?_⟩) | ((with_reducible refine gate_callee (f := 25) rfl ?_); refine goesL_ (some 32) rfl rfl Tryd.func25 (by kernel_rfl) rfl #[.string x5_3, .string (⟨#[32]⟩ : ByteArray)] rfl (by (try simp only [List.map_toArray, List.map_cons, List.map_nil]); first | done | rfl | (simp only [List.length_drop, List.length_take]; rfl)) ?_; (with_reducible refine (strings_TrimPrefix.calls x5_3 (⟨#[32]⟩ : ByteArray) t176 _ A8.out).mono ?_); rintro e w' ⟨rfl, ⟨nd, rfl⟩⟩; refine ⟨_, rfl, ?_⟩) | ((with_reducible refine gate_callee (f := 23) rfl ?_); refine goesL_ (some 33) rfl rfl Tryd.func23 (by kernel_rfl) rfl #[.string t176] rfl (by (try simp only [List.map_toArray, List.map_cons, List.map_nil]); first | done | rfl | (simp only [List.length_drop, List.length_take]; rfl)) ?_; (with_reducible refine (impl_smallNumber.calls kj3 t176 t177 false _ ?side1 A9.out).mono ?_); (case side1 => repeat (first | exact HT_.out | (with_reducible refine GLr_alloc ?_ _) | (with_reducible refine GLr_drewN ?_ _) | (with_reducible refine GLr_drew ?_))); rintro e w' ⟨rfl, ⟨nd, rfl⟩⟩; refine ⟨_, rfl, ?_⟩))
            go_ret2
            exact ⟨by first | rfl | (simp; done) | (simp [*]; done), by repeat (first | exact Drawn0.refl _ | apply Drawn0.step)⟩

/-! ### laws_FnExactReadNumberWords: function 4 -/
def laws_FnExactReadNumberWords.f (k : Nat) (a0 : ByteArray) : Option (Bool) := if (a0.size : Int) > 1048576 then (some true) else ((spec_ReadNumberWords.f k a0).bind fun bt181 => ((impl_ReadNumberWords.f k a0).bind fun bt183 => (if bt183.1 = bt181.1 then (if (bt183.2 != bt181.2) = true then (some false) else (some true)) else (some false))))
theorem laws_FnExactReadNumberWords.mono : ∀ a0 k, LeO (laws_FnExactReadNumberWords.f k a0) (laws_FnExactReadNumberWords.f (k + 1) a0) := by
  intro a0 k
  unfold laws_FnExactReadNumberWords.f
  repeat' first
      | (with_reducible exact impl_ReadNumberWords.mono _ _)
      | (with_reducible exact spec_ReadNumberWords.mono _ _)
      | (with_reducible exact LeO.refl _)
      | (with_reducible exact LeO.none _)
      | (with_reducible refine LeO.ite ?_ ?_)
      | (with_reducible refine LeO.bind ?_ (fun _ => ?_))
      | exact impl_ReadNumberWords.mono _ _
      | exact spec_ReadNumberWords.mono _ _
      | exact LeO.none _
      | refine LeO.ite ?_ ?_
      | refine LeO.bind ?_ (fun _ => ?_)
set_option maxHeartbeats 8000000 in
set_option maxRecDepth 100000 in
theorem laws_FnExactReadNumberWords.calls (k : Nat) (a0 : ByteArray) (r : Bool) (w : World) (hT_ : GLr w) (h : laws_FnExactReadNumberWords.f k a0 = some r) :
    Calls Tryd.prog 4 #[.string a0] w fun e w' => e = .returned (.bool r) ∧ Below w.heap.size w w' := by
  have HT_ := Aside0.mk hT_
  clear hT_
  have HB := Aside0.mk (Below.refl w.heap.size w)
  have H : (if (a0.size : Int) > 1048576 then (some true) else ((spec_ReadNumberWords.f k a0).bind fun bt181 => ((impl_ReadNumberWords.f k a0).bind fun bt183 => (if bt183.1 = bt181.1 then (if (bt183.2 != bt181.2) = true then (some false) else (some true)) else (some false))))) = some r := h
  clear h
  by_cases c2 : (a0.size : Int) > 1048576
  · rw [if_pos c2] at H
    have c2b0 : decide (1048576 < (a0.size : Int)) = true := decide_eq_true c2
    have c2b1 : decide (1048576 < a0.size) = true := decide_eq_true (by omega)
    clear c2
    obtain rfl := Option.some.inj H
    go_enter Tryd.func4, Tryd.ntmps4
    go_wp2
    go_ret
    exact ⟨by first | rfl | (simp [errW_none, errW_some] <;> rfl) | (simp [*, errW_none, errW_some] <;> rfl), by repeat (first | (with_reducible first | exact HB.out | apply below_alloc | apply pw_below_drewN | apply below_drew1) | exact HB.out)⟩
  · rw [if_neg c2] at H
    have c2b0 : decide (1048576 < (a0.size : Int)) = false := decide_eq_false c2
    have c2b1 : decide (1048576 < a0.size) = false := decide_eq_false (by omega)
    clear c2
    replace H := Option.bind_eq_some_iff.mp H
    obtain ⟨⟨t181, t182⟩, A30, H⟩ := H
    replace H : ((impl_ReadNumberWords.f k a0).bind fun bt183 => (if bt183.1 = t181 then (if (bt183.2 != t182) = true then (some false) else (some true)) else (some false))) = some r := H
    have A3 := Aside0.mk A30
    clear A30
    replace H := Option.bind_eq_some_iff.mp H
    obtain ⟨⟨t183, t184⟩, A40, H⟩ := H
    replace H : (if t183 = t181 then (if (t184 != t182) = true then (some false) else (some true)) else (some false)) = some r := H
    have A4 := Aside0.mk A40
    clear A40
    by_cases c5 : t183 = t181
    · rw [if_pos c5] at H
      have c5b0 : (t183 == t181) = true := beq_iff_eq.mpr c5
      have c5b1 : (t183 != t181) = false := bne_eq_false_iff_eq.mpr c5
      clear c5
      by_cases c6 : (t184 != t182) = true
      · rw [if_pos c6] at H
        have c6b0 : (t184 != t182) = true := c6
        (try (have c6b1 : decide (t184 = t182) = false := by simpa using c6))
        (try (have c6b2 : (t184 == t182) = false := by simpa using c6))
        (try (have c6b3 : ¬ (t184 = t182) := by simpa using c6))
        clear c6
        obtain rfl := Option.some.inj H
        go_enter Tryd.func4, Tryd.ntmps4
        go_wp2_with (first | ((with_reducible refine gate_callee (f := 9) rfl ?_); refine goesL_ (some 12) rfl rfl Tryd.func9 (by kernel_rfl) rfl #[.string a0] rfl (by (try simp only [List.map_toArray, List.map_cons, List.map_nil]); first | done | rfl | (simp only [List.length_drop, List.length_take]; rfl)) ?_; (with_reducible refine (spec_ReadNumberWords.calls k a0 t181 t182 _ A3.out).mono ?_); rintro e w7 ⟨rfl, hb⟩; refine ⟨_, rfl, ?_⟩; have n0_ := Aside0.mk (below_step (by repeat (first | (with_reducible first | exact HB.out | apply below_alloc | apply pw_below_drewN | apply below_drew1) | exact HB.out)) hb); clear HB; have HB := n0_; clear n0_; (try clear hb); (try clear hb2); (try clear hk); (try clear hi)) | ((with_reducible refine gate_callee (f := 10) rfl ?_); refine goesL_ (some 17) rfl rfl Tryd.func10 (by kernel_rfl) rfl #[.string a0] rfl (by (try simp only [List.map_toArray, List.map_cons, List.map_nil]); first | done | rfl | (simp only [List.length_drop, List.length_take]; rfl)) ?_; (with_reducible refine (impl_ReadNumberWords.calls k a0 t183 t184 _ ?side1 A4.out).mono ?_); (case side1 => repeat (first | exact (GLr_below HT_.out HB.out) | (with_reducible refine GLr_alloc ?_ _) | (with_reducible refine GLr_drewN ?_ _) | (with_reducible refine GLr_drew ?_))); rintro e w' ⟨rfl, ⟨nd, rfl⟩⟩; refine ⟨_, rfl, ?_⟩))
        go_ret
        exact ⟨by first | rfl | (simp [errW_none, errW_some] <;> rfl) | (simp [*, errW_none, errW_some] <;> rfl), by repeat (first | (with_reducible first | exact HB.out | apply below_alloc | apply pw_below_drewN | apply below_drew1) | exact HB.out)⟩
      · rw [if_neg c6] at H
        have c6b0 : (t184 != t182) = false := by simpa using c6
        (try (have c6b1 : decide (t184 = t182) = true := by simpa using c6))
        (try (have c6b2 : (t184 == t182) = true := by simpa using c6))
        clear c6
        obtain rfl := Option.some.inj H
        go_enter Tryd.func4, Tryd.ntmps4
        go_wp2_with (first | ((with_reducible refine gate_callee (f := 9) rfl ?_); refine goesL_ (some 12) rfl rfl Tryd.func9 (by kernel_rfl) rfl #[.string a0] rfl (by (try simp only [List.map_toArray, List.map_cons, List.map_nil]); first | done | rfl | (simp only [List.length_drop, List.length_take]; rfl)) ?_; (with_reducible refine (spec_ReadNumberWords.calls k a0 t181 t182 _ A3.out).mono ?_); rintro e w8 ⟨rfl, hb⟩; refine ⟨_, rfl, ?_⟩; have n0_ := Aside0.mk (below_step (by repeat (first | (with_reducible first | exact HB.out | apply below_alloc | apply pw_below_drewN | apply below_drew1) | exact HB.out)) hb); clear HB; have HB := n0_; clear n0_; (try clear hb); (try clear hb2); (try clear hk); (try clear hi)) | ((with_reducible refine gate_callee (f := 10) rfl ?_); refine goesL_ (some 17) rfl rfl Tryd.func10 (by kernel_rfl) rfl #[.string a0] rfl (by (try simp only [List.map_toArray, List.map_cons, List.map_nil]); first | done | rfl | (simp only [List.length_drop, List.length_take]; rfl)) ?_; (with_reducible refine (impl_ReadNumberWords.calls k a0 t183 t184 _ ?side1 A4.out).mono ?_); (case side1 => repeat (first | exact (GLr_below HT_.out HB.out) | (with_reducible refine GLr_alloc ?_ _) | (with_reducible refine GLr_drewN ?_ _) | (with_reducible refine GLr_drew ?_))); rintro e w' ⟨rfl, ⟨nd, rfl⟩⟩; refine ⟨_, rfl, ?_⟩))
        go_ret
        exact ⟨by first | rfl | (simp [errW_none, errW_some] <;> rfl) | (simp [*, errW_none, errW_some] <;> rfl), by repeat (first | (with_reducible first | exact HB.out | apply below_alloc | apply pw_below_drewN | apply below_drew1) | exact HB.out)⟩
    · rw [if_neg c5] at H
      have c5b0 : (t183 == t181) = false := beq_eq_false_iff_ne.mpr c5
      have c5b1 : (t183 != t181) = true := bne_iff_ne.mpr c5
      obtain rfl := Option.some.inj H
      go_enter Tryd.func4, Tryd.ntmps4
      go_wp2_with (first | ((with_reducible refine gate_callee (f := 9) rfl ?_); refine goesL_ (some 12) rfl rfl Tryd.func9 (by kernel_rfl) rfl #[.string a0] rfl (by (try simp only [List.map_toArray, List.map_cons, List.map_nil]); first | done | rfl | (simp only [List.length_drop, List.length_take]; rfl)) ?_; (with_reducible refine (spec_ReadNumberWords.calls k a0 t181 t182 _ A3.out).mono ?_); rintro e w9 ⟨rfl, hb⟩; refine ⟨_, rfl, ?_⟩; have n0_ := Aside0.mk (below_step (by repeat (first | (with_reducible first | exact HB.out | apply below_alloc | apply pw_below_drewN | apply below_drew1) | exact HB.out)) hb); clear HB; have HB := n0_; clear n0_; (try clear hb); (try clear hb2); (try clear hk); (try clear hi)) | ((with_reducible refine gate_callee (f := 10) rfl ?_); refine goesL_ (some 17) rfl rfl Tryd.func10 (by kernel_rfl) rfl #[.string a0] rfl (by (try simp only [List.map_toArray, List.map_cons, List.map_nil]); first | done | rfl | (simp only [List.length_drop, List.length_take]; rfl)) ?_; (with_reducible refine (impl_ReadNumberWords.calls k a0 t183 t184 _ ?side1 A4.out).mono ?_); (case side1 => repeat (first | exact (GLr_below HT_.out HB.out) | (with_reducible refine GLr_alloc ?_ _) | (with_reducible refine GLr_drewN ?_ _) | (with_reducible refine GLr_drew ?_))); rintro e w' ⟨rfl, ⟨nd, rfl⟩⟩; refine ⟨_, rfl, ?_⟩))
      go_ret
      exact ⟨by first | rfl | (simp [errW_none, errW_some] <;> rfl) | (simp [*, errW_none, errW_some] <;> rfl), by repeat (first | (with_reducible first | exact HB.out | apply below_alloc | apply pw_below_drewN | apply below_drew1) | exact HB.out)⟩

/-- THE ONE PURE STATEMENT of laws_FnExactReadNumberWords: yours. -/
def laws_FnExactReadNumberWords.Pure : Prop := ∀ (a0 : ByteArray), a0.size ≤ 140737488351232 → ∃ k, laws_FnExactReadNumberWords.f k a0 = some true
theorem laws_FnExactReadNumberWords.walk (P : laws_FnExactReadNumberWords.Pure) (a0 : ByteArray) (w : World) (w0 : a0.size ≤ 140737488351232) (hT_ : GLr w) :
    Calls Tryd.prog 4 #[.string a0] w fun e w' => e = .returned (.bool true) ∧ Below w.heap.size w w' := by
  obtain ⟨k, h⟩ := P a0 w0
  refine (laws_FnExactReadNumberWords.calls k a0 true w hT_ h).mono ?_
  rintro e w' ⟨rfl, hd⟩
  exact ⟨rfl, hd⟩

end Go.Proofs.YtiebjnppmcpffaaDoor.PFnExactReadNumberWords
