import Derived.Test.YteooifighndmkaaPFnExactFrameAtx0
import Derived.Test.YteooifighndmkaaPFnExactFrameAtx3
import Derived.Deep.RegionLaw
import Derived.Lib.Hide
namespace Go.Proofs.Yteooifighndmkaa.PFnExactFrameAt
open Go.RowKit Go.Proofs.YteooifighndmkaaW.PrintWords Go.Proofs.YteooifighndmkaaW.PrintLast Go.Proofs.YteooifighndmkaaW.PrintMore
open Go.Proofs.YteooifighndmkaaW.PrintFl
attribute [local go_sem high] binOp_feq binOp_fne binOp_fls binOp_fle binOp_fgr binOp_fge binOp_sle binOp_sgt
attribute [local go_sem] run_fopr run_fconv run_fint run_stf run_stc
attribute [local go_sem] max2_int min2_int max_two min_two max_three min_three max_four min_four
set_option linter.unusedVariables false
set_option linter.unusedSimpArgs false
mutual
def spec_l06Are.l0 : Nat → List (S49) → Int → Option (Bool)
 | 0, _, _ => none
 | k + 1, x0, x3 => if x3 < (x0.length : Int) then (spec_l06Are.j1 k x0 x3 (decide ((x0.length : Int) ≤ 16))) else (spec_l06Are.j1 k x0 x3 false)
def spec_l06Are.j1 : Nat → List (S49) → Int → Bool → Option (Bool)
 | 0, _, _, _ => none
 | k + 1, x0, x3, x12 => if x12 = true then (if 0 ≤ x3 then (if x3 < (x0.length : Int) then ((spec_l06Sound.f k [rd_T49 x0 x3]).bind fun t129 => (if t129 = true then (if 0 < (x0.length : Int) then (if (((rd_T49 x0 x3).f1).length : Int) = (((rd_T49 x0 0).f1).length : Int) then (if x3 > 0 then (if 0 ≤ (wrap64 (x3 - 1)) then (if (wrap64 (x3 - 1)) < (x0.length : Int) then (if ((Op.bytesLess (((rd_T49 x0 (wrap64 (x3 - 1))).f0).toList) (((rd_T49 x0 x3).f0).toList)) = true) then (spec_l06Are.l0 k x0 (wrap64 (x3 + 1))) else (some false)) else (none)) else (none)) else (spec_l06Are.l0 k x0 (wrap64 (x3 + 1)))) else (some false)) else (none)) else (some false))) else (none)) else (none)) else (some (decide ((x0.length : Int) ≤ 16)))
end
def spec_l06Are.f (k : Nat) (l0 : List (S49)) : Option (Bool) := spec_l06Are.l0 k l0 0
theorem spec_l06Are.mono_l : ∀ k, (∀ y0 y1, LeO (spec_l06Are.l0 k y0 y1) (spec_l06Are.l0 (k + 1) y0 y1)) ∧ (∀ y0 y1 y2, LeO (spec_l06Are.j1 k y0 y1 y2) (spec_l06Are.j1 (k + 1) y0 y1 y2))
 | 0 => ⟨fun _ _ r h => by simp [spec_l06Are.l0] at h, fun _ _ _ r h => by simp [spec_l06Are.j1] at h⟩
 | k + 1 => by
  obtain ⟨ih0, ih1⟩ := spec_l06Are.mono_l k
  refine ⟨?_, ?_⟩
  ·intro y0 y1
   unfold spec_l06Are.l0
   repeat' first
   | (with_reducible exact ih0 _ _)
   | (with_reducible exact ih1 _ _ _)
   | (with_reducible exact spec_l06Sound.mono _ _)
   | (with_reducible exact LeO.refl _)
   | (with_reducible exact LeO.none _)
   | (with_reducible refine LeO.ite ?_ ?_)
   | (with_reducible refine LeO.bind ?_ (fun _ => ?_))
   | exact ih0 _ _
   | exact ih1 _ _ _
   | exact spec_l06Sound.mono _ _
   | exact LeO.none _
   | refine LeO.ite ?_ ?_
   | refine LeO.bind ?_ (fun _ => ?_)
  ·intro y0 y1 y2
   unfold spec_l06Are.j1
   repeat' first
   | (with_reducible exact ih0 _ _)
   | (with_reducible exact ih1 _ _ _)
   | (with_reducible exact spec_l06Sound.mono _ _)
   | (with_reducible exact LeO.refl _)
   | (with_reducible exact LeO.none _)
   | (with_reducible refine LeO.ite ?_ ?_)
   | (with_reducible refine LeO.bind ?_ (fun _ => ?_))
   | exact ih0 _ _
   | exact ih1 _ _ _
   | exact spec_l06Sound.mono _ _
   | exact LeO.none _
   | refine LeO.ite ?_ ?_
   | refine LeO.bind ?_ (fun _ => ?_)
theorem spec_l06Are.mono : ∀ a0 k, LeO (spec_l06Are.f k a0) (spec_l06Are.f (k + 1) a0) := by
 intro a0 k
 obtain ⟨ih0, ih1⟩ := spec_l06Are.mono_l k
 unfold spec_l06Are.f
 repeat' first
   | (with_reducible exact ih0 _ _)
   | (with_reducible exact ih1 _ _ _)
   | (with_reducible exact spec_l06Sound.mono _ _)
   | (with_reducible exact LeO.refl _)
   | (with_reducible exact LeO.none _)
   | (with_reducible refine LeO.ite ?_ ?_)
   | (with_reducible refine LeO.bind ?_ (fun _ => ?_))
   | exact ih0 _ _
   | exact ih1 _ _ _
   | exact spec_l06Sound.mono _ _
   | exact LeO.none _
   | refine LeO.ite ?_ ?_
   | refine LeO.bind ?_ (fun _ => ?_)
set_option maxHeartbeats 8000000 in
set_option maxRecDepth 100000 in
theorem spec_l06Are.calls (k : Nat) (A0 : Option Addr) (c0 : Nat) (l0 : List S49) (r : Bool) (w : World) (hr0 : Kd.C k49 w A0 l0.length l0) (hc0 : l0.length ≤ c0) (h : spec_l06Are.f k l0 = some r) :
    Calls Try.prog 54 #[.slice A0 l0.length c0] w fun e w' => e = .returned (.bool r) ∧ Below w.heap.size w w' := by
  have HR0 := Lib.hid hr0
  clear hr0
  have HB := Lib.hid (Below.refl w.heap.size w)
  have H' := Lib.hid (show spec_l06Are.l0 k l0 0 = some r from h)
  clear h
  go_enter Try.func54, Try.ntmps54
  go_wp2
  go_loopg [3] k (fun kq v3 w' => ∃ x : Int, v3 = .int .i64 x ∧ Hid (spec_l06Are.l0 kq l0 x = some r) ∧ Hid (Below w.heap.size w w'))
  case atStart => exact ⟨0, rfl, H', HB⟩
  case round =>
    clear H' HB
    obtain ⟨x, rfl, HA, HB⟩ := hrel
    cases gk with
    | zero => exact absurd HA.out (by rw [spec_l06Are.l0]; exact fun h_ => by cases h_)
    | succ k1 =>
      have H := HA.out
      clear HA
      by_cases c3 : x < (l0.length : Int)
      · have q3 : decide (x < (l0.length : Int)) = true := decide_eq_true c3
        rw [spec_l06Are.l0, if_pos c3] at H
        cases k1 with
        | zero => exact absurd H (by rw [spec_l06Are.j1]; exact fun h_ => by cases h_)
        | succ k2 =>
          rw [spec_l06Are.j1] at H
          by_cases c4 : (l0.length : Int) ≤ 16
          · have q4 : decide ((l0.length : Int) ≤ 16) = true := decide_eq_true c4
            rw [if_pos q4] at H
            by_cases c5 : 0 ≤ x
            · rw [if_pos c5, if_pos c3] at H
              obtain ⟨t, ht, H⟩ := Option.bind_eq_some_iff.mp H
              have p1 : (0 : Int) ≤ x := c5
              obtain ⟨ad, A1, c1, rfl, x0, x1, x2, x3, x4, x5, hl1, hi1⟩ := at_T49 HR0.out x c5 c3
              have HS := Lib.hid (show ∀ W, Below w.heap.size w W → Calls Try.prog 87 #[.pointer (some (ad.add (x.toNat * 6)))] W fun e w' => e = .returned (.bool t) ∧ Drawn0 W w' from fun W hW => spec_l06Sound.calls k2 _ _ t W (Kd.C_sub (z := z49) (Kd.C_below HR0.out hW) x c5 c3) ht)
              clear ht hl1 hi1 x2 x3 x4 x5
              replace x0 := (HB.out.cell (World.block_lt_of_cell? w _ x0)).trans x0
              replace x1 := (HB.out.cell (World.block_lt_of_cell? w _ x1)).trans x1
              have q5 := eq_true c5
              have q6 := eq_true c3
              clear c5 c3 c4
              cases t with
              | false =>
                rw [if_neg (by decide)] at H
                obtain rfl := Option.some.inj H
                clear H
                go_wp2
                go_quiet ((go_at_call 87; (with_reducible refine (HS.out _ (by repeat (first | exact HB.out | apply pw_below_drewN | apply below_drew1))).mono ?_); rintro e_ w_ ⟨rfl, ⟨nd, rfl⟩⟩; (first | exact ⟨rfl, _, World.drewN_drewN _ _ _⟩ | exact ⟨rfl, _, Eq.trans (World.drewN_drewN _ _ _) (congrArg (World.drewN _) (Nat.add_assoc _ _ _))⟩)))
                go_wp2
                go_ret
                exact ⟨rfl, by repeat (first | exact HB.out | apply pw_below_drewN | apply below_drew1)⟩
              | true =>
                rw [if_pos rfl] at H
                by_cases c7 : (0 : Int) < (l0.length : Int)
                · rw [if_pos c7] at H
                  obtain ⟨ad', A2, c2, e2, y0, y1, y2, y3, y4, y5, -, -⟩ := at_T49 HR0.out 0 (by decide) c7
                  obtain rfl : ad = ad' := (by injection e2)
                  rw [show ((0 : Int)).toNat * 6 = 0 from rfl, Addr.add_zero'] at y1
                  clear e2 y0 y2 y3 y4 y5
                  replace y1 := (HB.out.cell (World.block_lt_of_cell? w _ y1)).trans y1
                  have q7 := eq_true c7
                  have q8 : (0 < l0.length) = True := eq_true (by omega)
                  by_cases c8 : (((rd_T49 l0 x).f1).length : Int) = (((rd_T49 l0 0).f1).length : Int)
                  · rw [if_pos c8] at H
                    have q9 : ((((rd_T49 l0 x).f1).length : Int) != (((rd_T49 l0 0).f1).length : Int)) = false := bne_eq_false_iff_eq.mpr c8
                    clear c8
                    by_cases c9 : x > 0
                    · rw [if_pos c9] at H
                      obtain ⟨j, hj⟩ : ∃ j, wrap64 (x - 1) = j := ⟨_, rfl⟩
                      have hjw : IntKind.i64.wrap (x - 1) = j := (i64_w _).trans hj
                      rw [hj] at H
                      have q10 : decide (0 < x) = true := decide_eq_true c9
                      by_cases c10 : 0 ≤ j
                      · rw [if_pos c10] at H
                        by_cases c11 : j < (l0.length : Int)
                        · rw [if_pos c11] at H
                          obtain ⟨ad', A3, c3', e3, v0, v1, v2, v3, v4, v5, -, -⟩ := at_T49 HR0.out j c10 c11
                          obtain rfl : ad = ad' := (by injection e3)
                          clear e3 v1 v2 v3 v4 v5
                          replace v0 := (HB.out.cell (World.block_lt_of_cell? w _ v0)).trans v0
                          have q11 := eq_true c10
                          have q12 := eq_true c11
                          clear c9 c10 c11 c7 hj
                          by_cases c12 : (Op.bytesLess (((rd_T49 l0 j).f0).toList) (((rd_T49 l0 x).f0).toList)) = true
                          · rw [if_pos c12] at H
                            have HH := Lib.hid H
                            clear H
                            go_wp2
                            go_quiet ((go_at_call 87; (with_reducible refine (HS.out _ (by repeat (first | exact HB.out | apply pw_below_drewN | apply below_drew1))).mono ?_); rintro e_ w_ ⟨rfl, ⟨nd, rfl⟩⟩; (first | exact ⟨rfl, _, World.drewN_drewN _ _ _⟩ | exact ⟨rfl, _, Eq.trans (World.drewN_drewN _ _ _) (congrArg (World.drewN _) (Nat.add_assoc _ _ _))⟩)))
                            go_wp2
                            go_roundg k2
                            case measure => exact Nat.lt_succ_of_lt (Nat.lt_succ_self _)
                            case rel => exact ⟨_, rfl, HH, Lib.hid (by repeat (first | exact HB.out | apply pw_below_drewN | apply below_drew1))⟩
                          · rw [if_neg c12] at H
                            replace c12 := Bool.eq_false_iff.mpr c12
                            obtain rfl := Option.some.inj H
                            clear H
                            go_wp2
                            go_quiet ((go_at_call 87; (with_reducible refine (HS.out _ (by repeat (first | exact HB.out | apply pw_below_drewN | apply below_drew1))).mono ?_); rintro e_ w_ ⟨rfl, ⟨nd, rfl⟩⟩; (first | exact ⟨rfl, _, World.drewN_drewN _ _ _⟩ | exact ⟨rfl, _, Eq.trans (World.drewN_drewN _ _ _) (congrArg (World.drewN _) (Nat.add_assoc _ _ _))⟩)))
                            go_wp2
                            go_ret
                            exact ⟨rfl, by repeat (first | exact HB.out | apply pw_below_drewN | apply below_drew1)⟩
                        · rw [if_neg c11] at H; cases H
                      · rw [if_neg c10] at H; cases H
                    · rw [if_neg c9] at H
                      have q10 : decide (0 < x) = false := decide_eq_false c9
                      clear c9 c7
                      have HH := Lib.hid H
                      clear H
                      go_wp2
                      go_quiet ((go_at_call 87; (with_reducible refine (HS.out _ (by repeat (first | exact HB.out | apply pw_below_drewN | apply below_drew1))).mono ?_); rintro e_ w_ ⟨rfl, ⟨nd, rfl⟩⟩; (first | exact ⟨rfl, _, World.drewN_drewN _ _ _⟩ | exact ⟨rfl, _, Eq.trans (World.drewN_drewN _ _ _) (congrArg (World.drewN _) (Nat.add_assoc _ _ _))⟩)))
                      go_wp2
                      go_roundg k2
                      case measure => exact Nat.lt_succ_of_lt (Nat.lt_succ_self _)
                      case rel => exact ⟨_, rfl, HH, Lib.hid (by repeat (first | exact HB.out | apply pw_below_drewN | apply below_drew1))⟩
                  · rw [if_neg c8] at H
                    have q9 : ((((rd_T49 l0 x).f1).length : Int) != (((rd_T49 l0 0).f1).length : Int)) = true := bne_iff_ne.mpr c8
                    obtain rfl := Option.some.inj H
                    clear H c8 c7
                    go_wp2
                    go_quiet ((go_at_call 87; (with_reducible refine (HS.out _ (by repeat (first | exact HB.out | apply pw_below_drewN | apply below_drew1))).mono ?_); rintro e_ w_ ⟨rfl, ⟨nd, rfl⟩⟩; (first | exact ⟨rfl, _, World.drewN_drewN _ _ _⟩ | exact ⟨rfl, _, Eq.trans (World.drewN_drewN _ _ _) (congrArg (World.drewN _) (Nat.add_assoc _ _ _))⟩)))
                    go_wp2
                    go_ret
                    exact ⟨rfl, by repeat (first | exact HB.out | apply pw_below_drewN | apply below_drew1)⟩
                · rw [if_neg c7] at H; cases H
            · rw [if_neg c5] at H; cases H
          · have q4 : decide ((l0.length : Int) ≤ 16) = false := decide_eq_false c4
            rw [if_neg (by rw [q4]; decide)] at H
            obtain rfl := Option.some.inj H
            clear H c3 c4
            go_wp2
            go_ret
            exact ⟨by first | rfl | (rw [q4]; rfl) | (simp [*]; done), HB.out⟩
      · have q3 : decide (x < (l0.length : Int)) = false := decide_eq_false c3
        rw [spec_l06Are.l0, if_neg c3] at H
        cases k1 with
        | zero => exact absurd H (by rw [spec_l06Are.j1]; exact fun h_ => by cases h_)
        | succ k2 =>
          rw [spec_l06Are.j1, if_neg (by decide)] at H
          obtain rfl := Option.some.inj H
          clear H c3
          go_wp2
          go_ret
          exact ⟨rfl, HB.out⟩
end Go.Proofs.Yteooifighndmkaa.PFnExactFrameAt
