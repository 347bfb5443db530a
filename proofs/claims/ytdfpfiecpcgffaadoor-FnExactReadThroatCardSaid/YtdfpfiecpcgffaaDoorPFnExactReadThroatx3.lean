/- Printed by a program of this session (the kit's print, with contracts of this session's own): what functions come to, and that their code comes to it. -/
import Derived.Test.YtdfpfiecpcgffaaDoorPFnExactReadThroatx0
import Derived.Test.YtdfpfiecpcgffaaDoorPFnExactReadThroatx2
namespace Go.Proofs.YtdfpfiecpcgffaaDoor.PFnExactReadThroat
open Go.RowKit Go.Proofs.YtdfpfiecpcgffaaDoorW.PrintWords Go.Proofs.YtdfpfiecpcgffaaDoorW.PrintLast Go.Proofs.YtdfpfiecpcgffaaDoorW.PrintMore
open Go.Proofs.YtdfpfiecpcgffaaDoorW.PrintFl
attribute [local go_sem high] binOp_feq binOp_fne binOp_fls binOp_fle binOp_fgr binOp_fge binOp_sle binOp_sgt
attribute [local go_sem] run_fopr run_fconv run_fint run_stf run_stc ext_f32bits ext_f32frombits 
attribute [local go_sem] max2_int min2_int max_two min_two max_three min_three max_four min_four   -- for this text's walks alone
set_option linter.unusedVariables false
set_option linter.unusedSimpArgs false


/-! ### spec_l03Throat: function 61 (given: a throat's bounds) -/
def spec_l03Throat.g (a b c d e : Nat) : Option Bool := if (fge .f32 a 1073741824) = true then (if (fle .f32 a 1148846080) = true then ((spec_l02Above.f b).bind fun t109 => (if t109 = true then ((spec_l02Above.f c).bind fun t112 => (if t112 = true then (if (foprOk .add .f32 b c) = true then (if (fle .f32 (fopr .add .f32 b c) 1065353216) = true then ((spec_l02Least.f d).bind fun t119 => (if t119 = true then (if (fge .f32 e 0) = true then (some (fle .f32 e 1056964608)) else (some false)) else (some false))) else (some false)) else (none)) else (some false))) else (some false))) else (some false)) else (some false)
def spec_l03Throat.f (l0 : List (S32)) : Option (Bool) := if 0 < (l0.length : Int) then spec_l03Throat.g (rd_T32 l0 0).f0 (rd_T32 l0 0).f1 (rd_T32 l0 0).f2 (rd_T32 l0 0).f3 (rd_T32 l0 0).f4 else none
set_option maxHeartbeats 8000000 in
set_option maxRecDepth 100000 in
theorem spec_l03Throat.cells (ad : Addr) (a b c d e : Nat) (r : Bool) (w : World) (h0 : w.cell? ad = some (.float .f32 a)) (h1 : w.cell? ⟨ad.block, ad.off + 1, none⟩ = some (.float .f32 b)) (h2 : w.cell? ⟨ad.block, ad.off + 2, none⟩ = some (.float .f32 c)) (h3 : w.cell? ⟨ad.block, ad.off + 3, none⟩ = some (.float .f32 d)) (h4 : w.cell? ⟨ad.block, ad.off + 4, none⟩ = some (.float .f32 e)) (h : spec_l03Throat.g a b c d e = some r) :
    Calls Tryd.prog 61 #[.pointer (some ad)] w fun e w' => e = .returned (.bool r) ∧ Drawn0 w w' := by
  unfold spec_l03Throat.g at h
  by_cases c1 : fge .f32 a 1073741824 = true
  · rw [if_pos c1] at h
    by_cases c2 : fle .f32 a 1148846080 = true
    · rw [if_pos c2] at h
      obtain ⟨t1, A10, h⟩ := Option.bind_eq_some_iff.mp h
      have A1 := Aside0.mk A10
      clear A10
      cases t1 with
      | true =>
        rw [if_pos rfl] at h
        obtain ⟨t2, A20, h⟩ := Option.bind_eq_some_iff.mp h
        have A2 := Aside0.mk A20
        clear A20
        cases t2 with
        | true =>
          rw [if_pos rfl] at h
          by_cases c3 : foprOk .add .f32 b c = true
          · rw [if_pos c3] at h
            by_cases c4 : fle .f32 (fopr .add .f32 b c) 1065353216 = true
            · rw [if_pos c4] at h
              obtain ⟨t3, A30, h⟩ := Option.bind_eq_some_iff.mp h
              have A3 := Aside0.mk A30
              clear A30
              cases t3 with
              | true =>
                rw [if_pos rfl] at h
                by_cases c5 : fge .f32 e 0 = true
                · rw [if_pos c5] at h
                  obtain rfl := Option.some.inj h
                  clear h
                  go_enter Tryd.func61, Tryd.ntmps61
                  go_wp2_with fail
                  go_quiet (first | (go_at_call 76; (with_reducible refine Calls.quiet_of ((spec_l02Above.calls _ _ _ A1.out).mono fun _ _ ⟨he_, ⟨n_, hn_⟩⟩ => ⟨he_, n_, hn_⟩))) | (go_at_call 76; (with_reducible refine Calls.quiet_of ((spec_l02Above.calls _ _ _ A2.out).mono fun _ _ ⟨he_, ⟨n_, hn_⟩⟩ => ⟨he_, n_, hn_⟩))) | (go_at_call 77; (with_reducible refine Calls.quiet_of ((spec_l02Least.calls _ _ _ A3.out).mono fun _ _ ⟨he_, ⟨n_, hn_⟩⟩ => ⟨he_, n_, hn_⟩))))
                  go_wp2
                  go_ret
                  exact ⟨rfl, ⟨_, rfl⟩⟩
                · rw [if_neg c5] at h
                  replace c5 := Bool.eq_false_iff.mpr c5
                  obtain rfl := Option.some.inj h
                  clear h
                  go_enter Tryd.func61, Tryd.ntmps61
                  go_wp2_with fail
                  go_quiet (first | (go_at_call 76; (with_reducible refine Calls.quiet_of ((spec_l02Above.calls _ _ _ A1.out).mono fun _ _ ⟨he_, ⟨n_, hn_⟩⟩ => ⟨he_, n_, hn_⟩))) | (go_at_call 76; (with_reducible refine Calls.quiet_of ((spec_l02Above.calls _ _ _ A2.out).mono fun _ _ ⟨he_, ⟨n_, hn_⟩⟩ => ⟨he_, n_, hn_⟩))) | (go_at_call 77; (with_reducible refine Calls.quiet_of ((spec_l02Least.calls _ _ _ A3.out).mono fun _ _ ⟨he_, ⟨n_, hn_⟩⟩ => ⟨he_, n_, hn_⟩))))
                  go_wp2
                  go_ret
                  exact ⟨rfl, ⟨_, rfl⟩⟩
              | false =>
                rw [if_neg Bool.false_ne_true] at h
                obtain rfl := Option.some.inj h
                clear h
                go_enter Tryd.func61, Tryd.ntmps61
                go_wp2_with fail
                go_quiet (first | (go_at_call 76; (with_reducible refine Calls.quiet_of ((spec_l02Above.calls _ _ _ A1.out).mono fun _ _ ⟨he_, ⟨n_, hn_⟩⟩ => ⟨he_, n_, hn_⟩))) | (go_at_call 76; (with_reducible refine Calls.quiet_of ((spec_l02Above.calls _ _ _ A2.out).mono fun _ _ ⟨he_, ⟨n_, hn_⟩⟩ => ⟨he_, n_, hn_⟩))) | (go_at_call 77; (with_reducible refine Calls.quiet_of ((spec_l02Least.calls _ _ _ A3.out).mono fun _ _ ⟨he_, ⟨n_, hn_⟩⟩ => ⟨he_, n_, hn_⟩))))
                go_wp2
                go_ret
                exact ⟨rfl, ⟨_, rfl⟩⟩
            · rw [if_neg c4] at h
              replace c4 := Bool.eq_false_iff.mpr c4
              obtain rfl := Option.some.inj h
              clear h
              go_enter Tryd.func61, Tryd.ntmps61
              go_wp2_with fail
              go_quiet (first | (go_at_call 76; (with_reducible refine Calls.quiet_of ((spec_l02Above.calls _ _ _ A1.out).mono fun _ _ ⟨he_, ⟨n_, hn_⟩⟩ => ⟨he_, n_, hn_⟩))) | (go_at_call 76; (with_reducible refine Calls.quiet_of ((spec_l02Above.calls _ _ _ A2.out).mono fun _ _ ⟨he_, ⟨n_, hn_⟩⟩ => ⟨he_, n_, hn_⟩))))
              go_wp2
              go_ret
              exact ⟨rfl, ⟨_, rfl⟩⟩
          · rw [if_neg c3] at h; cases h
        | false =>
          rw [if_neg Bool.false_ne_true] at h
          obtain rfl := Option.some.inj h
          clear h
          go_enter Tryd.func61, Tryd.ntmps61
          go_wp2_with fail
          go_quiet (first | (go_at_call 76; (with_reducible refine Calls.quiet_of ((spec_l02Above.calls _ _ _ A1.out).mono fun _ _ ⟨he_, ⟨n_, hn_⟩⟩ => ⟨he_, n_, hn_⟩))) | (go_at_call 76; (with_reducible refine Calls.quiet_of ((spec_l02Above.calls _ _ _ A2.out).mono fun _ _ ⟨he_, ⟨n_, hn_⟩⟩ => ⟨he_, n_, hn_⟩))))
          go_wp2
          go_ret
          exact ⟨rfl, ⟨_, rfl⟩⟩
      | false =>
        rw [if_neg Bool.false_ne_true] at h
        obtain rfl := Option.some.inj h
        clear h
        go_enter Tryd.func61, Tryd.ntmps61
        go_wp2_with fail
        go_quiet (first | (go_at_call 76; (with_reducible refine Calls.quiet_of ((spec_l02Above.calls _ _ _ A1.out).mono fun _ _ ⟨he_, ⟨n_, hn_⟩⟩ => ⟨he_, n_, hn_⟩))))
        go_wp2
        go_ret
        exact ⟨rfl, ⟨_, rfl⟩⟩
    · rw [if_neg c2] at h
      replace c2 := Bool.eq_false_iff.mpr c2
      obtain rfl := Option.some.inj h
      clear h
      go_enter Tryd.func61, Tryd.ntmps61
      go_wp2_with fail
      go_quiet (fail)
      go_wp2
      go_ret
      exact ⟨rfl, ⟨_, rfl⟩⟩
  · rw [if_neg c1] at h
    replace c1 := Bool.eq_false_iff.mpr c1
    obtain rfl := Option.some.inj h
    clear h
    go_enter Tryd.func61, Tryd.ntmps61
    go_wp2_with fail
    go_quiet (fail)
    go_wp2
    go_ret
    exact ⟨rfl, ⟨_, rfl⟩⟩
theorem spec_l03Throat.calls (A0 : Option Addr) (l0 : List (S32)) (r : Bool) (w : World) (hr0 : Kd.C k32 w A0 l0.length l0) (h : spec_l03Throat.f l0 = some r) :
    Calls Tryd.prog 61 #[.pointer A0] w fun e w' => e = .returned (.bool r) ∧ Drawn0 w w' := by
  unfold spec_l03Throat.f at h
  split at h
  · rename_i hl
    obtain ⟨ad, rfl, h0, h1, h2, h3, h4⟩ := at_T32 hr0 0 (by omega) hl
    rw [show ((0 : Int)).toNat * 5 = 0 from rfl, Addr.add_zero'] at h0 h1 h2 h3 h4
    exact spec_l03Throat.cells ad _ _ _ _ _ r w h0 h1 h2 h3 h4 h
  · cases h

/-! ### spec_l08ReadThroat: function 37 -/
abbrev spec_l08ReadThroat.z0 : Array Bool := #[false, false, false, false, false, false, false, false, false, false, false, false, false, false, false, false, false, false]
abbrev spec_l08ReadThroat.z1 : Array Bool := #[true, false, false, false, false, false, false, false, false, false, false, false, false, false, false, false, false, false]
abbrev spec_l08ReadThroat.z2 : Array Bool := #[true, true, false, false, false, false, false, false, false, false, false, false, false, false, false, false, false, false]
abbrev spec_l08ReadThroat.z3 : Array Bool := #[true, true, false, true, false, false, false, false, false, false, false, false, false, false, false, false, false, false]
abbrev spec_l08ReadThroat.z4 : Array Bool := #[true, true, false, true, true, false, false, false, false, false, false, false, false, false, false, false, false, false]
abbrev spec_l08ReadThroat.z5 : Array Bool := #[true, true, false, true, true, false, true, false, false, false, false, false, false, false, false, false, false, false]
abbrev spec_l08ReadThroat.z6 : Array Bool := #[true, true, false, true, true, false, true, true, false, false, false, false, false, false, false, false, false, false]
abbrev spec_l08ReadThroat.z7 : Array Bool := #[true, true, false, true, true, false, true, true, false, true, false, false, false, false, false, false, false, false]
abbrev spec_l08ReadThroat.z8 : Array Bool := #[true, true, false, true, true, false, true, true, false, true, true, false, false, false, false, false, false, false]
abbrev spec_l08ReadThroat.z9 : Array Bool := #[true, true, false, true, true, false, true, true, false, true, true, false, true, false, false, false, false, false]
abbrev spec_l08ReadThroat.z10 : Array Bool := #[true, true, false, true, true, false, true, true, false, true, true, false, true, true, false, false, false, false]
abbrev spec_l08ReadThroat.z11 : Array Bool := #[true, true, true, true, true, false, true, true, false, true, true, false, true, true, false, false, false, false]
abbrev spec_l08ReadThroat.z12 : Array Bool := #[true, true, true, true, true, true, true, true, false, true, true, false, true, true, false, false, false, false]
abbrev spec_l08ReadThroat.z13 : Array Bool := #[true, true, true, true, true, true, true, true, true, true, true, false, true, true, false, false, false, false]
abbrev spec_l08ReadThroat.z14 : Array Bool := #[true, true, true, true, true, true, true, true, true, true, true, true, true, true, false, false, false, false]
abbrev spec_l08ReadThroat.z15 : Array Bool := #[true, true, true, true, true, true, true, true, true, true, true, true, true, true, true, false, false, false]
abbrev spec_l08ReadThroat.z16 : Array Bool := #[true, true, true, true, true, true, true, true, true, true, true, true, true, true, true, true, false, false]
abbrev spec_l08ReadThroat.z17 : Array Bool := #[true, true, true, true, true, true, true, true, true, true, true, true, true, true, true, true, true, false]
abbrev spec_l08ReadThroat.z18 : Array Bool := #[true, true, true, true, true, true, true, true, true, true, true, true, true, true, true, true, true, true]
def spec_l08ReadThroat.j0 : Nat → List Nat → Bool → Option (Nat × Nat × Nat × Nat × Nat × Bool)
 | 0, _, _ => none
 | k + 1, x4, x18 => if x18 = true then (some (0, 0, 0, 0, 0, false)) else (if 0 < (x4.length : Int) then (if 1 < (x4.length : Int) then (if 2 < (x4.length : Int) then (if 3 < (x4.length : Int) then (if 4 < (x4.length : Int) then ((spec_l03Throat.f [(⟨rdOf (0 : Nat) x4 0, rdOf (0 : Nat) x4 1, rdOf (0 : Nat) x4 2, rdOf (0 : Nat) x4 3, rdOf (0 : Nat) x4 4⟩ : S32)]).bind fun t136 => (if t136 = true then (some (rdOf (0 : Nat) x4 0, rdOf (0 : Nat) x4 1, rdOf (0 : Nat) x4 2, rdOf (0 : Nat) x4 3, rdOf (0 : Nat) x4 4, true)) else (some (0, 0, 0, 0, 0, false)))) else (none)) else (none)) else (none)) else (none)) else (none))
def spec_l08ReadThroat.f (k : Nat) (a0 : ByteArray) : Option (Nat × Nat × Nat × Nat × Nat × Bool) := (spec_l01NRead.f k a0).bind fun bt126 => (if bt126.2 = true then (spec_l08ReadThroat.j0 k bt126.1 ((bt126.1.length : Int) != 5)) else (spec_l08ReadThroat.j0 k bt126.1 true))
theorem spec_l08ReadThroat.mono_l : ∀ k, (∀ y0 y1, LeO (spec_l08ReadThroat.j0 k y0 y1) (spec_l08ReadThroat.j0 (k + 1) y0 y1))
 | 0 => fun _ _ r h => by simp [spec_l08ReadThroat.j0] at h
 | k + 1 => by
  have ih0 := spec_l08ReadThroat.mono_l k
  ·intro y0 y1
   unfold spec_l08ReadThroat.j0
   repeat' first
   | (with_reducible exact ih0 _ _)
   | (with_reducible exact spec_l01NRead.mono _ _)
   | (with_reducible exact LeO.refl _)
   | (with_reducible exact LeO.none _)
   | (with_reducible refine LeO.ite ?_ ?_)
   | (with_reducible refine LeO.bind ?_ (fun _ => ?_))
   | exact ih0 _ _
   | exact spec_l01NRead.mono _ _
   | exact LeO.none _
   | refine LeO.ite ?_ ?_
   | refine LeO.bind ?_ (fun _ => ?_)
theorem spec_l08ReadThroat.mono : ∀ a0 k, LeO (spec_l08ReadThroat.f k a0) (spec_l08ReadThroat.f (k + 1) a0) := by
 intro a0 k
 have ih0 := spec_l08ReadThroat.mono_l k
 unfold spec_l08ReadThroat.f
 repeat' first
   | (with_reducible exact ih0 _ _)
   | (with_reducible exact spec_l01NRead.mono _ _)
   | (with_reducible exact LeO.refl _)
   | (with_reducible exact LeO.none _)
   | (with_reducible refine LeO.ite ?_ ?_)
   | (with_reducible refine LeO.bind ?_ (fun _ => ?_))
   | exact ih0 _ _
   | exact spec_l01NRead.mono _ _
   | exact LeO.none _
   | refine LeO.ite ?_ ?_
   | refine LeO.bind ?_ (fun _ => ?_)
def spec_l08ReadThroat.T4 : Bool × List (List Nat × List Nat) := (true, [([], []), ([0], [0]), ([1], [1]), ([], []), ([3], [3]), ([4], [4]), ([], []), ([6], [6]), ([7], [7]), ([], []), ([9], [9]), ([10], [10]), ([], []), ([12], [12]), ([13], [13]), ([2, 5, 8, 11, 14], [2, 5, 8, 11, 14]), ([], []), ([16, 15, 0, 1, 2, 3, 4, 5, 6, 7, 8, 9, 10, 11, 12, 13, 14, 15, 16], [15, 16])])
def spec_l08ReadThroat.B4 : List Nat := [0, 1, 3, 0, 8, 24, 0, 64, 192, 0, 512, 1536, 0, 4096, 12288, 32767, 0, 131071]
theorem spec_l08ReadThroat.tab4 : rtab .any (opsOf Tryd.f37 4) = spec_l08ReadThroat.T4 := by kernel_rfl
theorem spec_l08ReadThroat.bits4 : waitsOk spec_l08ReadThroat.T4.2 spec_l08ReadThroat.B4 = true := by kernel_rfl
set_option maxHeartbeats 8000000 in
set_option maxRecDepth 100000 in
theorem spec_l08ReadThroat.calls (k : Nat) (a0 : ByteArray) (r1 : Nat) (r2 : Nat) (r3 : Nat) (r4 : Nat) (r5 : Nat) (r6 : Bool) (w : World) (h : spec_l08ReadThroat.f k a0 = some (r1, r2, r3, r4, r5, r6)) :
  Calls Tryd.prog 37 #[.string a0] w fun e w' => e = .returned (.tuple #[.agg #[.float .f32 r1, .float .f32 r2, .float .f32 r3, .float .f32 r4, .float .f32 r5], .bool r6]) ∧ Below w.heap.size w w' := by
 have hu32 := Tryd.underlying32
 have hu30 := Tryd.underlying30
 have HB := Aside0.mk (Below.refl w.heap.size w)
 have H : ((spec_l01NRead.f k a0).bind fun bt126 => (if bt126.2 = true then (spec_l08ReadThroat.j0 k bt126.1 ((bt126.1.length : Int) != 5)) else (spec_l08ReadThroat.j0 k bt126.1 true))) = some (r1, r2, r3, r4, r5, r6) := h
 clear h
 replace H := Option.bind_eq_some_iff.mp H
 obtain ⟨⟨t126, t127⟩, A20, H⟩ := H
 replace H : (if t127 = true then (spec_l08ReadThroat.j0 k t126 ((t126.length : Int) != 5)) else (spec_l08ReadThroat.j0 k t126 true)) = some (r1, r2, r3, r4, r5, r6) := H
 have A2 := Aside0.mk A20
 clear A20
 have HC3 := Aside0.mk H
 clear H
 go_enter Tryd.func37, Tryd.ntmps37
 go_upto_region 2 with (first | ((with_reducible refine gate_dst (N := 2) rfl ?_); (try (refine gate_guard (by rfl) ?_; dsimp only)); refine box_event ?hg (N := 2) ?hd (cs := #[.float .f32 0, .float .f32 0, .float .f32 0, .float .f32 0, .float .f32 0]) (t := 32) ?hr ?_; (case hd => rfl); (case hg => rfl); (case hr => first | (go_simp; done) | (go_simp; rfl) | (simp (disch := omega) only [w64_id]; go_simp; done) | (go_simp; simp (disch := omega) only [w64_id]; done)); intro gb125 hg w4 hbox hb; have n0_ := Aside0.mk (below_step (by repeat (first | (with_reducible first | exact HB.out | apply below_alloc | apply pw_below_drewN | apply below_drew1) | exact HB.out)) hb); have n1_ := Aside0.mk (hbox); have n2_ := Aside0.mk ((by rw [hg]; exact (below_size (by repeat (first | (with_reducible first | exact HB.out | apply below_alloc | apply pw_below_drewN | apply below_drew1) | exact HB.out))) : w.heap.size ≤ gb125)); have n3_ := Aside0.mk ((by rw [hg]; exact (below_size (by repeat (first | (with_reducible first | exact HB.out | apply below_alloc | apply pw_below_drewN | apply below_drew1) | exact HB.out))) : w.heap.size ≤ gb125)); clear HB; have HB := n0_; have BK125 := n1_; have GW125 := n2_; have GE125 := n3_; clear n0_ n1_ n2_ n3_; clear hb hbox hg) | ((with_reducible refine gate_callee (f := 60) rfl ?_); refine goesL_ (some 9) rfl rfl Tryd.func60 (by kernel_rfl) rfl #[.string a0] rfl (by (try simp only [List.map_toArray, List.map_cons, List.map_nil]); first | done | rfl | (simp only [List.length_drop, List.length_take]; rfl)) ?_; (with_reducible refine (spec_l01NRead.calls k a0 t126 t127 _ A2.out).mono ?_); rintro e w5 ⟨v128, rfl, ho0, hb⟩; refine ⟨_, rfl, ?_⟩; have n0_ := Aside0.mk (Kd.R_lower ho0 (below_size (by repeat (first | (with_reducible first | exact HB.out | apply below_alloc | apply pw_below_drewN | apply below_drew1 | refine below_set ?_ GE125.out) | exact HB.out)))); have n1_ := Aside0.mk (blk_below (g := gb125) (o := .cells #[.float .f32 0, .float .f32 0, .float .f32 0, .float .f32 0, .float .f32 0] 32 (0, 0)) (by (with_reducible repeat (first | refine blk_drewN ?_ _ | refine blk_drew ?_ | refine blk_alloc ?_ _)); exact BK125.out) hb); have n2_ := Aside0.mk (below_step (by repeat (first | (with_reducible first | exact HB.out | apply below_alloc | apply pw_below_drewN | apply below_drew1 | refine below_set ?_ GE125.out) | exact HB.out)) hb); clear BK125; clear HB; have HO129 := n0_; have BK125 := n1_; have HB := n2_; clear n0_ n1_ n2_; (try clear hb); (try clear hb2); (try clear hk); (try clear hi); (try clear ho0)))
 (try simp only [Act.put, List.setIfInBounds_toArray, List.set_cons_zero, List.set_cons_succ])
 go_cut [18] (fun v18 wc => ∃ (kq : Nat) (x18_2 : Bool), v18 = .bool x18_2 ∧ Aside0 (spec_l08ReadThroat.j0 kq t126 x18_2 = some (r1, r2, r3, r4, r5, r6)) ∧ Aside0 (kq ≤ k) ∧ Aside0 (Kd.R (Kd.float .f32) 30 wc w.heap.size (fun _ => True) v128 t126) ∧ Aside0 (wc.heap[gb125]? = some (.cells #[.float .f32 0, .float .f32 0, .float .f32 0, .float .f32 0, .float .f32 0] 32 (0, 0))) ∧ Aside0 (Below w.heap.size w wc))
 case first =>
  have H := HC3.out
  clear HC3
  by_cases c6 : t127 = true
  ·subst c6
   have H1 : (spec_l08ReadThroat.j0 k t126 ((t126.length : Int) != 5)) = some (r1, r2, r3, r4, r5, r6) := by rw [if_pos rfl] at H; exact H
   clear H
   have H := H1
   clear H1
   have H' := Aside0.mk H
   clear H
   obtain ⟨Ao7, co7, eo7⟩ := Kd.R_slice HO129.out
   subst eo7
   go_wp2
   go_meet
   case rel => exact ⟨_, (((t126.length : Int) != 5)), (by first | rfl | (simp; done) | (simp [*]; done)), H', ⟨by first | omega | exact Nat.le_refl _⟩, ⟨by (with_reducible repeat (first | apply Kd.R_alloc | apply Kd.R_drewN | apply Kd.R_drew)); exact HO129.out⟩, ⟨by (with_reducible repeat (first | refine blk_drewN ?_ _ | refine blk_drew ?_ | refine blk_alloc ?_ _)); exact BK125.out⟩, ⟨by repeat (first | (with_reducible first | exact HB.out | apply below_alloc | apply pw_below_drewN | apply below_drew1 | refine below_set ?_ GE125.out) | exact HB.out)⟩⟩
  ·replace c6 := Bool.eq_false_iff.mpr c6
   subst c6
   have H1 : (spec_l08ReadThroat.j0 k t126 true) = some (r1, r2, r3, r4, r5, r6) := by rw [if_neg (show ¬ (false = true) by decide)] at H; exact H
   clear H
   have H := H1
   clear H1
   have H' := Aside0.mk H
   clear H
   go_wp2
   go_meet
   case rel => exact ⟨_, (true), (by first | rfl | (simp; done) | (simp [*]; done)), H', ⟨by first | omega | exact Nat.le_refl _⟩, ⟨by (with_reducible repeat (first | apply Kd.R_alloc | apply Kd.R_drewN | apply Kd.R_drew)); exact HO129.out⟩, ⟨by (with_reducible repeat (first | refine blk_drewN ?_ _ | refine blk_drew ?_ | refine blk_alloc ?_ _)); exact BK125.out⟩, ⟨by repeat (first | (with_reducible first | exact HB.out | apply below_alloc | apply pw_below_drewN | apply below_drew1 | refine below_set ?_ GE125.out) | exact HB.out)⟩⟩
 case rest =>
  clear HC3
  try clear p2
  try clear c3
  try clear c6
  obtain ⟨kq, x18_2, rfl, HA, HJ2, HO_4, BK125, HB⟩ := hcut
  cases kq with
  | zero => exact absurd HA.out (by simp [spec_l08ReadThroat.j0])
  | succ kj2 =>
   have H := HA.out
   clear HA
   simp only [spec_l08ReadThroat.j0] at H
   by_cases c8 : x18_2 = true
   ·subst c8
    have H1 : (some (0, 0, 0, 0, 0, false)) = some (r1, r2, r3, r4, r5, r6) := by rw [if_pos rfl] at H; exact H
    clear H
    have H := H1
    clear H1
    simp only [Option.some.injEq, Prod.mk.injEq] at H
    obtain ⟨rfl, rfl, rfl, rfl, rfl, rfl⟩ := H
    have hcz9_0 : wc.cell? ⟨gb125, 0, none⟩ = some (.float .f32 0) := (blk_cell BK125.out 0).trans rfl
    have hcz9_1 : wc.cell? ⟨gb125, 1, none⟩ = some (.float .f32 0) := (blk_cell BK125.out 1).trans rfl
    have hcz9_2 : wc.cell? ⟨gb125, 2, none⟩ = some (.float .f32 0) := (blk_cell BK125.out 2).trans rfl
    have hcz9_3 : wc.cell? ⟨gb125, 3, none⟩ = some (.float .f32 0) := (blk_cell BK125.out 3).trans rfl
    have hcz9_4 : wc.cell? ⟨gb125, 4, none⟩ = some (.float .f32 0) := (blk_cell BK125.out 4).trans rfl
    have hfz9_0 := blk_frozen BK125.out 0
    have hfz9_1 := blk_frozen BK125.out 1
    have hfz9_2 := blk_frozen BK125.out 2
    have hfz9_3 := blk_frozen BK125.out 3
    have hfz9_4 := blk_frozen BK125.out 4
    go_wp2
    refine bodyPost_ret (results_ct rfl _ _ gb125 32 #[.float .f32 0, .float .f32 0, .float .f32 0, .float .f32 0, .float .f32 0] (0, 0) _ rfl (by (with_reducible repeat (first | refine blk_drewN ?_ _ | refine blk_drew ?_ | refine blk_alloc ?_ _)); refine blk_put (cs := #[.float .f32 0, .float .f32 0, .float .f32 0, .float .f32 0, .float .f32 0]) ?_ 4 _ rfl; (with_reducible repeat (first | refine blk_drewN ?_ _ | refine blk_drew ?_ | refine blk_alloc ?_ _)); refine blk_put (cs := #[.float .f32 0, .float .f32 0, .float .f32 0, .float .f32 0, .float .f32 0]) ?_ 3 _ rfl; (with_reducible repeat (first | refine blk_drewN ?_ _ | refine blk_drew ?_ | refine blk_alloc ?_ _)); refine blk_put (cs := #[.float .f32 0, .float .f32 0, .float .f32 0, .float .f32 0, .float .f32 0]) ?_ 2 _ rfl; (with_reducible repeat (first | refine blk_drewN ?_ _ | refine blk_drew ?_ | refine blk_alloc ?_ _)); refine blk_put (cs := #[.float .f32 0, .float .f32 0, .float .f32 0, .float .f32 0, .float .f32 0]) ?_ 1 _ rfl; (with_reducible repeat (first | refine blk_drewN ?_ _ | refine blk_drew ?_ | refine blk_alloc ?_ _)); refine blk_put (cs := #[.float .f32 0, .float .f32 0, .float .f32 0, .float .f32 0, .float .f32 0]) ?_ 0 _ rfl; (with_reducible repeat (first | refine blk_drewN ?_ _ | refine blk_drew ?_ | refine blk_alloc ?_ _)); exact BK125.out) Tryd.underlying32 rfl (by kernel_rfl)) rfl ?_
    exact ⟨by first | rfl | (simp [errW_none, errW_some] <;> rfl) | (simp [*, errW_none, errW_some] <;> rfl), by repeat (first | (with_reducible first | exact HB.out | apply below_alloc | apply pw_below_drewN | apply below_drew1 | refine below_set ?_ GE125.out) | exact HB.out)⟩
   ·replace c8 := Bool.eq_false_iff.mpr c8
    subst c8
    have H1 : (if 0 < (t126.length : Int) then (if 1 < (t126.length : Int) then (if 2 < (t126.length : Int) then (if 3 < (t126.length : Int) then (if 4 < (t126.length : Int) then ((spec_l03Throat.f [(⟨rdOf (0 : Nat) t126 0, rdOf (0 : Nat) t126 1, rdOf (0 : Nat) t126 2, rdOf (0 : Nat) t126 3, rdOf (0 : Nat) t126 4⟩ : S32)]).bind fun t136 => (if t136 = true then (some (rdOf (0 : Nat) t126 0, rdOf (0 : Nat) t126 1, rdOf (0 : Nat) t126 2, rdOf (0 : Nat) t126 3, rdOf (0 : Nat) t126 4, true)) else (some (0, 0, 0, 0, 0, false)))) else (none)) else (none)) else (none)) else (none)) else (none)) = some (r1, r2, r3, r4, r5, r6) := by rw [if_neg (show ¬ (false = true) by decide)] at H; exact H
    clear H
    have H := H1
    clear H1
    by_cases c10 : 0 < (t126.length : Int)
    ·rw [if_pos c10] at H
     have c10b0 : decide (0 < (t126.length : Int)) = true := decide_eq_true c10
     have c10b1 : decide (0 < t126.length) = true := decide_eq_true (by omega)
     clear c10
     by_cases c11 : 1 < (t126.length : Int)
     ·rw [if_pos c11] at H
      have c11b0 : decide (1 < (t126.length : Int)) = true := decide_eq_true c11
      have c11b1 : decide (1 < t126.length) = true := decide_eq_true (by omega)
      clear c11
      by_cases c12 : 2 < (t126.length : Int)
      ·rw [if_pos c12] at H
       have c12b0 : decide (2 < (t126.length : Int)) = true := decide_eq_true c12
       have c12b1 : decide (2 < t126.length) = true := decide_eq_true (by omega)
       clear c12
       by_cases c13 : 3 < (t126.length : Int)
       ·rw [if_pos c13] at H
        have c13b0 : decide (3 < (t126.length : Int)) = true := decide_eq_true c13
        have c13b1 : decide (3 < t126.length) = true := decide_eq_true (by omega)
        clear c13
        by_cases c14 : 4 < (t126.length : Int)
        ·rw [if_pos c14] at H
         have c14b0 : decide (4 < (t126.length : Int)) = true := decide_eq_true c14
         have c14b1 : decide (4 < t126.length) = true := decide_eq_true (by omega)
         clear c14
         replace H := Option.bind_eq_some_iff.mp H
         obtain ⟨t136, A150, H⟩ := H
         replace H : (if t136 = true then (some (rdOf (0 : Nat) t126 0, rdOf (0 : Nat) t126 1, rdOf (0 : Nat) t126 2, rdOf (0 : Nat) t126 3, rdOf (0 : Nat) t126 4, true)) else (some (0, 0, 0, 0, 0, false))) = some (r1, r2, r3, r4, r5, r6) := H
         have A15 := Aside0.mk A150
         clear A150
         by_cases c16 : t136 = true
         ·subst c16
          have H1 : (some (rdOf (0 : Nat) t126 0, rdOf (0 : Nat) t126 1, rdOf (0 : Nat) t126 2, rdOf (0 : Nat) t126 3, rdOf (0 : Nat) t126 4, true)) = some (r1, r2, r3, r4, r5, r6) := by rw [if_pos rfl] at H; exact H
          clear H
          have H := H1
          clear H1
          simp only [Option.some.injEq, Prod.mk.injEq] at H
          obtain ⟨rfl, rfl, rfl, rfl, rfl, rfl⟩ := H
          try go_wp2
          have n0_ := Aside0.mk (Kd.R_drew HO_4.out)
          have n1_ := Aside0.mk (blk_drew BK125.out)
          have n2_ := Aside0.mk (below_drew1 HB.out)
          clear HO_4
          clear BK125
          clear HB
          have HO_4 := n0_
          have BK125 := n1_
          have HB := n2_
          clear n0_ n1_ n2_
          obtain ⟨Ao18, co18, eo18⟩ := Kd.R_slice HO_4.out
          (first | subst eo18 | (injection eo18 with f1_ f2_ f3_; have f4_ := f1_.symm; have f5_ := f3_.symm; clear f1_ f2_ f3_; subst f4_; subst f5_))
          have p130 : 0 ≤ (0 : Int) := (by omega)
          have q130 : 0 < (t126.length : Int) := of_decide_eq_true (by first | (with_reducible assumption) | assumption)
          obtain ⟨ad130, e130, hx130_0⟩ := Kd.at_float (Kd.R_reads' HO_4.out).2.2 0 p130 q130
          cases e130
          have qi130 : (0 < t126.length) = True := eq_true (by omega)
          (try rw [show ((0 : Int)).toNat = 0 from rfl] at hx130_0)
          (try rw [Addr.add_zero'] at hx130_0)
          replace p130 := eq_true p130
          replace q130 := eq_true q130
          have p131 : 0 ≤ (1 : Int) := (by omega)
          have q131 : 1 < (t126.length : Int) := of_decide_eq_true (by first | (with_reducible assumption) | assumption)
          obtain ⟨ad131, e131, hx131_0⟩ := Kd.at_float (Kd.R_reads' HO_4.out).2.2 1 p131 q131
          obtain rfl : ad130 = ad131 := (by injection e131)
          (try simp only [show (1 : Int).toNat = 1 from rfl, Nat.reduceMul, Nat.reduceEqDiff, Go.Addr.add, ↓reduceIte] at hx131_0)
          have qi131 : (1 < t126.length) = True := eq_true (by omega)
          (try rw [show ((1 : Int)).toNat = 1 from rfl] at hx131_0)
          replace p131 := eq_true p131
          replace q131 := eq_true q131
          have p132 : 0 ≤ (2 : Int) := (by omega)
          have q132 : 2 < (t126.length : Int) := of_decide_eq_true (by first | (with_reducible assumption) | assumption)
          obtain ⟨ad132, e132, hx132_0⟩ := Kd.at_float (Kd.R_reads' HO_4.out).2.2 2 p132 q132
          obtain rfl : ad130 = ad132 := (by injection e132)
          (try simp only [show (2 : Int).toNat = 2 from rfl, Nat.reduceMul, Nat.reduceEqDiff, Go.Addr.add, ↓reduceIte] at hx132_0)
          have qi132 : (2 < t126.length) = True := eq_true (by omega)
          (try rw [show ((2 : Int)).toNat = 2 from rfl] at hx132_0)
          replace p132 := eq_true p132
          replace q132 := eq_true q132
          have p133 : 0 ≤ (3 : Int) := (by omega)
          have q133 : 3 < (t126.length : Int) := of_decide_eq_true (by first | (with_reducible assumption) | assumption)
          obtain ⟨ad133, e133, hx133_0⟩ := Kd.at_float (Kd.R_reads' HO_4.out).2.2 3 p133 q133
          obtain rfl : ad130 = ad133 := (by injection e133)
          (try simp only [show (3 : Int).toNat = 3 from rfl, Nat.reduceMul, Nat.reduceEqDiff, Go.Addr.add, ↓reduceIte] at hx133_0)
          have qi133 : (3 < t126.length) = True := eq_true (by omega)
          (try rw [show ((3 : Int)).toNat = 3 from rfl] at hx133_0)
          replace p133 := eq_true p133
          replace q133 := eq_true q133
          have p134 : 0 ≤ (4 : Int) := (by omega)
          have q134 : 4 < (t126.length : Int) := of_decide_eq_true (by first | (with_reducible assumption) | assumption)
          obtain ⟨ad134, e134, hx134_0⟩ := Kd.at_float (Kd.R_reads' HO_4.out).2.2 4 p134 q134
          obtain rfl : ad130 = ad134 := (by injection e134)
          (try simp only [show (4 : Int).toNat = 4 from rfl, Nat.reduceMul, Nat.reduceEqDiff, Go.Addr.add, ↓reduceIte] at hx134_0)
          have qi134 : (4 < t126.length) = True := eq_true (by omega)
          (try rw [show ((4 : Int)).toNat = 4 from rfl] at hx134_0)
          replace p134 := eq_true p134
          replace q134 := eq_true q134
          refine start_ (n := 18) (S := fun w' => w'.cell? ad130 = some (.float .f32 (rdOf (0 : Nat) t126 0)) ∧ w'.cell? ⟨ad130.block, ad130.off + 1, none⟩ = some (.float .f32 (rdOf (0 : Nat) t126 1)) ∧ w'.cell? ⟨ad130.block, ad130.off + 2, none⟩ = some (.float .f32 (rdOf (0 : Nat) t126 2)) ∧ w'.cell? ⟨ad130.block, ad130.off + 3, none⟩ = some (.float .f32 (rdOf (0 : Nat) t126 3)) ∧ w'.cell? ⟨ad130.block, ad130.off + 4, none⟩ = some (.float .f32 (rdOf (0 : Nat) t126 4))) (ds := []) spec_l08ReadThroat.z0 (by kernel_rfl) rfl rfl ⟨hx130_0, hx131_0, hx132_0, hx133_0, hx134_0⟩ (fun hHeld => ?_); refine with_tabW spec_l08ReadThroat.tab4 spec_l08ReadThroat.bits4 (fun HT_ HW_ => ?_)
          generalize wc.drew = w17 at HO_4 BK125 HB hx130_0 hx131_0 hx132_0 hx133_0 hx134_0 hHeld ⊢
          refine pure_ (i := 0) (N := some 20) (v := ?_) (a' := ?_) spec_l08ReadThroat.z1 rfl rfl (any_of HT_.out (by kernel_rfl)) (fun _ _ _ h => h) (Or.inl ⟨by rfl, ?_⟩) ?_ ?_
          pv_
          refine pure_ (i := 1) (N := some 21) (v := ?_) (a' := ?_) spec_l08ReadThroat.z2 rfl rfl (any_of HT_.out (by kernel_rfl)) (fun _ _ _ h => h) (Or.inl ⟨by rfl, ?_⟩) ?_ ?_
          pv_
          refine pure_ (i := 3) (N := some 23) (v := ?_) (a' := ?_) spec_l08ReadThroat.z3 rfl rfl (any_of HT_.out (by kernel_rfl)) (fun _ _ _ h => h) (Or.inl ⟨by rfl, ?_⟩) ?_ ?_
          pv_
          refine pure_ (i := 4) (N := some 24) (v := ?_) (a' := ?_) spec_l08ReadThroat.z4 rfl rfl (any_of HT_.out (by kernel_rfl)) (fun _ _ _ h => h) (Or.inl ⟨by rfl, ?_⟩) ?_ ?_
          pv_
          refine pure_ (i := 6) (N := some 26) (v := ?_) (a' := ?_) spec_l08ReadThroat.z5 rfl rfl (any_of HT_.out (by kernel_rfl)) (fun _ _ _ h => h) (Or.inl ⟨by rfl, ?_⟩) ?_ ?_
          pv_
          refine pure_ (i := 7) (N := some 27) (v := ?_) (a' := ?_) spec_l08ReadThroat.z6 rfl rfl (any_of HT_.out (by kernel_rfl)) (fun _ _ _ h => h) (Or.inl ⟨by rfl, ?_⟩) ?_ ?_
          pv_
          refine pure_ (i := 9) (N := some 29) (v := ?_) (a' := ?_) spec_l08ReadThroat.z7 rfl rfl (any_of HT_.out (by kernel_rfl)) (fun _ _ _ h => h) (Or.inl ⟨by rfl, ?_⟩) ?_ ?_
          pv_
          refine pure_ (i := 10) (N := some 30) (v := ?_) (a' := ?_) spec_l08ReadThroat.z8 rfl rfl (any_of HT_.out (by kernel_rfl)) (fun _ _ _ h => h) (Or.inl ⟨by rfl, ?_⟩) ?_ ?_
          pv_
          refine pure_ (i := 12) (N := some 32) (v := ?_) (a' := ?_) spec_l08ReadThroat.z9 rfl rfl (any_of HT_.out (by kernel_rfl)) (fun _ _ _ h => h) (Or.inl ⟨by rfl, ?_⟩) ?_ ?_
          pv_
          refine pure_ (i := 13) (N := some 33) (v := ?_) (a' := ?_) spec_l08ReadThroat.z10 rfl rfl (any_of HT_.out (by kernel_rfl)) (fun _ _ _ h => h) (Or.inl ⟨by rfl, ?_⟩) ?_ ?_
          pv_
          refine take_ (i := 2) (N := some 22) (v := ?_) (a' := ?_) spec_l08ReadThroat.z11 rfl rfl (take_ofW HT_.out HW_.out (by kernel_rfl)) (fun _ _ _ h => h) (Or.inl ⟨by rfl, ?_⟩) hHeld ?_ ?_
          rotate_left
          ·rintro w' ⟨s0, s1, s2, s3, s4⟩
           go_simp
           with_reducible rfl
          rotate_left
          ·pw_
          refine take_ (i := 5) (N := some 25) (v := ?_) (a' := ?_) spec_l08ReadThroat.z12 rfl rfl (take_ofW HT_.out HW_.out (by kernel_rfl)) (fun _ _ _ h => h) (Or.inl ⟨by rfl, ?_⟩) hHeld ?_ ?_
          rotate_left
          ·rintro w' ⟨s0, s1, s2, s3, s4⟩
           go_simp
           with_reducible rfl
          rotate_left
          ·pw_
          refine take_ (i := 8) (N := some 28) (v := ?_) (a' := ?_) spec_l08ReadThroat.z13 rfl rfl (take_ofW HT_.out HW_.out (by kernel_rfl)) (fun _ _ _ h => h) (Or.inl ⟨by rfl, ?_⟩) hHeld ?_ ?_
          rotate_left
          ·rintro w' ⟨s0, s1, s2, s3, s4⟩
           go_simp
           with_reducible rfl
          rotate_left
          ·pw_
          refine take_ (i := 11) (N := some 31) (v := ?_) (a' := ?_) spec_l08ReadThroat.z14 rfl rfl (take_ofW HT_.out HW_.out (by kernel_rfl)) (fun _ _ _ h => h) (Or.inl ⟨by rfl, ?_⟩) hHeld ?_ ?_
          rotate_left
          ·rintro w' ⟨s0, s1, s2, s3, s4⟩
           go_simp
           with_reducible rfl
          rotate_left
          ·pw_
          refine take_ (i := 14) (N := some 34) (v := ?_) (a' := ?_) spec_l08ReadThroat.z15 rfl rfl (take_ofW HT_.out HW_.out (by kernel_rfl)) (fun _ _ _ h => h) (Or.inl ⟨by rfl, ?_⟩) hHeld ?_ ?_
          rotate_left
          ·rintro w' ⟨s0, s1, s2, s3, s4⟩
           go_simp
           with_reducible rfl
          rotate_left
          ·pw_
          refine pure_ (i := 15) (N := some 35) (v := ?_) (a' := ?_) spec_l08ReadThroat.z16 rfl rfl (any_of HT_.out (by kernel_rfl)) (fun _ _ _ h => h) (Or.inl ⟨by rfl, ?_⟩) ?_ ?_
          pv_
          refine one_ (i := 16) (N := some 6) spec_l08ReadThroat.z17 rfl rfl (one_of HT_.out (by kernel_rfl)) (by decide) (fun K hK => ?_)
          refine box_step ?hg (N := 6) ?hd (cs := #[.float .f32 0, .float .f32 0, .float .f32 0, .float .f32 0, .float .f32 0]) (t := 32) ?hr ?_; (case hd => rfl); (case hg => rfl); (case hr => first | (go_simp; done) | (go_simp; rfl) | (simp (disch := omega) only [w64_id]; go_simp; done) | (go_simp; simp (disch := omega) only [w64_id]; done))
          intro gb135 hg w19 hbox hb
          have HS0_ := (hb.cell (World.block_lt_of_cell? _ _ (hHeld.1))).trans (hHeld.1)
          have HS1_ := (hb.cell (World.block_lt_of_cell? _ _ (hHeld.2.1))).trans (hHeld.2.1)
          have HS2_ := (hb.cell (World.block_lt_of_cell? _ _ (hHeld.2.2.1))).trans (hHeld.2.2.1)
          have HS3_ := (hb.cell (World.block_lt_of_cell? _ _ (hHeld.2.2.2.1))).trans (hHeld.2.2.2.1)
          have HS4_ := (hb.cell (World.block_lt_of_cell? _ _ (hHeld.2.2.2.2))).trans (hHeld.2.2.2.2)
          have n0_ := Aside0.mk (Kd.R_below (by (with_reducible repeat (first | apply Kd.R_alloc | apply Kd.R_drewN | apply Kd.R_drew)); exact HO_4.out) hb)
          have n1_ := Aside0.mk (blk_below (g := gb125) (o := .cells #[.float .f32 0, .float .f32 0, .float .f32 0, .float .f32 0, .float .f32 0] 32 (0, 0)) (by (with_reducible repeat (first | refine blk_drewN ?_ _ | refine blk_drew ?_ | refine blk_alloc ?_ _)); exact BK125.out) hb)
          have n2_ := Aside0.mk (below_step (by repeat (first | (with_reducible first | exact HB.out | apply below_alloc | apply pw_below_drewN | apply below_drew1 | refine below_set ?_ GE125.out) | exact HB.out)) hb)
          have n3_ := Aside0.mk (hbox)
          have n4_ := Aside0.mk ((by rw [hg]; exact (below_size (by repeat (first | (with_reducible first | exact HB.out | apply below_alloc | apply pw_below_drewN | apply below_drew1 | refine below_set ?_ GE125.out) | exact HB.out))) : w.heap.size ≤ gb135))
          have n5_ := Aside0.mk ((by rw [hg]; exact (below_size (by repeat (first | (with_reducible first | exact HB.out | apply below_alloc | apply pw_below_drewN | apply below_drew1 | refine below_set ?_ GE125.out) | exact HB.out))) : w.heap.size ≤ gb135))
          have n6_ := Aside0.mk ((by rw [hg]; exact Nat.ne_of_lt (blk_lt (g := gb125) (o := .cells #[.float .f32 0, .float .f32 0, .float .f32 0, .float .f32 0, .float .f32 0] 32 (0, 0)) (by (with_reducible repeat (first | refine blk_drewN ?_ _ | refine blk_drew ?_ | refine blk_alloc ?_ _)); exact BK125.out)) : gb125 ≠ gb135))
          have n7_ := Aside0.mk ((by rw [hg]; exact Nat.ne_of_gt (blk_lt (g := gb125) (o := .cells #[.float .f32 0, .float .f32 0, .float .f32 0, .float .f32 0, .float .f32 0] 32 (0, 0)) (by (with_reducible repeat (first | refine blk_drewN ?_ _ | refine blk_drew ?_ | refine blk_alloc ?_ _)); exact BK125.out)) : gb135 ≠ gb125))
          clear HO_4
          clear BK125
          clear HB
          have HO_4 := n0_
          have BK125 := n1_
          have HB := n2_
          have BK135 := n3_
          have GW135 := n4_
          have GE135 := n5_
          have NB125_135 := n6_
          have NB135_125 := n7_
          clear n0_ n1_ n2_ n3_ n4_ n5_ n6_ n7_
          clear hb hbox hg
          refine hK.out _ _ ⟨HS0_, HS1_, HS2_, HS3_, HS4_⟩ (fun hHeld => ?_)
          clear hK K
          refine norm_ (a' := ?_) ?_ ?_
          rotate_left
          ·show Act.put _ (some 6) _ = _
           pw_
          refine one_ (i := 17) (N := none) spec_l08ReadThroat.z18 rfl rfl (one_of HT_.out (by kernel_rfl)) (by decide) (fun K hK => ?_)
          have hs20 : w19.cell? ⟨gb135, 0, none⟩ = some (.float .f32 0) := (blk_cell BK135.out 0).trans rfl
          have hfs20 := blk_frozen BK135.out 0
          have hns20_0 := NB125_135.out
          have hms20_0 := NB135_125.out
          have hs21 : w19.cell? ⟨gb135, 1, none⟩ = some (.float .f32 0) := (blk_cell BK135.out 1).trans rfl
          have hfs21 := blk_frozen BK135.out 1
          have hns21_0 := NB125_135.out
          have hms21_0 := NB135_125.out
          have hs22 : w19.cell? ⟨gb135, 2, none⟩ = some (.float .f32 0) := (blk_cell BK135.out 2).trans rfl
          have hfs22 := blk_frozen BK135.out 2
          have hns22_0 := NB125_135.out
          have hms22_0 := NB135_125.out
          have hs23 : w19.cell? ⟨gb135, 3, none⟩ = some (.float .f32 0) := (blk_cell BK135.out 3).trans rfl
          have hfs23 := blk_frozen BK135.out 3
          have hns23_0 := NB125_135.out
          have hms23_0 := NB135_125.out
          have hs24 : w19.cell? ⟨gb135, 4, none⟩ = some (.float .f32 0) := (blk_cell BK135.out 4).trans rfl
          have hfs24 := blk_frozen BK135.out 4
          have hns24_0 := NB125_135.out
          have hms24_0 := NB135_125.out
          refine skip_ (w1 := ?_) (by rfl) rfl ?_ ?_
          rotate_left
          ·go_simp
           rfl
          refine hK.out _ _ ⟨((cell_far (p := ⟨gb135, _, none⟩) (by first | exact Kd.own_blk (Kd.R_ne HO_4.out BK135.out (by decide)) | (rw [add_block]; exact Kd.own_blk (Kd.R_ne HO_4.out BK135.out (by decide))) | (show (Addr.add _ _).block ≠ _; rw [add_block]; exact Kd.own_blk (Kd.R_ne HO_4.out BK135.out (by decide))) | (dsimp only; exact Kd.own_blk (Kd.R_ne HO_4.out BK135.out (by decide)))) _).trans (((cell_far (p := ⟨gb135, _, none⟩) (by first | exact Kd.own_blk (Kd.R_ne HO_4.out BK135.out (by decide)) | (rw [add_block]; exact Kd.own_blk (Kd.R_ne HO_4.out BK135.out (by decide))) | (show (Addr.add _ _).block ≠ _; rw [add_block]; exact Kd.own_blk (Kd.R_ne HO_4.out BK135.out (by decide))) | (dsimp only; exact Kd.own_blk (Kd.R_ne HO_4.out BK135.out (by decide)))) _).trans (((cell_far (p := ⟨gb135, _, none⟩) (by first | exact Kd.own_blk (Kd.R_ne HO_4.out BK135.out (by decide)) | (rw [add_block]; exact Kd.own_blk (Kd.R_ne HO_4.out BK135.out (by decide))) | (show (Addr.add _ _).block ≠ _; rw [add_block]; exact Kd.own_blk (Kd.R_ne HO_4.out BK135.out (by decide))) | (dsimp only; exact Kd.own_blk (Kd.R_ne HO_4.out BK135.out (by decide)))) _).trans (((cell_far (p := ⟨gb135, _, none⟩) (by first | exact Kd.own_blk (Kd.R_ne HO_4.out BK135.out (by decide)) | (rw [add_block]; exact Kd.own_blk (Kd.R_ne HO_4.out BK135.out (by decide))) | (show (Addr.add _ _).block ≠ _; rw [add_block]; exact Kd.own_blk (Kd.R_ne HO_4.out BK135.out (by decide))) | (dsimp only; exact Kd.own_blk (Kd.R_ne HO_4.out BK135.out (by decide)))) _).trans (((cell_far (p := ⟨gb135, _, none⟩) (by first | exact Kd.own_blk (Kd.R_ne HO_4.out BK135.out (by decide)) | (rw [add_block]; exact Kd.own_blk (Kd.R_ne HO_4.out BK135.out (by decide))) | (show (Addr.add _ _).block ≠ _; rw [add_block]; exact Kd.own_blk (Kd.R_ne HO_4.out BK135.out (by decide))) | (dsimp only; exact Kd.own_blk (Kd.R_ne HO_4.out BK135.out (by decide)))) _).trans (hHeld.1)))))))))), ((cell_far (p := ⟨gb135, _, none⟩) (by first | exact Kd.own_blk (Kd.R_ne HO_4.out BK135.out (by decide)) | (rw [add_block]; exact Kd.own_blk (Kd.R_ne HO_4.out BK135.out (by decide))) | (show (Addr.add _ _).block ≠ _; rw [add_block]; exact Kd.own_blk (Kd.R_ne HO_4.out BK135.out (by decide))) | (dsimp only; exact Kd.own_blk (Kd.R_ne HO_4.out BK135.out (by decide)))) _).trans (((cell_far (p := ⟨gb135, _, none⟩) (by first | exact Kd.own_blk (Kd.R_ne HO_4.out BK135.out (by decide)) | (rw [add_block]; exact Kd.own_blk (Kd.R_ne HO_4.out BK135.out (by decide))) | (show (Addr.add _ _).block ≠ _; rw [add_block]; exact Kd.own_blk (Kd.R_ne HO_4.out BK135.out (by decide))) | (dsimp only; exact Kd.own_blk (Kd.R_ne HO_4.out BK135.out (by decide)))) _).trans (((cell_far (p := ⟨gb135, _, none⟩) (by first | exact Kd.own_blk (Kd.R_ne HO_4.out BK135.out (by decide)) | (rw [add_block]; exact Kd.own_blk (Kd.R_ne HO_4.out BK135.out (by decide))) | (show (Addr.add _ _).block ≠ _; rw [add_block]; exact Kd.own_blk (Kd.R_ne HO_4.out BK135.out (by decide))) | (dsimp only; exact Kd.own_blk (Kd.R_ne HO_4.out BK135.out (by decide)))) _).trans (((cell_far (p := ⟨gb135, _, none⟩) (by first | exact Kd.own_blk (Kd.R_ne HO_4.out BK135.out (by decide)) | (rw [add_block]; exact Kd.own_blk (Kd.R_ne HO_4.out BK135.out (by decide))) | (show (Addr.add _ _).block ≠ _; rw [add_block]; exact Kd.own_blk (Kd.R_ne HO_4.out BK135.out (by decide))) | (dsimp only; exact Kd.own_blk (Kd.R_ne HO_4.out BK135.out (by decide)))) _).trans (((cell_far (p := ⟨gb135, _, none⟩) (by first | exact Kd.own_blk (Kd.R_ne HO_4.out BK135.out (by decide)) | (rw [add_block]; exact Kd.own_blk (Kd.R_ne HO_4.out BK135.out (by decide))) | (show (Addr.add _ _).block ≠ _; rw [add_block]; exact Kd.own_blk (Kd.R_ne HO_4.out BK135.out (by decide))) | (dsimp only; exact Kd.own_blk (Kd.R_ne HO_4.out BK135.out (by decide)))) _).trans (hHeld.2.1)))))))))), ((cell_far (p := ⟨gb135, _, none⟩) (by first | exact Kd.own_blk (Kd.R_ne HO_4.out BK135.out (by decide)) | (rw [add_block]; exact Kd.own_blk (Kd.R_ne HO_4.out BK135.out (by decide))) | (show (Addr.add _ _).block ≠ _; rw [add_block]; exact Kd.own_blk (Kd.R_ne HO_4.out BK135.out (by decide))) | (dsimp only; exact Kd.own_blk (Kd.R_ne HO_4.out BK135.out (by decide)))) _).trans (((cell_far (p := ⟨gb135, _, none⟩) (by first | exact Kd.own_blk (Kd.R_ne HO_4.out BK135.out (by decide)) | (rw [add_block]; exact Kd.own_blk (Kd.R_ne HO_4.out BK135.out (by decide))) | (show (Addr.add _ _).block ≠ _; rw [add_block]; exact Kd.own_blk (Kd.R_ne HO_4.out BK135.out (by decide))) | (dsimp only; exact Kd.own_blk (Kd.R_ne HO_4.out BK135.out (by decide)))) _).trans (((cell_far (p := ⟨gb135, _, none⟩) (by first | exact Kd.own_blk (Kd.R_ne HO_4.out BK135.out (by decide)) | (rw [add_block]; exact Kd.own_blk (Kd.R_ne HO_4.out BK135.out (by decide))) | (show (Addr.add _ _).block ≠ _; rw [add_block]; exact Kd.own_blk (Kd.R_ne HO_4.out BK135.out (by decide))) | (dsimp only; exact Kd.own_blk (Kd.R_ne HO_4.out BK135.out (by decide)))) _).trans (((cell_far (p := ⟨gb135, _, none⟩) (by first | exact Kd.own_blk (Kd.R_ne HO_4.out BK135.out (by decide)) | (rw [add_block]; exact Kd.own_blk (Kd.R_ne HO_4.out BK135.out (by decide))) | (show (Addr.add _ _).block ≠ _; rw [add_block]; exact Kd.own_blk (Kd.R_ne HO_4.out BK135.out (by decide))) | (dsimp only; exact Kd.own_blk (Kd.R_ne HO_4.out BK135.out (by decide)))) _).trans (((cell_far (p := ⟨gb135, _, none⟩) (by first | exact Kd.own_blk (Kd.R_ne HO_4.out BK135.out (by decide)) | (rw [add_block]; exact Kd.own_blk (Kd.R_ne HO_4.out BK135.out (by decide))) | (show (Addr.add _ _).block ≠ _; rw [add_block]; exact Kd.own_blk (Kd.R_ne HO_4.out BK135.out (by decide))) | (dsimp only; exact Kd.own_blk (Kd.R_ne HO_4.out BK135.out (by decide)))) _).trans (hHeld.2.2.1)))))))))), ((cell_far (p := ⟨gb135, _, none⟩) (by first | exact Kd.own_blk (Kd.R_ne HO_4.out BK135.out (by decide)) | (rw [add_block]; exact Kd.own_blk (Kd.R_ne HO_4.out BK135.out (by decide))) | (show (Addr.add _ _).block ≠ _; rw [add_block]; exact Kd.own_blk (Kd.R_ne HO_4.out BK135.out (by decide))) | (dsimp only; exact Kd.own_blk (Kd.R_ne HO_4.out BK135.out (by decide)))) _).trans (((cell_far (p := ⟨gb135, _, none⟩) (by first | exact Kd.own_blk (Kd.R_ne HO_4.out BK135.out (by decide)) | (rw [add_block]; exact Kd.own_blk (Kd.R_ne HO_4.out BK135.out (by decide))) | (show (Addr.add _ _).block ≠ _; rw [add_block]; exact Kd.own_blk (Kd.R_ne HO_4.out BK135.out (by decide))) | (dsimp only; exact Kd.own_blk (Kd.R_ne HO_4.out BK135.out (by decide)))) _).trans (((cell_far (p := ⟨gb135, _, none⟩) (by first | exact Kd.own_blk (Kd.R_ne HO_4.out BK135.out (by decide)) | (rw [add_block]; exact Kd.own_blk (Kd.R_ne HO_4.out BK135.out (by decide))) | (show (Addr.add _ _).block ≠ _; rw [add_block]; exact Kd.own_blk (Kd.R_ne HO_4.out BK135.out (by decide))) | (dsimp only; exact Kd.own_blk (Kd.R_ne HO_4.out BK135.out (by decide)))) _).trans (((cell_far (p := ⟨gb135, _, none⟩) (by first | exact Kd.own_blk (Kd.R_ne HO_4.out BK135.out (by decide)) | (rw [add_block]; exact Kd.own_blk (Kd.R_ne HO_4.out BK135.out (by decide))) | (show (Addr.add _ _).block ≠ _; rw [add_block]; exact Kd.own_blk (Kd.R_ne HO_4.out BK135.out (by decide))) | (dsimp only; exact Kd.own_blk (Kd.R_ne HO_4.out BK135.out (by decide)))) _).trans (((cell_far (p := ⟨gb135, _, none⟩) (by first | exact Kd.own_blk (Kd.R_ne HO_4.out BK135.out (by decide)) | (rw [add_block]; exact Kd.own_blk (Kd.R_ne HO_4.out BK135.out (by decide))) | (show (Addr.add _ _).block ≠ _; rw [add_block]; exact Kd.own_blk (Kd.R_ne HO_4.out BK135.out (by decide))) | (dsimp only; exact Kd.own_blk (Kd.R_ne HO_4.out BK135.out (by decide)))) _).trans (hHeld.2.2.2.1)))))))))), ((cell_far (p := ⟨gb135, _, none⟩) (by first | exact Kd.own_blk (Kd.R_ne HO_4.out BK135.out (by decide)) | (rw [add_block]; exact Kd.own_blk (Kd.R_ne HO_4.out BK135.out (by decide))) | (show (Addr.add _ _).block ≠ _; rw [add_block]; exact Kd.own_blk (Kd.R_ne HO_4.out BK135.out (by decide))) | (dsimp only; exact Kd.own_blk (Kd.R_ne HO_4.out BK135.out (by decide)))) _).trans (((cell_far (p := ⟨gb135, _, none⟩) (by first | exact Kd.own_blk (Kd.R_ne HO_4.out BK135.out (by decide)) | (rw [add_block]; exact Kd.own_blk (Kd.R_ne HO_4.out BK135.out (by decide))) | (show (Addr.add _ _).block ≠ _; rw [add_block]; exact Kd.own_blk (Kd.R_ne HO_4.out BK135.out (by decide))) | (dsimp only; exact Kd.own_blk (Kd.R_ne HO_4.out BK135.out (by decide)))) _).trans (((cell_far (p := ⟨gb135, _, none⟩) (by first | exact Kd.own_blk (Kd.R_ne HO_4.out BK135.out (by decide)) | (rw [add_block]; exact Kd.own_blk (Kd.R_ne HO_4.out BK135.out (by decide))) | (show (Addr.add _ _).block ≠ _; rw [add_block]; exact Kd.own_blk (Kd.R_ne HO_4.out BK135.out (by decide))) | (dsimp only; exact Kd.own_blk (Kd.R_ne HO_4.out BK135.out (by decide)))) _).trans (((cell_far (p := ⟨gb135, _, none⟩) (by first | exact Kd.own_blk (Kd.R_ne HO_4.out BK135.out (by decide)) | (rw [add_block]; exact Kd.own_blk (Kd.R_ne HO_4.out BK135.out (by decide))) | (show (Addr.add _ _).block ≠ _; rw [add_block]; exact Kd.own_blk (Kd.R_ne HO_4.out BK135.out (by decide))) | (dsimp only; exact Kd.own_blk (Kd.R_ne HO_4.out BK135.out (by decide)))) _).trans (((cell_far (p := ⟨gb135, _, none⟩) (by first | exact Kd.own_blk (Kd.R_ne HO_4.out BK135.out (by decide)) | (rw [add_block]; exact Kd.own_blk (Kd.R_ne HO_4.out BK135.out (by decide))) | (show (Addr.add _ _).block ≠ _; rw [add_block]; exact Kd.own_blk (Kd.R_ne HO_4.out BK135.out (by decide))) | (dsimp only; exact Kd.own_blk (Kd.R_ne HO_4.out BK135.out (by decide)))) _).trans (hHeld.2.2.2.2))))))))))⟩ (fun hHeld => ?_)
          clear hK K
          refine done_ (done_of HT_.out (by kernel_rfl)) ?_
          refine genw (Pw := fun wz => wz.heap[gb135]? = some (.cells #[.float .f32 (rdOf (0 : Nat) t126 0), .float .f32 (rdOf (0 : Nat) t126 1), .float .f32 (rdOf (0 : Nat) t126 2), .float .f32 (rdOf (0 : Nat) t126 3), .float .f32 (rdOf (0 : Nat) t126 4)] 32 (0, 0)) ∧ wz.heap[gb125]? = some (.cells #[.float .f32 0, .float .f32 0, .float .f32 0, .float .f32 0, .float .f32 0] 32 (0, 0)) ∧ Below w.heap.size w wz) ?_ ?_
          exact ⟨by (with_reducible repeat (first | refine blk_drewN ?_ _ | refine blk_drew ?_ | refine blk_alloc ?_ _)); refine blk_put (cs := #[.float .f32 (rdOf (0 : Nat) t126 0), .float .f32 (rdOf (0 : Nat) t126 1), .float .f32 (rdOf (0 : Nat) t126 2), .float .f32 (rdOf (0 : Nat) t126 3), .float .f32 0]) ?_ 4 _ rfl; (with_reducible repeat (first | refine blk_drewN ?_ _ | refine blk_drew ?_ | refine blk_alloc ?_ _)); refine blk_put (cs := #[.float .f32 (rdOf (0 : Nat) t126 0), .float .f32 (rdOf (0 : Nat) t126 1), .float .f32 (rdOf (0 : Nat) t126 2), .float .f32 0, .float .f32 0]) ?_ 3 _ rfl; (with_reducible repeat (first | refine blk_drewN ?_ _ | refine blk_drew ?_ | refine blk_alloc ?_ _)); refine blk_put (cs := #[.float .f32 (rdOf (0 : Nat) t126 0), .float .f32 (rdOf (0 : Nat) t126 1), .float .f32 0, .float .f32 0, .float .f32 0]) ?_ 2 _ rfl; (with_reducible repeat (first | refine blk_drewN ?_ _ | refine blk_drew ?_ | refine blk_alloc ?_ _)); refine blk_put (cs := #[.float .f32 (rdOf (0 : Nat) t126 0), .float .f32 0, .float .f32 0, .float .f32 0, .float .f32 0]) ?_ 1 _ rfl; (with_reducible repeat (first | refine blk_drewN ?_ _ | refine blk_drew ?_ | refine blk_alloc ?_ _)); refine blk_put (cs := #[.float .f32 0, .float .f32 0, .float .f32 0, .float .f32 0, .float .f32 0]) ?_ 0 _ rfl; (with_reducible repeat (first | refine blk_drewN ?_ _ | refine blk_drew ?_ | refine blk_alloc ?_ _)); exact BK135.out, by (with_reducible repeat (first | refine blk_drewN ?_ _ | refine blk_drew ?_ | refine blk_alloc ?_ _)); refine blk_far ?_ NB125_135.out _; (with_reducible repeat (first | refine blk_drewN ?_ _ | refine blk_drew ?_ | refine blk_alloc ?_ _)); refine blk_far ?_ NB125_135.out _; (with_reducible repeat (first | refine blk_drewN ?_ _ | refine blk_drew ?_ | refine blk_alloc ?_ _)); refine blk_far ?_ NB125_135.out _; (with_reducible repeat (first | refine blk_drewN ?_ _ | refine blk_drew ?_ | refine blk_alloc ?_ _)); refine blk_far ?_ NB125_135.out _; (with_reducible repeat (first | refine blk_drewN ?_ _ | refine blk_drew ?_ | refine blk_alloc ?_ _)); refine blk_far ?_ NB125_135.out _; (with_reducible repeat (first | refine blk_drewN ?_ _ | refine blk_drew ?_ | refine blk_alloc ?_ _)); exact BK125.out, by repeat (first | (with_reducible first | exact HB.out | apply below_alloc | apply pw_below_drewN | apply below_drew1 | refine below_set ?_ GE125.out | refine below_set ?_ GE135.out) | exact HB.out)⟩
          have NBk := NB125_135.out
          clear BK135 BK125 HB
          rintro wz ⟨hz1, hz2, hz3⟩
          have BK135 := Aside0.mk hz1
          have BK125 := Aside0.mk hz2
          have HB := Aside0.mk hz3
          clear hz1 hz2 hz3
          have hca_0 : wz.cell? ⟨gb135, 0, none⟩ = some (.float .f32 (rdOf (0 : Nat) t126 0)) := (blk_cell BK135.out 0).trans rfl
          have hca_1 : wz.cell? ⟨gb135, 1, none⟩ = some (.float .f32 (rdOf (0 : Nat) t126 1)) := (blk_cell BK135.out 1).trans rfl
          have hca_2 : wz.cell? ⟨gb135, 2, none⟩ = some (.float .f32 (rdOf (0 : Nat) t126 2)) := (blk_cell BK135.out 2).trans rfl
          have hca_3 : wz.cell? ⟨gb135, 3, none⟩ = some (.float .f32 (rdOf (0 : Nat) t126 3)) := (blk_cell BK135.out 3).trans rfl
          have hca_4 : wz.cell? ⟨gb135, 4, none⟩ = some (.float .f32 (rdOf (0 : Nat) t126 4)) := (blk_cell BK135.out 4).trans rfl
          have hcb_0 : wz.cell? ⟨gb125, 0, none⟩ = some (.float .f32 0) := (blk_cell BK125.out 0).trans rfl
          have hfb_0 := blk_frozen BK125.out 0
          have hcb_1 : wz.cell? ⟨gb125, 1, none⟩ = some (.float .f32 0) := (blk_cell BK125.out 1).trans rfl
          have hfb_1 := blk_frozen BK125.out 1
          have hcb_2 : wz.cell? ⟨gb125, 2, none⟩ = some (.float .f32 0) := (blk_cell BK125.out 2).trans rfl
          have hfb_2 := blk_frozen BK125.out 2
          have hcb_3 : wz.cell? ⟨gb125, 3, none⟩ = some (.float .f32 0) := (blk_cell BK125.out 3).trans rfl
          have hfb_3 := blk_frozen BK125.out 3
          have hcb_4 : wz.cell? ⟨gb125, 4, none⟩ = some (.float .f32 0) := (blk_cell BK125.out 4).trans rfl
          have hfb_4 := blk_frozen BK125.out 4
          go_wp2_with (first | ((with_reducible refine gate_callee (f := 61) rfl ?_); refine goesL_ (some 36) rfl rfl Tryd.func61 (by kernel_rfl) rfl #[.pointer (some ⟨gb135, 0, none⟩)] rfl (by (try simp only [List.map_toArray, List.map_cons, List.map_nil]); first | done | rfl | (simp only [List.length_drop, List.length_take]; rfl)) ?_; (with_reducible refine (spec_l03Throat.calls _ [(⟨rdOf (0 : Nat) t126 0, rdOf (0 : Nat) t126 1, rdOf (0 : Nat) t126 2, rdOf (0 : Nat) t126 3, rdOf (0 : Nat) t126 4⟩ : S32)] true _ ?side1 A15.out).mono ?_); (case side1 => exact Kd.C_one (T := 32) BK135.out (k32_mk _ (⟨rdOf (0 : Nat) t126 0, rdOf (0 : Nat) t126 1, rdOf (0 : Nat) t126 2, rdOf (0 : Nat) t126 3, rdOf (0 : Nat) t126 4⟩ : S32) )); rintro e w' ⟨rfl, ⟨nd, rfl⟩⟩; refine ⟨_, rfl, ?_⟩))
          refine bodyPost_ret (results_ct rfl _ _ gb125 32 #[.float .f32 (rdOf (0 : Nat) t126 0), .float .f32 (rdOf (0 : Nat) t126 1), .float .f32 (rdOf (0 : Nat) t126 2), .float .f32 (rdOf (0 : Nat) t126 3), .float .f32 (rdOf (0 : Nat) t126 4)] (0, 0) _ rfl (by (with_reducible repeat (first | refine blk_drewN ?_ _ | refine blk_drew ?_ | refine blk_alloc ?_ _)); refine blk_put (cs := #[.float .f32 (rdOf (0 : Nat) t126 0), .float .f32 (rdOf (0 : Nat) t126 1), .float .f32 (rdOf (0 : Nat) t126 2), .float .f32 (rdOf (0 : Nat) t126 3), .float .f32 0]) ?_ 4 _ rfl; (with_reducible repeat (first | refine blk_drewN ?_ _ | refine blk_drew ?_ | refine blk_alloc ?_ _)); refine blk_put (cs := #[.float .f32 (rdOf (0 : Nat) t126 0), .float .f32 (rdOf (0 : Nat) t126 1), .float .f32 (rdOf (0 : Nat) t126 2), .float .f32 0, .float .f32 0]) ?_ 3 _ rfl; (with_reducible repeat (first | refine blk_drewN ?_ _ | refine blk_drew ?_ | refine blk_alloc ?_ _)); refine blk_put (cs := #[.float .f32 (rdOf (0 : Nat) t126 0), .float .f32 (rdOf (0 : Nat) t126 1), .float .f32 0, .float .f32 0, .float .f32 0]) ?_ 2 _ rfl; (with_reducible repeat (first | refine blk_drewN ?_ _ | refine blk_drew ?_ | refine blk_alloc ?_ _)); refine blk_put (cs := #[.float .f32 (rdOf (0 : Nat) t126 0), .float .f32 0, .float .f32 0, .float .f32 0, .float .f32 0]) ?_ 1 _ rfl; (with_reducible repeat (first | refine blk_drewN ?_ _ | refine blk_drew ?_ | refine blk_alloc ?_ _)); refine blk_put (cs := #[.float .f32 0, .float .f32 0, .float .f32 0, .float .f32 0, .float .f32 0]) ?_ 0 _ rfl; (with_reducible repeat (first | refine blk_drewN ?_ _ | refine blk_drew ?_ | refine blk_alloc ?_ _)); exact BK125.out) Tryd.underlying32 rfl (by kernel_rfl)) rfl ?_
          exact ⟨by first | rfl | (simp [errW_none, errW_some] <;> rfl) | (simp [*, errW_none, errW_some] <;> rfl), by repeat (first | (with_reducible first | exact HB.out | apply below_alloc | apply pw_below_drewN | apply below_drew1 | refine below_set ?_ GE125.out | refine below_set ?_ GE135.out) | exact HB.out)⟩
         ·replace c16 := Bool.eq_false_iff.mpr c16
          subst c16
          have H1 : (some (0, 0, 0, 0, 0, false)) = some (r1, r2, r3, r4, r5, r6) := by rw [if_neg (show ¬ (false = true) by decide)] at H; exact H
          clear H
          have H := H1
          clear H1
          simp only [Option.some.injEq, Prod.mk.injEq] at H
          obtain ⟨rfl, rfl, rfl, rfl, rfl, rfl⟩ := H
          try go_wp2
          have n0_ := Aside0.mk (Kd.R_drew HO_4.out)
          have n1_ := Aside0.mk (blk_drew BK125.out)
          have n2_ := Aside0.mk (below_drew1 HB.out)
          clear HO_4
          clear BK125
          clear HB
          have HO_4 := n0_
          have BK125 := n1_
          have HB := n2_
          clear n0_ n1_ n2_
          obtain ⟨Ao29, co29, eo29⟩ := Kd.R_slice HO_4.out
          (first | subst eo29 | (injection eo29 with f1_ f2_ f3_; have f4_ := f1_.symm; have f5_ := f3_.symm; clear f1_ f2_ f3_; subst f4_; subst f5_))
          have p130 : 0 ≤ (0 : Int) := (by omega)
          have q130 : 0 < (t126.length : Int) := of_decide_eq_true (by first | (with_reducible assumption) | assumption)
          obtain ⟨ad130, e130, hx130_0⟩ := Kd.at_float (Kd.R_reads' HO_4.out).2.2 0 p130 q130
          cases e130
          have qi130 : (0 < t126.length) = True := eq_true (by omega)
          (try rw [show ((0 : Int)).toNat = 0 from rfl] at hx130_0)
          (try rw [Addr.add_zero'] at hx130_0)
          replace p130 := eq_true p130
          replace q130 := eq_true q130
          have p131 : 0 ≤ (1 : Int) := (by omega)
          have q131 : 1 < (t126.length : Int) := of_decide_eq_true (by first | (with_reducible assumption) | assumption)
          obtain ⟨ad131, e131, hx131_0⟩ := Kd.at_float (Kd.R_reads' HO_4.out).2.2 1 p131 q131
          obtain rfl : ad130 = ad131 := (by injection e131)
          (try simp only [show (1 : Int).toNat = 1 from rfl, Nat.reduceMul, Nat.reduceEqDiff, Go.Addr.add, ↓reduceIte] at hx131_0)
          have qi131 : (1 < t126.length) = True := eq_true (by omega)
          (try rw [show ((1 : Int)).toNat = 1 from rfl] at hx131_0)
          replace p131 := eq_true p131
          replace q131 := eq_true q131
          have p132 : 0 ≤ (2 : Int) := (by omega)
          have q132 : 2 < (t126.length : Int) := of_decide_eq_true (by first | (with_reducible assumption) | assumption)
          obtain ⟨ad132, e132, hx132_0⟩ := Kd.at_float (Kd.R_reads' HO_4.out).2.2 2 p132 q132
          obtain rfl : ad130 = ad132 := (by injection e132)
          (try simp only [show (2 : Int).toNat = 2 from rfl, Nat.reduceMul, Nat.reduceEqDiff, Go.Addr.add, ↓reduceIte] at hx132_0)
          have qi132 : (2 < t126.length) = True := eq_true (by omega)
          (try rw [show ((2 : Int)).toNat = 2 from rfl] at hx132_0)
          replace p132 := eq_true p132
          replace q132 := eq_true q132
          have p133 : 0 ≤ (3 : Int) := (by omega)
          have q133 : 3 < (t126.length : Int) := of_decide_eq_true (by first | (with_reducible assumption) | assumption)
          obtain ⟨ad133, e133, hx133_0⟩ := Kd.at_float (Kd.R_reads' HO_4.out).2.2 3 p133 q133
          obtain rfl : ad130 = ad133 := (by injection e133)
          (try simp only [show (3 : Int).toNat = 3 from rfl, Nat.reduceMul, Nat.reduceEqDiff, Go.Addr.add, ↓reduceIte] at hx133_0)
          have qi133 : (3 < t126.length) = True := eq_true (by omega)
          (try rw [show ((3 : Int)).toNat = 3 from rfl] at hx133_0)
          replace p133 := eq_true p133
          replace q133 := eq_true q133
          have p134 : 0 ≤ (4 : Int) := (by omega)
          have q134 : 4 < (t126.length : Int) := of_decide_eq_true (by first | (with_reducible assumption) | assumption)
          obtain ⟨ad134, e134, hx134_0⟩ := Kd.at_float (Kd.R_reads' HO_4.out).2.2 4 p134 q134
          obtain rfl : ad130 = ad134 := (by injection e134)
          (try simp only [show (4 : Int).toNat = 4 from rfl, Nat.reduceMul, Nat.reduceEqDiff, Go.Addr.add, ↓reduceIte] at hx134_0)
          have qi134 : (4 < t126.length) = True := eq_true (by omega)
          (try rw [show ((4 : Int)).toNat = 4 from rfl] at hx134_0)
          replace p134 := eq_true p134
          replace q134 := eq_true q134
          refine start_ (n := 18) (S := fun w' => w'.cell? ad130 = some (.float .f32 (rdOf (0 : Nat) t126 0)) ∧ w'.cell? ⟨ad130.block, ad130.off + 1, none⟩ = some (.float .f32 (rdOf (0 : Nat) t126 1)) ∧ w'.cell? ⟨ad130.block, ad130.off + 2, none⟩ = some (.float .f32 (rdOf (0 : Nat) t126 2)) ∧ w'.cell? ⟨ad130.block, ad130.off + 3, none⟩ = some (.float .f32 (rdOf (0 : Nat) t126 3)) ∧ w'.cell? ⟨ad130.block, ad130.off + 4, none⟩ = some (.float .f32 (rdOf (0 : Nat) t126 4))) (ds := []) spec_l08ReadThroat.z0 (by kernel_rfl) rfl rfl ⟨hx130_0, hx131_0, hx132_0, hx133_0, hx134_0⟩ (fun hHeld => ?_); refine with_tabW spec_l08ReadThroat.tab4 spec_l08ReadThroat.bits4 (fun HT_ HW_ => ?_)
          generalize wc.drew = w28 at HO_4 BK125 HB hx130_0 hx131_0 hx132_0 hx133_0 hx134_0 hHeld ⊢
          refine pure_ (i := 0) (N := some 20) (v := ?_) (a' := ?_) spec_l08ReadThroat.z1 rfl rfl (any_of HT_.out (by kernel_rfl)) (fun _ _ _ h => h) (Or.inl ⟨by rfl, ?_⟩) ?_ ?_
          pv_
          refine pure_ (i := 1) (N := some 21) (v := ?_) (a' := ?_) spec_l08ReadThroat.z2 rfl rfl (any_of HT_.out (by kernel_rfl)) (fun _ _ _ h => h) (Or.inl ⟨by rfl, ?_⟩) ?_ ?_
          pv_
          refine pure_ (i := 3) (N := some 23) (v := ?_) (a' := ?_) spec_l08ReadThroat.z3 rfl rfl (any_of HT_.out (by kernel_rfl)) (fun _ _ _ h => h) (Or.inl ⟨by rfl, ?_⟩) ?_ ?_
          pv_
          refine pure_ (i := 4) (N := some 24) (v := ?_) (a' := ?_) spec_l08ReadThroat.z4 rfl rfl (any_of HT_.out (by kernel_rfl)) (fun _ _ _ h => h) (Or.inl ⟨by rfl, ?_⟩) ?_ ?_
          pv_
          refine pure_ (i := 6) (N := some 26) (v := ?_) (a' := ?_) spec_l08ReadThroat.z5 rfl rfl (any_of HT_.out (by kernel_rfl)) (fun _ _ _ h => h) (Or.inl ⟨by rfl, ?_⟩) ?_ ?_
          pv_
          refine pure_ (i := 7) (N := some 27) (v := ?_) (a' := ?_) spec_l08ReadThroat.z6 rfl rfl (any_of HT_.out (by kernel_rfl)) (fun _ _ _ h => h) (Or.inl ⟨by rfl, ?_⟩) ?_ ?_
          pv_
          refine pure_ (i := 9) (N := some 29) (v := ?_) (a' := ?_) spec_l08ReadThroat.z7 rfl rfl (any_of HT_.out (by kernel_rfl)) (fun _ _ _ h => h) (Or.inl ⟨by rfl, ?_⟩) ?_ ?_
          pv_
          refine pure_ (i := 10) (N := some 30) (v := ?_) (a' := ?_) spec_l08ReadThroat.z8 rfl rfl (any_of HT_.out (by kernel_rfl)) (fun _ _ _ h => h) (Or.inl ⟨by rfl, ?_⟩) ?_ ?_
          pv_
          refine pure_ (i := 12) (N := some 32) (v := ?_) (a' := ?_) spec_l08ReadThroat.z9 rfl rfl (any_of HT_.out (by kernel_rfl)) (fun _ _ _ h => h) (Or.inl ⟨by rfl, ?_⟩) ?_ ?_
          pv_
          refine pure_ (i := 13) (N := some 33) (v := ?_) (a' := ?_) spec_l08ReadThroat.z10 rfl rfl (any_of HT_.out (by kernel_rfl)) (fun _ _ _ h => h) (Or.inl ⟨by rfl, ?_⟩) ?_ ?_
          pv_
          refine take_ (i := 2) (N := some 22) (v := ?_) (a' := ?_) spec_l08ReadThroat.z11 rfl rfl (take_ofW HT_.out HW_.out (by kernel_rfl)) (fun _ _ _ h => h) (Or.inl ⟨by rfl, ?_⟩) hHeld ?_ ?_
          rotate_left
          ·rintro w' ⟨s0, s1, s2, s3, s4⟩
           go_simp
           with_reducible rfl
          rotate_left
          ·pw_
          refine take_ (i := 5) (N := some 25) (v := ?_) (a' := ?_) spec_l08ReadThroat.z12 rfl rfl (take_ofW HT_.out HW_.out (by kernel_rfl)) (fun _ _ _ h => h) (Or.inl ⟨by rfl, ?_⟩) hHeld ?_ ?_
          rotate_left
          ·rintro w' ⟨s0, s1, s2, s3, s4⟩
           go_simp
           with_reducible rfl
          rotate_left
          ·pw_
          refine take_ (i := 8) (N := some 28) (v := ?_) (a' := ?_) spec_l08ReadThroat.z13 rfl rfl (take_ofW HT_.out HW_.out (by kernel_rfl)) (fun _ _ _ h => h) (Or.inl ⟨by rfl, ?_⟩) hHeld ?_ ?_
          rotate_left
          ·rintro w' ⟨s0, s1, s2, s3, s4⟩
           go_simp
           with_reducible rfl
          rotate_left
          ·pw_
          refine take_ (i := 11) (N := some 31) (v := ?_) (a' := ?_) spec_l08ReadThroat.z14 rfl rfl (take_ofW HT_.out HW_.out (by kernel_rfl)) (fun _ _ _ h => h) (Or.inl ⟨by rfl, ?_⟩) hHeld ?_ ?_
          rotate_left
          ·rintro w' ⟨s0, s1, s2, s3, s4⟩
           go_simp
           with_reducible rfl
          rotate_left
          ·pw_
          refine take_ (i := 14) (N := some 34) (v := ?_) (a' := ?_) spec_l08ReadThroat.z15 rfl rfl (take_ofW HT_.out HW_.out (by kernel_rfl)) (fun _ _ _ h => h) (Or.inl ⟨by rfl, ?_⟩) hHeld ?_ ?_
          rotate_left
          ·rintro w' ⟨s0, s1, s2, s3, s4⟩
           go_simp
           with_reducible rfl
          rotate_left
          ·pw_
          refine pure_ (i := 15) (N := some 35) (v := ?_) (a' := ?_) spec_l08ReadThroat.z16 rfl rfl (any_of HT_.out (by kernel_rfl)) (fun _ _ _ h => h) (Or.inl ⟨by rfl, ?_⟩) ?_ ?_
          pv_
          refine one_ (i := 16) (N := some 6) spec_l08ReadThroat.z17 rfl rfl (one_of HT_.out (by kernel_rfl)) (by decide) (fun K hK => ?_)
          refine box_step ?hg (N := 6) ?hd (cs := #[.float .f32 0, .float .f32 0, .float .f32 0, .float .f32 0, .float .f32 0]) (t := 32) ?hr ?_; (case hd => rfl); (case hg => rfl); (case hr => first | (go_simp; done) | (go_simp; rfl) | (simp (disch := omega) only [w64_id]; go_simp; done) | (go_simp; simp (disch := omega) only [w64_id]; done))
          intro gb135 hg w30 hbox hb
          have HS0_ := (hb.cell (World.block_lt_of_cell? _ _ (hHeld.1))).trans (hHeld.1)
          have HS1_ := (hb.cell (World.block_lt_of_cell? _ _ (hHeld.2.1))).trans (hHeld.2.1)
          have HS2_ := (hb.cell (World.block_lt_of_cell? _ _ (hHeld.2.2.1))).trans (hHeld.2.2.1)
          have HS3_ := (hb.cell (World.block_lt_of_cell? _ _ (hHeld.2.2.2.1))).trans (hHeld.2.2.2.1)
          have HS4_ := (hb.cell (World.block_lt_of_cell? _ _ (hHeld.2.2.2.2))).trans (hHeld.2.2.2.2)
          have n0_ := Aside0.mk (Kd.R_below (by (with_reducible repeat (first | apply Kd.R_alloc | apply Kd.R_drewN | apply Kd.R_drew)); exact HO_4.out) hb)
          have n1_ := Aside0.mk (blk_below (g := gb125) (o := .cells #[.float .f32 0, .float .f32 0, .float .f32 0, .float .f32 0, .float .f32 0] 32 (0, 0)) (by (with_reducible repeat (first | refine blk_drewN ?_ _ | refine blk_drew ?_ | refine blk_alloc ?_ _)); exact BK125.out) hb)
          have n2_ := Aside0.mk (below_step (by repeat (first | (with_reducible first | exact HB.out | apply below_alloc | apply pw_below_drewN | apply below_drew1 | refine below_set ?_ GE125.out) | exact HB.out)) hb)
          have n3_ := Aside0.mk (hbox)
          have n4_ := Aside0.mk ((by rw [hg]; exact (below_size (by repeat (first | (with_reducible first | exact HB.out | apply below_alloc | apply pw_below_drewN | apply below_drew1 | refine below_set ?_ GE125.out) | exact HB.out))) : w.heap.size ≤ gb135))
          have n5_ := Aside0.mk ((by rw [hg]; exact (below_size (by repeat (first | (with_reducible first | exact HB.out | apply below_alloc | apply pw_below_drewN | apply below_drew1 | refine below_set ?_ GE125.out) | exact HB.out))) : w.heap.size ≤ gb135))
          have n6_ := Aside0.mk ((by rw [hg]; exact Nat.ne_of_lt (blk_lt (g := gb125) (o := .cells #[.float .f32 0, .float .f32 0, .float .f32 0, .float .f32 0, .float .f32 0] 32 (0, 0)) (by (with_reducible repeat (first | refine blk_drewN ?_ _ | refine blk_drew ?_ | refine blk_alloc ?_ _)); exact BK125.out)) : gb125 ≠ gb135))
          have n7_ := Aside0.mk ((by rw [hg]; exact Nat.ne_of_gt (blk_lt (g := gb125) (o := .cells #[.float .f32 0, .float .f32 0, .float .f32 0, .float .f32 0, .float .f32 0] 32 (0, 0)) (by (with_reducible repeat (first | refine blk_drewN ?_ _ | refine blk_drew ?_ | refine blk_alloc ?_ _)); exact BK125.out)) : gb135 ≠ gb125))
          clear HO_4
          clear BK125
          clear HB
          have HO_4 := n0_
          have BK125 := n1_
          have HB := n2_
          have BK135 := n3_
          have GW135 := n4_
          have GE135 := n5_
          have NB125_135 := n6_
          have NB135_125 := n7_
          clear n0_ n1_ n2_ n3_ n4_ n5_ n6_ n7_
          clear hb hbox hg
          refine hK.out _ _ ⟨HS0_, HS1_, HS2_, HS3_, HS4_⟩ (fun hHeld => ?_)
          clear hK K
          refine norm_ (a' := ?_) ?_ ?_
          rotate_left
          ·show Act.put _ (some 6) _ = _
           pw_
          refine one_ (i := 17) (N := none) spec_l08ReadThroat.z18 rfl rfl (one_of HT_.out (by kernel_rfl)) (by decide) (fun K hK => ?_)
          have hs31 : w30.cell? ⟨gb135, 0, none⟩ = some (.float .f32 0) := (blk_cell BK135.out 0).trans rfl
          have hfs31 := blk_frozen BK135.out 0
          have hns31_0 := NB125_135.out
          have hms31_0 := NB135_125.out
          have hs32 : w30.cell? ⟨gb135, 1, none⟩ = some (.float .f32 0) := (blk_cell BK135.out 1).trans rfl
          have hfs32 := blk_frozen BK135.out 1
          have hns32_0 := NB125_135.out
          have hms32_0 := NB135_125.out
          have hs33 : w30.cell? ⟨gb135, 2, none⟩ = some (.float .f32 0) := (blk_cell BK135.out 2).trans rfl
          have hfs33 := blk_frozen BK135.out 2
          have hns33_0 := NB125_135.out
          have hms33_0 := NB135_125.out
          have hs34 : w30.cell? ⟨gb135, 3, none⟩ = some (.float .f32 0) := (blk_cell BK135.out 3).trans rfl
          have hfs34 := blk_frozen BK135.out 3
          have hns34_0 := NB125_135.out
          have hms34_0 := NB135_125.out
          have hs35 : w30.cell? ⟨gb135, 4, none⟩ = some (.float .f32 0) := (blk_cell BK135.out 4).trans rfl
          have hfs35 := blk_frozen BK135.out 4
          have hns35_0 := NB125_135.out
          have hms35_0 := NB135_125.out
          refine skip_ (w1 := ?_) (by rfl) rfl ?_ ?_
          rotate_left
          ·go_simp
           rfl
          refine hK.out _ _ ⟨((cell_far (p := ⟨gb135, _, none⟩) (by first | exact Kd.own_blk (Kd.R_ne HO_4.out BK135.out (by decide)) | (rw [add_block]; exact Kd.own_blk (Kd.R_ne HO_4.out BK135.out (by decide))) | (show (Addr.add _ _).block ≠ _; rw [add_block]; exact Kd.own_blk (Kd.R_ne HO_4.out BK135.out (by decide))) | (dsimp only; exact Kd.own_blk (Kd.R_ne HO_4.out BK135.out (by decide)))) _).trans (((cell_far (p := ⟨gb135, _, none⟩) (by first | exact Kd.own_blk (Kd.R_ne HO_4.out BK135.out (by decide)) | (rw [add_block]; exact Kd.own_blk (Kd.R_ne HO_4.out BK135.out (by decide))) | (show (Addr.add _ _).block ≠ _; rw [add_block]; exact Kd.own_blk (Kd.R_ne HO_4.out BK135.out (by decide))) | (dsimp only; exact Kd.own_blk (Kd.R_ne HO_4.out BK135.out (by decide)))) _).trans (((cell_far (p := ⟨gb135, _, none⟩) (by first | exact Kd.own_blk (Kd.R_ne HO_4.out BK135.out (by decide)) | (rw [add_block]; exact Kd.own_blk (Kd.R_ne HO_4.out BK135.out (by decide))) | (show (Addr.add _ _).block ≠ _; rw [add_block]; exact Kd.own_blk (Kd.R_ne HO_4.out BK135.out (by decide))) | (dsimp only; exact Kd.own_blk (Kd.R_ne HO_4.out BK135.out (by decide)))) _).trans (((cell_far (p := ⟨gb135, _, none⟩) (by first | exact Kd.own_blk (Kd.R_ne HO_4.out BK135.out (by decide)) | (rw [add_block]; exact Kd.own_blk (Kd.R_ne HO_4.out BK135.out (by decide))) | (show (Addr.add _ _).block ≠ _; rw [add_block]; exact Kd.own_blk (Kd.R_ne HO_4.out BK135.out (by decide))) | (dsimp only; exact Kd.own_blk (Kd.R_ne HO_4.out BK135.out (by decide)))) _).trans (((cell_far (p := ⟨gb135, _, none⟩) (by first | exact Kd.own_blk (Kd.R_ne HO_4.out BK135.out (by decide)) | (rw [add_block]; exact Kd.own_blk (Kd.R_ne HO_4.out BK135.out (by decide))) | (show (Addr.add _ _).block ≠ _; rw [add_block]; exact Kd.own_blk (Kd.R_ne HO_4.out BK135.out (by decide))) | (dsimp only; exact Kd.own_blk (Kd.R_ne HO_4.out BK135.out (by decide)))) _).trans (hHeld.1)))))))))), ((cell_far (p := ⟨gb135, _, none⟩) (by first | exact Kd.own_blk (Kd.R_ne HO_4.out BK135.out (by decide)) | (rw [add_block]; exact Kd.own_blk (Kd.R_ne HO_4.out BK135.out (by decide))) | (show (Addr.add _ _).block ≠ _; rw [add_block]; exact Kd.own_blk (Kd.R_ne HO_4.out BK135.out (by decide))) | (dsimp only; exact Kd.own_blk (Kd.R_ne HO_4.out BK135.out (by decide)))) _).trans (((cell_far (p := ⟨gb135, _, none⟩) (by first | exact Kd.own_blk (Kd.R_ne HO_4.out BK135.out (by decide)) | (rw [add_block]; exact Kd.own_blk (Kd.R_ne HO_4.out BK135.out (by decide))) | (show (Addr.add _ _).block ≠ _; rw [add_block]; exact Kd.own_blk (Kd.R_ne HO_4.out BK135.out (by decide))) | (dsimp only; exact Kd.own_blk (Kd.R_ne HO_4.out BK135.out (by decide)))) _).trans (((cell_far (p := ⟨gb135, _, none⟩) (by first | exact Kd.own_blk (Kd.R_ne HO_4.out BK135.out (by decide)) | (rw [add_block]; exact Kd.own_blk (Kd.R_ne HO_4.out BK135.out (by decide))) | (show (Addr.add _ _).block ≠ _; rw [add_block]; exact Kd.own_blk (Kd.R_ne HO_4.out BK135.out (by decide))) | (dsimp only; exact Kd.own_blk (Kd.R_ne HO_4.out BK135.out (by decide)))) _).trans (((cell_far (p := ⟨gb135, _, none⟩) (by first | exact Kd.own_blk (Kd.R_ne HO_4.out BK135.out (by decide)) | (rw [add_block]; exact Kd.own_blk (Kd.R_ne HO_4.out BK135.out (by decide))) | (show (Addr.add _ _).block ≠ _; rw [add_block]; exact Kd.own_blk (Kd.R_ne HO_4.out BK135.out (by decide))) | (dsimp only; exact Kd.own_blk (Kd.R_ne HO_4.out BK135.out (by decide)))) _).trans (((cell_far (p := ⟨gb135, _, none⟩) (by first | exact Kd.own_blk (Kd.R_ne HO_4.out BK135.out (by decide)) | (rw [add_block]; exact Kd.own_blk (Kd.R_ne HO_4.out BK135.out (by decide))) | (show (Addr.add _ _).block ≠ _; rw [add_block]; exact Kd.own_blk (Kd.R_ne HO_4.out BK135.out (by decide))) | (dsimp only; exact Kd.own_blk (Kd.R_ne HO_4.out BK135.out (by decide)))) _).trans (hHeld.2.1)))))))))), ((cell_far (p := ⟨gb135, _, none⟩) (by first | exact Kd.own_blk (Kd.R_ne HO_4.out BK135.out (by decide)) | (rw [add_block]; exact Kd.own_blk (Kd.R_ne HO_4.out BK135.out (by decide))) | (show (Addr.add _ _).block ≠ _; rw [add_block]; exact Kd.own_blk (Kd.R_ne HO_4.out BK135.out (by decide))) | (dsimp only; exact Kd.own_blk (Kd.R_ne HO_4.out BK135.out (by decide)))) _).trans (((cell_far (p := ⟨gb135, _, none⟩) (by first | exact Kd.own_blk (Kd.R_ne HO_4.out BK135.out (by decide)) | (rw [add_block]; exact Kd.own_blk (Kd.R_ne HO_4.out BK135.out (by decide))) | (show (Addr.add _ _).block ≠ _; rw [add_block]; exact Kd.own_blk (Kd.R_ne HO_4.out BK135.out (by decide))) | (dsimp only; exact Kd.own_blk (Kd.R_ne HO_4.out BK135.out (by decide)))) _).trans (((cell_far (p := ⟨gb135, _, none⟩) (by first | exact Kd.own_blk (Kd.R_ne HO_4.out BK135.out (by decide)) | (rw [add_block]; exact Kd.own_blk (Kd.R_ne HO_4.out BK135.out (by decide))) | (show (Addr.add _ _).block ≠ _; rw [add_block]; exact Kd.own_blk (Kd.R_ne HO_4.out BK135.out (by decide))) | (dsimp only; exact Kd.own_blk (Kd.R_ne HO_4.out BK135.out (by decide)))) _).trans (((cell_far (p := ⟨gb135, _, none⟩) (by first | exact Kd.own_blk (Kd.R_ne HO_4.out BK135.out (by decide)) | (rw [add_block]; exact Kd.own_blk (Kd.R_ne HO_4.out BK135.out (by decide))) | (show (Addr.add _ _).block ≠ _; rw [add_block]; exact Kd.own_blk (Kd.R_ne HO_4.out BK135.out (by decide))) | (dsimp only; exact Kd.own_blk (Kd.R_ne HO_4.out BK135.out (by decide)))) _).trans (((cell_far (p := ⟨gb135, _, none⟩) (by first | exact Kd.own_blk (Kd.R_ne HO_4.out BK135.out (by decide)) | (rw [add_block]; exact Kd.own_blk (Kd.R_ne HO_4.out BK135.out (by decide))) | (show (Addr.add _ _).block ≠ _; rw [add_block]; exact Kd.own_blk (Kd.R_ne HO_4.out BK135.out (by decide))) | (dsimp only; exact Kd.own_blk (Kd.R_ne HO_4.out BK135.out (by decide)))) _).trans (hHeld.2.2.1)))))))))), ((cell_far (p := ⟨gb135, _, none⟩) (by first | exact Kd.own_blk (Kd.R_ne HO_4.out BK135.out (by decide)) | (rw [add_block]; exact Kd.own_blk (Kd.R_ne HO_4.out BK135.out (by decide))) | (show (Addr.add _ _).block ≠ _; rw [add_block]; exact Kd.own_blk (Kd.R_ne HO_4.out BK135.out (by decide))) | (dsimp only; exact Kd.own_blk (Kd.R_ne HO_4.out BK135.out (by decide)))) _).trans (((cell_far (p := ⟨gb135, _, none⟩) (by first | exact Kd.own_blk (Kd.R_ne HO_4.out BK135.out (by decide)) | (rw [add_block]; exact Kd.own_blk (Kd.R_ne HO_4.out BK135.out (by decide))) | (show (Addr.add _ _).block ≠ _; rw [add_block]; exact Kd.own_blk (Kd.R_ne HO_4.out BK135.out (by decide))) | (dsimp only; exact Kd.own_blk (Kd.R_ne HO_4.out BK135.out (by decide)))) _).trans (((cell_far (p := ⟨gb135, _, none⟩) (by first | exact Kd.own_blk (Kd.R_ne HO_4.out BK135.out (by decide)) | (rw [add_block]; exact Kd.own_blk (Kd.R_ne HO_4.out BK135.out (by decide))) | (show (Addr.add _ _).block ≠ _; rw [add_block]; exact Kd.own_blk (Kd.R_ne HO_4.out BK135.out (by decide))) | (dsimp only; exact Kd.own_blk (Kd.R_ne HO_4.out BK135.out (by decide)))) _).trans (((cell_far (p := ⟨gb135, _, none⟩) (by first | exact Kd.own_blk (Kd.R_ne HO_4.out BK135.out (by decide)) | (rw [add_block]; exact Kd.own_blk (Kd.R_ne HO_4.out BK135.out (by decide))) | (show (Addr.add _ _).block ≠ _; rw [add_block]; exact Kd.own_blk (Kd.R_ne HO_4.out BK135.out (by decide))) | (dsimp only; exact Kd.own_blk (Kd.R_ne HO_4.out BK135.out (by decide)))) _).trans (((cell_far (p := ⟨gb135, _, none⟩) (by first | exact Kd.own_blk (Kd.R_ne HO_4.out BK135.out (by decide)) | (rw [add_block]; exact Kd.own_blk (Kd.R_ne HO_4.out BK135.out (by decide))) | (show (Addr.add _ _).block ≠ _; rw [add_block]; exact Kd.own_blk (Kd.R_ne HO_4.out BK135.out (by decide))) | (dsimp only; exact Kd.own_blk (Kd.R_ne HO_4.out BK135.out (by decide)))) _).trans (hHeld.2.2.2.1)))))))))), ((cell_far (p := ⟨gb135, _, none⟩) (by first | exact Kd.own_blk (Kd.R_ne HO_4.out BK135.out (by decide)) | (rw [add_block]; exact Kd.own_blk (Kd.R_ne HO_4.out BK135.out (by decide))) | (show (Addr.add _ _).block ≠ _; rw [add_block]; exact Kd.own_blk (Kd.R_ne HO_4.out BK135.out (by decide))) | (dsimp only; exact Kd.own_blk (Kd.R_ne HO_4.out BK135.out (by decide)))) _).trans (((cell_far (p := ⟨gb135, _, none⟩) (by first | exact Kd.own_blk (Kd.R_ne HO_4.out BK135.out (by decide)) | (rw [add_block]; exact Kd.own_blk (Kd.R_ne HO_4.out BK135.out (by decide))) | (show (Addr.add _ _).block ≠ _; rw [add_block]; exact Kd.own_blk (Kd.R_ne HO_4.out BK135.out (by decide))) | (dsimp only; exact Kd.own_blk (Kd.R_ne HO_4.out BK135.out (by decide)))) _).trans (((cell_far (p := ⟨gb135, _, none⟩) (by first | exact Kd.own_blk (Kd.R_ne HO_4.out BK135.out (by decide)) | (rw [add_block]; exact Kd.own_blk (Kd.R_ne HO_4.out BK135.out (by decide))) | (show (Addr.add _ _).block ≠ _; rw [add_block]; exact Kd.own_blk (Kd.R_ne HO_4.out BK135.out (by decide))) | (dsimp only; exact Kd.own_blk (Kd.R_ne HO_4.out BK135.out (by decide)))) _).trans (((cell_far (p := ⟨gb135, _, none⟩) (by first | exact Kd.own_blk (Kd.R_ne HO_4.out BK135.out (by decide)) | (rw [add_block]; exact Kd.own_blk (Kd.R_ne HO_4.out BK135.out (by decide))) | (show (Addr.add _ _).block ≠ _; rw [add_block]; exact Kd.own_blk (Kd.R_ne HO_4.out BK135.out (by decide))) | (dsimp only; exact Kd.own_blk (Kd.R_ne HO_4.out BK135.out (by decide)))) _).trans (((cell_far (p := ⟨gb135, _, none⟩) (by first | exact Kd.own_blk (Kd.R_ne HO_4.out BK135.out (by decide)) | (rw [add_block]; exact Kd.own_blk (Kd.R_ne HO_4.out BK135.out (by decide))) | (show (Addr.add _ _).block ≠ _; rw [add_block]; exact Kd.own_blk (Kd.R_ne HO_4.out BK135.out (by decide))) | (dsimp only; exact Kd.own_blk (Kd.R_ne HO_4.out BK135.out (by decide)))) _).trans (hHeld.2.2.2.2))))))))))⟩ (fun hHeld => ?_)
          clear hK K
          refine done_ (done_of HT_.out (by kernel_rfl)) ?_
          refine genw (Pw := fun wz => wz.heap[gb135]? = some (.cells #[.float .f32 (rdOf (0 : Nat) t126 0), .float .f32 (rdOf (0 : Nat) t126 1), .float .f32 (rdOf (0 : Nat) t126 2), .float .f32 (rdOf (0 : Nat) t126 3), .float .f32 (rdOf (0 : Nat) t126 4)] 32 (0, 0)) ∧ wz.heap[gb125]? = some (.cells #[.float .f32 0, .float .f32 0, .float .f32 0, .float .f32 0, .float .f32 0] 32 (0, 0)) ∧ Below w.heap.size w wz) ?_ ?_
          exact ⟨by (with_reducible repeat (first | refine blk_drewN ?_ _ | refine blk_drew ?_ | refine blk_alloc ?_ _)); refine blk_put (cs := #[.float .f32 (rdOf (0 : Nat) t126 0), .float .f32 (rdOf (0 : Nat) t126 1), .float .f32 (rdOf (0 : Nat) t126 2), .float .f32 (rdOf (0 : Nat) t126 3), .float .f32 0]) ?_ 4 _ rfl; (with_reducible repeat (first | refine blk_drewN ?_ _ | refine blk_drew ?_ | refine blk_alloc ?_ _)); refine blk_put (cs := #[.float .f32 (rdOf (0 : Nat) t126 0), .float .f32 (rdOf (0 : Nat) t126 1), .float .f32 (rdOf (0 : Nat) t126 2), .float .f32 0, .float .f32 0]) ?_ 3 _ rfl; (with_reducible repeat (first | refine blk_drewN ?_ _ | refine blk_drew ?_ | refine blk_alloc ?_ _)); refine blk_put (cs := #[.float .f32 (rdOf (0 : Nat) t126 0), .float .f32 (rdOf (0 : Nat) t126 1), .float .f32 0, .float .f32 0, .float .f32 0]) ?_ 2 _ rfl; (with_reducible repeat (first | refine blk_drewN ?_ _ | refine blk_drew ?_ | refine blk_alloc ?_ _)); refine blk_put (cs := #[.float .f32 (rdOf (0 : Nat) t126 0), .float .f32 0, .float .f32 0, .float .f32 0, .float .f32 0]) ?_ 1 _ rfl; (with_reducible repeat (first | refine blk_drewN ?_ _ | refine blk_drew ?_ | refine blk_alloc ?_ _)); refine blk_put (cs := #[.float .f32 0, .float .f32 0, .float .f32 0, .float .f32 0, .float .f32 0]) ?_ 0 _ rfl; (with_reducible repeat (first | refine blk_drewN ?_ _ | refine blk_drew ?_ | refine blk_alloc ?_ _)); exact BK135.out, by (with_reducible repeat (first | refine blk_drewN ?_ _ | refine blk_drew ?_ | refine blk_alloc ?_ _)); refine blk_far ?_ NB125_135.out _; (with_reducible repeat (first | refine blk_drewN ?_ _ | refine blk_drew ?_ | refine blk_alloc ?_ _)); refine blk_far ?_ NB125_135.out _; (with_reducible repeat (first | refine blk_drewN ?_ _ | refine blk_drew ?_ | refine blk_alloc ?_ _)); refine blk_far ?_ NB125_135.out _; (with_reducible repeat (first | refine blk_drewN ?_ _ | refine blk_drew ?_ | refine blk_alloc ?_ _)); refine blk_far ?_ NB125_135.out _; (with_reducible repeat (first | refine blk_drewN ?_ _ | refine blk_drew ?_ | refine blk_alloc ?_ _)); refine blk_far ?_ NB125_135.out _; (with_reducible repeat (first | refine blk_drewN ?_ _ | refine blk_drew ?_ | refine blk_alloc ?_ _)); exact BK125.out, by repeat (first | (with_reducible first | exact HB.out | apply below_alloc | apply pw_below_drewN | apply below_drew1 | refine below_set ?_ GE125.out | refine below_set ?_ GE135.out) | exact HB.out)⟩
          have NBk := NB125_135.out
          clear BK135 BK125 HB
          rintro wz ⟨hz1, hz2, hz3⟩
          have BK135 := Aside0.mk hz1
          have BK125 := Aside0.mk hz2
          have HB := Aside0.mk hz3
          clear hz1 hz2 hz3
          have hca_0 : wz.cell? ⟨gb135, 0, none⟩ = some (.float .f32 (rdOf (0 : Nat) t126 0)) := (blk_cell BK135.out 0).trans rfl
          have hca_1 : wz.cell? ⟨gb135, 1, none⟩ = some (.float .f32 (rdOf (0 : Nat) t126 1)) := (blk_cell BK135.out 1).trans rfl
          have hca_2 : wz.cell? ⟨gb135, 2, none⟩ = some (.float .f32 (rdOf (0 : Nat) t126 2)) := (blk_cell BK135.out 2).trans rfl
          have hca_3 : wz.cell? ⟨gb135, 3, none⟩ = some (.float .f32 (rdOf (0 : Nat) t126 3)) := (blk_cell BK135.out 3).trans rfl
          have hca_4 : wz.cell? ⟨gb135, 4, none⟩ = some (.float .f32 (rdOf (0 : Nat) t126 4)) := (blk_cell BK135.out 4).trans rfl
          have hcb_0 : wz.cell? ⟨gb125, 0, none⟩ = some (.float .f32 0) := (blk_cell BK125.out 0).trans rfl
          have hfb_0 := blk_frozen BK125.out 0
          have hcb_1 : wz.cell? ⟨gb125, 1, none⟩ = some (.float .f32 0) := (blk_cell BK125.out 1).trans rfl
          have hfb_1 := blk_frozen BK125.out 1
          have hcb_2 : wz.cell? ⟨gb125, 2, none⟩ = some (.float .f32 0) := (blk_cell BK125.out 2).trans rfl
          have hfb_2 := blk_frozen BK125.out 2
          have hcb_3 : wz.cell? ⟨gb125, 3, none⟩ = some (.float .f32 0) := (blk_cell BK125.out 3).trans rfl
          have hfb_3 := blk_frozen BK125.out 3
          have hcb_4 : wz.cell? ⟨gb125, 4, none⟩ = some (.float .f32 0) := (blk_cell BK125.out 4).trans rfl
          have hfb_4 := blk_frozen BK125.out 4
          go_wp2_with (first | ((with_reducible refine gate_callee (f := 61) rfl ?_); refine goesL_ (some 36) rfl rfl Tryd.func61 (by kernel_rfl) rfl #[.pointer (some ⟨gb135, 0, none⟩)] rfl (by (try simp only [List.map_toArray, List.map_cons, List.map_nil]); first | done | rfl | (simp only [List.length_drop, List.length_take]; rfl)) ?_; (with_reducible refine (spec_l03Throat.calls _ [(⟨rdOf (0 : Nat) t126 0, rdOf (0 : Nat) t126 1, rdOf (0 : Nat) t126 2, rdOf (0 : Nat) t126 3, rdOf (0 : Nat) t126 4⟩ : S32)] false _ ?side1 A15.out).mono ?_); (case side1 => exact Kd.C_one (T := 32) BK135.out (k32_mk _ (⟨rdOf (0 : Nat) t126 0, rdOf (0 : Nat) t126 1, rdOf (0 : Nat) t126 2, rdOf (0 : Nat) t126 3, rdOf (0 : Nat) t126 4⟩ : S32) )); rintro e w' ⟨rfl, ⟨nd, rfl⟩⟩; refine ⟨_, rfl, ?_⟩))
          refine bodyPost_ret (results_ct rfl _ _ gb125 32 #[.float .f32 0, .float .f32 0, .float .f32 0, .float .f32 0, .float .f32 0] (0, 0) _ rfl (by (with_reducible repeat (first | refine blk_drewN ?_ _ | refine blk_drew ?_ | refine blk_alloc ?_ _)); refine blk_put (cs := #[.float .f32 0, .float .f32 0, .float .f32 0, .float .f32 0, .float .f32 0]) ?_ 4 _ rfl; (with_reducible repeat (first | refine blk_drewN ?_ _ | refine blk_drew ?_ | refine blk_alloc ?_ _)); refine blk_put (cs := #[.float .f32 0, .float .f32 0, .float .f32 0, .float .f32 0, .float .f32 0]) ?_ 3 _ rfl; (with_reducible repeat (first | refine blk_drewN ?_ _ | refine blk_drew ?_ | refine blk_alloc ?_ _)); refine blk_put (cs := #[.float .f32 0, .float .f32 0, .float .f32 0, .float .f32 0, .float .f32 0]) ?_ 2 _ rfl; (with_reducible repeat (first | refine blk_drewN ?_ _ | refine blk_drew ?_ | refine blk_alloc ?_ _)); refine blk_put (cs := #[.float .f32 0, .float .f32 0, .float .f32 0, .float .f32 0, .float .f32 0]) ?_ 1 _ rfl; (with_reducible repeat (first | refine blk_drewN ?_ _ | refine blk_drew ?_ | refine blk_alloc ?_ _)); refine blk_put (cs := #[.float .f32 0, .float .f32 0, .float .f32 0, .float .f32 0, .float .f32 0]) ?_ 0 _ rfl; (with_reducible repeat (first | refine blk_drewN ?_ _ | refine blk_drew ?_ | refine blk_alloc ?_ _)); exact BK125.out) Tryd.underlying32 rfl (by kernel_rfl)) rfl ?_
          exact ⟨by first | rfl | (simp [errW_none, errW_some] <;> rfl) | (simp [*, errW_none, errW_some] <;> rfl), by repeat (first | (with_reducible first | exact HB.out | apply below_alloc | apply pw_below_drewN | apply below_drew1 | refine below_set ?_ GE125.out | refine below_set ?_ GE135.out) | exact HB.out)⟩
        ·rw [if_neg c14] at H
         exact absurd H (by simp)
       ·rw [if_neg c13] at H
        exact absurd H (by simp)
      ·rw [if_neg c12] at H
       exact absurd H (by simp)
     ·rw [if_neg c11] at H
      exact absurd H (by simp)
    ·rw [if_neg c10] at H
     exact absurd H (by simp)

/-! ### spec_ReadThroat: function 13 -/
def spec_ReadThroat.f (k : Nat) (a0 : ByteArray) : Option (Nat × Nat × Nat × Nat × Nat × Bool) := (spec_l08ReadThroat.f k a0).bind fun bt138 => (some (bt138.1, bt138.2.1, bt138.2.2.1, bt138.2.2.2.1, bt138.2.2.2.2.1, bt138.2.2.2.2.2))
theorem spec_ReadThroat.mono : ∀ a0 k, LeO (spec_ReadThroat.f k a0) (spec_ReadThroat.f (k + 1) a0) := by
  intro a0 k
  unfold spec_ReadThroat.f
  repeat' first
      | (with_reducible exact spec_l08ReadThroat.mono _ _)
      | (with_reducible exact LeO.refl _)
      | (with_reducible exact LeO.none _)
      | (with_reducible refine LeO.ite ?_ ?_)
      | (with_reducible refine LeO.bind ?_ (fun _ => ?_))
      | exact spec_l08ReadThroat.mono _ _
      | exact LeO.none _
      | refine LeO.ite ?_ ?_
      | refine LeO.bind ?_ (fun _ => ?_)
set_option maxHeartbeats 8000000 in
set_option maxRecDepth 100000 in
theorem spec_ReadThroat.calls (k : Nat) (a0 : ByteArray) (r1 : Nat) (r2 : Nat) (r3 : Nat) (r4 : Nat) (r5 : Nat) (r6 : Bool) (w : World) (h : spec_ReadThroat.f k a0 = some (r1, r2, r3, r4, r5, r6)) :
    Calls Tryd.prog 13 #[.string a0] w fun e w' => e = .returned (.tuple #[.agg #[.float .f32 r1, .float .f32 r2, .float .f32 r3, .float .f32 r4, .float .f32 r5], .bool r6]) ∧ Below w.heap.size w w' := by
  have hu32 := Tryd.underlying32
  have HB := Aside0.mk (Below.refl w.heap.size w)
  have H : ((spec_l08ReadThroat.f k a0).bind fun bt138 => (some (bt138.1, bt138.2.1, bt138.2.2.1, bt138.2.2.2.1, bt138.2.2.2.2.1, bt138.2.2.2.2.2))) = some (r1, r2, r3, r4, r5, r6) := h
  clear h
  replace H := Option.bind_eq_some_iff.mp H
  obtain ⟨⟨t138, t139, t140, t141, t142, t143⟩, A20, H⟩ := H
  replace H : (some (t138, t139, t140, t141, t142, t143)) = some (r1, r2, r3, r4, r5, r6) := H
  have A2 := Aside0.mk A20
  clear A20
  simp only [Option.some.injEq, Prod.mk.injEq] at H
  obtain ⟨rfl, rfl, rfl, rfl, rfl, rfl⟩ := H
  go_enter Tryd.func13, Tryd.ntmps13
  go_wp2_with (first | ((with_reducible refine gate_dst (N := 2) rfl ?_); refine box_event ?hg (N := 2) ?hd (cs := #[.float .f32 0, .float .f32 0, .float .f32 0, .float .f32 0, .float .f32 0]) (t := 32) ?hr ?_; (case hd => rfl); (case hg => rfl); (case hr => first | (go_simp; done) | (go_simp; rfl) | (simp (disch := omega) only [w64_id]; go_simp; done) | (go_simp; simp (disch := omega) only [w64_id]; done)); intro gb137 hg w3 hbox hb; have n0_ := Aside0.mk (below_step (by repeat (first | (with_reducible first | exact HB.out | apply below_alloc | apply pw_below_drewN | apply below_drew1) | exact HB.out)) hb); have n1_ := Aside0.mk (hbox); have n2_ := Aside0.mk ((by rw [hg]; exact (below_size (by repeat (first | (with_reducible first | exact HB.out | apply below_alloc | apply pw_below_drewN | apply below_drew1) | exact HB.out))) : w.heap.size ≤ gb137)); have n3_ := Aside0.mk ((by rw [hg]; exact (below_size (by repeat (first | (with_reducible first | exact HB.out | apply below_alloc | apply pw_below_drewN | apply below_drew1) | exact HB.out))) : w.heap.size ≤ gb137)); clear HB; have HB := n0_; have BK137 := n1_; have GW137 := n2_; have GE137 := n3_; clear n0_ n1_ n2_ n3_; clear hb hbox hg) | ((with_reducible refine gate_callee (f := 37) rfl ?_); refine goesL_ (some 5) rfl rfl Tryd.func37 (by kernel_rfl) rfl #[.string a0] rfl (by (try simp only [List.map_toArray, List.map_cons, List.map_nil]); first | done | rfl | (simp only [List.length_drop, List.length_take]; rfl)) ?_; (with_reducible refine (spec_l08ReadThroat.calls k a0 t138 t139 t140 t141 t142 t143 _ A2.out).mono ?_); rintro e w4 ⟨rfl, hb⟩; refine ⟨_, rfl, ?_⟩; have n0_ := Aside0.mk (blk_below (g := gb137) (o := .cells #[.float .f32 0, .float .f32 0, .float .f32 0, .float .f32 0, .float .f32 0] 32 (0, 0)) (by (with_reducible repeat (first | refine blk_drewN ?_ _ | refine blk_drew ?_ | refine blk_alloc ?_ _)); exact BK137.out) hb); have n1_ := Aside0.mk (below_step (by repeat (first | (with_reducible first | exact HB.out | apply below_alloc | apply pw_below_drewN | apply below_drew1 | refine below_set ?_ GE137.out) | exact HB.out)) hb); clear BK137; clear HB; have BK137 := n0_; have HB := n1_; clear n0_ n1_; (try clear hb); (try clear hb2); (try clear hk); (try clear hi); have hcz5_0 : w4.cell? ⟨gb137, 0, none⟩ = some (.float .f32 0) := (blk_cell BK137.out 0).trans rfl; have hcz5_1 : w4.cell? ⟨gb137, 1, none⟩ = some (.float .f32 0) := (blk_cell BK137.out 1).trans rfl; have hcz5_2 : w4.cell? ⟨gb137, 2, none⟩ = some (.float .f32 0) := (blk_cell BK137.out 2).trans rfl; have hcz5_3 : w4.cell? ⟨gb137, 3, none⟩ = some (.float .f32 0) := (blk_cell BK137.out 3).trans rfl; have hcz5_4 : w4.cell? ⟨gb137, 4, none⟩ = some (.float .f32 0) := (blk_cell BK137.out 4).trans rfl; have hfz5_0 := blk_frozen BK137.out 0; have hfz5_1 := blk_frozen BK137.out 1; have hfz5_2 := blk_frozen BK137.out 2; have hfz5_3 := blk_frozen BK137.out 3; have hfz5_4 := blk_frozen BK137.out 4))
  refine bodyPost_ret (results_ct rfl _ _ gb137 32 #[.float .f32 t138, .float .f32 t139, .float .f32 t140, .float .f32 t141, .float .f32 t142] (0, 0) _ rfl (by (with_reducible repeat (first | refine blk_drewN ?_ _ | refine blk_drew ?_ | refine blk_alloc ?_ _)); refine blk_put (cs := #[.float .f32 t138, .float .f32 t139, .float .f32 t140, .float .f32 t141, .float .f32 0]) ?_ 4 _ rfl; (with_reducible repeat (first | refine blk_drewN ?_ _ | refine blk_drew ?_ | refine blk_alloc ?_ _)); refine blk_put (cs := #[.float .f32 t138, .float .f32 t139, .float .f32 t140, .float .f32 0, .float .f32 0]) ?_ 3 _ rfl; (with_reducible repeat (first | refine blk_drewN ?_ _ | refine blk_drew ?_ | refine blk_alloc ?_ _)); refine blk_put (cs := #[.float .f32 t138, .float .f32 t139, .float .f32 0, .float .f32 0, .float .f32 0]) ?_ 2 _ rfl; (with_reducible repeat (first | refine blk_drewN ?_ _ | refine blk_drew ?_ | refine blk_alloc ?_ _)); refine blk_put (cs := #[.float .f32 t138, .float .f32 0, .float .f32 0, .float .f32 0, .float .f32 0]) ?_ 1 _ rfl; (with_reducible repeat (first | refine blk_drewN ?_ _ | refine blk_drew ?_ | refine blk_alloc ?_ _)); refine blk_put (cs := #[.float .f32 0, .float .f32 0, .float .f32 0, .float .f32 0, .float .f32 0]) ?_ 0 _ rfl; (with_reducible repeat (first | refine blk_drewN ?_ _ | refine blk_drew ?_ | refine blk_alloc ?_ _)); exact BK137.out) Tryd.underlying32 rfl (by kernel_rfl)) rfl ?_
  exact ⟨by first | rfl | (simp [errW_none, errW_some] <;> rfl) | (simp [*, errW_none, errW_some] <;> rfl), by repeat (first | (with_reducible first | exact HB.out | apply below_alloc | apply pw_below_drewN | apply below_drew1 | refine below_set ?_ GE137.out) | exact HB.out)⟩

/-! ### strings_explode: function 94 (given: nothing is told of it) -/
def strings_explode.f (a0 : ByteArray) (a1 : Int) : Option (List ByteArray) := none
theorem strings_explode.calls (a0 : ByteArray) (a1 : Int) (r : List ByteArray) (w : World) (h : strings_explode.f a0 a1 = some r) :
    Calls Tryd.prog 94 #[.string a0, .int .i64 a1] w fun e w' => ∃ v0_ : Value, e = .returned v0_ ∧ Kd.R Kd.string 9 w' w.heap.size (fun _ => True) v0_ r ∧ Below w.heap.size w w' := by
  unfold strings_explode.f at h
  cases h

/-! ### strings_Count: function 95 (given: a text of one byte is sought) -/
def strings_Count.f (a0 : ByteArray) (a1 : ByteArray) : Option (Int) := if a1.size = 1 then some ((Lib.countByte a0.data.toList (a1.data.getD 0 0) : Nat)) else none
theorem strings_Count.calls (a0 : ByteArray) (a1 : ByteArray) (r : Int) (w : World) (h : strings_Count.f a0 a1 = some r) :
    Calls Tryd.prog 95 #[.string a0, .string a1] w fun e w' => e = .returned (.int .i64 r) ∧ Drawn0 w w' := by
  unfold strings_Count.f at h
  by_cases c : a1.size = 1
  · rw [if_pos c] at h
    obtain rfl := Option.some.inj h
    obtain ⟨x, rfl⟩ : ∃ x, a1 = ⟨#[x]⟩ := by
      obtain ⟨⟨l⟩⟩ := a1
      match l, c with
      | [x], _ => exact ⟨x, rfl⟩
    exact (Tryd.strings_Count_one a0 x w).mono fun e w' ⟨he, hw⟩ => ⟨he, hw ▸ Drawn0.refl w⟩
  · rw [if_neg c] at h; cases h

/-! ### strings_Index: function 96 (given: a text of one byte is sought) -/
def strings_Index.f (a0 : ByteArray) (a1 : ByteArray) : Option (Int) := if a1.size = 1 then some (Lib.indexByte a0.data.toList (a1.data.getD 0 0)) else none
theorem strings_Index.calls (a0 : ByteArray) (a1 : ByteArray) (r : Int) (w : World) (h : strings_Index.f a0 a1 = some r) :
    Calls Tryd.prog 96 #[.string a0, .string a1] w fun e w' => e = .returned (.int .i64 r) ∧ Drawn0 w w' := by
  unfold strings_Index.f at h
  by_cases c : a1.size = 1
  · rw [if_pos c] at h
    obtain rfl := Option.some.inj h
    obtain ⟨x, rfl⟩ : ∃ x, a1 = ⟨#[x]⟩ := by
      obtain ⟨⟨l⟩⟩ := a1
      match l, c with
      | [x], _ => exact ⟨x, rfl⟩
    exact (Tryd.strings_Index_one a0 x w).mono fun e w' ⟨he, hw⟩ => ⟨he, hw ▸ Drawn0.refl w⟩
  · rw [if_neg c] at h; cases h

end Go.Proofs.YtdfpfiecpcgffaaDoor.PFnExactReadThroat
