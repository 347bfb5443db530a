/- Printed by a program of this session (the kit's print, with contracts of this session's own): what functions come to, and that their code comes to it. -/
import Derived.Test.YtdfpfiecpcgffaaDoorPFnExactReadTubex0
import Derived.Test.YtdfpfiecpcgffaaDoorPFnExactReadTubex4
import Derived.Test.YtdfpfiecpcgffaaDoorPFnExactReadTubex5
namespace Go.Proofs.YtdfpfiecpcgffaaDoor.PFnExactReadTube
open Go.RowKit Go.Proofs.YtdfpfiecpcgffaaDoorW.PrintWords Go.Proofs.YtdfpfiecpcgffaaDoorW.PrintLast Go.Proofs.YtdfpfiecpcgffaaDoorW.PrintMore
open Go.Proofs.YtdfpfiecpcgffaaDoorW.PrintFl
attribute [local go_sem high] binOp_feq binOp_fne binOp_fls binOp_fle binOp_fgr binOp_fge binOp_sle binOp_sgt
attribute [local go_sem] run_fopr run_fconv run_fint run_stf run_stc ext_f32bits ext_f32frombits 
attribute [local go_sem] max2_int min2_int max_two min_two max_three min_three max_four min_four   -- for this text's walks alone
set_option linter.unusedVariables false
set_option linter.unusedSimpArgs false

/-! ### laws_heldFloat32S: function 46 -/
def laws_heldFloat32S.l0 : Nat → List Nat → Int → Int → Option (Int)
  | 0, _, _, _ => none
  | k + 1, x0, x1, x5 => if x5 < (x0.length : Int) then (if 0 ≤ x5 then (if (fne .f32 (rdOf (0 : Nat) x0 x5) (floatOfInt .f32 x1)) = true then (some (-1)) else (laws_heldFloat32S.l0 k x0 (wrap64 (x1 + 1)) (wrap64 (x5 + 1)))) else (none)) else (some x1)
def laws_heldFloat32S.f (k : Nat) (l0 : List Nat) (a1 : Int) : Option (Int) := laws_heldFloat32S.l0 k l0 a1 0
theorem laws_heldFloat32S.mono_l : ∀ k, (∀ y0 y1 y2, LeO (laws_heldFloat32S.l0 k y0 y1 y2) (laws_heldFloat32S.l0 (k + 1) y0 y1 y2))
  | 0 => fun _ _ _ r h => by simp [laws_heldFloat32S.l0] at h
  | k + 1 => by
    have ih0 := laws_heldFloat32S.mono_l k
    · intro y0 y1 y2
      unfold laws_heldFloat32S.l0
      repeat' first
      | (with_reducible exact ih0 _ _ _)
      | (with_reducible exact LeO.refl _)
      | (with_reducible exact LeO.none _)
      | (with_reducible refine LeO.ite ?_ ?_)
      | (with_reducible refine LeO.bind ?_ (fun _ => ?_))
      | exact ih0 _ _ _
      | exact LeO.none _
      | refine LeO.ite ?_ ?_
      | refine LeO.bind ?_ (fun _ => ?_)
theorem laws_heldFloat32S.mono : ∀ a0 a1 k, LeO (laws_heldFloat32S.f k a0 a1) (laws_heldFloat32S.f (k + 1) a0 a1) := by
  intro a0 a1 k
  have ih0 := laws_heldFloat32S.mono_l k
  unfold laws_heldFloat32S.f
  repeat' first
      | (with_reducible exact ih0 _ _ _)
      | (with_reducible exact LeO.refl _)
      | (with_reducible exact LeO.none _)
      | (with_reducible refine LeO.ite ?_ ?_)
      | (with_reducible refine LeO.bind ?_ (fun _ => ?_))
      | exact ih0 _ _ _
      | exact LeO.none _
      | refine LeO.ite ?_ ?_
      | refine LeO.bind ?_ (fun _ => ?_)
set_option maxHeartbeats 8000000 in
set_option maxRecDepth 100000 in
theorem laws_heldFloat32S.calls (k : Nat) (A0 : Option Addr) (c0 : Nat) (l0 : List Nat) (a1 : Int) (r : Int) (w : World) (hr0 : Kd.C (Kd.float .f32) w A0 l0.length l0) (hc0 : l0.length ≤ c0) (h : laws_heldFloat32S.f k l0 a1 = some r) :
    Calls Tryd.prog 46 #[.slice A0 l0.length c0, .int .i64 a1] w fun e w' => e = .returned (.int .i64 r) ∧ Drawn0 w w' := by
  have hu30 := Tryd.underlying30
  have HR0 := Aside0.mk hr0
  have HC0 := Aside0.mk hc0
  clear hr0 hc0
  have H : (laws_heldFloat32S.l0 k l0 a1 0) = some r := h
  clear h
  have H' := Aside0.mk H
  clear H
  go_enter Tryd.func46, Tryd.ntmps46
  go_wp2
  go_loopg [1, 5] k (fun kq v1 v5 w' => ∃ (x1_1 : Int) (x5_1 : Int), v1 = .int .i64 x1_1 ∧ v5 = .int .i64 x5_1 ∧ Aside0 (laws_heldFloat32S.l0 kq l0 x1_1 x5_1 = some r) ∧ Aside0 (kq ≤ k) ∧ Drawn0 w w')
  case atStart => exact ⟨(a1), (0), (by first | rfl | (simp; done) | (simp [*]; done)), (by first | rfl | (simp; done) | (simp [*]; done)), H', ⟨Nat.le_refl _⟩, by repeat (first | exact Drawn0.refl _ | apply Drawn0.step)⟩
  case round =>
    clear H'
    try clear p2
    obtain ⟨x1_1, x5_1, rfl, rfl, HA, HK1, ⟨m1, rfl⟩⟩ := hrel
    cases gk with
    | zero => exact absurd HA.out (by simp [laws_heldFloat32S.l0])
    | succ k1 =>
      have H := HA.out
      clear HA
      simp only [laws_heldFloat32S.l0] at H
      by_cases c3 : x5_1 < (l0.length : Int)
      · rw [if_pos c3] at H
        have c3b0 : decide (x5_1 < (l0.length : Int)) = true := decide_eq_true c3
        clear c3
        by_cases c4 : 0 ≤ x5_1
        · rw [if_pos c4] at H
          have c4b0 : decide (0 ≤ x5_1) = true := decide_eq_true c4
          clear c4
          by_cases c5 : (fne .f32 (rdOf (0 : Nat) l0 x5_1) (floatOfInt .f32 x1_1)) = true
          · rw [if_pos c5] at H
            have c5b0 : (fne .f32 (rdOf (0 : Nat) l0 x5_1) (floatOfInt .f32 x1_1)) = true := c5
            clear c5
            obtain rfl := Option.some.inj H
            have p225 : 0 ≤ (x5_1 : Int) := of_decide_eq_true (by first | (with_reducible assumption) | assumption)
            have q225 : x5_1 < (l0.length : Int) := of_decide_eq_true (by first | (with_reducible assumption) | assumption)
            obtain ⟨ad225, e225, hx225_0⟩ := Kd.at_float HR0.out x5_1 p225 q225
            cases e225
            replace p225 := eq_true p225
            replace q225 := eq_true q225
            go_wp2
            go_ret
            exact ⟨by first | rfl | (simp; done) | (simp [*]; done), by repeat (first | exact Drawn0.refl _ | apply Drawn0.step)⟩
          · rw [if_neg c5] at H
            have c5b0 : (fne .f32 (rdOf (0 : Nat) l0 x5_1) (floatOfInt .f32 x1_1)) = false := by simpa using c5
            clear c5
            have H' := Aside0.mk H
            clear H
            have p225 : 0 ≤ (x5_1 : Int) := of_decide_eq_true (by first | (with_reducible assumption) | assumption)
            have q225 : x5_1 < (l0.length : Int) := of_decide_eq_true (by first | (with_reducible assumption) | assumption)
            obtain ⟨ad225, e225, hx225_0⟩ := Kd.at_float HR0.out x5_1 p225 q225
            cases e225
            replace p225 := eq_true p225
            replace q225 := eq_true q225
            go_wp2
            go_roundg k1
            case measure => have := HK1.out; omega
            case rel => exact ⟨(wrap64 (x1_1 + 1)), (wrap64 (x5_1 + 1)), (by first | rfl | (simp; done) | (simp [*]; done)), (by first | rfl | (simp; done) | (simp [*]; done)), H', ⟨by have := HK1.out; omega⟩, by repeat (first | exact Drawn0.refl _ | apply Drawn0.step)⟩
        · rw [if_neg c4] at H
          exact absurd H (by simp)
      · rw [if_neg c3] at H
        have c3b0 : decide (x5_1 < (l0.length : Int)) = false := decide_eq_false c3
        clear c3
        obtain rfl := Option.some.inj H
        go_wp2
        go_ret
        exact ⟨by first | rfl | (simp; done) | (simp [*]; done), by repeat (first | exact Drawn0.refl _ | apply Drawn0.step)⟩

/-! ### laws_heldTube: function 25 -/
def laws_heldTube.f (k : Nat) (l0_0 : List Nat) (a0_1 : Nat) (a0_2 : Nat) (a0_3 : Nat) (a1 : Int) : Option (Int) := (laws_heldFloat32S.f k l0_0 a1).bind fun t227 => (if t227 < 0 then (some (-1)) else (some t227))
theorem laws_heldTube.mono : ∀ a0 a1 a2 a3 a4 k, LeO (laws_heldTube.f k a0 a1 a2 a3 a4) (laws_heldTube.f (k + 1) a0 a1 a2 a3 a4) := by
  intro a0 a1 a2 a3 a4 k
  unfold laws_heldTube.f
  repeat' first
      | (with_reducible exact laws_heldFloat32S.mono _ _ _)
      | (with_reducible exact LeO.refl _)
      | (with_reducible exact LeO.none _)
      | (with_reducible refine LeO.ite ?_ ?_)
      | (with_reducible refine LeO.bind ?_ (fun _ => ?_))
      | exact laws_heldFloat32S.mono _ _ _
      | exact LeO.none _
      | refine LeO.ite ?_ ?_
      | refine LeO.bind ?_ (fun _ => ?_)
set_option maxHeartbeats 8000000 in
set_option maxRecDepth 100000 in
theorem laws_heldTube.calls (k : Nat) (A0_0 : Option Addr) (c0_0 : Nat) (l0_0 : List Nat) (a0_1 : Nat) (a0_2 : Nat) (a0_3 : Nat) (a1 : Int) (r : Int) (w : World) (hr0_0 : Kd.C (Kd.float .f32) w A0_0 l0_0.length l0_0) (hc0_0 : l0_0.length ≤ c0_0) (h : laws_heldTube.f k l0_0 a0_1 a0_2 a0_3 a1 = some r) :
    Calls Tryd.prog 25 #[.agg #[.slice A0_0 l0_0.length c0_0, .float .f32 a0_1, .float .f32 a0_2, .float .f32 a0_3], .int .i64 a1] w fun e w' => e = .returned (.int .i64 r) ∧ Below w.heap.size w w' := by
  have hu45 := Tryd.underlying45
  have hu37 := Tryd.underlying37
  have HR0_0 := Aside0.mk hr0_0
  have HC0_0 := Aside0.mk hc0_0
  clear hr0_0 hc0_0
  have HB := Aside0.mk (Below.refl w.heap.size w)
  have H : ((laws_heldFloat32S.f k l0_0 a1).bind fun t227 => (if t227 < 0 then (some (-1)) else (some t227))) = some r := h
  clear h
  replace H := Option.bind_eq_some_iff.mp H
  obtain ⟨t227, A30, H⟩ := H
  replace H : (if t227 < 0 then (some (-1)) else (some t227)) = some r := H
  have A3 := Aside0.mk A30
  clear A30
  by_cases c4 : t227 < 0
  · rw [if_pos c4] at H
    have c4b0 : decide (t227 < 0) = true := decide_eq_true c4
    clear c4
    obtain rfl := Option.some.inj H
    go_enter Tryd.func25, Tryd.ntmps25
    go_wp2_with (first | ((with_reducible refine gate_dst (N := 2) rfl ?_); refine box_event ?hg (N := 2) ?hd (cs := #[.slice A0_0 l0_0.length c0_0, .float .f32 a0_1, .float .f32 a0_2, .float .f32 a0_3]) (t := 45) ?hr ?_; (case hd => rfl); (case hg => rfl); (case hr => first | (go_simp; done) | (go_simp; rfl) | (simp (disch := omega) only [w64_id]; go_simp; done) | (go_simp; simp (disch := omega) only [w64_id]; done)); intro gb226 hg w5 hbox hb; have n0_ := Aside0.mk (below_step (by repeat (first | (with_reducible first | exact HB.out | apply below_alloc | apply pw_below_drewN | apply below_drew1) | exact HB.out)) hb); have n1_ := Aside0.mk (hbox); have n2_ := Aside0.mk ((by rw [hg]; exact (below_size (by repeat (first | (with_reducible first | exact HB.out | apply below_alloc | apply pw_below_drewN | apply below_drew1) | exact HB.out))) : w.heap.size ≤ gb226)); have n3_ := Aside0.mk ((by rw [hg]; exact (below_size (by repeat (first | (with_reducible first | exact HB.out | apply below_alloc | apply pw_below_drewN | apply below_drew1) | exact HB.out))) : w.heap.size ≤ gb226)); clear HB; have HB := n0_; have BK226 := n1_; have GW226 := n2_; have GE226 := n3_; clear n0_ n1_ n2_ n3_; clear hb hbox hg; have hcz6_0 : w5.cell? ⟨gb226, 0, none⟩ = some (.slice A0_0 l0_0.length c0_0) := (blk_cell BK226.out 0).trans rfl; have hcz6_1 : w5.cell? ⟨gb226, 1, none⟩ = some (.float .f32 a0_1) := (blk_cell BK226.out 1).trans rfl; have hcz6_2 : w5.cell? ⟨gb226, 2, none⟩ = some (.float .f32 a0_2) := (blk_cell BK226.out 2).trans rfl; have hcz6_3 : w5.cell? ⟨gb226, 3, none⟩ = some (.float .f32 a0_3) := (blk_cell BK226.out 3).trans rfl; have hfz6_0 := blk_frozen BK226.out 0; have hfz6_1 := blk_frozen BK226.out 1; have hfz6_2 := blk_frozen BK226.out 2; have hfz6_3 := blk_frozen BK226.out 3) | ((with_reducible refine gate_callee (f := 46) rfl ?_); refine goesL_ (some 8) rfl rfl Tryd.func46 (by kernel_rfl) rfl #[.slice A0_0 l0_0.length c0_0, .int .i64 a1] rfl (by (try simp only [List.map_toArray, List.map_cons, List.map_nil]); first | done | rfl | (simp only [List.length_drop, List.length_take]; rfl)) ?_; (with_reducible refine (laws_heldFloat32S.calls k _ _ l0_0 a1 t227 _ ?side1 ?side2 A3.out).mono ?_); (case side1 => repeat (first | exact (Kd.C_below HR0_0.out HB.out) | (with_reducible refine Kd.C_alloc ?_ _) | (with_reducible refine Kd.C_drewN ?_ _) | (with_reducible refine Kd.C_drew ?_))); (case side2 => exact HC0_0.out); rintro e w' ⟨rfl, ⟨nd, rfl⟩⟩; refine ⟨_, rfl, ?_⟩))
    go_ret
    exact ⟨by first | rfl | (simp [errW_none, errW_some] <;> rfl) | (simp [*, errW_none, errW_some] <;> rfl), by repeat (first | (with_reducible first | exact HB.out | apply below_alloc | apply pw_below_drewN | apply below_drew1 | refine below_set ?_ GE226.out) | exact HB.out)⟩
  · rw [if_neg c4] at H
    have c4b0 : decide (t227 < 0) = false := decide_eq_false c4
    clear c4
    obtain rfl := Option.some.inj H
    go_enter Tryd.func25, Tryd.ntmps25
    go_wp2_with (first | ((with_reducible refine gate_dst (N := 2) rfl ?_); refine box_event ?hg (N := 2) ?hd (cs := #[.slice A0_0 l0_0.length c0_0, .float .f32 a0_1, .float .f32 a0_2, .float .f32 a0_3]) (t := 45) ?hr ?_; (case hd => rfl); (case hg => rfl); (case hr => first | (go_simp; done) | (go_simp; rfl) | (simp (disch := omega) only [w64_id]; go_simp; done) | (go_simp; simp (disch := omega) only [w64_id]; done)); intro gb226 hg w7 hbox hb; have n0_ := Aside0.mk (below_step (by repeat (first | (with_reducible first | exact HB.out | apply below_alloc | apply pw_below_drewN | apply below_drew1) | exact HB.out)) hb); have n1_ := Aside0.mk (hbox); have n2_ := Aside0.mk ((by rw [hg]; exact (below_size (by repeat (first | (with_reducible first | exact HB.out | apply below_alloc | apply pw_below_drewN | apply below_drew1) | exact HB.out))) : w.heap.size ≤ gb226)); have n3_ := Aside0.mk ((by rw [hg]; exact (below_size (by repeat (first | (with_reducible first | exact HB.out | apply below_alloc | apply pw_below_drewN | apply below_drew1) | exact HB.out))) : w.heap.size ≤ gb226)); clear HB; have HB := n0_; have BK226 := n1_; have GW226 := n2_; have GE226 := n3_; clear n0_ n1_ n2_ n3_; clear hb hbox hg; have hcz8_0 : w7.cell? ⟨gb226, 0, none⟩ = some (.slice A0_0 l0_0.length c0_0) := (blk_cell BK226.out 0).trans rfl; have hcz8_1 : w7.cell? ⟨gb226, 1, none⟩ = some (.float .f32 a0_1) := (blk_cell BK226.out 1).trans rfl; have hcz8_2 : w7.cell? ⟨gb226, 2, none⟩ = some (.float .f32 a0_2) := (blk_cell BK226.out 2).trans rfl; have hcz8_3 : w7.cell? ⟨gb226, 3, none⟩ = some (.float .f32 a0_3) := (blk_cell BK226.out 3).trans rfl; have hfz8_0 := blk_frozen BK226.out 0; have hfz8_1 := blk_frozen BK226.out 1; have hfz8_2 := blk_frozen BK226.out 2; have hfz8_3 := blk_frozen BK226.out 3) | ((with_reducible refine gate_callee (f := 46) rfl ?_); refine goesL_ (some 8) rfl rfl Tryd.func46 (by kernel_rfl) rfl #[.slice A0_0 l0_0.length c0_0, .int .i64 a1] rfl (by (try simp only [List.map_toArray, List.map_cons, List.map_nil]); first | done | rfl | (simp only [List.length_drop, List.length_take]; rfl)) ?_; (with_reducible refine (laws_heldFloat32S.calls k _ _ l0_0 a1 t227 _ ?side1 ?side2 A3.out).mono ?_); (case side1 => repeat (first | exact (Kd.C_below HR0_0.out HB.out) | (with_reducible refine Kd.C_alloc ?_ _) | (with_reducible refine Kd.C_drewN ?_ _) | (with_reducible refine Kd.C_drew ?_))); (case side2 => exact HC0_0.out); rintro e w' ⟨rfl, ⟨nd, rfl⟩⟩; refine ⟨_, rfl, ?_⟩))
    go_ret
    exact ⟨by first | rfl | (simp [errW_none, errW_some] <;> rfl) | (simp [*, errW_none, errW_some] <;> rfl), by repeat (first | (with_reducible first | exact HB.out | apply below_alloc | apply pw_below_drewN | apply below_drew1 | refine below_set ?_ GE226.out) | exact HB.out)⟩

/-! ### laws_FnExactReadTube: function 6 -/
mutual
def laws_FnExactReadTube.j0 : Nat → ByteArray → Bool → Bool → List Nat → Nat → Nat → Nat → List Nat → Nat → Nat → Nat → Option (Bool)
 | 0, _, _, _, _, _, _, _, _, _, _, _ => none
 | k + 1, x0, x4, x32, x236000, x236001, x236002, x236003, x244000, x244001, x244002, x244003 => if x32 = true then (some false) else ((laws_markTube.f k x244000 x244001 x244002 x244003 1).bind fun bt245 => ((laws_heldTube.f k bt245.2 x244001 x244002 x244003 1).bind fun t247 => (if t247 < 0 then (some false) else (if t247 = bt245.1 then ((impl_ReadTube.f k x0).bind fun bt248 => ((laws_eqTube.f bt248.1 bt248.2.1 bt248.2.2.1 bt248.2.2.2.1 x236000 x236001 x236002 x236003).bind fun t256 => (if t256 = true then (laws_FnExactReadTube.j1 k bt245.1 (bt248.2.2.2.2 != x4) bt245.2 x244001 x244002 x244003) else (laws_FnExactReadTube.j1 k bt245.1 true bt245.2 x244001 x244002 x244003)))) else (some false)))))
def laws_FnExactReadTube.j1 : Nat → Int → Bool → List Nat → Nat → Nat → Nat → Option (Bool)
 | 0, _, _, _, _, _, _ => none
 | k + 1, x7, x57, x244000, x244001, x244002, x244003 => if x57 = true then (some false) else ((laws_heldTube.f k x244000 x244001 x244002 x244003 1).bind fun t257 => (if t257 < 0 then (some false) else (if t257 = x7 then (some true) else (some false))))
end
def laws_FnExactReadTube.f (k : Nat) (a0 : ByteArray) : Option (Bool) := if (a0.size : Int) > 1048576 then (some true) else ((spec_ReadTube.f k a0).bind fun bt228 => ((impl_ReadTube.f k a0).bind fun bt236 => ((laws_eqTube.f bt236.1 bt236.2.1 bt236.2.2.1 bt236.2.2.2.1 bt228.1 bt228.2.1 bt228.2.2.1 bt228.2.2.2.1).bind fun t244 => (if t244 = true then (laws_FnExactReadTube.j0 k a0 bt228.2.2.2.2 (bt236.2.2.2.2 != bt228.2.2.2.2) bt228.1 bt228.2.1 bt228.2.2.1 bt228.2.2.2.1 bt236.1 bt236.2.1 bt236.2.2.1 bt236.2.2.2.1) else (laws_FnExactReadTube.j0 k a0 bt228.2.2.2.2 true bt228.1 bt228.2.1 bt228.2.2.1 bt228.2.2.2.1 bt236.1 bt236.2.1 bt236.2.2.1 bt236.2.2.2.1)))))
theorem laws_FnExactReadTube.mono_l : ∀ k, (∀ y0 y1 y2 y3 y4 y5 y6 y7 y8 y9 y10, LeO (laws_FnExactReadTube.j0 k y0 y1 y2 y3 y4 y5 y6 y7 y8 y9 y10) (laws_FnExactReadTube.j0 (k + 1) y0 y1 y2 y3 y4 y5 y6 y7 y8 y9 y10)) ∧ (∀ y0 y1 y2 y3 y4 y5, LeO (laws_FnExactReadTube.j1 k y0 y1 y2 y3 y4 y5) (laws_FnExactReadTube.j1 (k + 1) y0 y1 y2 y3 y4 y5))
 | 0 => ⟨fun _ _ _ _ _ _ _ _ _ _ _ r h => by simp [laws_FnExactReadTube.j0] at h, fun _ _ _ _ _ _ r h => by simp [laws_FnExactReadTube.j1] at h⟩
 | k + 1 => by
  obtain ⟨ih0, ih1⟩ := laws_FnExactReadTube.mono_l k
  refine ⟨?_, ?_⟩
  ·intro y0 y1 y2 y3 y4 y5 y6 y7 y8 y9 y10
   unfold laws_FnExactReadTube.j0
   repeat' first
   | (with_reducible exact ih0 _ _ _ _ _ _ _ _ _ _ _)
   | (with_reducible exact ih1 _ _ _ _ _ _)
   | (with_reducible exact impl_ReadTube.mono _ _)
   | (with_reducible exact laws_heldTube.mono _ _ _ _ _ _)
   | (with_reducible exact laws_markTube.mono _ _ _ _ _ _)
   | (with_reducible exact spec_ReadTube.mono _ _)
   | (with_reducible exact LeO.refl _)
   | (with_reducible exact LeO.none _)
   | (with_reducible refine LeO.ite ?_ ?_)
   | (with_reducible refine LeO.bind ?_ (fun _ => ?_))
   | exact ih0 _ _ _ _ _ _ _ _ _ _ _
   | exact ih1 _ _ _ _ _ _
   | exact impl_ReadTube.mono _ _
   | exact laws_heldTube.mono _ _ _ _ _ _
   | exact laws_markTube.mono _ _ _ _ _ _
   | exact spec_ReadTube.mono _ _
   | exact LeO.none _
   | refine LeO.ite ?_ ?_
   | refine LeO.bind ?_ (fun _ => ?_)
  ·intro y0 y1 y2 y3 y4 y5
   unfold laws_FnExactReadTube.j1
   repeat' first
   | (with_reducible exact ih0 _ _ _ _ _ _ _ _ _ _ _)
   | (with_reducible exact ih1 _ _ _ _ _ _)
   | (with_reducible exact impl_ReadTube.mono _ _)
   | (with_reducible exact laws_heldTube.mono _ _ _ _ _ _)
   | (with_reducible exact laws_markTube.mono _ _ _ _ _ _)
   | (with_reducible exact spec_ReadTube.mono _ _)
   | (with_reducible exact LeO.refl _)
   | (with_reducible exact LeO.none _)
   | (with_reducible refine LeO.ite ?_ ?_)
   | (with_reducible refine LeO.bind ?_ (fun _ => ?_))
   | exact ih0 _ _ _ _ _ _ _ _ _ _ _
   | exact ih1 _ _ _ _ _ _
   | exact impl_ReadTube.mono _ _
   | exact laws_heldTube.mono _ _ _ _ _ _
   | exact laws_markTube.mono _ _ _ _ _ _
   | exact spec_ReadTube.mono _ _
   | exact LeO.none _
   | refine LeO.ite ?_ ?_
   | refine LeO.bind ?_ (fun _ => ?_)
theorem laws_FnExactReadTube.mono : ∀ a0 k, LeO (laws_FnExactReadTube.f k a0) (laws_FnExactReadTube.f (k + 1) a0) := by
 intro a0 k
 obtain ⟨ih0, ih1⟩ := laws_FnExactReadTube.mono_l k
 unfold laws_FnExactReadTube.f
 repeat' first
   | (with_reducible exact ih0 _ _ _ _ _ _ _ _ _ _ _)
   | (with_reducible exact ih1 _ _ _ _ _ _)
   | (with_reducible exact impl_ReadTube.mono _ _)
   | (with_reducible exact laws_heldTube.mono _ _ _ _ _ _)
   | (with_reducible exact laws_markTube.mono _ _ _ _ _ _)
   | (with_reducible exact spec_ReadTube.mono _ _)
   | (with_reducible exact LeO.refl _)
   | (with_reducible exact LeO.none _)
   | (with_reducible refine LeO.ite ?_ ?_)
   | (with_reducible refine LeO.bind ?_ (fun _ => ?_))
   | exact ih0 _ _ _ _ _ _ _ _ _ _ _
   | exact ih1 _ _ _ _ _ _
   | exact impl_ReadTube.mono _ _
   | exact laws_heldTube.mono _ _ _ _ _ _
   | exact laws_markTube.mono _ _ _ _ _ _
   | exact spec_ReadTube.mono _ _
   | exact LeO.none _
   | refine LeO.ite ?_ ?_
   | refine LeO.bind ?_ (fun _ => ?_)
set_option maxHeartbeats 8000000 in
set_option maxRecDepth 100000 in
theorem laws_FnExactReadTube.calls (k : Nat) (a0 : ByteArray) (r : Bool) (w : World) (hT_ : GLt w) (h : laws_FnExactReadTube.f k a0 = some r) :
  Calls Tryd.prog 6 #[.string a0] w fun e w' => e = .returned (.bool r) ∧ Below w.heap.size w w' := by
 have hu45 := Tryd.underlying45
 have HGT_ := Aside0.mk hT_
 clear hT_
 have HB := Aside0.mk (Below.refl w.heap.size w)
 have H : (if (a0.size : Int) > 1048576 then (some true) else ((spec_ReadTube.f k a0).bind fun bt228 => ((impl_ReadTube.f k a0).bind fun bt236 => ((laws_eqTube.f bt236.1 bt236.2.1 bt236.2.2.1 bt236.2.2.2.1 bt228.1 bt228.2.1 bt228.2.2.1 bt228.2.2.2.1).bind fun t244 => (if t244 = true then (laws_FnExactReadTube.j0 k a0 bt228.2.2.2.2 (bt236.2.2.2.2 != bt228.2.2.2.2) bt228.1 bt228.2.1 bt228.2.2.1 bt228.2.2.2.1 bt236.1 bt236.2.1 bt236.2.2.1 bt236.2.2.2.1) else (laws_FnExactReadTube.j0 k a0 bt228.2.2.2.2 true bt228.1 bt228.2.1 bt228.2.2.1 bt228.2.2.2.1 bt236.1 bt236.2.1 bt236.2.2.1 bt236.2.2.2.1)))))) = some r := h
 clear h
 by_cases c2 : (a0.size : Int) > 1048576
 ·rw [if_pos c2] at H
  have c2b0 : decide (1048576 < (a0.size : Int)) = true := decide_eq_true c2
  have c2b1 : decide (1048576 < a0.size) = true := decide_eq_true (by omega)
  clear c2
  obtain rfl := Option.some.inj H
  go_enter Tryd.func6, Tryd.ntmps6
  go_wp2
  go_ret
  exact ⟨by first | rfl | (simp [errW_none, errW_some] <;> rfl) | (simp [*, errW_none, errW_some] <;> rfl), by repeat (first | (with_reducible first | exact HB.out | apply below_alloc | apply pw_below_drewN | apply below_drew1) | exact HB.out)⟩
 ·rw [if_neg c2] at H
  have c2b0 : decide (1048576 < (a0.size : Int)) = false := decide_eq_false c2
  have c2b1 : decide (1048576 < a0.size) = false := decide_eq_false (by omega)
  clear c2
  replace H := Option.bind_eq_some_iff.mp H
  obtain ⟨⟨t228, t231, t232, t233, t234⟩, A30, H⟩ := H
  replace H : ((impl_ReadTube.f k a0).bind fun bt236 => ((laws_eqTube.f bt236.1 bt236.2.1 bt236.2.2.1 bt236.2.2.2.1 t228 t231 t232 t233).bind fun t244 => (if t244 = true then (laws_FnExactReadTube.j0 k a0 t234 (bt236.2.2.2.2 != t234) t228 t231 t232 t233 bt236.1 bt236.2.1 bt236.2.2.1 bt236.2.2.2.1) else (laws_FnExactReadTube.j0 k a0 t234 true t228 t231 t232 t233 bt236.1 bt236.2.1 bt236.2.2.1 bt236.2.2.2.1)))) = some r := H
  have A3 := Aside0.mk A30
  clear A30
  replace H := Option.bind_eq_some_iff.mp H
  obtain ⟨⟨t236, t239, t240, t241, t242⟩, A40, H⟩ := H
  replace H : ((laws_eqTube.f t236 t239 t240 t241 t228 t231 t232 t233).bind fun t244 => (if t244 = true then (laws_FnExactReadTube.j0 k a0 t234 (t242 != t234) t228 t231 t232 t233 t236 t239 t240 t241) else (laws_FnExactReadTube.j0 k a0 t234 true t228 t231 t232 t233 t236 t239 t240 t241))) = some r := H
  have A4 := Aside0.mk A40
  clear A40
  have HC5 := Aside0.mk H
  clear H
  go_enter Tryd.func6, Tryd.ntmps6
  go_upto_region 5 with (first | ((with_reducible refine gate_callee (f := 21) rfl ?_); refine goesL_ (some 16) rfl rfl Tryd.func21 (by kernel_rfl) rfl #[.string a0] rfl (by (try simp only [List.map_toArray, List.map_cons, List.map_nil]); first | done | rfl | (simp only [List.length_drop, List.length_take]; rfl)) ?_; (with_reducible refine (spec_ReadTube.calls k a0 t228 t231 t232 t233 t234 _ A3.out).mono ?_); rintro e w6 ⟨v229, rfl, ho0, hb⟩; refine ⟨_, rfl, ?_⟩; have n0_ := Aside0.mk (Kd.R_lower ho0 (below_size (by repeat (first | (with_reducible first | exact HB.out | apply below_alloc | apply pw_below_drewN | apply below_drew1) | exact HB.out)))); have n1_ := Aside0.mk (below_step (by repeat (first | (with_reducible first | exact HB.out | apply below_alloc | apply pw_below_drewN | apply below_drew1) | exact HB.out)) hb); clear HB; have HO230 := n0_; have HB := n1_; clear n0_ n1_; (try clear hb); (try clear hb2); (try clear hk); (try clear hi); (try clear ho0)) | ((with_reducible refine gate_dst (N := 3) rfl ?_); refine box_event ?hg (N := 3) ?hd (cs := #[.slice none 0 0, .float .f32 0, .float .f32 0, .float .f32 0]) (t := 45) ?hr ?_; (case hd => rfl); (case hg => rfl); (case hr => first | (go_simp; done) | (go_simp; rfl) | (simp (disch := omega) only [w64_id]; go_simp; done) | (go_simp; simp (disch := omega) only [w64_id]; done)); intro gb235 hg w7 hbox hb; have n0_ := Aside0.mk (Kd.R_below (by (with_reducible repeat (first | apply Kd.R_alloc | apply Kd.R_drewN | apply Kd.R_drew)); exact HO230.out) hb); have n1_ := Aside0.mk (below_step (by repeat (first | (with_reducible first | exact HB.out | apply below_alloc | apply pw_below_drewN | apply below_drew1) | exact HB.out)) hb); have n2_ := Aside0.mk (hbox); have n3_ := Aside0.mk ((by rw [hg]; exact (below_size (by repeat (first | (with_reducible first | exact HB.out | apply below_alloc | apply pw_below_drewN | apply below_drew1) | exact HB.out))) : w.heap.size ≤ gb235)); have n4_ := Aside0.mk ((by rw [hg]; exact (below_size (by repeat (first | (with_reducible first | exact HB.out | apply below_alloc | apply pw_below_drewN | apply below_drew1) | exact HB.out))) : w.heap.size ≤ gb235)); clear HO230; clear HB; have HO230 := n0_; have HB := n1_; have BK235 := n2_; have GW235 := n3_; have GE235 := n4_; clear n0_ n1_ n2_ n3_ n4_; clear hb hbox hg; obtain ⟨Ao8, co8, eo8⟩ := Kd.R_slice HO230.out; subst eo8; have hcz9_0 : w7.cell? ⟨gb235, 0, none⟩ = some (.slice none 0 0) := (blk_cell BK235.out 0).trans rfl; have hcz9_1 : w7.cell? ⟨gb235, 1, none⟩ = some (.float .f32 0) := (blk_cell BK235.out 1).trans rfl; have hcz9_2 : w7.cell? ⟨gb235, 2, none⟩ = some (.float .f32 0) := (blk_cell BK235.out 2).trans rfl; have hcz9_3 : w7.cell? ⟨gb235, 3, none⟩ = some (.float .f32 0) := (blk_cell BK235.out 3).trans rfl; have hfz9_0 := blk_frozen BK235.out 0; have hfz9_1 := blk_frozen BK235.out 1; have hfz9_2 := blk_frozen BK235.out 2; have hfz9_3 := blk_frozen BK235.out 3) | ((with_reducible refine gate_callee (f := 22) rfl ?_); refine goesL_ (some 21) rfl rfl Tryd.func22 (by kernel_rfl) rfl #[.string a0] rfl (by (try simp only [List.map_toArray, List.map_cons, List.map_nil]); first | done | rfl | (simp only [List.length_drop, List.length_take]; rfl)) ?_; (with_reducible refine (impl_ReadTube.calls k a0 t236 t239 t240 t241 t242 _ ?side1 A4.out).mono ?_); (case side1 => exact GLt_below HGT_.out (by repeat (first | (with_reducible first | exact HB.out | apply below_alloc | apply pw_below_drewN | apply below_drew1 | refine below_set ?_ GE235.out) | exact HB.out))); rintro e w10 ⟨v237, rfl, ho0, hb⟩; refine ⟨_, rfl, ?_⟩; have n0_ := Aside0.mk (Kd.R_elder' (by (with_reducible repeat (first | apply Kd.R_alloc | apply Kd.R_drewN | apply Kd.R_drew)); exact (Kd.R_mono (Kd.R_far (p := ⟨gb235, 3, none⟩) (Kd.R_far (p := ⟨gb235, 2, none⟩) (Kd.R_far (p := ⟨gb235, 1, none⟩) (Kd.R_far (p := ⟨gb235, 0, none⟩) (Kd.R_types HO230.out BK235.out (by decide)) (fun _ hk => hk.2) (.slice Ao8 t228.length co8)) (fun _ hk => hk.2) (.float .f32 t231)) (fun _ hk => hk.2) (.float .f32 t232)) (fun _ hk => hk.2) (.float .f32 t233)) (fun _ h_ => h_.1))) (Kd.R_base ho0) hb); have n1_ := Aside0.mk (Kd.R_lower (Kd.R_new' ho0 (Kd.R_lt (by (with_reducible repeat (first | apply Kd.R_alloc | apply Kd.R_drewN | apply Kd.R_drew)); exact (Kd.R_mono (Kd.R_far (p := ⟨gb235, 3, none⟩) (Kd.R_far (p := ⟨gb235, 2, none⟩) (Kd.R_far (p := ⟨gb235, 1, none⟩) (Kd.R_far (p := ⟨gb235, 0, none⟩) (Kd.R_types HO230.out BK235.out (by decide)) (fun _ hk => hk.2) (.slice Ao8 t228.length co8)) (fun _ hk => hk.2) (.float .f32 t231)) (fun _ hk => hk.2) (.float .f32 t232)) (fun _ hk => hk.2) (.float .f32 t233)) (fun _ h_ => h_.1))))) (below_size (by repeat (first | (with_reducible first | exact HB.out | apply below_alloc | apply pw_below_drewN | apply below_drew1 | refine below_set ?_ GE235.out) | exact HB.out)))); have n2_ := Aside0.mk (blk_below (g := gb235) (o := .cells #[.slice Ao8 t228.length co8, .float .f32 t231, .float .f32 t232, .float .f32 t233] 45 (0, 0)) (by (with_reducible repeat (first | refine blk_drewN ?_ _ | refine blk_drew ?_ | refine blk_alloc ?_ _)); refine blk_put (cs := #[.slice Ao8 t228.length co8, .float .f32 t231, .float .f32 t232, .float .f32 0]) ?_ 3 _ rfl; (with_reducible repeat (first | refine blk_drewN ?_ _ | refine blk_drew ?_ | refine blk_alloc ?_ _)); refine blk_put (cs := #[.slice Ao8 t228.length co8, .float .f32 t231, .float .f32 0, .float .f32 0]) ?_ 2 _ rfl; (with_reducible repeat (first | refine blk_drewN ?_ _ | refine blk_drew ?_ | refine blk_alloc ?_ _)); refine blk_put (cs := #[.slice Ao8 t228.length co8, .float .f32 0, .float .f32 0, .float .f32 0]) ?_ 1 _ rfl; (with_reducible repeat (first | refine blk_drewN ?_ _ | refine blk_drew ?_ | refine blk_alloc ?_ _)); refine blk_put (cs := #[.slice none 0 0, .float .f32 0, .float .f32 0, .float .f32 0]) ?_ 0 _ rfl; (with_reducible repeat (first | refine blk_drewN ?_ _ | refine blk_drew ?_ | refine blk_alloc ?_ _)); exact BK235.out) hb); have n3_ := Aside0.mk (below_step (by repeat (first | (with_reducible first | exact HB.out | apply below_alloc | apply pw_below_drewN | apply below_drew1 | refine below_set ?_ GE235.out) | exact HB.out)) hb); clear HO230; clear BK235; clear HB; have HO230 := n0_; have HO238 := n1_; have BK235 := n2_; have HB := n3_; clear n0_ n1_ n2_ n3_; (try clear hb); (try clear hb2); (try clear hk); (try clear hi); (try clear ho0)) | ((with_reducible refine gate_dst (N := 5) rfl ?_); refine box_event ?hg (N := 5) ?hd (cs := #[.slice none 0 0, .float .f32 0, .float .f32 0, .float .f32 0]) (t := 45) ?hr ?_; (case hd => rfl); (case hg => rfl); (case hr => first | (go_simp; done) | (go_simp; rfl) | (simp (disch := omega) only [w64_id]; go_simp; done) | (go_simp; simp (disch := omega) only [w64_id]; done)); intro gb243 hg w11 hbox hb; have n0_ := Aside0.mk (Kd.R_below (by (with_reducible repeat (first | apply Kd.R_alloc | apply Kd.R_drewN | apply Kd.R_drew)); exact HO230.out) hb); have n1_ := Aside0.mk (Kd.R_below (by (with_reducible repeat (first | apply Kd.R_alloc | apply Kd.R_drewN | apply Kd.R_drew)); exact HO238.out) hb); have n2_ := Aside0.mk (blk_below (g := gb235) (o := .cells #[.slice Ao8 t228.length co8, .float .f32 t231, .float .f32 t232, .float .f32 t233] 45 (0, 0)) (by (with_reducible repeat (first | refine blk_drewN ?_ _ | refine blk_drew ?_ | refine blk_alloc ?_ _)); exact BK235.out) hb); have n3_ := Aside0.mk (below_step (by repeat (first | (with_reducible first | exact HB.out | apply below_alloc | apply pw_below_drewN | apply below_drew1 | refine below_set ?_ GE235.out) | exact HB.out)) hb); have n4_ := Aside0.mk (hbox); have n5_ := Aside0.mk ((by rw [hg]; exact (below_size (by repeat (first | (with_reducible first | exact HB.out | apply below_alloc | apply pw_below_drewN | apply below_drew1 | refine below_set ?_ GE235.out) | exact HB.out))) : w.heap.size ≤ gb243)); have n6_ := Aside0.mk ((by rw [hg]; exact (below_size (by repeat (first | (with_reducible first | exact HB.out | apply below_alloc | apply pw_below_drewN | apply below_drew1 | refine below_set ?_ GE235.out) | exact HB.out))) : w.heap.size ≤ gb243)); have n7_ := Aside0.mk ((by rw [hg]; exact Nat.ne_of_lt (blk_lt (g := gb235) (o := .cells #[.slice Ao8 t228.length co8, .float .f32 t231, .float .f32 t232, .float .f32 t233] 45 (0, 0)) (by (with_reducible repeat (first | refine blk_drewN ?_ _ | refine blk_drew ?_ | refine blk_alloc ?_ _)); exact BK235.out)) : gb235 ≠ gb243)); have n8_ := Aside0.mk ((by rw [hg]; exact Nat.ne_of_gt (blk_lt (g := gb235) (o := .cells #[.slice Ao8 t228.length co8, .float .f32 t231, .float .f32 t232, .float .f32 t233] 45 (0, 0)) (by (with_reducible repeat (first | refine blk_drewN ?_ _ | refine blk_drew ?_ | refine blk_alloc ?_ _)); exact BK235.out)) : gb243 ≠ gb235)); clear HO230; clear HO238; clear BK235; clear HB; have HO230 := n0_; have HO238 := n1_; have BK235 := n2_; have HB := n3_; have BK243 := n4_; have GW243 := n5_; have GE243 := n6_; have NB235_243 := n7_; have NB243_235 := n8_; clear n0_ n1_ n2_ n3_ n4_ n5_ n6_ n7_ n8_; clear hb hbox hg; obtain ⟨Ao12, co12, eo12⟩ := Kd.R_slice HO238.out; subst eo12; have hnb13 := NB243_235.out; have hnc13 := NB235_243.out; have hcz14_0 : w11.cell? ⟨gb243, 0, none⟩ = some (.slice none 0 0) := (blk_cell BK243.out 0).trans rfl; have hcz14_1 : w11.cell? ⟨gb243, 1, none⟩ = some (.float .f32 0) := (blk_cell BK243.out 1).trans rfl; have hcz14_2 : w11.cell? ⟨gb243, 2, none⟩ = some (.float .f32 0) := (blk_cell BK243.out 2).trans rfl; have hcz14_3 : w11.cell? ⟨gb243, 3, none⟩ = some (.float .f32 0) := (blk_cell BK243.out 3).trans rfl; have hfz14_0 := blk_frozen BK243.out 0; have hfz14_1 := blk_frozen BK243.out 1; have hfz14_2 := blk_frozen BK243.out 2; have hfz14_3 := blk_frozen BK243.out 3))
  (try simp only [Act.put, List.setIfInBounds_toArray, List.set_cons_zero, List.set_cons_succ])
  go_cut [32] (fun v32 wc => ∃ (kq : Nat) (x32_4 : Bool), v32 = .bool x32_4 ∧ Aside0 (laws_FnExactReadTube.j0 kq a0 t234 x32_4 t228 t231 t232 t233 t236 t239 t240 t241 = some r) ∧ Aside0 (kq ≤ k) ∧ Aside0 (Kd.R (Kd.float .f32) 30 wc w.heap.size (fun k_ => some k_ ≠ ((.slice Ao12 t236.length co12) : Value).ownBlock) (.slice Ao8 t228.length co8) t228) ∧ Aside0 (Kd.R (Kd.float .f32) 30 wc w.heap.size (fun k_ => some k_ ≠ ((.slice Ao8 t228.length co8) : Value).ownBlock) (.slice Ao12 t236.length co12) t236) ∧ Aside0 (wc.heap[gb235]? = some (.cells #[(.slice Ao8 t228.length co8), .float .f32 t231, .float .f32 t232, .float .f32 t233] 45 (0, 0))) ∧ Aside0 (wc.heap[gb243]? = some (.cells #[(.slice Ao12 t236.length co12), .float .f32 t239, .float .f32 t240, .float .f32 t241] 45 (0, 0))) ∧ Aside0 (Below w.heap.size w wc))
  case first =>
   have H := HC5.out
   clear HC5
   replace H := Option.bind_eq_some_iff.mp H
   obtain ⟨t244, A150, H⟩ := H
   replace H : (if t244 = true then (laws_FnExactReadTube.j0 k a0 t234 (t242 != t234) t228 t231 t232 t233 t236 t239 t240 t241) else (laws_FnExactReadTube.j0 k a0 t234 true t228 t231 t232 t233 t236 t239 t240 t241)) = some r := H
   have A15 := Aside0.mk A150
   clear A150
   by_cases c16 : t244 = true
   ·subst c16
    have H1 : (laws_FnExactReadTube.j0 k a0 t234 (t242 != t234) t228 t231 t232 t233 t236 t239 t240 t241) = some r := by rw [if_pos rfl] at H; exact H
    clear H
    have H := H1
    clear H1
    have H' := Aside0.mk H
    clear H
    have hnb17 := NB243_235.out
    have hnc17 := NB235_243.out
    have hcz18_0 : w11.cell? ⟨gb243, 0, none⟩ = some (.slice none 0 0) := (blk_cell BK243.out 0).trans rfl
    have hcz18_1 : w11.cell? ⟨gb243, 1, none⟩ = some (.float .f32 0) := (blk_cell BK243.out 1).trans rfl
    have hcz18_2 : w11.cell? ⟨gb243, 2, none⟩ = some (.float .f32 0) := (blk_cell BK243.out 2).trans rfl
    have hcz18_3 : w11.cell? ⟨gb243, 3, none⟩ = some (.float .f32 0) := (blk_cell BK243.out 3).trans rfl
    have hfz18_0 := blk_frozen BK243.out 0
    have hfz18_1 := blk_frozen BK243.out 1
    have hfz18_2 := blk_frozen BK243.out 2
    have hfz18_3 := blk_frozen BK243.out 3
    have hcz19_0 : w11.cell? ⟨gb235, 0, none⟩ = some (.slice Ao8 t228.length co8) := (blk_cell BK235.out 0).trans rfl
    have hcz19_1 : w11.cell? ⟨gb235, 1, none⟩ = some (.float .f32 t231) := (blk_cell BK235.out 1).trans rfl
    have hcz19_2 : w11.cell? ⟨gb235, 2, none⟩ = some (.float .f32 t232) := (blk_cell BK235.out 2).trans rfl
    have hcz19_3 : w11.cell? ⟨gb235, 3, none⟩ = some (.float .f32 t233) := (blk_cell BK235.out 3).trans rfl
    have hfz19_0 := blk_frozen BK235.out 0
    have hfz19_1 := blk_frozen BK235.out 1
    have hfz19_2 := blk_frozen BK235.out 2
    have hfz19_3 := blk_frozen BK235.out 3
    go_wp2_with (first | ((with_reducible refine gate_callee (f := 23) rfl ?_); refine goesL_ (some 26) rfl rfl Tryd.func23 (by kernel_rfl) rfl #[.agg #[.slice Ao12 t236.length co12, .float .f32 t239, .float .f32 t240, .float .f32 t241], .agg #[.slice Ao8 t228.length co8, .float .f32 t231, .float .f32 t232, .float .f32 t233]] rfl (by (try simp only [List.map_toArray, List.map_cons, List.map_nil]); first | done | rfl | (simp only [List.length_drop, List.length_take]; rfl)) ?_; (with_reducible refine (laws_eqTube.calls _ _ t236 t239 t240 t241 _ _ t228 t231 t232 t233 true _ ?side1 ?side2 ?side3 ?side4 A15.out).mono ?_); (case side1 => refine (Kd.R_reads' (e := 30) (base := w.heap.size) (ok := fun k_ => (True ∧ some k_ ≠ (.slice Ao8 t228.length co8 : Value).ownBlock)) (n := t236.length) (c := co12) ?_).2.2; exact (by (with_reducible repeat (first | apply Kd.R_alloc | apply Kd.R_drewN | apply Kd.R_drew)); exact (Kd.R_mono (Kd.R_far (p := ⟨gb243, 3, none⟩) (Kd.R_far (p := ⟨gb243, 2, none⟩) (Kd.R_far (p := ⟨gb243, 1, none⟩) (Kd.R_far (p := ⟨gb243, 0, none⟩) (Kd.R_types HO238.out BK243.out (by decide)) (fun _ hk => hk.2) (.slice Ao12 t236.length co12)) (fun _ hk => hk.2) (.float .f32 t239)) (fun _ hk => hk.2) (.float .f32 t240)) (fun _ hk => hk.2) (.float .f32 t241)) (fun _ h_ => h_.1)))); (case side2 => exact (Kd.R_reads' HO238.out).2.1); (case side3 => refine (Kd.R_reads' (e := 30) (base := w.heap.size) (ok := fun k_ => (True ∧ some k_ ≠ (.slice Ao12 t236.length co12 : Value).ownBlock)) (n := t228.length) (c := co8) ?_).2.2; exact (by (with_reducible repeat (first | apply Kd.R_alloc | apply Kd.R_drewN | apply Kd.R_drew)); exact (Kd.R_mono (Kd.R_far (p := ⟨gb243, 3, none⟩) (Kd.R_far (p := ⟨gb243, 2, none⟩) (Kd.R_far (p := ⟨gb243, 1, none⟩) (Kd.R_far (p := ⟨gb243, 0, none⟩) (Kd.R_types HO230.out BK243.out (by decide)) (fun _ hk => hk.2) (.slice Ao12 t236.length co12)) (fun _ hk => hk.2) (.float .f32 t239)) (fun _ hk => hk.2) (.float .f32 t240)) (fun _ hk => hk.2) (.float .f32 t241)) (fun _ h_ => h_.1)))); (case side4 => exact (Kd.R_reads' HO230.out).2.1); rintro e w20 ⟨rfl, hb⟩; refine ⟨_, rfl, ?_⟩; have n0_ := Aside0.mk (Kd.R_below (by (with_reducible repeat (first | apply Kd.R_alloc | apply Kd.R_drewN | apply Kd.R_drew)); exact (Kd.R_mono (Kd.R_far (p := ⟨gb243, 3, none⟩) (Kd.R_far (p := ⟨gb243, 2, none⟩) (Kd.R_far (p := ⟨gb243, 1, none⟩) (Kd.R_far (p := ⟨gb243, 0, none⟩) (Kd.R_types HO230.out BK243.out (by decide)) (fun _ hk => hk.2) (.slice Ao12 t236.length co12)) (fun _ hk => hk.2) (.float .f32 t239)) (fun _ hk => hk.2) (.float .f32 t240)) (fun _ hk => hk.2) (.float .f32 t241)) (fun _ h_ => h_.1))) hb); have n1_ := Aside0.mk (Kd.R_below (by (with_reducible repeat (first | apply Kd.R_alloc | apply Kd.R_drewN | apply Kd.R_drew)); exact (Kd.R_mono (Kd.R_far (p := ⟨gb243, 3, none⟩) (Kd.R_far (p := ⟨gb243, 2, none⟩) (Kd.R_far (p := ⟨gb243, 1, none⟩) (Kd.R_far (p := ⟨gb243, 0, none⟩) (Kd.R_types HO238.out BK243.out (by decide)) (fun _ hk => hk.2) (.slice Ao12 t236.length co12)) (fun _ hk => hk.2) (.float .f32 t239)) (fun _ hk => hk.2) (.float .f32 t240)) (fun _ hk => hk.2) (.float .f32 t241)) (fun _ h_ => h_.1))) hb); have n2_ := Aside0.mk (blk_below (g := gb235) (o := .cells #[.slice Ao8 t228.length co8, .float .f32 t231, .float .f32 t232, .float .f32 t233] 45 (0, 0)) (by (with_reducible repeat (first | refine blk_drewN ?_ _ | refine blk_drew ?_ | refine blk_alloc ?_ _)); refine blk_far ?_ NB235_243.out _; (with_reducible repeat (first | refine blk_drewN ?_ _ | refine blk_drew ?_ | refine blk_alloc ?_ _)); refine blk_far ?_ NB235_243.out _; (with_reducible repeat (first | refine blk_drewN ?_ _ | refine blk_drew ?_ | refine blk_alloc ?_ _)); refine blk_far ?_ NB235_243.out _; (with_reducible repeat (first | refine blk_drewN ?_ _ | refine blk_drew ?_ | refine blk_alloc ?_ _)); refine blk_far ?_ NB235_243.out _; (with_reducible repeat (first | refine blk_drewN ?_ _ | refine blk_drew ?_ | refine blk_alloc ?_ _)); exact BK235.out) hb); have n3_ := Aside0.mk (blk_below (g := gb243) (o := .cells #[.slice Ao12 t236.length co12, .float .f32 t239, .float .f32 t240, .float .f32 t241] 45 (0, 0)) (by (with_reducible repeat (first | refine blk_drewN ?_ _ | refine blk_drew ?_ | refine blk_alloc ?_ _)); refine blk_put (cs := #[.slice Ao12 t236.length co12, .float .f32 t239, .float .f32 t240, .float .f32 0]) ?_ 3 _ rfl; (with_reducible repeat (first | refine blk_drewN ?_ _ | refine blk_drew ?_ | refine blk_alloc ?_ _)); refine blk_put (cs := #[.slice Ao12 t236.length co12, .float .f32 t239, .float .f32 0, .float .f32 0]) ?_ 2 _ rfl; (with_reducible repeat (first | refine blk_drewN ?_ _ | refine blk_drew ?_ | refine blk_alloc ?_ _)); refine blk_put (cs := #[.slice Ao12 t236.length co12, .float .f32 0, .float .f32 0, .float .f32 0]) ?_ 1 _ rfl; (with_reducible repeat (first | refine blk_drewN ?_ _ | refine blk_drew ?_ | refine blk_alloc ?_ _)); refine blk_put (cs := #[.slice none 0 0, .float .f32 0, .float .f32 0, .float .f32 0]) ?_ 0 _ rfl; (with_reducible repeat (first | refine blk_drewN ?_ _ | refine blk_drew ?_ | refine blk_alloc ?_ _)); exact BK243.out) hb); have n4_ := Aside0.mk (below_step (by repeat (first | (with_reducible first | exact HB.out | apply below_alloc | apply pw_below_drewN | apply below_drew1 | refine below_set ?_ GE235.out | refine below_set ?_ GE243.out) | exact HB.out)) hb); clear HO230; clear HO238; clear BK235; clear BK243; clear HB; have HO230 := n0_; have HO238 := n1_; have BK235 := n2_; have BK243 := n3_; have HB := n4_; clear n0_ n1_ n2_ n3_ n4_; (try clear hb); (try clear hb2); (try clear hk); (try clear hi)))
    go_meet
    case rel => exact ⟨_, ((t242 != t234)), (by first | rfl | (simp; done) | (simp [*]; done)), H', ⟨by first | omega | exact Nat.le_refl _⟩, ⟨by (with_reducible repeat (first | apply Kd.R_alloc | apply Kd.R_drewN | apply Kd.R_drew)); exact Kd.R_mono HO230.out (fun _ hk => hk.2)⟩, ⟨by (with_reducible repeat (first | apply Kd.R_alloc | apply Kd.R_drewN | apply Kd.R_drew)); exact Kd.R_mono HO238.out (fun _ hk => hk.2)⟩, ⟨by (with_reducible repeat (first | refine blk_drewN ?_ _ | refine blk_drew ?_ | refine blk_alloc ?_ _)); exact BK235.out⟩, ⟨by (with_reducible repeat (first | refine blk_drewN ?_ _ | refine blk_drew ?_ | refine blk_alloc ?_ _)); exact BK243.out⟩, ⟨by repeat (first | (with_reducible first | exact HB.out | apply below_alloc | apply pw_below_drewN | apply below_drew1 | refine below_set ?_ GE235.out | refine below_set ?_ GE243.out) | exact HB.out)⟩⟩
   ·replace c16 := Bool.eq_false_iff.mpr c16
    subst c16
    have H1 : (laws_FnExactReadTube.j0 k a0 t234 true t228 t231 t232 t233 t236 t239 t240 t241) = some r := by rw [if_neg (show ¬ (false = true) by decide)] at H; exact H
    clear H
    have H := H1
    clear H1
    have H' := Aside0.mk H
    clear H
    have hnb21 := NB243_235.out
    have hnc21 := NB235_243.out
    have hcz22_0 : w11.cell? ⟨gb243, 0, none⟩ = some (.slice none 0 0) := (blk_cell BK243.out 0).trans rfl
    have hcz22_1 : w11.cell? ⟨gb243, 1, none⟩ = some (.float .f32 0) := (blk_cell BK243.out 1).trans rfl
    have hcz22_2 : w11.cell? ⟨gb243, 2, none⟩ = some (.float .f32 0) := (blk_cell BK243.out 2).trans rfl
    have hcz22_3 : w11.cell? ⟨gb243, 3, none⟩ = some (.float .f32 0) := (blk_cell BK243.out 3).trans rfl
    have hfz22_0 := blk_frozen BK243.out 0
    have hfz22_1 := blk_frozen BK243.out 1
    have hfz22_2 := blk_frozen BK243.out 2
    have hfz22_3 := blk_frozen BK243.out 3
    have hcz23_0 : w11.cell? ⟨gb235, 0, none⟩ = some (.slice Ao8 t228.length co8) := (blk_cell BK235.out 0).trans rfl
    have hcz23_1 : w11.cell? ⟨gb235, 1, none⟩ = some (.float .f32 t231) := (blk_cell BK235.out 1).trans rfl
    have hcz23_2 : w11.cell? ⟨gb235, 2, none⟩ = some (.float .f32 t232) := (blk_cell BK235.out 2).trans rfl
    have hcz23_3 : w11.cell? ⟨gb235, 3, none⟩ = some (.float .f32 t233) := (blk_cell BK235.out 3).trans rfl
    have hfz23_0 := blk_frozen BK235.out 0
    have hfz23_1 := blk_frozen BK235.out 1
    have hfz23_2 := blk_frozen BK235.out 2
    have hfz23_3 := blk_frozen BK235.out 3
    go_wp2_with (first | ((with_reducible refine gate_callee (f := 23) rfl ?_); refine goesL_ (some 26) rfl rfl Tryd.func23 (by kernel_rfl) rfl #[.agg #[.slice Ao12 t236.length co12, .float .f32 t239, .float .f32 t240, .float .f32 t241], .agg #[.slice Ao8 t228.length co8, .float .f32 t231, .float .f32 t232, .float .f32 t233]] rfl (by (try simp only [List.map_toArray, List.map_cons, List.map_nil]); first | done | rfl | (simp only [List.length_drop, List.length_take]; rfl)) ?_; (with_reducible refine (laws_eqTube.calls _ _ t236 t239 t240 t241 _ _ t228 t231 t232 t233 false _ ?side1 ?side2 ?side3 ?side4 A15.out).mono ?_); (case side1 => refine (Kd.R_reads' (e := 30) (base := w.heap.size) (ok := fun k_ => (True ∧ some k_ ≠ (.slice Ao8 t228.length co8 : Value).ownBlock)) (n := t236.length) (c := co12) ?_).2.2; exact (by (with_reducible repeat (first | apply Kd.R_alloc | apply Kd.R_drewN | apply Kd.R_drew)); exact (Kd.R_mono (Kd.R_far (p := ⟨gb243, 3, none⟩) (Kd.R_far (p := ⟨gb243, 2, none⟩) (Kd.R_far (p := ⟨gb243, 1, none⟩) (Kd.R_far (p := ⟨gb243, 0, none⟩) (Kd.R_types HO238.out BK243.out (by decide)) (fun _ hk => hk.2) (.slice Ao12 t236.length co12)) (fun _ hk => hk.2) (.float .f32 t239)) (fun _ hk => hk.2) (.float .f32 t240)) (fun _ hk => hk.2) (.float .f32 t241)) (fun _ h_ => h_.1)))); (case side2 => exact (Kd.R_reads' HO238.out).2.1); (case side3 => refine (Kd.R_reads' (e := 30) (base := w.heap.size) (ok := fun k_ => (True ∧ some k_ ≠ (.slice Ao12 t236.length co12 : Value).ownBlock)) (n := t228.length) (c := co8) ?_).2.2; exact (by (with_reducible repeat (first | apply Kd.R_alloc | apply Kd.R_drewN | apply Kd.R_drew)); exact (Kd.R_mono (Kd.R_far (p := ⟨gb243, 3, none⟩) (Kd.R_far (p := ⟨gb243, 2, none⟩) (Kd.R_far (p := ⟨gb243, 1, none⟩) (Kd.R_far (p := ⟨gb243, 0, none⟩) (Kd.R_types HO230.out BK243.out (by decide)) (fun _ hk => hk.2) (.slice Ao12 t236.length co12)) (fun _ hk => hk.2) (.float .f32 t239)) (fun _ hk => hk.2) (.float .f32 t240)) (fun _ hk => hk.2) (.float .f32 t241)) (fun _ h_ => h_.1)))); (case side4 => exact (Kd.R_reads' HO230.out).2.1); rintro e w24 ⟨rfl, hb⟩; refine ⟨_, rfl, ?_⟩; have n0_ := Aside0.mk (Kd.R_below (by (with_reducible repeat (first | apply Kd.R_alloc | apply Kd.R_drewN | apply Kd.R_drew)); exact (Kd.R_mono (Kd.R_far (p := ⟨gb243, 3, none⟩) (Kd.R_far (p := ⟨gb243, 2, none⟩) (Kd.R_far (p := ⟨gb243, 1, none⟩) (Kd.R_far (p := ⟨gb243, 0, none⟩) (Kd.R_types HO230.out BK243.out (by decide)) (fun _ hk => hk.2) (.slice Ao12 t236.length co12)) (fun _ hk => hk.2) (.float .f32 t239)) (fun _ hk => hk.2) (.float .f32 t240)) (fun _ hk => hk.2) (.float .f32 t241)) (fun _ h_ => h_.1))) hb); have n1_ := Aside0.mk (Kd.R_below (by (with_reducible repeat (first | apply Kd.R_alloc | apply Kd.R_drewN | apply Kd.R_drew)); exact (Kd.R_mono (Kd.R_far (p := ⟨gb243, 3, none⟩) (Kd.R_far (p := ⟨gb243, 2, none⟩) (Kd.R_far (p := ⟨gb243, 1, none⟩) (Kd.R_far (p := ⟨gb243, 0, none⟩) (Kd.R_types HO238.out BK243.out (by decide)) (fun _ hk => hk.2) (.slice Ao12 t236.length co12)) (fun _ hk => hk.2) (.float .f32 t239)) (fun _ hk => hk.2) (.float .f32 t240)) (fun _ hk => hk.2) (.float .f32 t241)) (fun _ h_ => h_.1))) hb); have n2_ := Aside0.mk (blk_below (g := gb235) (o := .cells #[.slice Ao8 t228.length co8, .float .f32 t231, .float .f32 t232, .float .f32 t233] 45 (0, 0)) (by (with_reducible repeat (first | refine blk_drewN ?_ _ | refine blk_drew ?_ | refine blk_alloc ?_ _)); refine blk_far ?_ NB235_243.out _; (with_reducible repeat (first | refine blk_drewN ?_ _ | refine blk_drew ?_ | refine blk_alloc ?_ _)); refine blk_far ?_ NB235_243.out _; (with_reducible repeat (first | refine blk_drewN ?_ _ | refine blk_drew ?_ | refine blk_alloc ?_ _)); refine blk_far ?_ NB235_243.out _; (with_reducible repeat (first | refine blk_drewN ?_ _ | refine blk_drew ?_ | refine blk_alloc ?_ _)); refine blk_far ?_ NB235_243.out _; (with_reducible repeat (first | refine blk_drewN ?_ _ | refine blk_drew ?_ | refine blk_alloc ?_ _)); exact BK235.out) hb); have n3_ := Aside0.mk (blk_below (g := gb243) (o := .cells #[.slice Ao12 t236.length co12, .float .f32 t239, .float .f32 t240, .float .f32 t241] 45 (0, 0)) (by (with_reducible repeat (first | refine blk_drewN ?_ _ | refine blk_drew ?_ | refine blk_alloc ?_ _)); refine blk_put (cs := #[.slice Ao12 t236.length co12, .float .f32 t239, .float .f32 t240, .float .f32 0]) ?_ 3 _ rfl; (with_reducible repeat (first | refine blk_drewN ?_ _ | refine blk_drew ?_ | refine blk_alloc ?_ _)); refine blk_put (cs := #[.slice Ao12 t236.length co12, .float .f32 t239, .float .f32 0, .float .f32 0]) ?_ 2 _ rfl; (with_reducible repeat (first | refine blk_drewN ?_ _ | refine blk_drew ?_ | refine blk_alloc ?_ _)); refine blk_put (cs := #[.slice Ao12 t236.length co12, .float .f32 0, .float .f32 0, .float .f32 0]) ?_ 1 _ rfl; (with_reducible repeat (first | refine blk_drewN ?_ _ | refine blk_drew ?_ | refine blk_alloc ?_ _)); refine blk_put (cs := #[.slice none 0 0, .float .f32 0, .float .f32 0, .float .f32 0]) ?_ 0 _ rfl; (with_reducible repeat (first | refine blk_drewN ?_ _ | refine blk_drew ?_ | refine blk_alloc ?_ _)); exact BK243.out) hb); have n4_ := Aside0.mk (below_step (by repeat (first | (with_reducible first | exact HB.out | apply below_alloc | apply pw_below_drewN | apply below_drew1 | refine below_set ?_ GE235.out | refine below_set ?_ GE243.out) | exact HB.out)) hb); clear HO230; clear HO238; clear BK235; clear BK243; clear HB; have HO230 := n0_; have HO238 := n1_; have BK235 := n2_; have BK243 := n3_; have HB := n4_; clear n0_ n1_ n2_ n3_ n4_; (try clear hb); (try clear hb2); (try clear hk); (try clear hi)))
    go_meet
    case rel => exact ⟨_, (true), (by first | rfl | (simp; done) | (simp [*]; done)), H', ⟨by first | omega | exact Nat.le_refl _⟩, ⟨by (with_reducible repeat (first | apply Kd.R_alloc | apply Kd.R_drewN | apply Kd.R_drew)); exact Kd.R_mono HO230.out (fun _ hk => hk.2)⟩, ⟨by (with_reducible repeat (first | apply Kd.R_alloc | apply Kd.R_drewN | apply Kd.R_drew)); exact Kd.R_mono HO238.out (fun _ hk => hk.2)⟩, ⟨by (with_reducible repeat (first | refine blk_drewN ?_ _ | refine blk_drew ?_ | refine blk_alloc ?_ _)); exact BK235.out⟩, ⟨by (with_reducible repeat (first | refine blk_drewN ?_ _ | refine blk_drew ?_ | refine blk_alloc ?_ _)); exact BK243.out⟩, ⟨by repeat (first | (with_reducible first | exact HB.out | apply below_alloc | apply pw_below_drewN | apply below_drew1 | refine below_set ?_ GE235.out | refine below_set ?_ GE243.out) | exact HB.out)⟩⟩
  case rest =>
   clear HC5
   try clear c1
   try clear c2
   try clear c2b0
   try clear c2b1
   try clear p2
   try clear c6
   try clear c13
   try clear c16
   try clear c17
   try clear c21
   try clear c22
   try clear c23
   try clear hcz14_0
   try clear hcz14_1
   try clear hcz14_2
   try clear hcz14_3
   try clear hcz18_0
   try clear hcz18_1
   try clear hcz18_2
   try clear hcz18_3
   try clear hcz19_0
   try clear hcz19_1
   try clear hcz19_2
   try clear hcz19_3
   try clear hcz22_0
   try clear hcz22_1
   try clear hcz22_2
   try clear hcz22_3
   try clear hcz23_0
   try clear hcz23_1
   try clear hcz23_2
   try clear hcz23_3
   try clear hcz9_0
   try clear hcz9_1
   try clear hcz9_2
   try clear hcz9_3
   try clear hfz14_0
   try clear hfz14_1
   try clear hfz14_2
   try clear hfz14_3
   try clear hfz18_0
   try clear hfz18_1
   try clear hfz18_2
   try clear hfz18_3
   try clear hfz19_0
   try clear hfz19_1
   try clear hfz19_2
   try clear hfz19_3
   try clear hfz22_0
   try clear hfz22_1
   try clear hfz22_2
   try clear hfz22_3
   try clear hfz23_0
   try clear hfz23_1
   try clear hfz23_2
   try clear hfz23_3
   try clear hfz9_0
   try clear hfz9_1
   try clear hfz9_2
   try clear hfz9_3
   obtain ⟨kq, x32_4, rfl, HA, HJ4, HO_236000, HO_244000, BK235, BK243, HB⟩ := hcut
   cases kq with
   | zero => exact absurd HA.out (by simp [laws_FnExactReadTube.j0])
   | succ kj4 =>
    have H := HA.out
    clear HA
    simp only [laws_FnExactReadTube.j0] at H
    by_cases c25 : x32_4 = true
    ·subst c25
     have H1 : (some false) = some r := by rw [if_pos rfl] at H; exact H
     clear H
     have H := H1
     clear H1
     obtain rfl := Option.some.inj H
     go_wp2
     go_ret
     exact ⟨by first | rfl | (simp [errW_none, errW_some] <;> rfl) | (simp [*, errW_none, errW_some] <;> rfl), by repeat (first | (with_reducible first | exact HB.out | apply below_alloc | apply pw_below_drewN | apply below_drew1 | refine below_set ?_ GE235.out | refine below_set ?_ GE243.out) | exact HB.out)⟩
    ·replace c25 := Bool.eq_false_iff.mpr c25
     subst c25
     have H1 : ((laws_markTube.f kj4 t236 t239 t240 t241 1).bind fun bt245 => ((laws_heldTube.f kj4 bt245.2 t239 t240 t241 1).bind fun t247 => (if t247 < 0 then (some false) else (if t247 = bt245.1 then ((impl_ReadTube.f kj4 a0).bind fun bt248 => ((laws_eqTube.f bt248.1 bt248.2.1 bt248.2.2.1 bt248.2.2.2.1 t228 t231 t232 t233).bind fun t256 => (if t256 = true then (laws_FnExactReadTube.j1 kj4 bt245.1 (bt248.2.2.2.2 != t234) bt245.2 t239 t240 t241) else (laws_FnExactReadTube.j1 kj4 bt245.1 true bt245.2 t239 t240 t241)))) else (some false))))) = some r := by rw [if_neg (show ¬ (false = true) by decide)] at H; exact H
     clear H
     have H := H1
     clear H1
     replace H := Option.bind_eq_some_iff.mp H
     obtain ⟨⟨t245, t246⟩, A260, H⟩ := H
     replace H : ((laws_heldTube.f kj4 t246 t239 t240 t241 1).bind fun t247 => (if t247 < 0 then (some false) else (if t247 = t245 then ((impl_ReadTube.f kj4 a0).bind fun bt248 => ((laws_eqTube.f bt248.1 bt248.2.1 bt248.2.2.1 bt248.2.2.2.1 t228 t231 t232 t233).bind fun t256 => (if t256 = true then (laws_FnExactReadTube.j1 kj4 t245 (bt248.2.2.2.2 != t234) t246 t239 t240 t241) else (laws_FnExactReadTube.j1 kj4 t245 true t246 t239 t240 t241)))) else (some false)))) = some r := H
     have A26 := Aside0.mk A260
     clear A260
     replace H := Option.bind_eq_some_iff.mp H
     obtain ⟨t247, A270, H⟩ := H
     replace H : (if t247 < 0 then (some false) else (if t247 = t245 then ((impl_ReadTube.f kj4 a0).bind fun bt248 => ((laws_eqTube.f bt248.1 bt248.2.1 bt248.2.2.1 bt248.2.2.2.1 t228 t231 t232 t233).bind fun t256 => (if t256 = true then (laws_FnExactReadTube.j1 kj4 t245 (bt248.2.2.2.2 != t234) t246 t239 t240 t241) else (laws_FnExactReadTube.j1 kj4 t245 true t246 t239 t240 t241)))) else (some false))) = some r := H
     have A27 := Aside0.mk A270
     clear A270
     by_cases c28 : t247 < 0
     ·rw [if_pos c28] at H
      have c28b0 : decide (t247 < 0) = true := decide_eq_true c28
      clear c28
      obtain rfl := Option.some.inj H
      have hnb29 := NB243_235.out
      have hnc29 := NB235_243.out
      have hcz30_0 : wc.cell? ⟨gb243, 0, none⟩ = some (.slice Ao12 t236.length co12) := (blk_cell BK243.out 0).trans rfl
      have hcz30_1 : wc.cell? ⟨gb243, 1, none⟩ = some (.float .f32 t239) := (blk_cell BK243.out 1).trans rfl
      have hcz30_2 : wc.cell? ⟨gb243, 2, none⟩ = some (.float .f32 t240) := (blk_cell BK243.out 2).trans rfl
      have hcz30_3 : wc.cell? ⟨gb243, 3, none⟩ = some (.float .f32 t241) := (blk_cell BK243.out 3).trans rfl
      have hfz30_0 := blk_frozen BK243.out 0
      have hfz30_1 := blk_frozen BK243.out 1
      have hfz30_2 := blk_frozen BK243.out 2
      have hfz30_3 := blk_frozen BK243.out 3
      go_wp2_with (first | ((with_reducible refine gate_callee (f := 24) rfl ?_); refine goesL_ (some 35) rfl rfl Tryd.func24 (by kernel_rfl) rfl #[.agg #[.slice Ao12 t236.length co12, .float .f32 t239, .float .f32 t240, .float .f32 t241], .int .i64 1] rfl (by (try simp only [List.map_toArray, List.map_cons, List.map_nil]); first | done | rfl | (simp only [List.length_drop, List.length_take]; rfl)) ?_; (with_reducible refine (laws_markTube.calls kj4 (fun k_ => some k_ = (.slice Ao12 t236.length co12 : Value).ownBlock) (.slice Ao12 t236.length co12) t236 t239 t240 t241 1 t245 t246 w _ ?side1 ?side2 A26.out).mono ?_); (case side1 => repeat (first | (with_reducible first | exact HB.out | apply below_alloc | apply pw_below_drewN | apply below_drew1 | refine below_set ?_ GE235.out | refine below_set ?_ GE243.out) | exact HB.out)); (case side2 => exact Kd.R_tight rfl HO_244000.out); rintro e w31 ⟨rfl, hy0, hb, hkp⟩; refine ⟨_, rfl, ?_⟩; have n0_ := Aside0.mk (Kd.R_mono (ok' := fun k_ => some k_ ≠ (.slice Ao12 t236.length co12 : Value).ownBlock) (Kd.R_keptB (HO_236000.out) hkp (fun k_ hk_ hs_ => (hk_) hs_)) (fun k_ hk_ => hk_.1)); have n1_ := Aside0.mk (Kd.R_reok rfl hy0 (fun k_ e_ => HO_244000.out.1 k_ e_)); have n2_ := Aside0.mk (blk_kept (by (with_reducible repeat (first | refine blk_drewN ?_ _ | refine blk_drew ?_ | refine blk_alloc ?_ _)); exact BK235.out) hkp (fun hs_ => (fun e_ => (Kd.R_ne HO_244000.out BK235.out (by decide)) e_) hs_)); have n3_ := Aside0.mk (blk_kept (by (with_reducible repeat (first | refine blk_drewN ?_ _ | refine blk_drew ?_ | refine blk_alloc ?_ _)); exact BK243.out) hkp (fun hs_ => (fun e_ => (Kd.R_ne HO_244000.out BK243.out (by decide)) e_) hs_)); have n4_ := Aside0.mk (hb); clear HO_236000; clear HO_244000; clear BK235; clear BK243; clear HB; have HO_236000 := n0_; have HO_244000 := n1_; have BK235 := n2_; have BK243 := n3_; have HB := n4_; clear n0_ n1_ n2_ n3_ n4_; (try clear hb); (try clear hkp); (try clear hy0); have hcz32_0 : w31.cell? ⟨gb243, 0, none⟩ = some (.slice Ao12 t236.length co12) := (blk_cell BK243.out 0).trans rfl; have hcz32_1 : w31.cell? ⟨gb243, 1, none⟩ = some (.float .f32 t239) := (blk_cell BK243.out 1).trans rfl; have hcz32_2 : w31.cell? ⟨gb243, 2, none⟩ = some (.float .f32 t240) := (blk_cell BK243.out 2).trans rfl; have hcz32_3 : w31.cell? ⟨gb243, 3, none⟩ = some (.float .f32 t241) := (blk_cell BK243.out 3).trans rfl; have hfz32_0 := blk_frozen BK243.out 0; have hfz32_1 := blk_frozen BK243.out 1; have hfz32_2 := blk_frozen BK243.out 2; have hfz32_3 := blk_frozen BK243.out 3) | ((with_reducible refine gate_callee (f := 25) rfl ?_); refine goesL_ (some 38) rfl rfl Tryd.func25 (by kernel_rfl) rfl #[.agg #[.slice Ao12 t246.length co12, .float .f32 t239, .float .f32 t240, .float .f32 t241], .int .i64 1] rfl (by (try simp only [List.map_toArray, List.map_cons, List.map_nil]); first | done | (rw [show t246.length = t236.length from (Kd.R_reads' HO_244000.out).1.symm] <;> rfl) | rfl | (simp only [List.length_drop, List.length_take]; rfl)) ?_; (with_reducible refine (laws_heldTube.calls kj4 _ _ t246 t239 t240 t241 1 t247 _ ?side1 ?side2 A27.out).mono ?_); (case side1 => repeat (first | exact (Kd.R_reads' HO_244000.out).2.2 | (with_reducible refine Kd.C_alloc ?_ _) | (with_reducible refine Kd.C_drewN ?_ _) | (with_reducible refine Kd.C_drew ?_))); (case side2 => rw [show t246.length = t236.length from (Kd.R_reads' HO_244000.out).1.symm]; exact (Kd.R_reads' HO_244000.out).2.1); rintro e w33 ⟨rfl, hb⟩; refine ⟨_, rfl, ?_⟩; have n0_ := Aside0.mk (Kd.R_below (by (with_reducible repeat (first | apply Kd.R_alloc | apply Kd.R_drewN | apply Kd.R_drew)); exact HO_236000.out) hb); have n1_ := Aside0.mk (Kd.R_below (by (with_reducible repeat (first | apply Kd.R_alloc | apply Kd.R_drewN | apply Kd.R_drew)); exact HO_244000.out) hb); have n2_ := Aside0.mk (blk_below (g := gb235) (o := .cells #[.slice Ao8 t228.length co8, .float .f32 t231, .float .f32 t232, .float .f32 t233] 45 (0, 0)) (by (with_reducible repeat (first | refine blk_drewN ?_ _ | refine blk_drew ?_ | refine blk_alloc ?_ _)); exact BK235.out) hb); have n3_ := Aside0.mk (blk_below (g := gb243) (o := .cells #[.slice Ao12 t236.length co12, .float .f32 t239, .float .f32 t240, .float .f32 t241] 45 (0, 0)) (by (with_reducible repeat (first | refine blk_drewN ?_ _ | refine blk_drew ?_ | refine blk_alloc ?_ _)); exact BK243.out) hb); have n4_ := Aside0.mk (below_step (by repeat (first | (with_reducible first | exact HB.out | apply below_alloc | apply pw_below_drewN | apply below_drew1 | refine below_set ?_ GE235.out | refine below_set ?_ GE243.out) | exact HB.out)) hb); clear HO_236000; clear HO_244000; clear BK235; clear BK243; clear HB; have HO_236000 := n0_; have HO_244000 := n1_; have BK235 := n2_; have BK243 := n3_; have HB := n4_; clear n0_ n1_ n2_ n3_ n4_; (try clear hb); (try clear hb2); (try clear hk); (try clear hi)))
      go_ret
      exact ⟨by first | rfl | (simp [errW_none, errW_some] <;> rfl) | (simp [*, errW_none, errW_some] <;> rfl), by repeat (first | (with_reducible first | exact HB.out | apply below_alloc | apply pw_below_drewN | apply below_drew1 | refine below_set ?_ GE235.out | refine below_set ?_ GE243.out) | exact HB.out)⟩
     ·rw [if_neg c28] at H
      have c28b0 : decide (t247 < 0) = false := decide_eq_false c28
      clear c28
      by_cases c34 : t247 = t245
      ·rw [if_pos c34] at H
       have c34b0 : (t247 == t245) = true := beq_iff_eq.mpr c34
       have c34b1 : (t247 != t245) = false := bne_eq_false_iff_eq.mpr c34
       clear c34
       replace H := Option.bind_eq_some_iff.mp H
       obtain ⟨⟨t248, t251, t252, t253, t254⟩, A350, H⟩ := H
       replace H : ((laws_eqTube.f t248 t251 t252 t253 t228 t231 t232 t233).bind fun t256 => (if t256 = true then (laws_FnExactReadTube.j1 kj4 t245 (t254 != t234) t246 t239 t240 t241) else (laws_FnExactReadTube.j1 kj4 t245 true t246 t239 t240 t241))) = some r := H
       have A35 := Aside0.mk A350
       clear A350
       have HC36 := Aside0.mk H
       clear H
       have hnb37 := NB243_235.out
       have hnc37 := NB235_243.out
       have hcz38_0 : wc.cell? ⟨gb243, 0, none⟩ = some (.slice Ao12 t236.length co12) := (blk_cell BK243.out 0).trans rfl
       have hcz38_1 : wc.cell? ⟨gb243, 1, none⟩ = some (.float .f32 t239) := (blk_cell BK243.out 1).trans rfl
       have hcz38_2 : wc.cell? ⟨gb243, 2, none⟩ = some (.float .f32 t240) := (blk_cell BK243.out 2).trans rfl
       have hcz38_3 : wc.cell? ⟨gb243, 3, none⟩ = some (.float .f32 t241) := (blk_cell BK243.out 3).trans rfl
       have hfz38_0 := blk_frozen BK243.out 0
       have hfz38_1 := blk_frozen BK243.out 1
       have hfz38_2 := blk_frozen BK243.out 2
       have hfz38_3 := blk_frozen BK243.out 3
       go_upto_region 16 with (first | ((with_reducible refine gate_callee (f := 24) rfl ?_); refine goesL_ (some 35) rfl rfl Tryd.func24 (by kernel_rfl) rfl #[.agg #[.slice Ao12 t236.length co12, .float .f32 t239, .float .f32 t240, .float .f32 t241], .int .i64 1] rfl (by (try simp only [List.map_toArray, List.map_cons, List.map_nil]); first | done | rfl | (simp only [List.length_drop, List.length_take]; rfl)) ?_; (with_reducible refine (laws_markTube.calls kj4 (fun k_ => some k_ = (.slice Ao12 t236.length co12 : Value).ownBlock) (.slice Ao12 t236.length co12) t236 t239 t240 t241 1 t245 t246 w _ ?side1 ?side2 A26.out).mono ?_); (case side1 => repeat (first | (with_reducible first | exact HB.out | apply below_alloc | apply pw_below_drewN | apply below_drew1 | refine below_set ?_ GE235.out | refine below_set ?_ GE243.out) | exact HB.out)); (case side2 => exact Kd.R_tight rfl HO_244000.out); rintro e w39 ⟨rfl, hy0, hb, hkp⟩; refine ⟨_, rfl, ?_⟩; have n0_ := Aside0.mk (Kd.R_mono (ok' := fun k_ => some k_ ≠ (.slice Ao12 t236.length co12 : Value).ownBlock) (Kd.R_keptB (HO_236000.out) hkp (fun k_ hk_ hs_ => (hk_) hs_)) (fun k_ hk_ => hk_.1)); have n1_ := Aside0.mk (Kd.R_reok rfl hy0 (fun k_ e_ => HO_244000.out.1 k_ e_)); have n2_ := Aside0.mk (blk_kept (by (with_reducible repeat (first | refine blk_drewN ?_ _ | refine blk_drew ?_ | refine blk_alloc ?_ _)); exact BK235.out) hkp (fun hs_ => (fun e_ => (Kd.R_ne HO_244000.out BK235.out (by decide)) e_) hs_)); have n3_ := Aside0.mk (blk_kept (by (with_reducible repeat (first | refine blk_drewN ?_ _ | refine blk_drew ?_ | refine blk_alloc ?_ _)); exact BK243.out) hkp (fun hs_ => (fun e_ => (Kd.R_ne HO_244000.out BK243.out (by decide)) e_) hs_)); have n4_ := Aside0.mk (hb); clear HO_236000; clear HO_244000; clear BK235; clear BK243; clear HB; have HO_236000 := n0_; have HO_244000 := n1_; have BK235 := n2_; have BK243 := n3_; have HB := n4_; clear n0_ n1_ n2_ n3_ n4_; (try clear hb); (try clear hkp); (try clear hy0); have hcz40_0 : w39.cell? ⟨gb243, 0, none⟩ = some (.slice Ao12 t236.length co12) := (blk_cell BK243.out 0).trans rfl; have hcz40_1 : w39.cell? ⟨gb243, 1, none⟩ = some (.float .f32 t239) := (blk_cell BK243.out 1).trans rfl; have hcz40_2 : w39.cell? ⟨gb243, 2, none⟩ = some (.float .f32 t240) := (blk_cell BK243.out 2).trans rfl; have hcz40_3 : w39.cell? ⟨gb243, 3, none⟩ = some (.float .f32 t241) := (blk_cell BK243.out 3).trans rfl; have hfz40_0 := blk_frozen BK243.out 0; have hfz40_1 := blk_frozen BK243.out 1; have hfz40_2 := blk_frozen BK243.out 2; have hfz40_3 := blk_frozen BK243.out 3) | ((with_reducible refine gate_callee (f := 25) rfl ?_); refine goesL_ (some 38) rfl rfl Tryd.func25 (by kernel_rfl) rfl #[.agg #[.slice Ao12 t246.length co12, .float .f32 t239, .float .f32 t240, .float .f32 t241], .int .i64 1] rfl (by (try simp only [List.map_toArray, List.map_cons, List.map_nil]); first | done | (rw [show t246.length = t236.length from (Kd.R_reads' HO_244000.out).1.symm] <;> rfl) | rfl | (simp only [List.length_drop, List.length_take]; rfl)) ?_; (with_reducible refine (laws_heldTube.calls kj4 _ _ t246 t239 t240 t241 1 t247 _ ?side1 ?side2 A27.out).mono ?_); (case side1 => repeat (first | exact (Kd.R_reads' HO_244000.out).2.2 | (with_reducible refine Kd.C_alloc ?_ _) | (with_reducible refine Kd.C_drewN ?_ _) | (with_reducible refine Kd.C_drew ?_))); (case side2 => rw [show t246.length = t236.length from (Kd.R_reads' HO_244000.out).1.symm]; exact (Kd.R_reads' HO_244000.out).2.1); rintro e w41 ⟨rfl, hb⟩; refine ⟨_, rfl, ?_⟩; have n0_ := Aside0.mk (Kd.R_below (by (with_reducible repeat (first | apply Kd.R_alloc | apply Kd.R_drewN | apply Kd.R_drew)); exact HO_236000.out) hb); have n1_ := Aside0.mk (Kd.R_below (by (with_reducible repeat (first | apply Kd.R_alloc | apply Kd.R_drewN | apply Kd.R_drew)); exact HO_244000.out) hb); have n2_ := Aside0.mk (blk_below (g := gb235) (o := .cells #[.slice Ao8 t228.length co8, .float .f32 t231, .float .f32 t232, .float .f32 t233] 45 (0, 0)) (by (with_reducible repeat (first | refine blk_drewN ?_ _ | refine blk_drew ?_ | refine blk_alloc ?_ _)); exact BK235.out) hb); have n3_ := Aside0.mk (blk_below (g := gb243) (o := .cells #[.slice Ao12 t236.length co12, .float .f32 t239, .float .f32 t240, .float .f32 t241] 45 (0, 0)) (by (with_reducible repeat (first | refine blk_drewN ?_ _ | refine blk_drew ?_ | refine blk_alloc ?_ _)); exact BK243.out) hb); have n4_ := Aside0.mk (below_step (by repeat (first | (with_reducible first | exact HB.out | apply below_alloc | apply pw_below_drewN | apply below_drew1 | refine below_set ?_ GE235.out | refine below_set ?_ GE243.out) | exact HB.out)) hb); clear HO_236000; clear HO_244000; clear BK235; clear BK243; clear HB; have HO_236000 := n0_; have HO_244000 := n1_; have BK235 := n2_; have BK243 := n3_; have HB := n4_; clear n0_ n1_ n2_ n3_ n4_; (try clear hb); (try clear hb2); (try clear hk); (try clear hi)) | ((with_reducible refine gate_callee (f := 22) rfl ?_); refine goesL_ (some 46) rfl rfl Tryd.func22 (by kernel_rfl) rfl #[.string a0] rfl (by (try simp only [List.map_toArray, List.map_cons, List.map_nil]); first | done | rfl | (simp only [List.length_drop, List.length_take]; rfl)) ?_; (with_reducible refine (impl_ReadTube.calls kj4 a0 t248 t251 t252 t253 t254 _ ?side1 A35.out).mono ?_); (case side1 => repeat (first | exact (GLt_below HGT_.out HB.out) | (with_reducible refine GLt_alloc ?_ _) | (with_reducible refine GLt_drewN ?_ _) | (with_reducible refine GLt_drew ?_))); rintro e w42 ⟨v249, rfl, ho0, hb⟩; refine ⟨_, rfl, ?_⟩; have n0_ := Aside0.mk (Kd.R_elder' (by (with_reducible repeat (first | apply Kd.R_alloc | apply Kd.R_drewN | apply Kd.R_drew)); exact HO_236000.out) (Kd.R_base ho0) hb); have n1_ := Aside0.mk (Kd.R_elder' (by (with_reducible repeat (first | apply Kd.R_alloc | apply Kd.R_drewN | apply Kd.R_drew)); exact HO_244000.out) (Kd.R_base ho0) hb); have n2_ := Aside0.mk (Kd.R_lower (Kd.R_new' (Kd.R_new' ho0 (Kd.R_lt (by (with_reducible repeat (first | apply Kd.R_alloc | apply Kd.R_drewN | apply Kd.R_drew)); exact HO_236000.out))) (Kd.R_lt (by (with_reducible repeat (first | apply Kd.R_alloc | apply Kd.R_drewN | apply Kd.R_drew)); exact HO_244000.out))) (below_size (by repeat (first | (with_reducible first | exact HB.out | apply below_alloc | apply pw_below_drewN | apply below_drew1 | refine below_set ?_ GE235.out | refine below_set ?_ GE243.out) | exact HB.out)))); have n3_ := Aside0.mk (blk_below (g := gb235) (o := .cells #[.slice Ao8 t228.length co8, .float .f32 t231, .float .f32 t232, .float .f32 t233] 45 (0, 0)) (by (with_reducible repeat (first | refine blk_drewN ?_ _ | refine blk_drew ?_ | refine blk_alloc ?_ _)); exact BK235.out) hb); have n4_ := Aside0.mk (blk_below (g := gb243) (o := .cells #[.slice Ao12 t236.length co12, .float .f32 t239, .float .f32 t240, .float .f32 t241] 45 (0, 0)) (by (with_reducible repeat (first | refine blk_drewN ?_ _ | refine blk_drew ?_ | refine blk_alloc ?_ _)); exact BK243.out) hb); have n5_ := Aside0.mk (below_step (by repeat (first | (with_reducible first | exact HB.out | apply below_alloc | apply pw_below_drewN | apply below_drew1 | refine below_set ?_ GE235.out | refine below_set ?_ GE243.out) | exact HB.out)) hb); clear HO_236000; clear HO_244000; clear BK235; clear BK243; clear HB; have HO_236000 := n0_; have HO_244000 := n1_; have HO250 := n2_; have BK235 := n3_; have BK243 := n4_; have HB := n5_; clear n0_ n1_ n2_ n3_ n4_ n5_; (try clear hb); (try clear hb2); (try clear hk); (try clear hi); (try clear ho0)) | ((with_reducible refine gate_dst (N := 9) rfl ?_); refine box_event ?hg (N := 9) ?hd (cs := #[.slice none 0 0, .float .f32 0, .float .f32 0, .float .f32 0]) (t := 45) ?hr ?_; (case hd => rfl); (case hg => rfl); (case hr => first | (go_simp; done) | (go_simp; rfl) | (simp (disch := omega) only [w64_id]; go_simp; done) | (go_simp; simp (disch := omega) only [w64_id]; done)); intro gb255 hg w43 hbox hb; have n0_ := Aside0.mk (Kd.R_below (by (with_reducible repeat (first | apply Kd.R_alloc | apply Kd.R_drewN | apply Kd.R_drew)); exact HO_236000.out) hb); have n1_ := Aside0.mk (Kd.R_below (by (with_reducible repeat (first | apply Kd.R_alloc | apply Kd.R_drewN | apply Kd.R_drew)); exact HO_244000.out) hb); have n2_ := Aside0.mk (Kd.R_below (by (with_reducible repeat (first | apply Kd.R_alloc | apply Kd.R_drewN | apply Kd.R_drew)); exact HO250.out) hb); have n3_ := Aside0.mk (blk_below (g := gb235) (o := .cells #[.slice Ao8 t228.length co8, .float .f32 t231, .float .f32 t232, .float .f32 t233] 45 (0, 0)) (by (with_reducible repeat (first | refine blk_drewN ?_ _ | refine blk_drew ?_ | refine blk_alloc ?_ _)); exact BK235.out) hb); have n4_ := Aside0.mk (blk_below (g := gb243) (o := .cells #[.slice Ao12 t236.length co12, .float .f32 t239, .float .f32 t240, .float .f32 t241] 45 (0, 0)) (by (with_reducible repeat (first | refine blk_drewN ?_ _ | refine blk_drew ?_ | refine blk_alloc ?_ _)); exact BK243.out) hb); have n5_ := Aside0.mk (below_step (by repeat (first | (with_reducible first | exact HB.out | apply below_alloc | apply pw_below_drewN | apply below_drew1 | refine below_set ?_ GE235.out | refine below_set ?_ GE243.out) | exact HB.out)) hb); have n6_ := Aside0.mk (hbox); have n7_ := Aside0.mk ((by rw [hg]; exact (below_size (by repeat (first | (with_reducible first | exact HB.out | apply below_alloc | apply pw_below_drewN | apply below_drew1 | refine below_set ?_ GE235.out | refine below_set ?_ GE243.out) | exact HB.out))) : w.heap.size ≤ gb255)); have n8_ := Aside0.mk ((by rw [hg]; exact (below_size (by repeat (first | (with_reducible first | exact HB.out | apply below_alloc | apply pw_below_drewN | apply below_drew1 | refine below_set ?_ GE235.out | refine below_set ?_ GE243.out) | exact HB.out))) : w.heap.size ≤ gb255)); have n9_ := Aside0.mk ((by rw [hg]; exact Nat.ne_of_lt (blk_lt (g := gb235) (o := .cells #[.slice Ao8 t228.length co8, .float .f32 t231, .float .f32 t232, .float .f32 t233] 45 (0, 0)) (by (with_reducible repeat (first | refine blk_drewN ?_ _ | refine blk_drew ?_ | refine blk_alloc ?_ _)); exact BK235.out)) : gb235 ≠ gb255)); have n10_ := Aside0.mk ((by rw [hg]; exact Nat.ne_of_gt (blk_lt (g := gb235) (o := .cells #[.slice Ao8 t228.length co8, .float .f32 t231, .float .f32 t232, .float .f32 t233] 45 (0, 0)) (by (with_reducible repeat (first | refine blk_drewN ?_ _ | refine blk_drew ?_ | refine blk_alloc ?_ _)); exact BK235.out)) : gb255 ≠ gb235)); have n11_ := Aside0.mk ((by rw [hg]; exact Nat.ne_of_lt (blk_lt (g := gb243) (o := .cells #[.slice Ao12 t236.length co12, .float .f32 t239, .float .f32 t240, .float .f32 t241] 45 (0, 0)) (by (with_reducible repeat (first | refine blk_drewN ?_ _ | refine blk_drew ?_ | refine blk_alloc ?_ _)); exact BK243.out)) : gb243 ≠ gb255)); have n12_ := Aside0.mk ((by rw [hg]; exact Nat.ne_of_gt (blk_lt (g := gb243) (o := .cells #[.slice Ao12 t236.length co12, .float .f32 t239, .float .f32 t240, .float .f32 t241] 45 (0, 0)) (by (with_reducible repeat (first | refine blk_drewN ?_ _ | refine blk_drew ?_ | refine blk_alloc ?_ _)); exact BK243.out)) : gb255 ≠ gb243)); clear HO_236000; clear HO_244000; clear HO250; clear BK235; clear BK243; clear HB; have HO_236000 := n0_; have HO_244000 := n1_; have HO250 := n2_; have BK235 := n3_; have BK243 := n4_; have HB := n5_; have BK255 := n6_; have GW255 := n7_; have GE255 := n8_; have NB235_255 := n9_; have NB255_235 := n10_; have NB243_255 := n11_; have NB255_243 := n12_; clear n0_ n1_ n2_ n3_ n4_ n5_ n6_ n7_ n8_ n9_ n10_ n11_ n12_; clear hb hbox hg; obtain ⟨Ao44, co44, eo44⟩ := Kd.R_slice HO250.out; subst eo44; have hnb45 := NB255_235.out; have hnc45 := NB235_255.out; have hnb46 := NB255_243.out; have hnc46 := NB243_255.out; have hcz47_0 : w43.cell? ⟨gb255, 0, none⟩ = some (.slice none 0 0) := (blk_cell BK255.out 0).trans rfl; have hcz47_1 : w43.cell? ⟨gb255, 1, none⟩ = some (.float .f32 0) := (blk_cell BK255.out 1).trans rfl; have hcz47_2 : w43.cell? ⟨gb255, 2, none⟩ = some (.float .f32 0) := (blk_cell BK255.out 2).trans rfl; have hcz47_3 : w43.cell? ⟨gb255, 3, none⟩ = some (.float .f32 0) := (blk_cell BK255.out 3).trans rfl; have hfz47_0 := blk_frozen BK255.out 0; have hfz47_1 := blk_frozen BK255.out 1; have hfz47_2 := blk_frozen BK255.out 2; have hfz47_3 := blk_frozen BK255.out 3))
       (try simp only [Act.put, List.setIfInBounds_toArray, List.set_cons_zero, List.set_cons_succ])
       go_cut [57] (fun v57 wc => ∃ (kq : Nat) (x57_35 : Bool), v57 = .bool x57_35 ∧ Aside0 (laws_FnExactReadTube.j1 kq t245 x57_35 t246 t239 t240 t241 = some r) ∧ Aside0 (kq ≤ kj4) ∧ Aside0 (Kd.R (Kd.float .f32) 30 wc w.heap.size (fun k_ => some k_ ≠ ((.slice Ao12 t236.length co12) : Value).ownBlock ∧ some k_ ≠ ((.slice Ao44 t248.length co44) : Value).ownBlock) (.slice Ao8 t228.length co8) t228) ∧ Aside0 (Kd.R (Kd.float .f32) 30 wc w.heap.size (fun k_ => some k_ ≠ ((.slice Ao8 t228.length co8) : Value).ownBlock ∧ some k_ ≠ ((.slice Ao44 t248.length co44) : Value).ownBlock) (.slice Ao12 t236.length co12) t246) ∧ Aside0 (Kd.R (Kd.float .f32) 30 wc w.heap.size (fun k_ => some k_ ≠ ((.slice Ao8 t228.length co8) : Value).ownBlock ∧ some k_ ≠ ((.slice Ao12 t236.length co12) : Value).ownBlock) (.slice Ao44 t248.length co44) t248) ∧ Aside0 (wc.heap[gb235]? = some (.cells #[(.slice Ao8 t228.length co8), .float .f32 t231, .float .f32 t232, .float .f32 t233] 45 (0, 0))) ∧ Aside0 (wc.heap[gb243]? = some (.cells #[(.slice Ao12 t236.length co12), .float .f32 t239, .float .f32 t240, .float .f32 t241] 45 (0, 0))) ∧ Aside0 (wc.heap[gb255]? = some (.cells #[(.slice Ao44 t248.length co44), .float .f32 t251, .float .f32 t252, .float .f32 t253] 45 (0, 0))) ∧ Aside0 (Below w.heap.size w wc))
       case first =>
        have H := HC36.out
        clear HC36
        replace H := Option.bind_eq_some_iff.mp H
        obtain ⟨t256, A480, H⟩ := H
        replace H : (if t256 = true then (laws_FnExactReadTube.j1 kj4 t245 (t254 != t234) t246 t239 t240 t241) else (laws_FnExactReadTube.j1 kj4 t245 true t246 t239 t240 t241)) = some r := H
        have A48 := Aside0.mk A480
        clear A480
        by_cases c49 : t256 = true
        ·subst c49
         have H1 : (laws_FnExactReadTube.j1 kj4 t245 (t254 != t234) t246 t239 t240 t241) = some r := by rw [if_pos rfl] at H; exact H
         clear H
         have H := H1
         clear H1
         have H' := Aside0.mk H
         clear H
         have hnb50 := NB255_235.out
         have hnc50 := NB235_255.out
         have hnb51 := NB255_243.out
         have hnc51 := NB243_255.out
         have hcz52_0 : w43.cell? ⟨gb255, 0, none⟩ = some (.slice none 0 0) := (blk_cell BK255.out 0).trans rfl
         have hcz52_1 : w43.cell? ⟨gb255, 1, none⟩ = some (.float .f32 0) := (blk_cell BK255.out 1).trans rfl
         have hcz52_2 : w43.cell? ⟨gb255, 2, none⟩ = some (.float .f32 0) := (blk_cell BK255.out 2).trans rfl
         have hcz52_3 : w43.cell? ⟨gb255, 3, none⟩ = some (.float .f32 0) := (blk_cell BK255.out 3).trans rfl
         have hfz52_0 := blk_frozen BK255.out 0
         have hfz52_1 := blk_frozen BK255.out 1
         have hfz52_2 := blk_frozen BK255.out 2
         have hfz52_3 := blk_frozen BK255.out 3
         have hnb53 := NB235_243.out
         have hnc53 := NB243_235.out
         have hcz54_0 : w43.cell? ⟨gb235, 0, none⟩ = some (.slice Ao8 t228.length co8) := (blk_cell BK235.out 0).trans rfl
         have hcz54_1 : w43.cell? ⟨gb235, 1, none⟩ = some (.float .f32 t231) := (blk_cell BK235.out 1).trans rfl
         have hcz54_2 : w43.cell? ⟨gb235, 2, none⟩ = some (.float .f32 t232) := (blk_cell BK235.out 2).trans rfl
         have hcz54_3 : w43.cell? ⟨gb235, 3, none⟩ = some (.float .f32 t233) := (blk_cell BK235.out 3).trans rfl
         have hfz54_0 := blk_frozen BK235.out 0
         have hfz54_1 := blk_frozen BK235.out 1
         have hfz54_2 := blk_frozen BK235.out 2
         have hfz54_3 := blk_frozen BK235.out 3
         go_wp2_with (first | ((with_reducible refine gate_callee (f := 23) rfl ?_); refine goesL_ (some 51) rfl rfl Tryd.func23 (by kernel_rfl) rfl #[.agg #[.slice Ao44 t248.length co44, .float .f32 t251, .float .f32 t252, .float .f32 t253], .agg #[.slice Ao8 t228.length co8, .float .f32 t231, .float .f32 t232, .float .f32 t233]] rfl (by (try simp only [List.map_toArray, List.map_cons, List.map_nil]); first | done | rfl | (simp only [List.length_drop, List.length_take]; rfl)) ?_; (with_reducible refine (laws_eqTube.calls _ _ t248 t251 t252 t253 _ _ t228 t231 t232 t233 true _ ?side1 ?side2 ?side3 ?side4 A48.out).mono ?_); (case side1 => refine (Kd.R_reads' (e := 30) (base := w.heap.size) (ok := fun k_ => ((True ∧ some k_ ≠ (.slice Ao8 t228.length co8 : Value).ownBlock) ∧ some k_ ≠ (.slice Ao12 t236.length co12 : Value).ownBlock)) (n := t248.length) (c := co44) ?_).2.2; exact (by (with_reducible repeat (first | apply Kd.R_alloc | apply Kd.R_drewN | apply Kd.R_drew)); exact (Kd.R_mono (Kd.R_far (p := ⟨gb255, 3, none⟩) (Kd.R_far (p := ⟨gb255, 2, none⟩) (Kd.R_far (p := ⟨gb255, 1, none⟩) (Kd.R_far (p := ⟨gb255, 0, none⟩) (Kd.R_types HO250.out BK255.out (by decide)) (fun _ hk => hk.2) (.slice Ao44 t248.length co44)) (fun _ hk => hk.2) (.float .f32 t251)) (fun _ hk => hk.2) (.float .f32 t252)) (fun _ hk => hk.2) (.float .f32 t253)) (fun _ h_ => h_.1)))); (case side2 => exact (Kd.R_reads' HO250.out).2.1); (case side3 => refine (Kd.R_reads' (e := 30) (base := w.heap.size) (ok := fun k_ => (some k_ ≠ (.slice Ao12 t236.length co12 : Value).ownBlock ∧ some k_ ≠ (.slice Ao44 t248.length co44 : Value).ownBlock)) (n := t228.length) (c := co8) ?_).2.2; exact (by (with_reducible repeat (first | apply Kd.R_alloc | apply Kd.R_drewN | apply Kd.R_drew)); exact (Kd.R_mono (Kd.R_far (p := ⟨gb255, 3, none⟩) (Kd.R_far (p := ⟨gb255, 2, none⟩) (Kd.R_far (p := ⟨gb255, 1, none⟩) (Kd.R_far (p := ⟨gb255, 0, none⟩) (Kd.R_types HO_236000.out BK255.out (by decide)) (fun _ hk => hk.2) (.slice Ao44 t248.length co44)) (fun _ hk => hk.2) (.float .f32 t251)) (fun _ hk => hk.2) (.float .f32 t252)) (fun _ hk => hk.2) (.float .f32 t253)) (fun _ h_ => h_.1)))); (case side4 => exact (Kd.R_reads' HO_236000.out).2.1); rintro e w55 ⟨rfl, hb⟩; refine ⟨_, rfl, ?_⟩; have n0_ := Aside0.mk (Kd.R_below (by (with_reducible repeat (first | apply Kd.R_alloc | apply Kd.R_drewN | apply Kd.R_drew)); exact (Kd.R_mono (Kd.R_far (p := ⟨gb255, 3, none⟩) (Kd.R_far (p := ⟨gb255, 2, none⟩) (Kd.R_far (p := ⟨gb255, 1, none⟩) (Kd.R_far (p := ⟨gb255, 0, none⟩) (Kd.R_types HO_236000.out BK255.out (by decide)) (fun _ hk => hk.2) (.slice Ao44 t248.length co44)) (fun _ hk => hk.2) (.float .f32 t251)) (fun _ hk => hk.2) (.float .f32 t252)) (fun _ hk => hk.2) (.float .f32 t253)) (fun _ h_ => h_.1))) hb); have n1_ := Aside0.mk (Kd.R_below (by (with_reducible repeat (first | apply Kd.R_alloc | apply Kd.R_drewN | apply Kd.R_drew)); exact (Kd.R_mono (Kd.R_far (p := ⟨gb255, 3, none⟩) (Kd.R_far (p := ⟨gb255, 2, none⟩) (Kd.R_far (p := ⟨gb255, 1, none⟩) (Kd.R_far (p := ⟨gb255, 0, none⟩) (Kd.R_types HO_244000.out BK255.out (by decide)) (fun _ hk => hk.2) (.slice Ao44 t248.length co44)) (fun _ hk => hk.2) (.float .f32 t251)) (fun _ hk => hk.2) (.float .f32 t252)) (fun _ hk => hk.2) (.float .f32 t253)) (fun _ h_ => h_.1))) hb); have n2_ := Aside0.mk (Kd.R_below (by (with_reducible repeat (first | apply Kd.R_alloc | apply Kd.R_drewN | apply Kd.R_drew)); exact (Kd.R_mono (Kd.R_far (p := ⟨gb255, 3, none⟩) (Kd.R_far (p := ⟨gb255, 2, none⟩) (Kd.R_far (p := ⟨gb255, 1, none⟩) (Kd.R_far (p := ⟨gb255, 0, none⟩) (Kd.R_types HO250.out BK255.out (by decide)) (fun _ hk => hk.2) (.slice Ao44 t248.length co44)) (fun _ hk => hk.2) (.float .f32 t251)) (fun _ hk => hk.2) (.float .f32 t252)) (fun _ hk => hk.2) (.float .f32 t253)) (fun _ h_ => h_.1))) hb); have n3_ := Aside0.mk (blk_below (g := gb235) (o := .cells #[.slice Ao8 t228.length co8, .float .f32 t231, .float .f32 t232, .float .f32 t233] 45 (0, 0)) (by (with_reducible repeat (first | refine blk_drewN ?_ _ | refine blk_drew ?_ | refine blk_alloc ?_ _)); refine blk_far ?_ NB235_255.out _; (with_reducible repeat (first | refine blk_drewN ?_ _ | refine blk_drew ?_ | refine blk_alloc ?_ _)); refine blk_far ?_ NB235_255.out _; (with_reducible repeat (first | refine blk_drewN ?_ _ | refine blk_drew ?_ | refine blk_alloc ?_ _)); refine blk_far ?_ NB235_255.out _; (with_reducible repeat (first | refine blk_drewN ?_ _ | refine blk_drew ?_ | refine blk_alloc ?_ _)); refine blk_far ?_ NB235_255.out _; (with_reducible repeat (first | refine blk_drewN ?_ _ | refine blk_drew ?_ | refine blk_alloc ?_ _)); exact BK235.out) hb); have n4_ := Aside0.mk (blk_below (g := gb243) (o := .cells #[.slice Ao12 t236.length co12, .float .f32 t239, .float .f32 t240, .float .f32 t241] 45 (0, 0)) (by (with_reducible repeat (first | refine blk_drewN ?_ _ | refine blk_drew ?_ | refine blk_alloc ?_ _)); refine blk_far ?_ NB243_255.out _; (with_reducible repeat (first | refine blk_drewN ?_ _ | refine blk_drew ?_ | refine blk_alloc ?_ _)); refine blk_far ?_ NB243_255.out _; (with_reducible repeat (first | refine blk_drewN ?_ _ | refine blk_drew ?_ | refine blk_alloc ?_ _)); refine blk_far ?_ NB243_255.out _; (with_reducible repeat (first | refine blk_drewN ?_ _ | refine blk_drew ?_ | refine blk_alloc ?_ _)); refine blk_far ?_ NB243_255.out _; (with_reducible repeat (first | refine blk_drewN ?_ _ | refine blk_drew ?_ | refine blk_alloc ?_ _)); exact BK243.out) hb); have n5_ := Aside0.mk (blk_below (g := gb255) (o := .cells #[.slice Ao44 t248.length co44, .float .f32 t251, .float .f32 t252, .float .f32 t253] 45 (0, 0)) (by (with_reducible repeat (first | refine blk_drewN ?_ _ | refine blk_drew ?_ | refine blk_alloc ?_ _)); refine blk_put (cs := #[.slice Ao44 t248.length co44, .float .f32 t251, .float .f32 t252, .float .f32 0]) ?_ 3 _ rfl; (with_reducible repeat (first | refine blk_drewN ?_ _ | refine blk_drew ?_ | refine blk_alloc ?_ _)); refine blk_put (cs := #[.slice Ao44 t248.length co44, .float .f32 t251, .float .f32 0, .float .f32 0]) ?_ 2 _ rfl; (with_reducible repeat (first | refine blk_drewN ?_ _ | refine blk_drew ?_ | refine blk_alloc ?_ _)); refine blk_put (cs := #[.slice Ao44 t248.length co44, .float .f32 0, .float .f32 0, .float .f32 0]) ?_ 1 _ rfl; (with_reducible repeat (first | refine blk_drewN ?_ _ | refine blk_drew ?_ | refine blk_alloc ?_ _)); refine blk_put (cs := #[.slice none 0 0, .float .f32 0, .float .f32 0, .float .f32 0]) ?_ 0 _ rfl; (with_reducible repeat (first | refine blk_drewN ?_ _ | refine blk_drew ?_ | refine blk_alloc ?_ _)); exact BK255.out) hb); have n6_ := Aside0.mk (below_step (by repeat (first | (with_reducible first | exact HB.out | apply below_alloc | apply pw_below_drewN | apply below_drew1 | refine below_set ?_ GE235.out | refine below_set ?_ GE243.out | refine below_set ?_ GE255.out) | exact HB.out)) hb); clear HO_236000; clear HO_244000; clear HO250; clear BK235; clear BK243; clear BK255; clear HB; have HO_236000 := n0_; have HO_244000 := n1_; have HO250 := n2_; have BK235 := n3_; have BK243 := n4_; have BK255 := n5_; have HB := n6_; clear n0_ n1_ n2_ n3_ n4_ n5_ n6_; (try clear hb); (try clear hb2); (try clear hk); (try clear hi)))
         go_meet
         case rel => exact ⟨_, ((t254 != t234)), (by first | rfl | (simp; done) | (simp [*]; done)), H', ⟨by have := HJ4.out; first | omega | exact Nat.le_refl _⟩, ⟨by (with_reducible repeat (first | apply Kd.R_alloc | apply Kd.R_drewN | apply Kd.R_drew)); exact HO_236000.out⟩, ⟨by (with_reducible repeat (first | apply Kd.R_alloc | apply Kd.R_drewN | apply Kd.R_drew)); exact HO_244000.out⟩, ⟨by (with_reducible repeat (first | apply Kd.R_alloc | apply Kd.R_drewN | apply Kd.R_drew)); exact Kd.R_mono HO250.out (fun _ hk => ⟨hk.1.2, hk.2⟩)⟩, ⟨by (with_reducible repeat (first | refine blk_drewN ?_ _ | refine blk_drew ?_ | refine blk_alloc ?_ _)); exact BK235.out⟩, ⟨by (with_reducible repeat (first | refine blk_drewN ?_ _ | refine blk_drew ?_ | refine blk_alloc ?_ _)); exact BK243.out⟩, ⟨by (with_reducible repeat (first | refine blk_drewN ?_ _ | refine blk_drew ?_ | refine blk_alloc ?_ _)); exact BK255.out⟩, ⟨by repeat (first | (with_reducible first | exact HB.out | apply below_alloc | apply pw_below_drewN | apply below_drew1 | refine below_set ?_ GE235.out | refine below_set ?_ GE243.out | refine below_set ?_ GE255.out) | exact HB.out)⟩⟩
        ·replace c49 := Bool.eq_false_iff.mpr c49
         subst c49
         have H1 : (laws_FnExactReadTube.j1 kj4 t245 true t246 t239 t240 t241) = some r := by rw [if_neg (show ¬ (false = true) by decide)] at H; exact H
         clear H
         have H := H1
         clear H1
         have H' := Aside0.mk H
         clear H
         have hnb56 := NB255_235.out
         have hnc56 := NB235_255.out
         have hnb57 := NB255_243.out
         have hnc57 := NB243_255.out
         have hcz58_0 : w43.cell? ⟨gb255, 0, none⟩ = some (.slice none 0 0) := (blk_cell BK255.out 0).trans rfl
         have hcz58_1 : w43.cell? ⟨gb255, 1, none⟩ = some (.float .f32 0) := (blk_cell BK255.out 1).trans rfl
         have hcz58_2 : w43.cell? ⟨gb255, 2, none⟩ = some (.float .f32 0) := (blk_cell BK255.out 2).trans rfl
         have hcz58_3 : w43.cell? ⟨gb255, 3, none⟩ = some (.float .f32 0) := (blk_cell BK255.out 3).trans rfl
         have hfz58_0 := blk_frozen BK255.out 0
         have hfz58_1 := blk_frozen BK255.out 1
         have hfz58_2 := blk_frozen BK255.out 2
         have hfz58_3 := blk_frozen BK255.out 3
         have hnb59 := NB235_243.out
         have hnc59 := NB243_235.out
         have hcz60_0 : w43.cell? ⟨gb235, 0, none⟩ = some (.slice Ao8 t228.length co8) := (blk_cell BK235.out 0).trans rfl
         have hcz60_1 : w43.cell? ⟨gb235, 1, none⟩ = some (.float .f32 t231) := (blk_cell BK235.out 1).trans rfl
         have hcz60_2 : w43.cell? ⟨gb235, 2, none⟩ = some (.float .f32 t232) := (blk_cell BK235.out 2).trans rfl
         have hcz60_3 : w43.cell? ⟨gb235, 3, none⟩ = some (.float .f32 t233) := (blk_cell BK235.out 3).trans rfl
         have hfz60_0 := blk_frozen BK235.out 0
         have hfz60_1 := blk_frozen BK235.out 1
         have hfz60_2 := blk_frozen BK235.out 2
         have hfz60_3 := blk_frozen BK235.out 3
         go_wp2_with (first | ((with_reducible refine gate_callee (f := 23) rfl ?_); refine goesL_ (some 51) rfl rfl Tryd.func23 (by kernel_rfl) rfl #[.agg #[.slice Ao44 t248.length co44, .float .f32 t251, .float .f32 t252, .float .f32 t253], .agg #[.slice Ao8 t228.length co8, .float .f32 t231, .float .f32 t232, .float .f32 t233]] rfl (by (try simp only [List.map_toArray, List.map_cons, List.map_nil]); first | done | rfl | (simp only [List.length_drop, List.length_take]; rfl)) ?_; (with_reducible refine (laws_eqTube.calls _ _ t248 t251 t252 t253 _ _ t228 t231 t232 t233 false _ ?side1 ?side2 ?side3 ?side4 A48.out).mono ?_); (case side1 => refine (Kd.R_reads' (e := 30) (base := w.heap.size) (ok := fun k_ => ((True ∧ some k_ ≠ (.slice Ao8 t228.length co8 : Value).ownBlock) ∧ some k_ ≠ (.slice Ao12 t236.length co12 : Value).ownBlock)) (n := t248.length) (c := co44) ?_).2.2; exact (by (with_reducible repeat (first | apply Kd.R_alloc | apply Kd.R_drewN | apply Kd.R_drew)); exact (Kd.R_mono (Kd.R_far (p := ⟨gb255, 3, none⟩) (Kd.R_far (p := ⟨gb255, 2, none⟩) (Kd.R_far (p := ⟨gb255, 1, none⟩) (Kd.R_far (p := ⟨gb255, 0, none⟩) (Kd.R_types HO250.out BK255.out (by decide)) (fun _ hk => hk.2) (.slice Ao44 t248.length co44)) (fun _ hk => hk.2) (.float .f32 t251)) (fun _ hk => hk.2) (.float .f32 t252)) (fun _ hk => hk.2) (.float .f32 t253)) (fun _ h_ => h_.1)))); (case side2 => exact (Kd.R_reads' HO250.out).2.1); (case side3 => refine (Kd.R_reads' (e := 30) (base := w.heap.size) (ok := fun k_ => (some k_ ≠ (.slice Ao12 t236.length co12 : Value).ownBlock ∧ some k_ ≠ (.slice Ao44 t248.length co44 : Value).ownBlock)) (n := t228.length) (c := co8) ?_).2.2; exact (by (with_reducible repeat (first | apply Kd.R_alloc | apply Kd.R_drewN | apply Kd.R_drew)); exact (Kd.R_mono (Kd.R_far (p := ⟨gb255, 3, none⟩) (Kd.R_far (p := ⟨gb255, 2, none⟩) (Kd.R_far (p := ⟨gb255, 1, none⟩) (Kd.R_far (p := ⟨gb255, 0, none⟩) (Kd.R_types HO_236000.out BK255.out (by decide)) (fun _ hk => hk.2) (.slice Ao44 t248.length co44)) (fun _ hk => hk.2) (.float .f32 t251)) (fun _ hk => hk.2) (.float .f32 t252)) (fun _ hk => hk.2) (.float .f32 t253)) (fun _ h_ => h_.1)))); (case side4 => exact (Kd.R_reads' HO_236000.out).2.1); rintro e w61 ⟨rfl, hb⟩; refine ⟨_, rfl, ?_⟩; have n0_ := Aside0.mk (Kd.R_below (by (with_reducible repeat (first | apply Kd.R_alloc | apply Kd.R_drewN | apply Kd.R_drew)); exact (Kd.R_mono (Kd.R_far (p := ⟨gb255, 3, none⟩) (Kd.R_far (p := ⟨gb255, 2, none⟩) (Kd.R_far (p := ⟨gb255, 1, none⟩) (Kd.R_far (p := ⟨gb255, 0, none⟩) (Kd.R_types HO_236000.out BK255.out (by decide)) (fun _ hk => hk.2) (.slice Ao44 t248.length co44)) (fun _ hk => hk.2) (.float .f32 t251)) (fun _ hk => hk.2) (.float .f32 t252)) (fun _ hk => hk.2) (.float .f32 t253)) (fun _ h_ => h_.1))) hb); have n1_ := Aside0.mk (Kd.R_below (by (with_reducible repeat (first | apply Kd.R_alloc | apply Kd.R_drewN | apply Kd.R_drew)); exact (Kd.R_mono (Kd.R_far (p := ⟨gb255, 3, none⟩) (Kd.R_far (p := ⟨gb255, 2, none⟩) (Kd.R_far (p := ⟨gb255, 1, none⟩) (Kd.R_far (p := ⟨gb255, 0, none⟩) (Kd.R_types HO_244000.out BK255.out (by decide)) (fun _ hk => hk.2) (.slice Ao44 t248.length co44)) (fun _ hk => hk.2) (.float .f32 t251)) (fun _ hk => hk.2) (.float .f32 t252)) (fun _ hk => hk.2) (.float .f32 t253)) (fun _ h_ => h_.1))) hb); have n2_ := Aside0.mk (Kd.R_below (by (with_reducible repeat (first | apply Kd.R_alloc | apply Kd.R_drewN | apply Kd.R_drew)); exact (Kd.R_mono (Kd.R_far (p := ⟨gb255, 3, none⟩) (Kd.R_far (p := ⟨gb255, 2, none⟩) (Kd.R_far (p := ⟨gb255, 1, none⟩) (Kd.R_far (p := ⟨gb255, 0, none⟩) (Kd.R_types HO250.out BK255.out (by decide)) (fun _ hk => hk.2) (.slice Ao44 t248.length co44)) (fun _ hk => hk.2) (.float .f32 t251)) (fun _ hk => hk.2) (.float .f32 t252)) (fun _ hk => hk.2) (.float .f32 t253)) (fun _ h_ => h_.1))) hb); have n3_ := Aside0.mk (blk_below (g := gb235) (o := .cells #[.slice Ao8 t228.length co8, .float .f32 t231, .float .f32 t232, .float .f32 t233] 45 (0, 0)) (by (with_reducible repeat (first | refine blk_drewN ?_ _ | refine blk_drew ?_ | refine blk_alloc ?_ _)); refine blk_far ?_ NB235_255.out _; (with_reducible repeat (first | refine blk_drewN ?_ _ | refine blk_drew ?_ | refine blk_alloc ?_ _)); refine blk_far ?_ NB235_255.out _; (with_reducible repeat (first | refine blk_drewN ?_ _ | refine blk_drew ?_ | refine blk_alloc ?_ _)); refine blk_far ?_ NB235_255.out _; (with_reducible repeat (first | refine blk_drewN ?_ _ | refine blk_drew ?_ | refine blk_alloc ?_ _)); refine blk_far ?_ NB235_255.out _; (with_reducible repeat (first | refine blk_drewN ?_ _ | refine blk_drew ?_ | refine blk_alloc ?_ _)); exact BK235.out) hb); have n4_ := Aside0.mk (blk_below (g := gb243) (o := .cells #[.slice Ao12 t236.length co12, .float .f32 t239, .float .f32 t240, .float .f32 t241] 45 (0, 0)) (by (with_reducible repeat (first | refine blk_drewN ?_ _ | refine blk_drew ?_ | refine blk_alloc ?_ _)); refine blk_far ?_ NB243_255.out _; (with_reducible repeat (first | refine blk_drewN ?_ _ | refine blk_drew ?_ | refine blk_alloc ?_ _)); refine blk_far ?_ NB243_255.out _; (with_reducible repeat (first | refine blk_drewN ?_ _ | refine blk_drew ?_ | refine blk_alloc ?_ _)); refine blk_far ?_ NB243_255.out _; (with_reducible repeat (first | refine blk_drewN ?_ _ | refine blk_drew ?_ | refine blk_alloc ?_ _)); refine blk_far ?_ NB243_255.out _; (with_reducible repeat (first | refine blk_drewN ?_ _ | refine blk_drew ?_ | refine blk_alloc ?_ _)); exact BK243.out) hb); have n5_ := Aside0.mk (blk_below (g := gb255) (o := .cells #[.slice Ao44 t248.length co44, .float .f32 t251, .float .f32 t252, .float .f32 t253] 45 (0, 0)) (by (with_reducible repeat (first | refine blk_drewN ?_ _ | refine blk_drew ?_ | refine blk_alloc ?_ _)); refine blk_put (cs := #[.slice Ao44 t248.length co44, .float .f32 t251, .float .f32 t252, .float .f32 0]) ?_ 3 _ rfl; (with_reducible repeat (first | refine blk_drewN ?_ _ | refine blk_drew ?_ | refine blk_alloc ?_ _)); refine blk_put (cs := #[.slice Ao44 t248.length co44, .float .f32 t251, .float .f32 0, .float .f32 0]) ?_ 2 _ rfl; (with_reducible repeat (first | refine blk_drewN ?_ _ | refine blk_drew ?_ | refine blk_alloc ?_ _)); refine blk_put (cs := #[.slice Ao44 t248.length co44, .float .f32 0, .float .f32 0, .float .f32 0]) ?_ 1 _ rfl; (with_reducible repeat (first | refine blk_drewN ?_ _ | refine blk_drew ?_ | refine blk_alloc ?_ _)); refine blk_put (cs := #[.slice none 0 0, .float .f32 0, .float .f32 0, .float .f32 0]) ?_ 0 _ rfl; (with_reducible repeat (first | refine blk_drewN ?_ _ | refine blk_drew ?_ | refine blk_alloc ?_ _)); exact BK255.out) hb); have n6_ := Aside0.mk (below_step (by repeat (first | (with_reducible first | exact HB.out | apply below_alloc | apply pw_below_drewN | apply below_drew1 | refine below_set ?_ GE235.out | refine below_set ?_ GE243.out | refine below_set ?_ GE255.out) | exact HB.out)) hb); clear HO_236000; clear HO_244000; clear HO250; clear BK235; clear BK243; clear BK255; clear HB; have HO_236000 := n0_; have HO_244000 := n1_; have HO250 := n2_; have BK235 := n3_; have BK243 := n4_; have BK255 := n5_; have HB := n6_; clear n0_ n1_ n2_ n3_ n4_ n5_ n6_; (try clear hb); (try clear hb2); (try clear hk); (try clear hi)))
         go_meet
         case rel => exact ⟨_, (true), (by first | rfl | (simp; done) | (simp [*]; done)), H', ⟨by have := HJ4.out; first | omega | exact Nat.le_refl _⟩, ⟨by (with_reducible repeat (first | apply Kd.R_alloc | apply Kd.R_drewN | apply Kd.R_drew)); exact HO_236000.out⟩, ⟨by (with_reducible repeat (first | apply Kd.R_alloc | apply Kd.R_drewN | apply Kd.R_drew)); exact HO_244000.out⟩, ⟨by (with_reducible repeat (first | apply Kd.R_alloc | apply Kd.R_drewN | apply Kd.R_drew)); exact Kd.R_mono HO250.out (fun _ hk => ⟨hk.1.2, hk.2⟩)⟩, ⟨by (with_reducible repeat (first | refine blk_drewN ?_ _ | refine blk_drew ?_ | refine blk_alloc ?_ _)); exact BK235.out⟩, ⟨by (with_reducible repeat (first | refine blk_drewN ?_ _ | refine blk_drew ?_ | refine blk_alloc ?_ _)); exact BK243.out⟩, ⟨by (with_reducible repeat (first | refine blk_drewN ?_ _ | refine blk_drew ?_ | refine blk_alloc ?_ _)); exact BK255.out⟩, ⟨by repeat (first | (with_reducible first | exact HB.out | apply below_alloc | apply pw_below_drewN | apply below_drew1 | refine below_set ?_ GE235.out | refine below_set ?_ GE243.out | refine below_set ?_ GE255.out) | exact HB.out)⟩⟩
       case rest =>
        clear HC36
        try clear c1
        try clear c2
        try clear c2b0
        try clear c2b1
        try clear p2
        try clear c3
        try clear c4
        try clear c5
        try clear c6
        try clear c13
        try clear c16
        try clear c17
        try clear c21
        try clear c22
        try clear c23
        try clear c24
        try clear c25
        try clear c28
        try clear c28b0
        try clear c29
        try clear c34
        try clear c34b0
        try clear c34b1
        try clear c37
        try clear c45
        try clear c46
        try clear c49
        try clear c50
        try clear c51
        try clear c53
        try clear c56
        try clear c57
        try clear c59
        try clear hcz14_0
        try clear hcz14_1
        try clear hcz14_2
        try clear hcz14_3
        try clear hcz18_0
        try clear hcz18_1
        try clear hcz18_2
        try clear hcz18_3
        try clear hcz19_0
        try clear hcz19_1
        try clear hcz19_2
        try clear hcz19_3
        try clear hcz22_0
        try clear hcz22_1
        try clear hcz22_2
        try clear hcz22_3
        try clear hcz23_0
        try clear hcz23_1
        try clear hcz23_2
        try clear hcz23_3
        try clear hcz30_0
        try clear hcz30_1
        try clear hcz30_2
        try clear hcz30_3
        try clear hcz32_0
        try clear hcz32_1
        try clear hcz32_2
        try clear hcz32_3
        try clear hcz38_0
        try clear hcz38_1
        try clear hcz38_2
        try clear hcz38_3
        try clear hcz40_0
        try clear hcz40_1
        try clear hcz40_2
        try clear hcz40_3
        try clear hcz47_0
        try clear hcz47_1
        try clear hcz47_2
        try clear hcz47_3
        try clear hcz52_0
        try clear hcz52_1
        try clear hcz52_2
        try clear hcz52_3
        try clear hcz54_0
        try clear hcz54_1
        try clear hcz54_2
        try clear hcz54_3
        try clear hcz58_0
        try clear hcz58_1
        try clear hcz58_2
        try clear hcz58_3
        try clear hcz60_0
        try clear hcz60_1
        try clear hcz60_2
        try clear hcz60_3
        try clear hcz9_0
        try clear hcz9_1
        try clear hcz9_2
        try clear hcz9_3
        try clear hfz14_0
        try clear hfz14_1
        try clear hfz14_2
        try clear hfz14_3
        try clear hfz18_0
        try clear hfz18_1
        try clear hfz18_2
        try clear hfz18_3
        try clear hfz19_0
        try clear hfz19_1
        try clear hfz19_2
        try clear hfz19_3
        try clear hfz22_0
        try clear hfz22_1
        try clear hfz22_2
        try clear hfz22_3
        try clear hfz23_0
        try clear hfz23_1
        try clear hfz23_2
        try clear hfz23_3
        try clear hfz30_0
        try clear hfz30_1
        try clear hfz30_2
        try clear hfz30_3
        try clear hfz32_0
        try clear hfz32_1
        try clear hfz32_2
        try clear hfz32_3
        try clear hfz38_0
        try clear hfz38_1
        try clear hfz38_2
        try clear hfz38_3
        try clear hfz40_0
        try clear hfz40_1
        try clear hfz40_2
        try clear hfz40_3
        try clear hfz47_0
        try clear hfz47_1
        try clear hfz47_2
        try clear hfz47_3
        try clear hfz52_0
        try clear hfz52_1
        try clear hfz52_2
        try clear hfz52_3
        try clear hfz54_0
        try clear hfz54_1
        try clear hfz54_2
        try clear hfz54_3
        try clear hfz58_0
        try clear hfz58_1
        try clear hfz58_2
        try clear hfz58_3
        try clear hfz60_0
        try clear hfz60_1
        try clear hfz60_2
        try clear hfz60_3
        try clear hfz9_0
        try clear hfz9_1
        try clear hfz9_2
        try clear hfz9_3
        try clear p2
        obtain ⟨kq, x57_35, rfl, HA, HJ35, HO_236000, HO_244000, HO_256000, BK235, BK243, BK255, HB⟩ := hcut
        have hl244000_35 := (Kd.R_reads' HO_244000.out).1
        rw [hl244000_35] at HO_244000
        (try simp only [hl244000_35])
        (try simp only [hl244000_35] at BK235)
        (try simp only [hl244000_35] at BK243)
        (try simp only [hl244000_35] at BK255)
        (try simp only [hl244000_35] at HO_236000)
        (try simp only [hl244000_35] at HO_256000)
        cases kq with
        | zero => exact absurd HA.out (by simp [laws_FnExactReadTube.j1])
        | succ kj35 =>
         have H := HA.out
         clear HA
         simp only [laws_FnExactReadTube.j1] at H
         by_cases c62 : x57_35 = true
         ·subst c62
          have H1 : (some false) = some r := by rw [if_pos rfl] at H; exact H
          clear H
          have H := H1
          clear H1
          obtain rfl := Option.some.inj H
          go_wp2
          go_ret
          exact ⟨by first | rfl | (simp [errW_none, errW_some] <;> rfl) | (simp [*, errW_none, errW_some] <;> rfl), by repeat (first | (with_reducible first | exact HB.out | apply below_alloc | apply pw_below_drewN | apply below_drew1 | refine below_set ?_ GE235.out | refine below_set ?_ GE243.out | refine below_set ?_ GE255.out) | exact HB.out)⟩
         ·replace c62 := Bool.eq_false_iff.mpr c62
          subst c62
          have H1 : ((laws_heldTube.f kj35 t246 t239 t240 t241 1).bind fun t257 => (if t257 < 0 then (some false) else (if t257 = t245 then (some true) else (some false)))) = some r := by rw [if_neg (show ¬ (false = true) by decide)] at H; exact H
          clear H
          have H := H1
          clear H1
          replace H := Option.bind_eq_some_iff.mp H
          obtain ⟨t257, A630, H⟩ := H
          replace H : (if t257 < 0 then (some false) else (if t257 = t245 then (some true) else (some false))) = some r := H
          have A63 := Aside0.mk A630
          clear A630
          by_cases c64 : t257 < 0
          ·rw [if_pos c64] at H
           have c64b0 : decide (t257 < 0) = true := decide_eq_true c64
           clear c64
           obtain rfl := Option.some.inj H
           have hnb65 := NB243_235.out
           have hnc65 := NB235_243.out
           have hnb66 := NB243_255.out
           have hnc66 := NB255_243.out
           have hcz67_0 : wc.cell? ⟨gb243, 0, none⟩ = some (.slice Ao12 t246.length co12) := (blk_cell BK243.out 0).trans rfl
           have hcz67_1 : wc.cell? ⟨gb243, 1, none⟩ = some (.float .f32 t239) := (blk_cell BK243.out 1).trans rfl
           have hcz67_2 : wc.cell? ⟨gb243, 2, none⟩ = some (.float .f32 t240) := (blk_cell BK243.out 2).trans rfl
           have hcz67_3 : wc.cell? ⟨gb243, 3, none⟩ = some (.float .f32 t241) := (blk_cell BK243.out 3).trans rfl
           have hfz67_0 := blk_frozen BK243.out 0
           have hfz67_1 := blk_frozen BK243.out 1
           have hfz67_2 := blk_frozen BK243.out 2
           have hfz67_3 := blk_frozen BK243.out 3
           go_wp2_with (first | ((with_reducible refine gate_callee (f := 25) rfl ?_); refine goesL_ (some 60) rfl rfl Tryd.func25 (by kernel_rfl) rfl #[.agg #[.slice Ao12 t246.length co12, .float .f32 t239, .float .f32 t240, .float .f32 t241], .int .i64 1] rfl (by (try simp only [List.map_toArray, List.map_cons, List.map_nil]); first | done | rfl | (simp only [List.length_drop, List.length_take]; rfl)) ?_; (with_reducible refine (laws_heldTube.calls kj35 _ _ t246 t239 t240 t241 1 t257 _ ?side1 ?side2 A63.out).mono ?_); (case side1 => repeat (first | exact (Kd.R_reads' HO_244000.out).2.2 | (with_reducible refine Kd.C_alloc ?_ _) | (with_reducible refine Kd.C_drewN ?_ _) | (with_reducible refine Kd.C_drew ?_))); (case side2 => exact (Kd.R_reads' HO_244000.out).2.1); rintro e w68 ⟨rfl, hb⟩; refine ⟨_, rfl, ?_⟩; have n0_ := Aside0.mk (Kd.R_below (by (with_reducible repeat (first | apply Kd.R_alloc | apply Kd.R_drewN | apply Kd.R_drew)); exact HO_236000.out) hb); have n1_ := Aside0.mk (Kd.R_below (by (with_reducible repeat (first | apply Kd.R_alloc | apply Kd.R_drewN | apply Kd.R_drew)); exact HO_244000.out) hb); have n2_ := Aside0.mk (Kd.R_below (by (with_reducible repeat (first | apply Kd.R_alloc | apply Kd.R_drewN | apply Kd.R_drew)); exact HO_256000.out) hb); have n3_ := Aside0.mk (blk_below (g := gb235) (o := .cells #[.slice Ao8 t228.length co8, .float .f32 t231, .float .f32 t232, .float .f32 t233] 45 (0, 0)) (by (with_reducible repeat (first | refine blk_drewN ?_ _ | refine blk_drew ?_ | refine blk_alloc ?_ _)); exact BK235.out) hb); have n4_ := Aside0.mk (blk_below (g := gb243) (o := .cells #[.slice Ao12 t246.length co12, .float .f32 t239, .float .f32 t240, .float .f32 t241] 45 (0, 0)) (by (with_reducible repeat (first | refine blk_drewN ?_ _ | refine blk_drew ?_ | refine blk_alloc ?_ _)); exact BK243.out) hb); have n5_ := Aside0.mk (blk_below (g := gb255) (o := .cells #[.slice Ao44 t248.length co44, .float .f32 t251, .float .f32 t252, .float .f32 t253] 45 (0, 0)) (by (with_reducible repeat (first | refine blk_drewN ?_ _ | refine blk_drew ?_ | refine blk_alloc ?_ _)); exact BK255.out) hb); have n6_ := Aside0.mk (below_step (by repeat (first | (with_reducible first | exact HB.out | apply below_alloc | apply pw_below_drewN | apply below_drew1 | refine below_set ?_ GE235.out | refine below_set ?_ GE243.out | refine below_set ?_ GE255.out) | exact HB.out)) hb); clear HO_236000; clear HO_244000; clear HO_256000; clear BK235; clear BK243; clear BK255; clear HB; have HO_236000 := n0_; have HO_244000 := n1_; have HO_256000 := n2_; have BK235 := n3_; have BK243 := n4_; have BK255 := n5_; have HB := n6_; clear n0_ n1_ n2_ n3_ n4_ n5_ n6_; (try clear hb); (try clear hb2); (try clear hk); (try clear hi)))
           go_ret
           exact ⟨by first | rfl | (simp [errW_none, errW_some] <;> rfl) | (simp [*, errW_none, errW_some] <;> rfl), by repeat (first | (with_reducible first | exact HB.out | apply below_alloc | apply pw_below_drewN | apply below_drew1 | refine below_set ?_ GE235.out | refine below_set ?_ GE243.out | refine below_set ?_ GE255.out) | exact HB.out)⟩
          ·rw [if_neg c64] at H
           have c64b0 : decide (t257 < 0) = false := decide_eq_false c64
           clear c64
           by_cases c69 : t257 = t245
           ·rw [if_pos c69] at H
            have c69b0 : (t257 == t245) = true := beq_iff_eq.mpr c69
            have c69b1 : (t257 != t245) = false := bne_eq_false_iff_eq.mpr c69
            clear c69
            obtain rfl := Option.some.inj H
            have hnb70 := NB243_235.out
            have hnc70 := NB235_243.out
            have hnb71 := NB243_255.out
            have hnc71 := NB255_243.out
            have hcz72_0 : wc.cell? ⟨gb243, 0, none⟩ = some (.slice Ao12 t246.length co12) := (blk_cell BK243.out 0).trans rfl
            have hcz72_1 : wc.cell? ⟨gb243, 1, none⟩ = some (.float .f32 t239) := (blk_cell BK243.out 1).trans rfl
            have hcz72_2 : wc.cell? ⟨gb243, 2, none⟩ = some (.float .f32 t240) := (blk_cell BK243.out 2).trans rfl
            have hcz72_3 : wc.cell? ⟨gb243, 3, none⟩ = some (.float .f32 t241) := (blk_cell BK243.out 3).trans rfl
            have hfz72_0 := blk_frozen BK243.out 0
            have hfz72_1 := blk_frozen BK243.out 1
            have hfz72_2 := blk_frozen BK243.out 2
            have hfz72_3 := blk_frozen BK243.out 3
            go_wp2_with (first | ((with_reducible refine gate_callee (f := 25) rfl ?_); refine goesL_ (some 60) rfl rfl Tryd.func25 (by kernel_rfl) rfl #[.agg #[.slice Ao12 t246.length co12, .float .f32 t239, .float .f32 t240, .float .f32 t241], .int .i64 1] rfl (by (try simp only [List.map_toArray, List.map_cons, List.map_nil]); first | done | rfl | (simp only [List.length_drop, List.length_take]; rfl)) ?_; (with_reducible refine (laws_heldTube.calls kj35 _ _ t246 t239 t240 t241 1 t257 _ ?side1 ?side2 A63.out).mono ?_); (case side1 => repeat (first | exact (Kd.R_reads' HO_244000.out).2.2 | (with_reducible refine Kd.C_alloc ?_ _) | (with_reducible refine Kd.C_drewN ?_ _) | (with_reducible refine Kd.C_drew ?_))); (case side2 => exact (Kd.R_reads' HO_244000.out).2.1); rintro e w73 ⟨rfl, hb⟩; refine ⟨_, rfl, ?_⟩; have n0_ := Aside0.mk (Kd.R_below (by (with_reducible repeat (first | apply Kd.R_alloc | apply Kd.R_drewN | apply Kd.R_drew)); exact HO_236000.out) hb); have n1_ := Aside0.mk (Kd.R_below (by (with_reducible repeat (first | apply Kd.R_alloc | apply Kd.R_drewN | apply Kd.R_drew)); exact HO_244000.out) hb); have n2_ := Aside0.mk (Kd.R_below (by (with_reducible repeat (first | apply Kd.R_alloc | apply Kd.R_drewN | apply Kd.R_drew)); exact HO_256000.out) hb); have n3_ := Aside0.mk (blk_below (g := gb235) (o := .cells #[.slice Ao8 t228.length co8, .float .f32 t231, .float .f32 t232, .float .f32 t233] 45 (0, 0)) (by (with_reducible repeat (first | refine blk_drewN ?_ _ | refine blk_drew ?_ | refine blk_alloc ?_ _)); exact BK235.out) hb); have n4_ := Aside0.mk (blk_below (g := gb243) (o := .cells #[.slice Ao12 t246.length co12, .float .f32 t239, .float .f32 t240, .float .f32 t241] 45 (0, 0)) (by (with_reducible repeat (first | refine blk_drewN ?_ _ | refine blk_drew ?_ | refine blk_alloc ?_ _)); exact BK243.out) hb); have n5_ := Aside0.mk (blk_below (g := gb255) (o := .cells #[.slice Ao44 t248.length co44, .float .f32 t251, .float .f32 t252, .float .f32 t253] 45 (0, 0)) (by (with_reducible repeat (first | refine blk_drewN ?_ _ | refine blk_drew ?_ | refine blk_alloc ?_ _)); exact BK255.out) hb); have n6_ := Aside0.mk (below_step (by repeat (first | (with_reducible first | exact HB.out | apply below_alloc | apply pw_below_drewN | apply below_drew1 | refine below_set ?_ GE235.out | refine below_set ?_ GE243.out | refine below_set ?_ GE255.out) | exact HB.out)) hb); clear HO_236000; clear HO_244000; clear HO_256000; clear BK235; clear BK243; clear BK255; clear HB; have HO_236000 := n0_; have HO_244000 := n1_; have HO_256000 := n2_; have BK235 := n3_; have BK243 := n4_; have BK255 := n5_; have HB := n6_; clear n0_ n1_ n2_ n3_ n4_ n5_ n6_; (try clear hb); (try clear hb2); (try clear hk); (try clear hi)))
            go_ret
            exact ⟨by first | rfl | (simp [errW_none, errW_some] <;> rfl) | (simp [*, errW_none, errW_some] <;> rfl), by repeat (first | (with_reducible first | exact HB.out | apply below_alloc | apply pw_below_drewN | apply below_drew1 | refine below_set ?_ GE235.out | refine below_set ?_ GE243.out | refine below_set ?_ GE255.out) | exact HB.out)⟩
           ·rw [if_neg c69] at H
            have c69b0 : (t257 == t245) = false := beq_eq_false_iff_ne.mpr c69
            have c69b1 : (t257 != t245) = true := bne_iff_ne.mpr c69
            obtain rfl := Option.some.inj H
            have hnb74 := NB243_235.out
            have hnc74 := NB235_243.out
            have hnb75 := NB243_255.out
            have hnc75 := NB255_243.out
            have hcz76_0 : wc.cell? ⟨gb243, 0, none⟩ = some (.slice Ao12 t246.length co12) := (blk_cell BK243.out 0).trans rfl
            have hcz76_1 : wc.cell? ⟨gb243, 1, none⟩ = some (.float .f32 t239) := (blk_cell BK243.out 1).trans rfl
            have hcz76_2 : wc.cell? ⟨gb243, 2, none⟩ = some (.float .f32 t240) := (blk_cell BK243.out 2).trans rfl
            have hcz76_3 : wc.cell? ⟨gb243, 3, none⟩ = some (.float .f32 t241) := (blk_cell BK243.out 3).trans rfl
            have hfz76_0 := blk_frozen BK243.out 0
            have hfz76_1 := blk_frozen BK243.out 1
            have hfz76_2 := blk_frozen BK243.out 2
            have hfz76_3 := blk_frozen BK243.out 3
            go_wp2_with (first | ((with_reducible refine gate_callee (f := 25) rfl ?_); refine goesL_ (some 60) rfl rfl Tryd.func25 (by kernel_rfl) rfl #[.agg #[.slice Ao12 t246.length co12, .float .f32 t239, .float .f32 t240, .float .f32 t241], .int .i64 1] rfl (by (try simp only [List.map_toArray, List.map_cons, List.map_nil]); first | done | rfl | (simp only [List.length_drop, List.length_take]; rfl)) ?_; (with_reducible refine (laws_heldTube.calls kj35 _ _ t246 t239 t240 t241 1 t257 _ ?side1 ?side2 A63.out).mono ?_); (case side1 => repeat (first | exact (Kd.R_reads' HO_244000.out).2.2 | (with_reducible refine Kd.C_alloc ?_ _) | (with_reducible refine Kd.C_drewN ?_ _) | (with_reducible refine Kd.C_drew ?_))); (case side2 => exact (Kd.R_reads' HO_244000.out).2.1); rintro e w77 ⟨rfl, hb⟩; refine ⟨_, rfl, ?_⟩; have n0_ := Aside0.mk (Kd.R_below (by (with_reducible repeat (first | apply Kd.R_alloc | apply Kd.R_drewN | apply Kd.R_drew)); exact HO_236000.out) hb); have n1_ := Aside0.mk (Kd.R_below (by (with_reducible repeat (first | apply Kd.R_alloc | apply Kd.R_drewN | apply Kd.R_drew)); exact HO_244000.out) hb); have n2_ := Aside0.mk (Kd.R_below (by (with_reducible repeat (first | apply Kd.R_alloc | apply Kd.R_drewN | apply Kd.R_drew)); exact HO_256000.out) hb); have n3_ := Aside0.mk (blk_below (g := gb235) (o := .cells #[.slice Ao8 t228.length co8, .float .f32 t231, .float .f32 t232, .float .f32 t233] 45 (0, 0)) (by (with_reducible repeat (first | refine blk_drewN ?_ _ | refine blk_drew ?_ | refine blk_alloc ?_ _)); exact BK235.out) hb); have n4_ := Aside0.mk (blk_below (g := gb243) (o := .cells #[.slice Ao12 t246.length co12, .float .f32 t239, .float .f32 t240, .float .f32 t241] 45 (0, 0)) (by (with_reducible repeat (first | refine blk_drewN ?_ _ | refine blk_drew ?_ | refine blk_alloc ?_ _)); exact BK243.out) hb); have n5_ := Aside0.mk (blk_below (g := gb255) (o := .cells #[.slice Ao44 t248.length co44, .float .f32 t251, .float .f32 t252, .float .f32 t253] 45 (0, 0)) (by (with_reducible repeat (first | refine blk_drewN ?_ _ | refine blk_drew ?_ | refine blk_alloc ?_ _)); exact BK255.out) hb); have n6_ := Aside0.mk (below_step (by repeat (first | (with_reducible first | exact HB.out | apply below_alloc | apply pw_below_drewN | apply below_drew1 | refine below_set ?_ GE235.out | refine below_set ?_ GE243.out | refine below_set ?_ GE255.out) | exact HB.out)) hb); clear HO_236000; clear HO_244000; clear HO_256000; clear BK235; clear BK243; clear BK255; clear HB; have HO_236000 := n0_; have HO_244000 := n1_; have HO_256000 := n2_; have BK235 := n3_; have BK243 := n4_; have BK255 := n5_; have HB := n6_; clear n0_ n1_ n2_ n3_ n4_ n5_ n6_; (try clear hb); (try clear hb2); (try clear hk); (try clear hi)))
            go_ret
            exact ⟨by first | rfl | (simp [errW_none, errW_some] <;> rfl) | (simp [*, errW_none, errW_some] <;> rfl), by repeat (first | (with_reducible first | exact HB.out | apply below_alloc | apply pw_below_drewN | apply below_drew1 | refine below_set ?_ GE235.out | refine below_set ?_ GE243.out | refine below_set ?_ GE255.out) | exact HB.out)⟩
      ·rw [if_neg c34] at H
       have c34b0 : (t247 == t245) = false := beq_eq_false_iff_ne.mpr c34
       have c34b1 : (t247 != t245) = true := bne_iff_ne.mpr c34
       obtain rfl := Option.some.inj H
       have hnb78 := NB243_235.out
       have hnc78 := NB235_243.out
       have hcz79_0 : wc.cell? ⟨gb243, 0, none⟩ = some (.slice Ao12 t236.length co12) := (blk_cell BK243.out 0).trans rfl
       have hcz79_1 : wc.cell? ⟨gb243, 1, none⟩ = some (.float .f32 t239) := (blk_cell BK243.out 1).trans rfl
       have hcz79_2 : wc.cell? ⟨gb243, 2, none⟩ = some (.float .f32 t240) := (blk_cell BK243.out 2).trans rfl
       have hcz79_3 : wc.cell? ⟨gb243, 3, none⟩ = some (.float .f32 t241) := (blk_cell BK243.out 3).trans rfl
       have hfz79_0 := blk_frozen BK243.out 0
       have hfz79_1 := blk_frozen BK243.out 1
       have hfz79_2 := blk_frozen BK243.out 2
       have hfz79_3 := blk_frozen BK243.out 3
       go_wp2_with (first | ((with_reducible refine gate_callee (f := 24) rfl ?_); refine goesL_ (some 35) rfl rfl Tryd.func24 (by kernel_rfl) rfl #[.agg #[.slice Ao12 t236.length co12, .float .f32 t239, .float .f32 t240, .float .f32 t241], .int .i64 1] rfl (by (try simp only [List.map_toArray, List.map_cons, List.map_nil]); first | done | rfl | (simp only [List.length_drop, List.length_take]; rfl)) ?_; (with_reducible refine (laws_markTube.calls kj4 (fun k_ => some k_ = (.slice Ao12 t236.length co12 : Value).ownBlock) (.slice Ao12 t236.length co12) t236 t239 t240 t241 1 t245 t246 w _ ?side1 ?side2 A26.out).mono ?_); (case side1 => repeat (first | (with_reducible first | exact HB.out | apply below_alloc | apply pw_below_drewN | apply below_drew1 | refine below_set ?_ GE235.out | refine below_set ?_ GE243.out) | exact HB.out)); (case side2 => exact Kd.R_tight rfl HO_244000.out); rintro e w80 ⟨rfl, hy0, hb, hkp⟩; refine ⟨_, rfl, ?_⟩; have n0_ := Aside0.mk (Kd.R_mono (ok' := fun k_ => some k_ ≠ (.slice Ao12 t236.length co12 : Value).ownBlock) (Kd.R_keptB (HO_236000.out) hkp (fun k_ hk_ hs_ => (hk_) hs_)) (fun k_ hk_ => hk_.1)); have n1_ := Aside0.mk (Kd.R_reok rfl hy0 (fun k_ e_ => HO_244000.out.1 k_ e_)); have n2_ := Aside0.mk (blk_kept (by (with_reducible repeat (first | refine blk_drewN ?_ _ | refine blk_drew ?_ | refine blk_alloc ?_ _)); exact BK235.out) hkp (fun hs_ => (fun e_ => (Kd.R_ne HO_244000.out BK235.out (by decide)) e_) hs_)); have n3_ := Aside0.mk (blk_kept (by (with_reducible repeat (first | refine blk_drewN ?_ _ | refine blk_drew ?_ | refine blk_alloc ?_ _)); exact BK243.out) hkp (fun hs_ => (fun e_ => (Kd.R_ne HO_244000.out BK243.out (by decide)) e_) hs_)); have n4_ := Aside0.mk (hb); clear HO_236000; clear HO_244000; clear BK235; clear BK243; clear HB; have HO_236000 := n0_; have HO_244000 := n1_; have BK235 := n2_; have BK243 := n3_; have HB := n4_; clear n0_ n1_ n2_ n3_ n4_; (try clear hb); (try clear hkp); (try clear hy0); have hcz81_0 : w80.cell? ⟨gb243, 0, none⟩ = some (.slice Ao12 t236.length co12) := (blk_cell BK243.out 0).trans rfl; have hcz81_1 : w80.cell? ⟨gb243, 1, none⟩ = some (.float .f32 t239) := (blk_cell BK243.out 1).trans rfl; have hcz81_2 : w80.cell? ⟨gb243, 2, none⟩ = some (.float .f32 t240) := (blk_cell BK243.out 2).trans rfl; have hcz81_3 : w80.cell? ⟨gb243, 3, none⟩ = some (.float .f32 t241) := (blk_cell BK243.out 3).trans rfl; have hfz81_0 := blk_frozen BK243.out 0; have hfz81_1 := blk_frozen BK243.out 1; have hfz81_2 := blk_frozen BK243.out 2; have hfz81_3 := blk_frozen BK243.out 3) | ((with_reducible refine gate_callee (f := 25) rfl ?_); refine goesL_ (some 38) rfl rfl Tryd.func25 (by kernel_rfl) rfl #[.agg #[.slice Ao12 t246.length co12, .float .f32 t239, .float .f32 t240, .float .f32 t241], .int .i64 1] rfl (by (try simp only [List.map_toArray, List.map_cons, List.map_nil]); first | done | (rw [show t246.length = t236.length from (Kd.R_reads' HO_244000.out).1.symm] <;> rfl) | rfl | (simp only [List.length_drop, List.length_take]; rfl)) ?_; (with_reducible refine (laws_heldTube.calls kj4 _ _ t246 t239 t240 t241 1 t247 _ ?side1 ?side2 A27.out).mono ?_); (case side1 => repeat (first | exact (Kd.R_reads' HO_244000.out).2.2 | (with_reducible refine Kd.C_alloc ?_ _) | (with_reducible refine Kd.C_drewN ?_ _) | (with_reducible refine Kd.C_drew ?_))); (case side2 => rw [show t246.length = t236.length from (Kd.R_reads' HO_244000.out).1.symm]; exact (Kd.R_reads' HO_244000.out).2.1); rintro e w82 ⟨rfl, hb⟩; refine ⟨_, rfl, ?_⟩; have n0_ := Aside0.mk (Kd.R_below (by (with_reducible repeat (first | apply Kd.R_alloc | apply Kd.R_drewN | apply Kd.R_drew)); exact HO_236000.out) hb); have n1_ := Aside0.mk (Kd.R_below (by (with_reducible repeat (first | apply Kd.R_alloc | apply Kd.R_drewN | apply Kd.R_drew)); exact HO_244000.out) hb); have n2_ := Aside0.mk (blk_below (g := gb235) (o := .cells #[.slice Ao8 t228.length co8, .float .f32 t231, .float .f32 t232, .float .f32 t233] 45 (0, 0)) (by (with_reducible repeat (first | refine blk_drewN ?_ _ | refine blk_drew ?_ | refine blk_alloc ?_ _)); exact BK235.out) hb); have n3_ := Aside0.mk (blk_below (g := gb243) (o := .cells #[.slice Ao12 t236.length co12, .float .f32 t239, .float .f32 t240, .float .f32 t241] 45 (0, 0)) (by (with_reducible repeat (first | refine blk_drewN ?_ _ | refine blk_drew ?_ | refine blk_alloc ?_ _)); exact BK243.out) hb); have n4_ := Aside0.mk (below_step (by repeat (first | (with_reducible first | exact HB.out | apply below_alloc | apply pw_below_drewN | apply below_drew1 | refine below_set ?_ GE235.out | refine below_set ?_ GE243.out) | exact HB.out)) hb); clear HO_236000; clear HO_244000; clear BK235; clear BK243; clear HB; have HO_236000 := n0_; have HO_244000 := n1_; have BK235 := n2_; have BK243 := n3_; have HB := n4_; clear n0_ n1_ n2_ n3_ n4_; (try clear hb); (try clear hb2); (try clear hk); (try clear hi)))
       go_ret
       exact ⟨by first | rfl | (simp [errW_none, errW_some] <;> rfl) | (simp [*, errW_none, errW_some] <;> rfl), by repeat (first | (with_reducible first | exact HB.out | apply below_alloc | apply pw_below_drewN | apply below_drew1 | refine below_set ?_ GE235.out | refine below_set ?_ GE243.out) | exact HB.out)⟩

/-- THE ONE PURE STATEMENT of laws_FnExactReadTube: yours. -/
def laws_FnExactReadTube.Pure : Prop := ∀ (a0 : ByteArray), a0.size ≤ 140737488351232 → ∃ k, laws_FnExactReadTube.f k a0 = some true
theorem laws_FnExactReadTube.walk (P : laws_FnExactReadTube.Pure) (a0 : ByteArray) (w : World) (w0 : a0.size ≤ 140737488351232) (hT_ : GLt w) :
  Calls Tryd.prog 6 #[.string a0] w fun e w' => e = .returned (.bool true) ∧ Below w.heap.size w w' := by
 obtain ⟨k, h⟩ := P a0 w0
 refine (laws_FnExactReadTube.calls k a0 true w hT_ h).mono ?_
 rintro e w' ⟨rfl, hd⟩
 exact ⟨rfl, hd⟩

end Go.Proofs.YtdfpfiecpcgffaaDoor.PFnExactReadTube
