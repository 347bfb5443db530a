/- laws.markDesk, laws.heldDesk by hand, at a desk without sounds. -/
import Derived.Test.YtoiaojdkgagblaaNd2
set_option linter.unusedVariables false
set_option linter.unusedSimpArgs false
namespace Go.Proofs.Ytoiaojdkgagblaa.Nd
open Go.RowKit Go.Proofs.YtoiaojdkgagblaaW.PrintWords Go.Proofs.YtoiaojdkgagblaaW.PrintFl Go.Proofs.Ytoiaojdkgagblaa Go.Proofs.Ytoiaojdkgagblaa.Rep
attribute [local go_sem] run_stf
theorem markS_nil (a : Int) (w : World) : Calls Try.prog 45 #[.slice none 0 0, .int .i64 a] w fun e w' => e = .returned (.int .i64 a) ∧ Below w.heap.size w w' := by
  go_enter Try.func45, Try.ntmps45
  go_wp2
  refine wp_loop_rounds 1 ?_
  rw [rounds_succ]
  go_wp2
  go_ret
  exact ⟨rfl, Below.refl _ _⟩
theorem heldS_nil (a : Int) (w : World) : Calls Try.prog 46 #[.slice none 0 0, .int .i64 a] w fun e w' => e = .returned (.int .i64 a) ∧ Below w.heap.size w w' := by
  go_enter Try.func46, Try.ntmps46
  go_wp2
  refine wp_loop_rounds 1 ?_
  rw [rounds_succ]
  go_wp2
  go_ret
  exact ⟨rfl, Below.refl _ _⟩
theorem dk_cells {W : World} {g : Nat} {b b2 : Nat} (h : W.heap[g]? = some (.cells #[.slice (some ⟨b, 0, none⟩) 4 4, .float .f32 1065353216, .float .f32 1061158912, .float .f32 3210739712, .float .f32 1090519040, .float .f32 1048576000, .float .f32 1048576000, .float .f32 0, .float .f32 0, .slice (some ⟨b2, 0, none⟩) 1 1, .float .f32 1065353216, .slice none 0 0] 78 (0, 0))) : W.cell? ⟨g, 0, none⟩ = some (.slice (some ⟨b, 0, none⟩) 4 4) ∧ W.cell? ⟨g, 1, none⟩ = some (.float .f32 1065353216) ∧ W.cell? ⟨g, 2, none⟩ = some (.float .f32 1061158912) ∧ W.cell? ⟨g, 3, none⟩ = some (.float .f32 3210739712) ∧ W.cell? ⟨g, 4, none⟩ = some (.float .f32 1090519040) ∧ W.cell? ⟨g, 5, none⟩ = some (.float .f32 1048576000) ∧ W.cell? ⟨g, 6, none⟩ = some (.float .f32 1048576000) ∧ W.cell? ⟨g, 7, none⟩ = some (.float .f32 0) ∧ W.cell? ⟨g, 8, none⟩ = some (.float .f32 0) ∧ W.cell? ⟨g, 9, none⟩ = some (.slice (some ⟨b2, 0, none⟩) 1 1) ∧ W.cell? ⟨g, 10, none⟩ = some (.float .f32 1065353216) ∧ W.cell? ⟨g, 11, none⟩ = some (.slice none 0 0) := ⟨(blk_cell h 0).trans rfl, (blk_cell h 1).trans rfl, (blk_cell h 2).trans rfl, (blk_cell h 3).trans rfl, (blk_cell h 4).trans rfl, (blk_cell h 5).trans rfl, (blk_cell h 6).trans rfl, (blk_cell h 7).trans rfl, (blk_cell h 8).trans rfl, (blk_cell h 9).trans rfl, (blk_cell h 10).trans rfl, (blk_cell h 11).trans rfl⟩
set_option maxHeartbeats 4000000 in
set_option maxRecDepth 100000 in
theorem markD_walk (b b2 : Nat) (w : World) (k1 k2 : Int) (S0 S1 S2 S3 : World → Prop) (h0 : S0 (w.alloc (.cells #[.slice (some ⟨b, 0, none⟩) 4 4, .float .f32 1065353216, .float .f32 1061158912, .float .f32 3210739712, .float .f32 1090519040, .float .f32 1048576000, .float .f32 1048576000, .float .f32 0, .float .f32 0, .slice (some ⟨b2, 0, none⟩) 1 1, .float .f32 1065353216, .slice none 0 0] 78))) (h1 : ∀ W, S0 W → Calls Try.prog 111 #[.agg #[.slice (some ⟨b, 0, none⟩) 4 4, .float .f32 1065353216, .float .f32 1061158912, .float .f32 3210739712], .int .i64 1] W fun e w' => e = .returned (.int .i64 k1) ∧ S1 w') (hb1 : ∀ W, S1 W → W.heap[w.heap.size]? = some (.cells #[.slice (some ⟨b, 0, none⟩) 4 4, .float .f32 1065353216, .float .f32 1061158912, .float .f32 3210739712, .float .f32 1090519040, .float .f32 1048576000, .float .f32 1048576000, .float .f32 0, .float .f32 0, .slice (some ⟨b2, 0, none⟩) 1 1, .float .f32 1065353216, .slice none 0 0] 78 (0, 0)))
    (h2 : ∀ W, S1 W → Calls Try.prog 112 #[.agg #[.slice (some ⟨b2, 0, none⟩) 1 1, .float .f32 1065353216], .int .i64 k1] W fun e w' => e = .returned (.int .i64 k2) ∧ S2 w') (hb2 : ∀ W, S2 W → W.heap[w.heap.size]? = some (.cells #[.slice (some ⟨b, 0, none⟩) 4 4, .float .f32 1065353216, .float .f32 1061158912, .float .f32 3210739712, .float .f32 1090519040, .float .f32 1048576000, .float .f32 1048576000, .float .f32 0, .float .f32 0, .slice (some ⟨b2, 0, none⟩) 1 1, .float .f32 1065353216, .slice none 0 0] 78 (0, 0))) (h3 : ∀ W W', S2 W → Below W.heap.size W W' → S3 W') :
    Calls Try.prog 50 #[.agg #[.slice (some ⟨b, 0, none⟩) 4 4, .float .f32 1065353216, .float .f32 1061158912, .float .f32 3210739712, .float .f32 1090519040, .float .f32 1048576000, .float .f32 1048576000, .float .f32 0, .float .f32 0, .slice (some ⟨b2, 0, none⟩) 1 1, .float .f32 1065353216, .slice none 0 0], .int .i64 1] w fun e w' => e = .returned (.int .i64 k2) ∧ S3 w' := by
  have H1 := Lib.hid h1
  have H2 := Lib.hid h2
  have H3 := Lib.hid h3
  have HB1 := Lib.hid hb1
  have HB2 := Lib.hid hb2
  have HS := Lib.hid h0
  clear h0 h1 h2 h3 hb1 hb2
  go_enter Try.func50, Try.ntmps50
  go_wp2_with (first
    | (go_at_call 111; (with_reducible refine (H1.out _ HS.out).mono ?_); rintro e w1 ⟨rfl, hs⟩; have HS1 := Lib.hid hs; obtain ⟨c0, c1, c2, c3, c4, c5, c6, c7, c8, c9, c10, c11⟩ := dk_cells (HB1.out _ hs); clear hs)
    | (go_at_call 112; (with_reducible refine (H2.out _ HS1.out).mono ?_); rintro e w2 ⟨rfl, hs⟩; have HS2 := Lib.hid hs; obtain ⟨d0, d1, d2, d3, d4, d5, d6, d7, d8, d9, d10, d11⟩ := dk_cells (HB2.out _ hs); clear hs)
    | (go_at_call 45; (with_reducible refine (markS_nil k2 _).mono ?_); rintro e w3 ⟨rfl, hb⟩; have HS3 := Lib.hid (H3.out _ _ HS2.out hb); clear hb))
  go_ret
  exact ⟨rfl, HS3.out⟩
set_option maxHeartbeats 4000000 in
set_option maxRecDepth 100000 in
theorem heldD_walk (b b2 : Nat) (w : World) (k1 k2 : Int) (g1 : 0 ≤ k1) (g2 : 0 ≤ k2) (h1 : ∀ W, Below w.heap.size w W → Calls Try.prog 113 #[.agg #[.slice (some ⟨b, 0, none⟩) 4 4, .float .f32 1065353216, .float .f32 1061158912, .float .f32 3210739712], .int .i64 1] W fun e w' => e = .returned (.int .i64 k1) ∧ Below W.heap.size W w')
    (h2 : ∀ W, Below w.heap.size w W → Calls Try.prog 114 #[.agg #[.slice (some ⟨b2, 0, none⟩) 1 1, .float .f32 1065353216], .int .i64 k1] W fun e w' => e = .returned (.int .i64 k2) ∧ Below W.heap.size W w') :
    Calls Try.prog 51 #[.agg #[.slice (some ⟨b, 0, none⟩) 4 4, .float .f32 1065353216, .float .f32 1061158912, .float .f32 3210739712, .float .f32 1090519040, .float .f32 1048576000, .float .f32 1048576000, .float .f32 0, .float .f32 0, .slice (some ⟨b2, 0, none⟩) 1 1, .float .f32 1065353216, .slice none 0 0], .int .i64 1] w fun e w' => e = .returned (.int .i64 k2) ∧ Below w.heap.size w w' := by
  have q1 : decide (k1 < 0) = false := decide_eq_false (by omega)
  have q2 : decide (k2 < 0) = false := decide_eq_false (by omega)
  have HN := Lib.hid (Bx1.new 78 w #[.slice (some ⟨b, 0, none⟩) 4 4, .float .f32 1065353216, .float .f32 1061158912, .float .f32 3210739712, .float .f32 1090519040, .float .f32 1048576000, .float .f32 1048576000, .float .f32 0, .float .f32 0, .slice (some ⟨b2, 0, none⟩) 1 1, .float .f32 1065353216, .slice none 0 0])
  have H1 := Lib.hid h1
  have H2 := Lib.hid h2
  clear h1 h2 g1 g2
  go_enter Try.func51, Try.ntmps51
  go_wp2_with (first
    | (go_at_call 113; (with_reducible refine (H1.out _ HN.out.below).mono ?_); rintro e w1 ⟨rfl, hb⟩; have HB1 := Lib.hid (HN.out.to hb); obtain ⟨c0, c1, c2, c3, c4, c5, c6, c7, c8, c9, c10, c11⟩ := dk_cells HB1.out.r; clear hb)
    | (go_at_call 114; (with_reducible refine (H2.out _ HB1.out.below).mono ?_); rintro e w2 ⟨rfl, hb⟩; have HB2 := Lib.hid (HB1.out.to hb); obtain ⟨d0, d1, d2, d3, d4, d5, d6, d7, d8, d9, d10, d11⟩ := dk_cells HB2.out.r; clear hb)
    | (go_at_call 46; (with_reducible refine (heldS_nil k2 _).mono ?_); rintro e w3 ⟨rfl, hb⟩; have HB3 := Lib.hid (HB2.out.to hb); clear hb))
  go_ret
  exact ⟨rfl, HB3.out.below⟩
end Go.Proofs.Ytoiaojdkgagblaa.Nd
