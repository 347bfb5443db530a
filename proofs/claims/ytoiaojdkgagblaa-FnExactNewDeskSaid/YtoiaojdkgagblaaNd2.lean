/- impl.NewDesk by hand. -/
import Derived.Test.YtoiaojdkgagblaaNd
set_option linter.unusedVariables false
set_option linter.unusedSimpArgs false
namespace Go.Proofs.Ytoiaojdkgagblaa.Nd
open Go.RowKit Go.Proofs.YtoiaojdkgagblaaW.PrintWords Go.Proofs.YtoiaojdkgagblaaW.PrintFl Go.Proofs.Ytoiaojdkgagblaa Go.Proofs.Ytoiaojdkgagblaa.Rep
attribute [local go_sem] run_stf
abbrev half : Array Value := #[.float .f32 1056964608]
theorem sets12 {w W : World} (h : Bx1 78 w #[.slice none 0 0, .float .f32 0, .float .f32 0, .float .f32 0, .float .f32 0, .float .f32 0, .float .f32 0, .float .f32 0, .float .f32 0, .slice none 0 0, .float .f32 0, .slice none 0 0] W) (v0 v1 v2 v3 v4 v5 v6 v7 v8 v9 v10 v11 : Value) : (((((((((((((W.setCell ⟨w.heap.size, 0, none⟩ v0).setCell ⟨w.heap.size, 1, none⟩ v1).setCell ⟨w.heap.size, 2, none⟩ v2).setCell ⟨w.heap.size, 3, none⟩ v3).setCell ⟨w.heap.size, 4, none⟩ v4).setCell ⟨w.heap.size, 5, none⟩ v5).setCell ⟨w.heap.size, 6, none⟩ v6).setCell ⟨w.heap.size, 7, none⟩ v7).setCell ⟨w.heap.size, 8, none⟩ v8).setCell ⟨w.heap.size, 9, none⟩ v9).setCell ⟨w.heap.size, 10, none⟩ v10).setCell ⟨w.heap.size, 11, none⟩ v11)).heap[w.heap.size]? = some (.cells #[v0, v1, v2, v3, v4, v5, v6, v7, v8, v9, v10, v11] 78 (0, 0)) ∧ Below w.heap.size w (((((((((((((W.setCell ⟨w.heap.size, 0, none⟩ v0).setCell ⟨w.heap.size, 1, none⟩ v1).setCell ⟨w.heap.size, 2, none⟩ v2).setCell ⟨w.heap.size, 3, none⟩ v3).setCell ⟨w.heap.size, 4, none⟩ v4).setCell ⟨w.heap.size, 5, none⟩ v5).setCell ⟨w.heap.size, 6, none⟩ v6).setCell ⟨w.heap.size, 7, none⟩ v7).setCell ⟨w.heap.size, 8, none⟩ v8).setCell ⟨w.heap.size, 9, none⟩ v9).setCell ⟨w.heap.size, 10, none⟩ v10).setCell ⟨w.heap.size, 11, none⟩ v11)) ∧ ∀ b, w.heap.size ≠ b → (((((((((((((W.setCell ⟨w.heap.size, 0, none⟩ v0).setCell ⟨w.heap.size, 1, none⟩ v1).setCell ⟨w.heap.size, 2, none⟩ v2).setCell ⟨w.heap.size, 3, none⟩ v3).setCell ⟨w.heap.size, 4, none⟩ v4).setCell ⟨w.heap.size, 5, none⟩ v5).setCell ⟨w.heap.size, 6, none⟩ v6).setCell ⟨w.heap.size, 7, none⟩ v7).setCell ⟨w.heap.size, 8, none⟩ v8).setCell ⟨w.heap.size, 9, none⟩ v9).setCell ⟨w.heap.size, 10, none⟩ v10).setCell ⟨w.heap.size, 11, none⟩ v11)).heap[b]? = W.heap[b]? := by
  refine ⟨?_, ?_, fun b hb => ?_⟩
  · refine blk_put (cs := #[v0, v1, v2, v3, v4, v5, v6, v7, v8, v9, v10, .slice none 0 0]) ?_ 11 _ rfl
    refine blk_put (cs := #[v0, v1, v2, v3, v4, v5, v6, v7, v8, v9, .float .f32 0, .slice none 0 0]) ?_ 10 _ rfl
    refine blk_put (cs := #[v0, v1, v2, v3, v4, v5, v6, v7, v8, .slice none 0 0, .float .f32 0, .slice none 0 0]) ?_ 9 _ rfl
    refine blk_put (cs := #[v0, v1, v2, v3, v4, v5, v6, v7, .float .f32 0, .slice none 0 0, .float .f32 0, .slice none 0 0]) ?_ 8 _ rfl
    refine blk_put (cs := #[v0, v1, v2, v3, v4, v5, v6, .float .f32 0, .float .f32 0, .slice none 0 0, .float .f32 0, .slice none 0 0]) ?_ 7 _ rfl
    refine blk_put (cs := #[v0, v1, v2, v3, v4, v5, .float .f32 0, .float .f32 0, .float .f32 0, .slice none 0 0, .float .f32 0, .slice none 0 0]) ?_ 6 _ rfl
    refine blk_put (cs := #[v0, v1, v2, v3, v4, .float .f32 0, .float .f32 0, .float .f32 0, .float .f32 0, .slice none 0 0, .float .f32 0, .slice none 0 0]) ?_ 5 _ rfl
    refine blk_put (cs := #[v0, v1, v2, v3, .float .f32 0, .float .f32 0, .float .f32 0, .float .f32 0, .float .f32 0, .slice none 0 0, .float .f32 0, .slice none 0 0]) ?_ 4 _ rfl
    refine blk_put (cs := #[v0, v1, v2, .float .f32 0, .float .f32 0, .float .f32 0, .float .f32 0, .float .f32 0, .float .f32 0, .slice none 0 0, .float .f32 0, .slice none 0 0]) ?_ 3 _ rfl
    refine blk_put (cs := #[v0, v1, .float .f32 0, .float .f32 0, .float .f32 0, .float .f32 0, .float .f32 0, .float .f32 0, .float .f32 0, .slice none 0 0, .float .f32 0, .slice none 0 0]) ?_ 2 _ rfl
    refine blk_put (cs := #[v0, .float .f32 0, .float .f32 0, .float .f32 0, .float .f32 0, .float .f32 0, .float .f32 0, .float .f32 0, .float .f32 0, .slice none 0 0, .float .f32 0, .slice none 0 0]) ?_ 1 _ rfl
    refine blk_put (cs := #[.slice none 0 0, .float .f32 0, .float .f32 0, .float .f32 0, .float .f32 0, .float .f32 0, .float .f32 0, .float .f32 0, .float .f32 0, .slice none 0 0, .float .f32 0, .slice none 0 0]) ?_ 0 _ rfl
    exact h.r
  · have hl : w.heap.size ≤ w.heap.size := Nat.le_refl _
    refine Below.setCell ?_ hl _
    refine Below.setCell ?_ hl _
    refine Below.setCell ?_ hl _
    refine Below.setCell ?_ hl _
    refine Below.setCell ?_ hl _
    refine Below.setCell ?_ hl _
    refine Below.setCell ?_ hl _
    refine Below.setCell ?_ hl _
    refine Below.setCell ?_ hl _
    refine Below.setCell ?_ hl _
    refine Below.setCell ?_ hl _
    refine Below.setCell ?_ hl _
    exact h.below
  · refine (blk_other hb _).trans ?_
    refine (blk_other hb _).trans ?_
    refine (blk_other hb _).trans ?_
    refine (blk_other hb _).trans ?_
    refine (blk_other hb _).trans ?_
    refine (blk_other hb _).trans ?_
    refine (blk_other hb _).trans ?_
    refine (blk_other hb _).trans ?_
    refine (blk_other hb _).trans ?_
    refine (blk_other hb _).trans ?_
    refine (blk_other hb _).trans ?_
    refine (blk_other hb _).trans ?_
    rfl
theorem lit_atT (w1 : World) (cs : Array Value) : Below w1.heap.size w1 (w1.alloc (.cells cs 72)) ∧ (w1.alloc (.cells cs 72)).heap[w1.heap.size]? = some (.cells cs 72 (0, 0)) := ⟨below_alloc (Below.refl _ _) _, heap_alloc_new _ _⟩
set_option maxHeartbeats 8000000 in
set_option maxRecDepth 100000 in
theorem new_walk (w : World) (hE : ∀ W, Below w.heap.size w W → Calls Try.prog 107 #[.int .i64 4, .float .f32 1065353216] W fun e w' => ∃ b, e = .returned (.tuple #[.agg #[.slice (some ⟨b, 0, none⟩) 4 4, .float .f32 1065353216, .float .f32 1061158912, .float .f32 3210739712], .bool true]) ∧ Blk W b ones w' ∧ W.heap.size < b ∧ Below W.heap.size W w') :
    Calls Try.prog 48 #[] w fun e w' => ∃ b b2, e = .returned (.agg #[.slice (some ⟨b, 0, none⟩) 4 4, .float .f32 1065353216, .float .f32 1061158912, .float .f32 3210739712, .float .f32 1090519040, .float .f32 1048576000, .float .f32 1048576000, .float .f32 0, .float .f32 0, .slice (some ⟨b2, 0, none⟩) 1 1, .float .f32 1065353216, .slice none 0 0]) ∧ Blk w b ones w' ∧ Blk w b2 half w' ∧ b ≠ b2 ∧ Below w.heap.size w w' := by
  have HN := Lib.hid (Bx1.new 78 w #[.slice none 0 0, .float .f32 0, .float .f32 0, .float .f32 0, .float .f32 0, .float .f32 0, .float .f32 0, .float .f32 0, .float .f32 0, .slice none 0 0, .float .f32 0, .slice none 0 0])
  have HE := Lib.hid hE
  clear hE
  go_enter Try.func48, Try.ntmps48
  go_wp2_with (first
    | (go_at_call 107; (with_reducible refine (HE.out _ HN.out.below).mono ?_); rintro e w1 ⟨b, rfl, hk, hlt, hb⟩; have H1 := Lib.hid (HN.out.to hb); have HK := Lib.hid hk; have HL := Lib.hid hlt
       have H2 := Lib.hid (show Bx1 78 w #[.slice none 0 0, .float .f32 0, .float .f32 0, .float .f32 0, .float .f32 0, .float .f32 0, .float .f32 0, .float .f32 0, .float .f32 0, .slice none 0 0, .float .f32 0, .slice none 0 0] ((w1.alloc (.cells #[.slice (some ⟨b, 0, none⟩) 4 4, .float .f32 1065353216, .float .f32 1061158912, .float .f32 3210739712] 72)).alloc (.cells #[.float .f32 1056964608] 36)) from (H1.out.to (lit_atT w1 _).1).to (lit_at _ _).1)
       have d0 : ((w1.alloc (.cells #[.slice (some ⟨b, 0, none⟩) 4 4, .float .f32 1065353216, .float .f32 1061158912, .float .f32 3210739712] 72)).alloc (.cells #[.float .f32 1056964608] 36)).cell? ⟨w.heap.size, 0, none⟩ = some (.slice none 0 0) := (blk_cell H2.out.r 0).trans rfl
       have f0 : ((w1.alloc (.cells #[.slice (some ⟨b, 0, none⟩) 4 4, .float .f32 1065353216, .float .f32 1061158912, .float .f32 3210739712] 72)).alloc (.cells #[.float .f32 1056964608] 36)).frozen? ⟨w.heap.size, 0, none⟩ = false := blk_frozen H2.out.r 0
       have d1 : ((w1.alloc (.cells #[.slice (some ⟨b, 0, none⟩) 4 4, .float .f32 1065353216, .float .f32 1061158912, .float .f32 3210739712] 72)).alloc (.cells #[.float .f32 1056964608] 36)).cell? ⟨w.heap.size, 1, none⟩ = some (.float .f32 0) := (blk_cell H2.out.r 1).trans rfl
       have f1 : ((w1.alloc (.cells #[.slice (some ⟨b, 0, none⟩) 4 4, .float .f32 1065353216, .float .f32 1061158912, .float .f32 3210739712] 72)).alloc (.cells #[.float .f32 1056964608] 36)).frozen? ⟨w.heap.size, 1, none⟩ = false := blk_frozen H2.out.r 1
       have d2 : ((w1.alloc (.cells #[.slice (some ⟨b, 0, none⟩) 4 4, .float .f32 1065353216, .float .f32 1061158912, .float .f32 3210739712] 72)).alloc (.cells #[.float .f32 1056964608] 36)).cell? ⟨w.heap.size, 2, none⟩ = some (.float .f32 0) := (blk_cell H2.out.r 2).trans rfl
       have f2 : ((w1.alloc (.cells #[.slice (some ⟨b, 0, none⟩) 4 4, .float .f32 1065353216, .float .f32 1061158912, .float .f32 3210739712] 72)).alloc (.cells #[.float .f32 1056964608] 36)).frozen? ⟨w.heap.size, 2, none⟩ = false := blk_frozen H2.out.r 2
       have d3 : ((w1.alloc (.cells #[.slice (some ⟨b, 0, none⟩) 4 4, .float .f32 1065353216, .float .f32 1061158912, .float .f32 3210739712] 72)).alloc (.cells #[.float .f32 1056964608] 36)).cell? ⟨w.heap.size, 3, none⟩ = some (.float .f32 0) := (blk_cell H2.out.r 3).trans rfl
       have f3 : ((w1.alloc (.cells #[.slice (some ⟨b, 0, none⟩) 4 4, .float .f32 1065353216, .float .f32 1061158912, .float .f32 3210739712] 72)).alloc (.cells #[.float .f32 1056964608] 36)).frozen? ⟨w.heap.size, 3, none⟩ = false := blk_frozen H2.out.r 3
       have d4 : ((w1.alloc (.cells #[.slice (some ⟨b, 0, none⟩) 4 4, .float .f32 1065353216, .float .f32 1061158912, .float .f32 3210739712] 72)).alloc (.cells #[.float .f32 1056964608] 36)).cell? ⟨w.heap.size, 4, none⟩ = some (.float .f32 0) := (blk_cell H2.out.r 4).trans rfl
       have f4 : ((w1.alloc (.cells #[.slice (some ⟨b, 0, none⟩) 4 4, .float .f32 1065353216, .float .f32 1061158912, .float .f32 3210739712] 72)).alloc (.cells #[.float .f32 1056964608] 36)).frozen? ⟨w.heap.size, 4, none⟩ = false := blk_frozen H2.out.r 4
       have d5 : ((w1.alloc (.cells #[.slice (some ⟨b, 0, none⟩) 4 4, .float .f32 1065353216, .float .f32 1061158912, .float .f32 3210739712] 72)).alloc (.cells #[.float .f32 1056964608] 36)).cell? ⟨w.heap.size, 5, none⟩ = some (.float .f32 0) := (blk_cell H2.out.r 5).trans rfl
       have f5 : ((w1.alloc (.cells #[.slice (some ⟨b, 0, none⟩) 4 4, .float .f32 1065353216, .float .f32 1061158912, .float .f32 3210739712] 72)).alloc (.cells #[.float .f32 1056964608] 36)).frozen? ⟨w.heap.size, 5, none⟩ = false := blk_frozen H2.out.r 5
       have d6 : ((w1.alloc (.cells #[.slice (some ⟨b, 0, none⟩) 4 4, .float .f32 1065353216, .float .f32 1061158912, .float .f32 3210739712] 72)).alloc (.cells #[.float .f32 1056964608] 36)).cell? ⟨w.heap.size, 6, none⟩ = some (.float .f32 0) := (blk_cell H2.out.r 6).trans rfl
       have f6 : ((w1.alloc (.cells #[.slice (some ⟨b, 0, none⟩) 4 4, .float .f32 1065353216, .float .f32 1061158912, .float .f32 3210739712] 72)).alloc (.cells #[.float .f32 1056964608] 36)).frozen? ⟨w.heap.size, 6, none⟩ = false := blk_frozen H2.out.r 6
       have d7 : ((w1.alloc (.cells #[.slice (some ⟨b, 0, none⟩) 4 4, .float .f32 1065353216, .float .f32 1061158912, .float .f32 3210739712] 72)).alloc (.cells #[.float .f32 1056964608] 36)).cell? ⟨w.heap.size, 7, none⟩ = some (.float .f32 0) := (blk_cell H2.out.r 7).trans rfl
       have f7 : ((w1.alloc (.cells #[.slice (some ⟨b, 0, none⟩) 4 4, .float .f32 1065353216, .float .f32 1061158912, .float .f32 3210739712] 72)).alloc (.cells #[.float .f32 1056964608] 36)).frozen? ⟨w.heap.size, 7, none⟩ = false := blk_frozen H2.out.r 7
       have d8 : ((w1.alloc (.cells #[.slice (some ⟨b, 0, none⟩) 4 4, .float .f32 1065353216, .float .f32 1061158912, .float .f32 3210739712] 72)).alloc (.cells #[.float .f32 1056964608] 36)).cell? ⟨w.heap.size, 8, none⟩ = some (.float .f32 0) := (blk_cell H2.out.r 8).trans rfl
       have f8 : ((w1.alloc (.cells #[.slice (some ⟨b, 0, none⟩) 4 4, .float .f32 1065353216, .float .f32 1061158912, .float .f32 3210739712] 72)).alloc (.cells #[.float .f32 1056964608] 36)).frozen? ⟨w.heap.size, 8, none⟩ = false := blk_frozen H2.out.r 8
       have d9 : ((w1.alloc (.cells #[.slice (some ⟨b, 0, none⟩) 4 4, .float .f32 1065353216, .float .f32 1061158912, .float .f32 3210739712] 72)).alloc (.cells #[.float .f32 1056964608] 36)).cell? ⟨w.heap.size, 9, none⟩ = some (.slice none 0 0) := (blk_cell H2.out.r 9).trans rfl
       have f9 : ((w1.alloc (.cells #[.slice (some ⟨b, 0, none⟩) 4 4, .float .f32 1065353216, .float .f32 1061158912, .float .f32 3210739712] 72)).alloc (.cells #[.float .f32 1056964608] 36)).frozen? ⟨w.heap.size, 9, none⟩ = false := blk_frozen H2.out.r 9
       have d10 : ((w1.alloc (.cells #[.slice (some ⟨b, 0, none⟩) 4 4, .float .f32 1065353216, .float .f32 1061158912, .float .f32 3210739712] 72)).alloc (.cells #[.float .f32 1056964608] 36)).cell? ⟨w.heap.size, 10, none⟩ = some (.float .f32 0) := (blk_cell H2.out.r 10).trans rfl
       have f10 : ((w1.alloc (.cells #[.slice (some ⟨b, 0, none⟩) 4 4, .float .f32 1065353216, .float .f32 1061158912, .float .f32 3210739712] 72)).alloc (.cells #[.float .f32 1056964608] 36)).frozen? ⟨w.heap.size, 10, none⟩ = false := blk_frozen H2.out.r 10
       have d11 : ((w1.alloc (.cells #[.slice (some ⟨b, 0, none⟩) 4 4, .float .f32 1065353216, .float .f32 1061158912, .float .f32 3210739712] 72)).alloc (.cells #[.float .f32 1056964608] 36)).cell? ⟨w.heap.size, 11, none⟩ = some (.slice none 0 0) := (blk_cell H2.out.r 11).trans rfl
       have f11 : ((w1.alloc (.cells #[.slice (some ⟨b, 0, none⟩) 4 4, .float .f32 1065353216, .float .f32 1061158912, .float .f32 3210739712] 72)).alloc (.cells #[.float .f32 1056964608] 36)).frozen? ⟨w.heap.size, 11, none⟩ = false := blk_frozen H2.out.r 11
       clear hb hk hlt))
  have hS := sets12 H2.out (.slice (some ⟨b, 0, none⟩) 4 4) (.float .f32 1065353216) (.float .f32 1061158912) (.float .f32 3210739712) (.float .f32 1090519040) (.float .f32 1048576000) (.float .f32 1048576000) (.float .f32 0) (.float .f32 0) (.slice (some ⟨w1.heap.size + 1, 0, none⟩) 1 1) (.float .f32 1065353216) (.slice none 0 0)
  refine bodyPost_ret (results_cell_row rfl _ _ w.heap.size 78 #[.slice (some ⟨b, 0, none⟩) 4 4, .float .f32 1065353216, .float .f32 1061158912, .float .f32 3210739712, .float .f32 1090519040, .float .f32 1048576000, .float .f32 1048576000, .float .f32 0, .float .f32 0, .slice (some ⟨w1.heap.size + 1, 0, none⟩) 1 1, .float .f32 1065353216, .slice none 0 0] (0, 0) _ rfl hS.1 Try.underlying78 rfl (by kernel_rfl)) rfl ?_
  have hl : w.heap.size ≤ w.heap.size := Nat.le_refl _
  have hb0 : w.heap.size < b := Nat.lt_of_le_of_lt HN.out.below.size HL.out
  have hb1 : b < w1.heap.size := blk_lt HK.out.at_
  have hs1 : w.heap.size ≤ w1.heap.size := H1.out.below.size
  have hz : (w1.alloc (.cells #[.slice (some ⟨b, 0, none⟩) 4 4, .float .f32 1065353216, .float .f32 1061158912, .float .f32 3210739712] 72)).heap.size = w1.heap.size + 1 := Array.size_push ..
  have hk2 : ((w1.alloc (.cells #[.slice (some ⟨b, 0, none⟩) 4 4, .float .f32 1065353216, .float .f32 1061158912, .float .f32 3210739712] 72)).alloc (.cells #[.float .f32 1056964608] 36)).heap[b]? = some (.cells ones 36 (0, 0)) := blk_below (blk_below HK.out.at_ (lit_atT w1 _).1) (lit_at _ _).1
  have hh2 : ((w1.alloc (.cells #[.slice (some ⟨b, 0, none⟩) 4 4, .float .f32 1065353216, .float .f32 1061158912, .float .f32 3210739712] 72)).alloc (.cells #[.float .f32 1056964608] 36)).heap[w1.heap.size + 1]? = some (.cells half 36 (0, 0)) := by have h_ := (lit_at (w1.alloc (.cells #[.slice (some ⟨b, 0, none⟩) 4 4, .float .f32 1065353216, .float .f32 1061158912, .float .f32 3210739712] 72)) half).2; rwa [hz] at h_
  exact ⟨b, w1.heap.size + 1, rfl, ⟨(hS.2.2 b (by omega)).trans hk2, by omega⟩, ⟨(hS.2.2 (w1.heap.size + 1) (by omega)).trans hh2, by omega⟩, by omega, hS.2.1⟩
end Go.Proofs.Ytoiaojdkgagblaa.Nd
