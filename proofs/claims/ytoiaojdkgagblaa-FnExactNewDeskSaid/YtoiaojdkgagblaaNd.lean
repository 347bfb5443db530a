/- impl.EvenTube at (4, 1), impl.NewDesk by hand. -/
import Derived.Test.YtoiaojdkgagblaaRep
set_option linter.unusedVariables false
set_option linter.unusedSimpArgs false
namespace Go.Proofs.Ytoiaojdkgagblaa.Nd
open Go.RowKit Go.Proofs.YtoiaojdkgagblaaW.PrintWords Go.Proofs.YtoiaojdkgagblaaW.PrintFl Go.Proofs.Ytoiaojdkgagblaa Go.Proofs.Ytoiaojdkgagblaa.Rep
attribute [local go_sem] run_stf
theorem bl {w w1 w2 : World} (h1 : Below w.heap.size w w1) (h2 : Below w1.heap.size w1 w2) : Below w.heap.size w w2 := h1.trans (h2.mono h1.size)
abbrev ones : Array Value := #[.float .f32 1065353216, .float .f32 1065353216, .float .f32 1065353216, .float .f32 1065353216]
/-- a block of this call's own with these cells -/
structure Blk (w : World) (b : Nat) (cs : Array Value) (W : World) : Prop where
  at_ : W.heap[b]? = some (.cells cs 36 (0, 0))
  new : w.heap.size ≤ b
theorem Blk.to {w W W' : World} {b : Nat} {cs : Array Value} (h : Blk w b cs W) (hb : Below W.heap.size W W') : Blk w b cs W' := ⟨blk_below h.at_ hb, h.new⟩
/-- the parameter's and the result's boxes -/
structure Bx2 (w : World) (P R : Array Value) (W : World) : Prop where
  below : Below w.heap.size w W
  p : W.heap[w.heap.size]? = some (.cells P 72 (0, 0))
  r : W.heap[w.heap.size + 1]? = some (.cells R 72 (0, 0))
theorem Bx2.to {w W W' : World} {P R : Array Value} (h : Bx2 w P R W) (hb : Below W.heap.size W W') : Bx2 w P R W' := ⟨bl h.below hb, blk_below h.p hb, blk_below h.r hb⟩
theorem Bx2.new (w : World) (P R : Array Value) : Bx2 w P R ((w.alloc (.cells P 72)).alloc (.cells R 72)) := by
  have hb : Below (w.alloc (.cells P 72)).heap.size (w.alloc (.cells P 72)) ((w.alloc (.cells P 72)).alloc (.cells R 72)) := below_alloc (Below.refl _ _) _
  have hs : (w.alloc (.cells P 72)).heap.size = w.heap.size + 1 := Array.size_push ..
  have h2 := heap_alloc_new (w.alloc (.cells P 72)) (.cells R 72)
  rw [hs] at h2
  exact ⟨bl (below_alloc (Below.refl _ _) _) hb, blk_below (heap_alloc_new w _) hb, h2⟩
set_option maxHeartbeats 8000000 in
set_option maxRecDepth 100000 in
theorem checked_walk (b : Nat) (w : World) (hV : Says 133 #[.agg #[.slice (some ⟨b, 0, none⟩) 4 4, .float .f32 1065353216, .float .f32 1061158912, .float .f32 3210739712]] (.bool true) w) :
    Calls Try.prog 172 #[.agg #[.slice (some ⟨b, 0, none⟩) 4 4, .float .f32 1065353216, .float .f32 1061158912, .float .f32 3210739712]] w fun e w' => e = .returned (.tuple #[.agg #[.slice (some ⟨b, 0, none⟩) 4 4, .float .f32 1065353216, .float .f32 1061158912, .float .f32 3210739712], .bool true]) ∧ Below w.heap.size w w' := by
  have HV := Lib.hid hV
  clear hV
  have HN := Lib.hid (Bx2.new w #[.slice (some ⟨b, 0, none⟩) 4 4, .float .f32 1065353216, .float .f32 1061158912, .float .f32 3210739712] #[.slice none 0 0, .float .f32 0, .float .f32 0, .float .f32 0])
  go_enter Try.func172, Try.ntmps172
  go_wp2_with (first
   | (go_at_call 133; (with_reducible refine (HV.out _ HN.out.below).mono ?_); rintro e w1 ⟨rfl, hb⟩; have H1 := Lib.hid (HN.out.to hb)
      have c0 : w1.cell? ⟨w.heap.size, 0, none⟩ = some (.slice (some ⟨b, 0, none⟩) 4 4) := (blk_cell H1.out.p 0).trans rfl
      have c1 : w1.cell? ⟨w.heap.size, 1, none⟩ = some (.float .f32 1065353216) := (blk_cell H1.out.p 1).trans rfl
      have c2 : w1.cell? ⟨w.heap.size, 2, none⟩ = some (.float .f32 1061158912) := (blk_cell H1.out.p 2).trans rfl
      have c3 : w1.cell? ⟨w.heap.size, 3, none⟩ = some (.float .f32 3210739712) := (blk_cell H1.out.p 3).trans rfl
      have d0 : w1.cell? ⟨w.heap.size + 1, 0, none⟩ = some (.slice none 0 0) := (blk_cell H1.out.r 0).trans rfl
      have d1 : w1.cell? ⟨w.heap.size + 1, 1, none⟩ = some (.float .f32 0) := (blk_cell H1.out.r 1).trans rfl
      have d2 : w1.cell? ⟨w.heap.size + 1, 2, none⟩ = some (.float .f32 0) := (blk_cell H1.out.r 2).trans rfl
      have d3 : w1.cell? ⟨w.heap.size + 1, 3, none⟩ = some (.float .f32 0) := (blk_cell H1.out.r 3).trans rfl
      have f0 := blk_frozen H1.out.r 0
      have f1 := blk_frozen H1.out.r 1
      have f2 := blk_frozen H1.out.r 2
      have f3 := blk_frozen H1.out.r 3
      clear hb))
  refine bodyPost_ret (results_ct rfl _ _ (w.heap.size + 1) 72 #[.slice (some ⟨b, 0, none⟩) 4 4, .float .f32 1065353216, .float .f32 1061158912, .float .f32 3210739712] (0, 0) _ rfl (by
    refine blk_put (cs := #[.slice (some ⟨b, 0, none⟩) 4 4, .float .f32 1065353216, .float .f32 1061158912, .float .f32 0]) ?_ 3 _ rfl
    refine blk_put (cs := #[.slice (some ⟨b, 0, none⟩) 4 4, .float .f32 1065353216, .float .f32 0, .float .f32 0]) ?_ 2 _ rfl
    refine blk_put (cs := #[.slice (some ⟨b, 0, none⟩) 4 4, .float .f32 0, .float .f32 0, .float .f32 0]) ?_ 1 _ rfl
    refine blk_put (cs := #[.slice none 0 0, .float .f32 0, .float .f32 0, .float .f32 0]) ?_ 0 _ rfl
    exact H1.out.r) Try.underlying72 rfl (by kernel_rfl)) rfl ?_
  have hl : w.heap.size ≤ w.heap.size + 1 := Nat.le_succ _
  exact ⟨rfl, by repeat (first | exact H1.out.below | refine Below.setCell ?_ hl _)⟩
/-- Repeat's call: behind a literal of one element -/
theorem rep_at {w w1 : World} (hM : Says 202 #[.int .u64 1, .int .u64 4] (.tuple #[.int .u64 0, .int .u64 4]) w) (h1 : Below w.heap.size w w1) {g : Nat} (W : World) (hW : Below w1.heap.size w1 W) (hg : W.heap[g]? = some (.cells #[.float .f32 1065353216] 36 (0, 0))) :
    Calls Try.prog 173 #[.slice (some ⟨g, 0, none⟩) 1 1, .int .i64 4] W fun e w' => ∃ b, e = .returned (.slice (some ⟨b, 0, none⟩) 4 4) ∧ Blk w b ones w' ∧ Below w.heap.size w w' := by
  have hb := bl h1 hW
  refine (rep_walk g 1065353216 W ((blk_cell hg 0).trans rfl) (fun W2 h2 => hM W2 (bl hb h2))).mono ?_
  rintro e w' ⟨b, rfl, hk, hn, hb2⟩
  exact ⟨b, rfl, ⟨hk, Nat.le_trans hb.size hn⟩, bl hb hb2⟩
theorem chk_at {w w2 : World} {b : Nat} (hV : ∀ W b, Below w.heap.size w W → Blk w b ones W → Calls Try.prog 133 #[.agg #[.slice (some ⟨b, 0, none⟩) 4 4, .float .f32 1065353216, .float .f32 1061158912, .float .f32 3210739712]] W fun e w' => e = .returned (.bool true) ∧ Below W.heap.size W w') (h2 : Below w.heap.size w w2) (hk : Blk w b ones w2) (W : World) (hW : Below w2.heap.size w2 W) :
    Calls Try.prog 172 #[.agg #[.slice (some ⟨b, 0, none⟩) 4 4, .float .f32 1065353216, .float .f32 1061158912, .float .f32 3210739712]] W fun e w' => e = .returned (.tuple #[.agg #[.slice (some ⟨b, 0, none⟩) 4 4, .float .f32 1065353216, .float .f32 1061158912, .float .f32 3210739712], .bool true]) ∧ Blk w b ones w' ∧ Below w.heap.size w w' := by
  have hb := bl h2 hW
  refine (checked_walk b W (fun W3 h3 => hV W3 b (bl hb h3) ((hk.to hW).to h3))).mono ?_
  rintro e w' ⟨rfl, hb3⟩
  exact ⟨rfl, (hk.to hW).to hb3, bl hb hb3⟩
theorem lit_at (w1 : World) (cs : Array Value) : Below w1.heap.size w1 (w1.alloc (.cells cs 36)) ∧ (w1.alloc (.cells cs 36)).heap[w1.heap.size]? = some (.cells cs 36 (0, 0)) := ⟨below_alloc (Below.refl _ _) _, heap_alloc_new _ _⟩
theorem blk_lt {w : World} {g : Nat} {o : Obj} (h : w.heap[g]? = some o) : g < w.heap.size := (Array.getElem?_eq_some_iff.1 h).1
theorem blk_other {w : World} {g b j : Nat} (h : g ≠ b) (v : Value) : (w.setCell ⟨g, j, none⟩ v).heap[b]? = w.heap[b]? := Below.heap_setCell w ⟨g, j, none⟩ v b (by simpa using Ne.symm h)
/-- the result's box -/
structure Bx1 (T : TypeId) (w : World) (R : Array Value) (W : World) : Prop where
  below : Below w.heap.size w W
  r : W.heap[w.heap.size]? = some (.cells R T (0, 0))
theorem Bx1.to {T : TypeId} {w W W' : World} {R : Array Value} (h : Bx1 T w R W) (hb : Below W.heap.size W W') : Bx1 T w R W' := ⟨bl h.below hb, blk_below h.r hb⟩
theorem Bx1.new (T : TypeId) (w : World) (R : Array Value) : Bx1 T w R (w.alloc (.cells R T)) := ⟨below_alloc (Below.refl _ _) _, heap_alloc_new _ _⟩
set_option maxHeartbeats 8000000 in
set_option maxRecDepth 100000 in
theorem even_walk (w : World) (hW : Says 81 #[.int .i64 4, .int .i64 1, .int .i64 16] (.bool true) w) (hR : ∀ W g, Below w.heap.size w W → W.heap[g]? = some (.cells #[.float .f32 1065353216] 36 (0, 0)) → Calls Try.prog 173 #[.slice (some ⟨g, 0, none⟩) 1 1, .int .i64 4] W fun e w' => ∃ b, e = .returned (.slice (some ⟨b, 0, none⟩) 4 4) ∧ Blk W b ones w' ∧ Below W.heap.size W w') (hV : ∀ W b, Below w.heap.size w W → Blk w b ones W → Calls Try.prog 172 #[.agg #[.slice (some ⟨b, 0, none⟩) 4 4, .float .f32 1065353216, .float .f32 1061158912, .float .f32 3210739712]] W fun e w' => e = .returned (.tuple #[.agg #[.slice (some ⟨b, 0, none⟩) 4 4, .float .f32 1065353216, .float .f32 1061158912, .float .f32 3210739712], .bool true]) ∧ Below W.heap.size W w') :
    Calls Try.prog 107 #[.int .i64 4, .float .f32 1065353216] w fun e w' => ∃ b, e = .returned (.tuple #[.agg #[.slice (some ⟨b, 0, none⟩) 4 4, .float .f32 1065353216, .float .f32 1061158912, .float .f32 3210739712], .bool true]) ∧ Blk w b ones w' ∧ w.heap.size < b ∧ Below w.heap.size w w' := by
  have HN := Lib.hid (Bx1.new 72 w #[.slice none 0 0, .float .f32 0, .float .f32 0, .float .f32 0])
  have HW := Lib.hid hW
  have HR := Lib.hid hR
  have HV := Lib.hid hV
  clear hW hR hV
  go_enter Try.func107, Try.ntmps107
  go_wp2_with (first
    | (go_at_call 81; (with_reducible refine (HW.out _ HN.out.below).mono ?_); rintro e w1 ⟨rfl, hb⟩; have H1 := Lib.hid (HN.out.to hb); have HL := Lib.hid (lit_at w1 #[.float .f32 1065353216]); clear hb)
    | (go_at_call 173; (with_reducible refine (HR.out _ _ (bl H1.out.below HL.out.1) HL.out.2).mono ?_); rintro e w2 ⟨b, rfl, hk, hb⟩; have H2 := Lib.hid ((H1.out.to HL.out.1).to hb); have HK := Lib.hid (show Blk w b ones w2 ∧ w.heap.size < b from ⟨⟨hk.at_, Nat.le_trans (bl H1.out.below HL.out.1).size hk.new⟩, Nat.lt_of_lt_of_le (blk_lt H1.out.r) (Nat.le_trans HL.out.1.size hk.new)⟩); clear hb hk)
    | (go_at_call 172; (with_reducible refine (HV.out _ b H2.out.below HK.out.1).mono ?_); rintro e w3 ⟨rfl, hb⟩; have H3 := Lib.hid (H2.out.to hb); have HK3 := Lib.hid (HK.out.1.to hb)
       have d0 : w3.cell? ⟨w.heap.size, 0, none⟩ = some (.slice none 0 0) := (blk_cell H3.out.r 0).trans rfl
       have d1 : w3.cell? ⟨w.heap.size, 1, none⟩ = some (.float .f32 0) := (blk_cell H3.out.r 1).trans rfl
       have d2 : w3.cell? ⟨w.heap.size, 2, none⟩ = some (.float .f32 0) := (blk_cell H3.out.r 2).trans rfl
       have d3 : w3.cell? ⟨w.heap.size, 3, none⟩ = some (.float .f32 0) := (blk_cell H3.out.r 3).trans rfl
       have f0 := blk_frozen H3.out.r 0
       have f1 := blk_frozen H3.out.r 1
       have f2 := blk_frozen H3.out.r 2
       have f3 := blk_frozen H3.out.r 3
       clear hb))
  refine bodyPost_ret (results_ct rfl _ _ w.heap.size 72 #[.slice (some ⟨b, 0, none⟩) 4 4, .float .f32 1065353216, .float .f32 1061158912, .float .f32 3210739712] (0, 0) _ rfl (by
    refine blk_put (cs := #[.slice (some ⟨b, 0, none⟩) 4 4, .float .f32 1065353216, .float .f32 1061158912, .float .f32 0]) ?_ 3 _ rfl
    refine blk_put (cs := #[.slice (some ⟨b, 0, none⟩) 4 4, .float .f32 1065353216, .float .f32 0, .float .f32 0]) ?_ 2 _ rfl
    refine blk_put (cs := #[.slice (some ⟨b, 0, none⟩) 4 4, .float .f32 0, .float .f32 0, .float .f32 0]) ?_ 1 _ rfl
    refine blk_put (cs := #[.slice none 0 0, .float .f32 0, .float .f32 0, .float .f32 0]) ?_ 0 _ rfl
    exact H3.out.r) Try.underlying72 rfl (by kernel_rfl)) rfl ?_
  have hl : w.heap.size ≤ w.heap.size := Nat.le_refl _
  have hne := HK.out.2
  exact ⟨b, rfl, ⟨by repeat (first | exact HK3.out.at_ | refine (blk_other (by omega) _).trans ?_), HK3.out.new⟩, hne, by repeat (first | exact H3.out.below | refine Below.setCell ?_ hl _)⟩
end Go.Proofs.Ytoiaojdkgagblaa.Nd
