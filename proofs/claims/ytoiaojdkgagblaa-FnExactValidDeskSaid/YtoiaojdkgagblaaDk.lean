import Derived.Test.YtoiaojdkgagblaaPFnExactValidDeskx0
import Derived.Lib.Hide
import Derived.Deep.RegionLaw
set_option linter.unusedVariables false
set_option linter.unusedSimpArgs false
namespace Go.Proofs.Ytoiaojdkgagblaa.PFnExactValidDesk
open Go.RowKit Go.Proofs.YtoiaojdkgagblaaW.PrintWords Go.Proofs.YtoiaojdkgagblaaW.PrintLast Go.Proofs.YtoiaojdkgagblaaW.PrintMore Go.Proofs.YtoiaojdkgagblaaW.PrintFl Go.Proofs.Ytoiaojdkgagblaa Go.Proofs.Ytoiaojdkgagblaa.PFnExactValidDesk
attribute [local go_sem] run_stf
theorem dk_bl {w w1 w2 : World} (h1 : Below w.heap.size w w1) (h2 : Below w1.heap.size w1 w2) : Below w.heap.size w w2 := h1.trans (h2.mono h1.size)
structure De where
  l0 : List Nat
  a1 : Nat
  a2 : Nat
  a3 : Nat
  a4 : Nat
  a5 : Nat
  a6 : Nat
  a7 : Nat
  a8 : Nat
  l9 : List Nat
  a10 : Nat
structure Pl where
  A0 : Option Addr
  c0 : Nat
  A9 : Option Addr
  c9 : Nat
  A11 : Option Addr
  c11 : Nat
abbrev dcs (d : De) (n : Nat) (p : Pl) : Array Value := #[.slice p.A0 d.l0.length p.c0, .float .f32 d.a1, .float .f32 d.a2, .float .f32 d.a3, .float .f32 d.a4, .float .f32 d.a5, .float .f32 d.a6, .float .f32 d.a7, .float .f32 d.a8, .slice p.A9 d.l9.length p.c9, .float .f32 d.a10, .slice p.A11 n p.c11]
abbrev FC (W : World) (A : Option Addr) (t : List Nat) : Prop := Kd.C (Kd.float .f32) W A t.length t
structure DR {α : Type} (K : Kd α) (W : World) (d : De) (I : List α) (p : Pl) : Prop where
  r0 : FC W p.A0 d.l0
  h0 : d.l0.length ≤ p.c0
  r9 : FC W p.A9 d.l9
  h9 : d.l9.length ≤ p.c9
  r11 : Kd.C K W p.A11 I.length I
  h11 : I.length ≤ p.c11
theorem DR.to {α : Type} {K : Kd α} {W W' : World} {d : De} {I : List α} {p : Pl} (h : DR K W d I p) (hb : Below W.heap.size W W') : DR K W' d I p := ⟨Kd.C_below h.r0 hb, h.h0, Kd.C_below h.r9 hb, h.h9, Kd.C_below h.r11 hb, h.h11⟩
abbrev bx (T : TypeId) (W : World) (g : Nat) (d : De) (n : Nat) (p : Pl) : Prop := W.heap[g]? = some (.cells (dcs d n p) T (0, 0))
theorem bx_cells {T : TypeId} {W : World} {g : Nat} {d : De} {n : Nat} {p : Pl} (h : bx T W g d n p) : W.cell? ⟨g, 0, none⟩ = some (.slice p.A0 d.l0.length p.c0) ∧ W.cell? ⟨g, 1, none⟩ = some (.float .f32 d.a1) ∧ W.cell? ⟨g, 2, none⟩ = some (.float .f32 d.a2) ∧ W.cell? ⟨g, 3, none⟩ = some (.float .f32 d.a3) ∧ W.cell? ⟨g, 4, none⟩ = some (.float .f32 d.a4) ∧ W.cell? ⟨g, 5, none⟩ = some (.float .f32 d.a5) ∧ W.cell? ⟨g, 6, none⟩ = some (.float .f32 d.a6) ∧ W.cell? ⟨g, 7, none⟩ = some (.float .f32 d.a7) ∧ W.cell? ⟨g, 8, none⟩ = some (.float .f32 d.a8) ∧ W.cell? ⟨g, 9, none⟩ = some (.slice p.A9 d.l9.length p.c9) ∧ W.cell? ⟨g, 10, none⟩ = some (.float .f32 d.a10) ∧ W.cell? ⟨g, 11, none⟩ = some (.slice p.A11 n p.c11) :=
  ⟨(blk_cell h 0).trans rfl, (blk_cell h 1).trans rfl, (blk_cell h 2).trans rfl, (blk_cell h 3).trans rfl, (blk_cell h 4).trans rfl, (blk_cell h 5).trans rfl, (blk_cell h 6).trans rfl, (blk_cell h 7).trans rfl, (blk_cell h 8).trans rfl, (blk_cell h 9).trans rfl, (blk_cell h 10).trans rfl, (blk_cell h 11).trans rfl⟩
structure Be (T : TypeId) (w : World) (d : De) (n : Nat) (p : Pl) (W : World) : Prop where
  below : Below w.heap.size w W
  bs : bx T W w.heap.size d n p
section
variable {T : TypeId} {w W W' : World} {d : De} {n : Nat} {p : Pl}
theorem Be.to (h : Be T w d n p W) (hb : Below W.heap.size W W') : Be T w d n p W' := ⟨dk_bl h.below hb, blk_below h.bs hb⟩
theorem Be.dr (h : Be T w d n p W) : Be T w d n p W.drew := h.to (below_drew (Below.refl _ _))
theorem Be.new (T : TypeId) (w : World) (d : De) (n : Nat) (p : Pl) : Be T w d n p (w.alloc (.cells (dcs d n p) T)) := ⟨below_alloc (Below.refl _ _) _, heap_alloc_new _ _⟩
end
abbrev Says (f : FuncId) (args : Array Value) (t : Bool) (w : World) : Prop := ∀ W, Below w.heap.size w W → Calls Try.prog f args W fun e w' => e = .returned (.bool t) ∧ Below W.heap.size W w'
theorem Says.up {f : FuncId} {args : Array Value} {t : Bool} {w w1 : World} (h : Says f args t w) (hb : Below w.heap.size w w1) : Says f args t w1 := fun W hW => h W (dk_bl hb hW)
set_option maxHeartbeats 16000000 in
set_option maxRecDepth 100000 in
theorem l8_walk (ad : Addr) (t1 t2 t3 t4 : Bool) (A : Option Addr) (n c : Nat) (w : World) (h1 : Says 180 #[.pointer (some ad)] t1 w) (h2 : Says 181 #[.pointer (some ⟨ad.block, ad.off + (3 + 1), none⟩)] t2 w) (h3 : Says 182 #[.pointer (some ⟨ad.block, ad.off + (8 + 1), none⟩)] t3 w) (hc : ∀ W, Below w.heap.size w W → W.cell? ⟨ad.block, ad.off + 11, none⟩ = some (.slice A n c)) (h4 : Says 98 #[.slice A n c] t4 w) :
    Calls Try.prog 132 #[.pointer (some ad)] w fun e w' => e = .returned (.bool (t1 && (t2 && (t3 && t4)))) ∧ Below w.heap.size w w' := by
  have H1 := Lib.hid h1
  have H2 := Lib.hid h2
  have H3 := Lib.hid h3
  have H4 := Lib.hid h4
  have HC := Lib.hid hc
  clear h1 h2 h3 h4 hc
  go_enter Try.func132, Try.ntmps132
  cases t1
  all_goals go_wp2_with (first | (go_at_call 180; (with_reducible refine (H1.out _ (Below.refl _ _)).mono ?_); rintro e w1 ⟨rfl, hb⟩; have HB1 := Lib.hid hb; clear hb))
  · go_ret
    exact ⟨rfl, HB1.out⟩
  cases t2
  all_goals go_wp2_with (first | (go_at_call 181; (with_reducible refine (H2.out _ HB1.out).mono ?_); rintro e w2 ⟨rfl, hb⟩; have HB2 := Lib.hid (dk_bl HB1.out hb); clear hb))
  · go_ret
    exact ⟨rfl, HB2.out⟩
  cases t3
  all_goals go_wp2_with (first | (go_at_call 182; (with_reducible refine (H3.out _ HB2.out).mono ?_); rintro e w3 ⟨rfl, hb⟩; have HB3 := Lib.hid (dk_bl HB2.out hb); have c3 := HC.out _ HB3.out; clear hb))
  · go_ret
    exact ⟨rfl, HB3.out⟩
  go_wp2_with (first | (go_at_call 98; (with_reducible refine (H4.out _ HB3.out).mono ?_); rintro e w4 ⟨rfl, hb⟩; have HB4 := Lib.hid (dk_bl HB3.out hb); clear hb))
  go_ret
  exact ⟨rfl, HB4.out⟩
set_option maxHeartbeats 16000000 in
set_option maxRecDepth 100000 in
theorem specVd_walk (d : De) (n : Nat) (p : Pl) (t : Bool) (w : World) (h : ∀ W g, Below w.heap.size w W → bx 78 W g d n p → Calls Try.prog 132 #[.pointer (some ⟨g, 0, none⟩)] W fun e w' => e = .returned (.bool t) ∧ Below W.heap.size W w') :
    Calls Try.prog 58 #[.agg #[.slice p.A0 d.l0.length p.c0, .float .f32 d.a1, .float .f32 d.a2, .float .f32 d.a3, .float .f32 d.a4, .float .f32 d.a5, .float .f32 d.a6, .float .f32 d.a7, .float .f32 d.a8, .slice p.A9 d.l9.length p.c9, .float .f32 d.a10, .slice p.A11 n p.c11]] w fun e w' => e = .returned (.bool t) ∧ Below w.heap.size w w' := by
  have H := Lib.hid h
  clear h
  go_enter Try.func58, Try.ntmps58
  go_wp2_with (first | (go_at_call 132; (with_reducible refine (H.out _ _ (Be.new 78 w d n p).below (Be.new 78 w d n p).bs).mono ?_); rintro e w1 ⟨rfl, hb⟩; have HB := Lib.hid (dk_bl (Be.new 78 w d n p).below hb); clear hb))
  go_ret
  exact ⟨rfl, HB.out⟩
set_option maxHeartbeats 16000000 in
set_option maxRecDepth 100000 in
theorem implVd_walk (d : De) (n : Nat) (p : Pl) (t1 t2 t3 t4 : Bool) (w : World) (h1 : Says 133 #[.agg #[.slice p.A0 d.l0.length p.c0, .float .f32 d.a1, .float .f32 d.a2, .float .f32 d.a3]] t1 w) (h2 : Says 134 #[.agg #[.float .f32 d.a4, .float .f32 d.a5, .float .f32 d.a6, .float .f32 d.a7, .float .f32 d.a8]] t2 w) (h3 : Says 135 #[.agg #[.slice p.A9 d.l9.length p.c9, .float .f32 d.a10]] t3 w) (h4 : Says 102 #[.slice p.A11 n p.c11] t4 w) :
    Calls Try.prog 59 #[.agg #[.slice p.A0 d.l0.length p.c0, .float .f32 d.a1, .float .f32 d.a2, .float .f32 d.a3, .float .f32 d.a4, .float .f32 d.a5, .float .f32 d.a6, .float .f32 d.a7, .float .f32 d.a8, .slice p.A9 d.l9.length p.c9, .float .f32 d.a10, .slice p.A11 n p.c11]] w fun e w' => e = .returned (.bool (t1 && (t2 && (t3 && t4)))) ∧ Below w.heap.size w w' := by
  have HN := Lib.hid (Be.new 78 w d n p)
  have H1 := Lib.hid h1
  have H2 := Lib.hid h2
  have H3 := Lib.hid h3
  have H4 := Lib.hid h4
  clear h1 h2 h3 h4
  go_enter Try.func59, Try.ntmps59
  cases t1
  all_goals go_wp2_with (first | (go_at_call 133; (with_reducible refine (H1.out _ HN.out.below).mono ?_); rintro e w1 ⟨rfl, hb⟩; have HB1 := Lib.hid (HN.out.to hb); obtain ⟨c0, c1, c2, c3, c4, c5, c6, c7, c8, c9, c10, c11⟩ := bx_cells HB1.out.bs; clear hb))
  · go_ret
    exact ⟨rfl, HB1.out.below⟩
  cases t2
  all_goals go_wp2_with (first | (go_at_call 134; (with_reducible refine (H2.out _ HB1.out.below).mono ?_); rintro e w2 ⟨rfl, hb⟩; have HB2 := Lib.hid (HB1.out.to hb); obtain ⟨e0, e1, e2, e3, e4, e5, e6, e7, e8, e9, e10, e11⟩ := bx_cells HB2.out.bs; clear hb))
  · go_ret
    exact ⟨rfl, HB2.out.below⟩
  cases t3
  all_goals go_wp2_with (first | (go_at_call 135; (with_reducible refine (H3.out _ HB2.out.below).mono ?_); rintro e w3 ⟨rfl, hb⟩; have HB3 := Lib.hid (HB2.out.to hb); obtain ⟨f0, f1, f2, f3, f4, f5, f6, f7, f8, f9, f10, f11⟩ := bx_cells HB3.out.bs; clear hb))
  · go_ret
    exact ⟨rfl, HB3.out.below⟩
  go_wp2_with (first | (go_at_call 102; (with_reducible refine (H4.out _ HB3.out.below).mono ?_); rintro e w4 ⟨rfl, hb⟩; have HB4 := Lib.hid (HB3.out.to hb); clear hb))
  go_ret
  exact ⟨rfl, HB4.out.below⟩
set_option maxHeartbeats 16000000 in
set_option maxRecDepth 100000 in
theorem vd_far {d : De} {n : Nat} {p : Pl} (z : Int) (w : World) (hz : z < 0) (h1 : ∀ W, Below w.heap.size w W → Calls Try.prog 54 #[.agg #[.slice p.A0 d.l0.length p.c0, .float .f32 d.a1, .float .f32 d.a2, .float .f32 d.a3, .float .f32 d.a4, .float .f32 d.a5, .float .f32 d.a6, .float .f32 d.a7, .float .f32 d.a8, .slice p.A9 d.l9.length p.c9, .float .f32 d.a10, .slice p.A11 n p.c11], .int .i64 1048576] W fun e w' => e = .returned (.int .i64 z) ∧ Below W.heap.size W w') :
    Calls Try.prog 11 #[.agg #[.slice p.A0 d.l0.length p.c0, .float .f32 d.a1, .float .f32 d.a2, .float .f32 d.a3, .float .f32 d.a4, .float .f32 d.a5, .float .f32 d.a6, .float .f32 d.a7, .float .f32 d.a8, .slice p.A9 d.l9.length p.c9, .float .f32 d.a10, .slice p.A11 n p.c11]] w fun e w' => e = .returned (.bool true) ∧ Below w.heap.size w w' := by
  have q1 : decide (z < 0) = true := decide_eq_true hz
  have HN := Lib.hid (Be.new 89 w d n p)
  have H1 := Lib.hid h1
  clear hz h1
  go_enter Try.func11, Try.ntmps11
  go_wp2_with (first | (go_at_call 54; (with_reducible refine (H1.out _ HN.out.below).mono ?_); rintro e w1 ⟨rfl, hb⟩; have HB1 := Lib.hid (HN.out.to hb); clear hb))
  go_ret
  exact ⟨rfl, HB1.out.below⟩
set_option maxHeartbeats 16000000 in
set_option maxRecDepth 100000 in
theorem vd_calls {α : Type} {K : Kd α} (d : De) (n : Nat) (p : Pl) (I : List α) (z : Int) (t : Bool) (w : World) (hz : ¬ z < 0) (h1 : ∀ W, Below w.heap.size w W → Calls Try.prog 54 #[.agg #[.slice p.A0 d.l0.length p.c0, .float .f32 d.a1, .float .f32 d.a2, .float .f32 d.a3, .float .f32 d.a4, .float .f32 d.a5, .float .f32 d.a6, .float .f32 d.a7, .float .f32 d.a8, .slice p.A9 d.l9.length p.c9, .float .f32 d.a10, .slice p.A11 n p.c11], .int .i64 1048576] W fun e w' => e = .returned (.int .i64 z) ∧ Below W.heap.size W w')
    (h2 : ∀ W, Below w.heap.size w W → Calls Try.prog 56 #[.agg #[.slice p.A0 d.l0.length p.c0, .float .f32 d.a1, .float .f32 d.a2, .float .f32 d.a3, .float .f32 d.a4, .float .f32 d.a5, .float .f32 d.a6, .float .f32 d.a7, .float .f32 d.a8, .slice p.A9 d.l9.length p.c9, .float .f32 d.a10, .slice p.A11 n p.c11]] W fun e w' => ∃ q : Pl, e = .returned (.agg #[.slice q.A0 d.l0.length q.c0, .float .f32 d.a1, .float .f32 d.a2, .float .f32 d.a3, .float .f32 d.a4, .float .f32 d.a5, .float .f32 d.a6, .float .f32 d.a7, .float .f32 d.a8, .slice q.A9 d.l9.length q.c9, .float .f32 d.a10, .slice q.A11 I.length q.c11]) ∧ DR K w' d I q ∧ Below W.heap.size W w')
    (h3 : ∀ W q, DR K W d I q → Calls Try.prog 58 #[.agg #[.slice q.A0 d.l0.length q.c0, .float .f32 d.a1, .float .f32 d.a2, .float .f32 d.a3, .float .f32 d.a4, .float .f32 d.a5, .float .f32 d.a6, .float .f32 d.a7, .float .f32 d.a8, .slice q.A9 d.l9.length q.c9, .float .f32 d.a10, .slice q.A11 I.length q.c11]] W fun e w' => e = .returned (.bool t) ∧ Below W.heap.size W w')
    (h4 : ∀ W q, DR K W d I q → Calls Try.prog 59 #[.agg #[.slice q.A0 d.l0.length q.c0, .float .f32 d.a1, .float .f32 d.a2, .float .f32 d.a3, .float .f32 d.a4, .float .f32 d.a5, .float .f32 d.a6, .float .f32 d.a7, .float .f32 d.a8, .slice q.A9 d.l9.length q.c9, .float .f32 d.a10, .slice q.A11 I.length q.c11]] W fun e w' => e = .returned (.bool t) ∧ Below W.heap.size W w')
    (h5 : ∀ W q r, DR K W d I q → DR K W d I r → Calls Try.prog 49 #[.agg #[.slice q.A0 d.l0.length q.c0, .float .f32 d.a1, .float .f32 d.a2, .float .f32 d.a3, .float .f32 d.a4, .float .f32 d.a5, .float .f32 d.a6, .float .f32 d.a7, .float .f32 d.a8, .slice q.A9 d.l9.length q.c9, .float .f32 d.a10, .slice q.A11 I.length q.c11], .agg #[.slice r.A0 d.l0.length r.c0, .float .f32 d.a1, .float .f32 d.a2, .float .f32 d.a3, .float .f32 d.a4, .float .f32 d.a5, .float .f32 d.a6, .float .f32 d.a7, .float .f32 d.a8, .slice r.A9 d.l9.length r.c9, .float .f32 d.a10, .slice r.A11 I.length r.c11]] W fun e w' => e = .returned (.bool true) ∧ Below W.heap.size W w') :
    Calls Try.prog 11 #[.agg #[.slice p.A0 d.l0.length p.c0, .float .f32 d.a1, .float .f32 d.a2, .float .f32 d.a3, .float .f32 d.a4, .float .f32 d.a5, .float .f32 d.a6, .float .f32 d.a7, .float .f32 d.a8, .slice p.A9 d.l9.length p.c9, .float .f32 d.a10, .slice p.A11 n p.c11]] w fun e w' => e = .returned (.bool true) ∧ Below w.heap.size w w' := by
  have q1 : decide (z < 0) = false := decide_eq_false hz
  have q2 : (t != t) = false := bne_self_eq_false _
  have HN := Lib.hid (Be.new 89 w d n p)
  have H1 := Lib.hid h1
  have H2 := Lib.hid h2
  have H3 := Lib.hid h3
  have H4 := Lib.hid h4
  have H5 := Lib.hid h5
  clear hz h1 h2 h3 h4 h5
  have M1 : True := trivial
  have M2 : True := trivial
  go_enter Try.func11, Try.ntmps11
  go_wp2_with (first
    | (go_at_call 54; (with_reducible refine (H1.out _ HN.out.below).mono ?_); rintro e w1 ⟨rfl, hb⟩; have HB1 := Lib.hid (HN.out.to hb); obtain ⟨c0, c1, c2, c3, c4, c5, c6, c7, c8, c9, c10, c11⟩ := bx_cells HB1.out.bs; clear hb)
    | (go_at_call 56; clear M1; (with_reducible refine (H2.out _ HB1.out.below).mono ?_); rintro e w2 ⟨q, rfl, hq, hb⟩; have HB2 := Lib.hid (HB1.out.to hb); have HQ := Lib.hid hq; clear hq hb)
    | (go_at_call 58; (with_reducible refine (H3.out _ q HQ.out).mono ?_); rintro e w3 ⟨rfl, hb⟩; have HB3 := Lib.hid (HB2.out.to hb); obtain ⟨e0, e1, e2, e3, e4, e5, e6, e7, e8, e9, e10, e11⟩ := bx_cells HB3.out.bs; clear hb)
    | (go_at_call 56; clear M2; (with_reducible refine (H2.out _ HB3.out.below).mono ?_); rintro e w4 ⟨r, rfl, hq, hb⟩; have HB4 := Lib.hid (HB3.out.to hb); have HR := Lib.hid hq; have HX := Lib.hid (Be.new 78 w4 d I.length r); clear hq hb)
    | (go_at_call 59; (with_reducible refine (H4.out _ r (HR.out.to HX.out.below)).mono ?_); rintro e w5 ⟨rfl, hb⟩; have HX5 := Lib.hid (HX.out.to hb); have HB5 := Lib.hid (HB4.out.to HX5.out.below); obtain ⟨f0, f1, f2, f3, f4, f5, f6, f7, f8, f9, f10, f11⟩ := bx_cells HB5.out.bs; obtain ⟨g0, g1, g2, g3, g4, g5, g6, g7, g8, g9, g10, g11⟩ := bx_cells HX5.out.bs; clear hb))
  go_region_law (go_simp; go_wp2_with (first
    | (go_at_call 56; (with_reducible refine (H2.out _ HB5.out.dr.below).mono ?_); rintro e w6 ⟨s, rfl, hq, hb⟩; have HB6 := Lib.hid (HB5.out.dr.to hb); have HX6 := Lib.hid (HX5.out.dr.to hb); have HS := Lib.hid hq; obtain ⟨h0, h1, h2, h3, h4, h5, h6, h7, h8, h9, h10, h11⟩ := bx_cells HX6.out.bs; clear hq hb)
    | (go_at_call 49; (with_reducible refine (H5.out _ r s (HR.out.to HX6.out.below) HS.out).mono ?_); rintro e w7 ⟨rfl, hb⟩; have HB7 := Lib.hid (HB6.out.to hb); clear hb)))
  all_goals
    go_wp2
    go_ret
    exact ⟨rfl, HB7.out.below⟩
end Go.Proofs.Ytoiaojdkgagblaa.PFnExactValidDesk
