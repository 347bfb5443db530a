/- NewDesk: the contracts put in (under way). -/
import Derived.Test.YtoiaojdkgagblaaNd5
import Derived.Test.YtoiaojdkgagblaaPFnExactNewDeskx
set_option linter.unusedVariables false
set_option linter.unusedSimpArgs false
namespace Go.Proofs.Ytoiaojdkgagblaa.Nd
open Go.RowKit Go.Proofs.YtoiaojdkgagblaaW.PrintWords Go.Proofs.YtoiaojdkgagblaaW.PrintFl Go.Proofs.Ytoiaojdkgagblaa Go.Proofs.Ytoiaojdkgagblaa.Rep Go.Proofs.Ytoiaojdkgagblaa.PFnExactNewDesk
theorem drawn_below {w w' : World} (h : Drawn0 w w') : Below w.heap.size w w' := by
  obtain ⟨n, rfl⟩ := h
  exact pw_below_drewN (Below.refl _ _) n
theorem even_f : spec_l02Even.f 20 4 1065353216 = some (fourL, 1065353216, 1061158912, 3210739712) := by
  first | rfl | decide +kernel | kernel_rfl
theorem valid_f : impl_ValidTube.f 20 fourL 1065353216 1061158912 3210739712 = some true := by
  first | rfl | decide +kernel | kernel_rfl
theorem within_f : impl_within.f 4 1 16 = some true := by
  first | rfl | decide +kernel
theorem spec_even (W : World) : Calls Try.prog 106 #[.int .i64 4, .float .f32 1065353216] W fun e w' => ∃ A c, e = .returned (.agg #[.slice A 4 c, .float .f32 1065353216, .float .f32 1061158912, .float .f32 3210739712]) ∧ FR w' W.heap.size (fun _ => True) (.slice A 4 c) fourL ∧ Below W.heap.size W w' := by
  refine (spec_l02Even.calls 20 4 1065353216 fourL _ _ _ W even_f).mono ?_
  rintro e w' ⟨v, rfl, hr, hb⟩
  obtain ⟨A, c, rfl⟩ := Kd.R_slice hr
  exact ⟨A, c, rfl, hr, hb⟩
theorem valid_at (b : Nat) {w W : World} (h : Blk w b ones W) : Calls Try.prog 133 #[.agg #[.slice (some ⟨b, 0, none⟩) 4 4, .float .f32 1065353216, .float .f32 1061158912, .float .f32 3210739712]] W fun e w' => e = .returned (.bool true) ∧ Below W.heap.size W w' := by
  have hr : FR W w.heap.size (fun _ => True) (.slice (some ⟨b, 0, none⟩) 4 4) fourL := blk_row h rfl (by decide) trivial
  exact impl_ValidTube.calls 20 (some ⟨b, 0, none⟩) 4 fourL 1065353216 1061158912 3210739712 true W (Kd.R_reads' hr).2.2 (Nat.le_refl _) valid_f
theorem mul_f : bits_Mul.f 1 4 = some (0, 4) := by
  first | rfl | decide +kernel | kernel_rfl
theorem impl_new (W : World) : Calls Try.prog 48 #[] W fun e w' => ∃ b b2, e = .returned (.agg #[.slice (some ⟨b, 0, none⟩) 4 4, .float .f32 1065353216, .float .f32 1061158912, .float .f32 3210739712, .float .f32 1090519040, .float .f32 1048576000, .float .f32 1048576000, .float .f32 0, .float .f32 0, .slice (some ⟨b2, 0, none⟩) 1 1, .float .f32 1065353216, .slice none 0 0]) ∧ Blk W b ones w' ∧ Blk W b2 half w' ∧ b ≠ b2 ∧ Below W.heap.size W w' := by
  refine new_walk W (fun W1 h1 => even_walk W1 (fun W2 h2 => ?_) (fun W2 g h2 hg => ?_) (fun W2 b h2 hb => ?_))
  · refine (impl_within.calls 4 1 16 true W2 within_f).mono ?_
    rintro e w' ⟨he, hd⟩
    exact ⟨he, drawn_below hd⟩
  · refine (rep_walk g 1065353216 W2 ((blk_cell hg 0).trans rfl) (fun W3 h3 => ?_)).mono ?_
    · refine (bits_Mul.calls 1 4 0 4 W3 mul_f).mono ?_
      rintro e w' ⟨he, hd⟩
      exact ⟨he, drawn_below hd⟩
    · rintro e w' ⟨b, he, hk, hn, hb⟩
      exact ⟨b, he, ⟨hk, hn⟩, hb⟩
  · exact checked_walk b W2 (fun W3 h3 => valid_at b (hb.to h3))
theorem spec_new (W : World) : Calls Try.prog 47 #[] W fun e w' => ∃ A c e2 m, e = .returned (.agg #[.slice A 4 c, .float .f32 1065353216, .float .f32 1061158912, .float .f32 3210739712, .float .f32 1090519040, .float .f32 1048576000, .float .f32 1048576000, .float .f32 0, .float .f32 0, .slice (some ⟨e2, 0, none⟩) 1 1, .float .f32 1065353216, .slice (some ⟨m, 0, none⟩) 0 0]) ∧ FR w' W.heap.size (fun _ => True) (.slice A 4 c) fourL ∧ Blk W e2 half w' ∧ Below W.heap.size W w' :=
  snew_walk W (fun W1 _ => spec_even W1)
theorem eq_f : laws_eqDesk.f 20 fourL 1065353216 1061158912 3210739712 1090519040 1048576000 1048576000 0 0 halfL 1065353216 [] fourL 1065353216 1061158912 3210739712 1090519040 1048576000 1048576000 0 0 halfL 1065353216 [] = some true := by
  unfold laws_eqDesk.f laws_eqTube.f laws_eqThroat.f laws_eqPredictor.f
  rw [if_pos (by decide), if_pos (by decide), if_pos (by decide)]
  rfl
theorem eq_at (W : World) (A : Option Addr) (c e2 m b b2 : Nat) {B : Nat} {o1 o2 o3 o4 : Nat → Prop} (h1 : FR W B o1 (.slice A 4 c) fourL) (h2 : FR W B o2 (.slice (some ⟨e2, 0, none⟩) 1 1) halfL) (h3 : FR W B o3 (.slice (some ⟨b, 0, none⟩) 4 4) fourL) (h4 : FR W B o4 (.slice (some ⟨b2, 0, none⟩) 1 1) halfL) :
    Calls Try.prog 49 #[.agg #[.slice (some ⟨b, 0, none⟩) 4 4, .float .f32 1065353216, .float .f32 1061158912, .float .f32 3210739712, .float .f32 1090519040, .float .f32 1048576000, .float .f32 1048576000, .float .f32 0, .float .f32 0, .slice (some ⟨b2, 0, none⟩) 1 1, .float .f32 1065353216, .slice none 0 0], .agg #[.slice A 4 c, .float .f32 1065353216, .float .f32 1061158912, .float .f32 3210739712, .float .f32 1090519040, .float .f32 1048576000, .float .f32 1048576000, .float .f32 0, .float .f32 0, .slice (some ⟨e2, 0, none⟩) 1 1, .float .f32 1065353216, .slice (some ⟨m, 0, none⟩) 0 0]] W fun e w' => e = .returned (.bool true) ∧ Below W.heap.size W w' :=
  laws_eqDesk.calls 20 (some ⟨b, 0, none⟩) 4 fourL 1065353216 1061158912 3210739712 1090519040 1048576000 1048576000 0 0 (some ⟨b2, 0, none⟩) 1 halfL 1065353216 none 0 [] A c fourL 1065353216 1061158912 3210739712 1090519040 1048576000 1048576000 0 0 (some ⟨e2, 0, none⟩) 1 halfL 1065353216 (some ⟨m, 0, none⟩) 0 [] true W (Kd.R_reads' h3).2.2 (Nat.le_refl _) (Kd.R_reads' h4).2.2 (Nat.le_refl _) ⟨rfl, by decide, fun h => absurd h (by simp)⟩ (Nat.le_refl _) (Kd.R_reads' h1).2.2 (Kd.R_reads' h1).2.1 (Kd.R_reads' h2).2.2 (Nat.le_refl _) ⟨rfl, by decide, fun h => absurd h (by simp)⟩ (Nat.le_refl _) eq_f
abbrev m4 : List Nat := [1065353216, 1073741824, 1077936128, 1082130432]
abbrev m1 : List Nat := [1084227584]
theorem markT_f : laws_markTube.f 20 fourL 1065353216 1061158912 3210739712 1 = some (5, m4) := by
  first | rfl | decide +kernel | kernel_rfl
theorem markP_f : laws_markPredictor.f 20 halfL 1065353216 5 = some (6, m1) := by
  first | rfl | decide +kernel | kernel_rfl
theorem heldT_f : laws_heldTube.f 20 m4 1065353216 1061158912 3210739712 1 = some 5 := by
  first | rfl | decide +kernel | kernel_rfl
theorem heldP_f : laws_heldPredictor.f 20 m1 1065353216 5 = some 6 := by
  first | rfl | decide +kernel | kernel_rfl
theorem row_own {W : World} {B b n c : Nat} {ok : Nat → Prop} {xs : List Nat} (h : FR W B ok (.slice (some ⟨b, 0, none⟩) n c) xs) : FR W B (fun k => k = b) (.slice (some ⟨b, 0, none⟩) n c) xs := ⟨fun k hk => by injection hk with hk; exact hk.symm, h.2.imp_ (fun _ _ hp => hp)⟩
theorem kept_blk {W W' : World} {g : Nat} {o : Obj} {P : Nat → Prop} (h : W.heap[g]? = some o) (hk : Kept W W' P) (hg : ¬ P g) : W'.heap[g]? = some o := (hk.2 g (blk_lt h) hg).trans h
section
variable {w W : World} {p1 p2 b b2 : Nat} {A : Option Addr} {c e2 m : Nat}
theorem mark_at (h : Nw w p1 p2 b b2 A c e2 m fourL halfL W) : Calls Try.prog 50 #[.agg #[.slice (some ⟨b, 0, none⟩) 4 4, .float .f32 1065353216, .float .f32 1061158912, .float .f32 3210739712, .float .f32 1090519040, .float .f32 1048576000, .float .f32 1048576000, .float .f32 0, .float .f32 0, .slice (some ⟨b2, 0, none⟩) 1 1, .float .f32 1065353216, .slice none 0 0], .int .i64 1] W fun e w' => e = .returned (.int .i64 6) ∧ Nw w p1 p2 b b2 A c e2 m m4 m1 w' := by
  have hl := blk_lt h.box1
  have ha := lit_atD W #[.slice (some ⟨b, 0, none⟩) 4 4, .float .f32 1065353216, .float .f32 1061158912, .float .f32 3210739712, .float .f32 1090519040, .float .f32 1048576000, .float .f32 1048576000, .float .f32 0, .float .f32 0, .slice (some ⟨b2, 0, none⟩) 1 1, .float .f32 1065353216, .slice none 0 0]
  refine markD_walk b b2 W 5 6 (fun X => Nw w p1 p2 b b2 A c e2 m fourL halfL X ∧ X.heap[W.heap.size]? = some (.cells #[.slice (some ⟨b, 0, none⟩) 4 4, .float .f32 1065353216, .float .f32 1061158912, .float .f32 3210739712, .float .f32 1090519040, .float .f32 1048576000, .float .f32 1048576000, .float .f32 0, .float .f32 0, .slice (some ⟨b2, 0, none⟩) 1 1, .float .f32 1065353216, .slice none 0 0] 78 (0, 0))) (fun X => Nw w p1 p2 b b2 A c e2 m m4 halfL X ∧ X.heap[W.heap.size]? = some (.cells #[.slice (some ⟨b, 0, none⟩) 4 4, .float .f32 1065353216, .float .f32 1061158912, .float .f32 3210739712, .float .f32 1090519040, .float .f32 1048576000, .float .f32 1048576000, .float .f32 0, .float .f32 0, .slice (some ⟨b2, 0, none⟩) 1 1, .float .f32 1065353216, .slice none 0 0] 78 (0, 0))) (fun X => Nw w p1 p2 b b2 A c e2 m m4 m1 X ∧ X.heap[W.heap.size]? = some (.cells #[.slice (some ⟨b, 0, none⟩) 4 4, .float .f32 1065353216, .float .f32 1061158912, .float .f32 3210739712, .float .f32 1090519040, .float .f32 1048576000, .float .f32 1048576000, .float .f32 0, .float .f32 0, .slice (some ⟨b2, 0, none⟩) 1 1, .float .f32 1065353216, .slice none 0 0] 78 (0, 0))) (fun X => Nw w p1 p2 b b2 A c e2 m m4 m1 X) ⟨h.to ha.1, ha.2⟩ (fun X hX => ?_) (fun X hX => hX.2) (fun X hX => ?_) (fun X hX => hX.2) (fun X X' hX hb => hX.1.to hb)
  · refine (laws_markTube.calls 20 (fun k => k = b) (.slice (some ⟨b, 0, none⟩) 4 4) fourL 1065353216 1061158912 3210739712 1 5 m4 w X hX.1.below hX.1.rb markT_f).mono ?_
    rintro e w' ⟨he, hr, hb, hk⟩
    obtain ⟨q1, q2, q3, q4, q5⟩ : p1 < b ∧ p1 < b2 ∧ b ≠ b2 ∧ b < p2 ∧ b2 < p2 := ⟨h.q1, h.q2, h.q3, h.q4, h.q5⟩
    exact ⟨he, ⟨hb, Kd.R_kept hX.1.ra hk (fun k h1 h2 => by omega), Kd.R_kept hX.1.rh hk (fun k h1 h2 => by omega), kept_blk hX.1.box0 hk (by omega), row_own hr, Kd.R_kept hX.1.rb2 hk (fun k h1 h2 => by omega), kept_blk hX.1.box1 hk (by omega), q1, q2, q3, q4, q5⟩, kept_blk hX.2 hk (by omega)⟩
  · refine (laws_markPredictor.calls 20 (fun k => k = b2) (.slice (some ⟨b2, 0, none⟩) 1 1) halfL 1065353216 5 6 m1 w X hX.1.below hX.1.rb2 markP_f).mono ?_
    rintro e w' ⟨he, hr, hb, hk⟩
    obtain ⟨q1, q2, q3, q4, q5⟩ : p1 < b ∧ p1 < b2 ∧ b ≠ b2 ∧ b < p2 ∧ b2 < p2 := ⟨h.q1, h.q2, h.q3, h.q4, h.q5⟩
    exact ⟨he, ⟨hb, Kd.R_kept hX.1.ra hk (fun k h1 h2 => by omega), Kd.R_kept hX.1.rh hk (fun k h1 h2 => by omega), kept_blk hX.1.box0 hk (by omega), Kd.R_kept hX.1.rb hk (fun k h1 h2 => by omega), row_own hr, kept_blk hX.1.box1 hk (by omega), q1, q2, q3, q4, q5⟩, kept_blk hX.2 hk (by omega)⟩
theorem held_at (h : Nw w p1 p2 b b2 A c e2 m m4 m1 W) : Calls Try.prog 51 #[.agg #[.slice (some ⟨b, 0, none⟩) 4 4, .float .f32 1065353216, .float .f32 1061158912, .float .f32 3210739712, .float .f32 1090519040, .float .f32 1048576000, .float .f32 1048576000, .float .f32 0, .float .f32 0, .slice (some ⟨b2, 0, none⟩) 1 1, .float .f32 1065353216, .slice none 0 0], .int .i64 1] W fun e w' => e = .returned (.int .i64 6) ∧ Below W.heap.size W w' :=
  heldD_walk b b2 W 5 6 (by decide) (by decide)
    (fun X hX => laws_heldTube.calls 20 (some ⟨b, 0, none⟩) 4 m4 1065353216 1061158912 3210739712 1 5 X (Kd.R_reads' (h.to hX).rb).2.2 (Nat.le_refl _) heldT_f)
    (fun X hX => laws_heldPredictor.calls 20 (some ⟨b2, 0, none⟩) 1 m1 1065353216 5 6 X (Kd.R_reads' (h.to hX).rb2).2.2 (Nat.le_refl _) heldP_f)
end
/-- the law -/
theorem walk (w : World) : Calls Try.prog 8 #[] w fun e w' => e = .returned (.bool true) ∧ Below w.heap.size w w' :=
  nd_calls w m4 m1 (fun W _ => spec_new W) (fun W _ => impl_new W) (fun W A c e2 m b b2 o1 o2 o3 o4 h1 h2 h3 h4 => eq_at W A c e2 m b b2 h1 h2 h3 h4) (fun W p1 p2 b b2 A c e2 m h => mark_at h) (fun W p1 p2 b b2 A c e2 m h => held_at h)
end Go.Proofs.Ytoiaojdkgagblaa.Nd
