import Derived.Test.YteooifighndmkaaFre
set_option linter.unusedVariables false
set_option linter.unusedSimpArgs false
namespace Go.Proofs.Yteooifighndmkaa.Fra
open Go.RowKit Go.Proofs.YteooifighndmkaaW.PrintWords Go.Proofs.YteooifighndmkaaW.PrintLast Go.Proofs.YteooifighndmkaaW.PrintMore Go.Proofs.YteooifighndmkaaW.PrintFl Go.Proofs.Yteooifighndmkaa Go.Proofs.Yteooifighndmkaa.PFnExactFrameAt
attribute [local go_sem high] binOp_feq binOp_fne binOp_fls binOp_fle binOp_fgr binOp_fge
attribute [local go_sem] run_stf run_fopr
abbrev SaysB (f : FuncId) (args : Array Value) (t : Bool) (w : World) : Prop := ∀ W, Below w.heap.size w W → Calls Try.prog f args W fun e w' => e = .returned (.bool t) ∧ Below W.heap.size W w'
abbrev OutF (w : World) (r : List Nat) (r2 r3 r4 : Nat) (ok : Bool) (e : Ending) (w' : World) : Prop := ∃ v0_ : Value, e = .returned (.tuple #[.agg #[v0_, .float .f32 r2, .float .f32 r3, .float .f32 r4], .bool ok]) ∧ FR w' w.heap.size (fun _ => True) v0_ r ∧ Below w.heap.size w w'
abbrev AtSays (f : FuncId) (args : Array Value) (w : World) (r : List Nat) (r2 r3 r4 : Nat) (ok : Bool) : Prop := ∀ W, Below w.heap.size w W → Calls Try.prog f args W (OutF W r r2 r3 r4 ok)
structure Rb (w W : World) : Prop where
  bel : Below w.heap.size w W
  b : Bx 29 W w.heap.size zf
theorem Rb.to {w W W' : World} (h : Rb w W) (hb : Below W.heap.size W W') : Rb w W' := ⟨bl2 h.bel hb, blk_below h.b hb⟩
set_option maxHeartbeats 8000000 in
set_option maxRecDepth 100000 in
theorem fo_impl (A0 A1 A2 : Option Addr) (c0 c1 c2 n0 n1 n2 t : Nat) (b1 fn b2 : Bool) (r : List Nat) (r2 r3 r4 : Nat) (ok : Bool) (w : World)
    (h1 : SaysB 45 #[.slice A0 n0 c0, .slice A1 n1 c1] b1 w) (h2 : SaysB 46 #[.float .f32 t] fn w)
    (h3 : b1 = true → n2 = n1 → SaysB 47 #[.slice A2 n2 c2, .func (.func 48) #[] #[]] b2 w)
    (h4 : b1 = true → n2 = n1 → fn = true → fge .f32 t 0 = true → b2 = false → AtSays 49 #[.slice A0 n0 c0, .slice A1 n1 c1, .slice A2 n2 c2, .float .f32 t] w r r2 r3 r4 ok)
    (hr : (b1 = true ∧ n2 = n1 ∧ fn = true ∧ fge .f32 t 0 = true ∧ b2 = false) ∨ (r = [] ∧ r2 = 0 ∧ r3 = 0 ∧ r4 = 0 ∧ ok = false ∧ ¬ (b1 = true ∧ n2 = n1 ∧ fn = true ∧ fge .f32 t 0 = true ∧ b2 = false))) :
    Calls Try.prog 12 #[.slice A0 n0 c0, .slice A1 n1 c1, .slice A2 n2 c2, .float .f32 t] w (OutF w r r2 r3 r4 ok) := by
  have H1 := Lib.hid h1
  have H2 := Lib.hid h2
  have H3 := Lib.hid h3
  have H4 := Lib.hid h4
  have HR := Lib.hid hr
  clear h1 h2 h3 h4 hr
  go_enter Try.func12, Try.ntmps12
  have HW0 := Lib.hid (show Rb w (w.alloc (.cells zf 29)) from ⟨below_alloc (Below.refl _ _) _, heap_alloc_new w _⟩)
  cases b1 with
  | false =>
    go_wp2_with (first | (go_at_call 45; (with_reducible refine (H1.out _ HW0.out.bel).mono ?_); rintro e w1 ⟨rfl, hb⟩; have HW1 := Lib.hid (HW0.out.to hb); obtain ⟨r0_, r1_, r2_, r3_⟩ := bx4 HW1.out.b; obtain ⟨f0_, f1_, f2_, f3_⟩ := fz4 HW1.out.b; clear hb))
    obtain ⟨rfl, rfl, rfl, rfl, rfl, -⟩ := HR.out.resolve_left (by simp [*])
    refine bodyPost_ret (results_ct rfl _ _ w.heap.size 29 zf (0, 0) _ rfl (by first | exact put4 HW1.out.b _ _ _ _ | exact HW1.out.b) Try.underlying29 rfl (by kernel_rfl)) rfl ?_
    exact ⟨_, rfl, Kd.R_nil _ _ _ _ _, by first | exact below4 HW1.out.bel (Nat.le_refl _) _ _ _ _ | exact HW1.out.bel⟩
  | true =>
    by_cases hn : n2 = n1
    · subst hn
      have qn : ((n2 : Int) != n2) = false := bne_self_eq_false _
      cases fn with
      | false =>
        go_wp2_with (first | (go_at_call 45; (with_reducible refine (H1.out _ HW0.out.bel).mono ?_); rintro e w1 ⟨rfl, hb⟩; have HW1 := Lib.hid (HW0.out.to hb); obtain ⟨r0_, r1_, r2_, r3_⟩ := bx4 HW1.out.b; obtain ⟨f0_, f1_, f2_, f3_⟩ := fz4 HW1.out.b; clear hb) | (go_at_call 46; clear r0_ r1_ r2_ r3_ f0_ f1_ f2_ f3_; (with_reducible refine (H2.out _ HW1.out.bel).mono ?_); rintro e w2 ⟨rfl, hb⟩; have HW2 := Lib.hid (HW1.out.to hb); obtain ⟨r0_, r1_, r2_, r3_⟩ := bx4 HW2.out.b; obtain ⟨f0_, f1_, f2_, f3_⟩ := fz4 HW2.out.b; clear hb))
        obtain ⟨rfl, rfl, rfl, rfl, rfl, -⟩ := HR.out.resolve_left (by simp [*])
        refine bodyPost_ret (results_ct rfl _ _ w.heap.size 29 zf (0, 0) _ rfl (by first | exact put4 HW2.out.b _ _ _ _ | exact HW2.out.b) Try.underlying29 rfl (by kernel_rfl)) rfl ?_
        exact ⟨_, rfl, Kd.R_nil _ _ _ _ _, by first | exact below4 HW2.out.bel (Nat.le_refl _) _ _ _ _ | exact HW2.out.bel⟩
      | true =>
        cases hg : fge .f32 t 0 with
        | false =>
          go_wp2_with (first | (go_at_call 45; (with_reducible refine (H1.out _ HW0.out.bel).mono ?_); rintro e w1 ⟨rfl, hb⟩; have HW1 := Lib.hid (HW0.out.to hb); obtain ⟨r0_, r1_, r2_, r3_⟩ := bx4 HW1.out.b; obtain ⟨f0_, f1_, f2_, f3_⟩ := fz4 HW1.out.b; clear hb) | (go_at_call 46; clear r0_ r1_ r2_ r3_ f0_ f1_ f2_ f3_; (with_reducible refine (H2.out _ HW1.out.bel).mono ?_); rintro e w2 ⟨rfl, hb⟩; have HW2 := Lib.hid (HW1.out.to hb); obtain ⟨r0_, r1_, r2_, r3_⟩ := bx4 HW2.out.b; obtain ⟨f0_, f1_, f2_, f3_⟩ := fz4 HW2.out.b; clear hb))
          obtain ⟨rfl, rfl, rfl, rfl, rfl, -⟩ := HR.out.resolve_left (by simp [*])
          refine bodyPost_ret (results_ct rfl _ _ w.heap.size 29 zf (0, 0) _ rfl (by first | exact put4 HW2.out.b _ _ _ _ | exact HW2.out.b) Try.underlying29 rfl (by kernel_rfl)) rfl ?_
          exact ⟨_, rfl, Kd.R_nil _ _ _ _ _, by first | exact below4 HW2.out.bel (Nat.le_refl _) _ _ _ _ | exact HW2.out.bel⟩
        | true =>
          have HGE := Lib.hid hg
          cases b2 with
          | true =>
            go_wp2_with (first | (go_at_call 45; (with_reducible refine (H1.out _ HW0.out.bel).mono ?_); rintro e w1 ⟨rfl, hb⟩; have HW1 := Lib.hid (HW0.out.to hb); obtain ⟨r0_, r1_, r2_, r3_⟩ := bx4 HW1.out.b; obtain ⟨f0_, f1_, f2_, f3_⟩ := fz4 HW1.out.b; clear hb) | (go_at_call 46; clear r0_ r1_ r2_ r3_ f0_ f1_ f2_ f3_; (with_reducible refine (H2.out _ HW1.out.bel).mono ?_); rintro e w2 ⟨rfl, hb⟩; have HW2 := Lib.hid (HW1.out.to hb); obtain ⟨r0_, r1_, r2_, r3_⟩ := bx4 HW2.out.b; obtain ⟨f0_, f1_, f2_, f3_⟩ := fz4 HW2.out.b; clear hb) | (go_at_call 47; clear r0_ r1_ r2_ r3_ f0_ f1_ f2_ f3_; (with_reducible refine (H3.out (by trivial) (by trivial) _ HW2.out.bel).mono ?_); rintro e w3 ⟨rfl, hb⟩; have HW3 := Lib.hid (HW2.out.to hb); obtain ⟨r0_, r1_, r2_, r3_⟩ := bx4 HW3.out.b; obtain ⟨f0_, f1_, f2_, f3_⟩ := fz4 HW3.out.b; clear hb))
            obtain ⟨rfl, rfl, rfl, rfl, rfl, -⟩ := HR.out.resolve_left (by simp [*])
            refine bodyPost_ret (results_ct rfl _ _ w.heap.size 29 zf (0, 0) _ rfl (by first | exact put4 HW3.out.b _ _ _ _ | exact HW3.out.b) Try.underlying29 rfl (by kernel_rfl)) rfl ?_
            exact ⟨_, rfl, Kd.R_nil _ _ _ _ _, by first | exact below4 HW3.out.bel (Nat.le_refl _) _ _ _ _ | exact HW3.out.bel⟩
          | false =>
            go_wp2_with (first | (go_at_call 45; (with_reducible refine (H1.out _ HW0.out.bel).mono ?_); rintro e w1 ⟨rfl, hb⟩; have HW1 := Lib.hid (HW0.out.to hb); obtain ⟨r0_, r1_, r2_, r3_⟩ := bx4 HW1.out.b; obtain ⟨f0_, f1_, f2_, f3_⟩ := fz4 HW1.out.b; clear hb) | (go_at_call 46; clear r0_ r1_ r2_ r3_ f0_ f1_ f2_ f3_; (with_reducible refine (H2.out _ HW1.out.bel).mono ?_); rintro e w2 ⟨rfl, hb⟩; have HW2 := Lib.hid (HW1.out.to hb); obtain ⟨r0_, r1_, r2_, r3_⟩ := bx4 HW2.out.b; obtain ⟨f0_, f1_, f2_, f3_⟩ := fz4 HW2.out.b; clear hb) | (go_at_call 47; clear r0_ r1_ r2_ r3_ f0_ f1_ f2_ f3_; (with_reducible refine (H3.out (by trivial) (by trivial) _ HW2.out.bel).mono ?_); rintro e w3 ⟨rfl, hb⟩; have HW3 := Lib.hid (HW2.out.to hb); obtain ⟨r0_, r1_, r2_, r3_⟩ := bx4 HW3.out.b; obtain ⟨f0_, f1_, f2_, f3_⟩ := fz4 HW3.out.b; clear hb) | (go_at_call 49; clear r0_ r1_ r2_ r3_ f0_ f1_ f2_ f3_; (with_reducible refine (H4.out (by trivial) (by trivial) (by trivial) (by first | exact HGE.out | trivial) (by trivial) _ HW3.out.bel).mono ?_); rintro e w4 ⟨v4, rfl, hr4, hb⟩; obtain ⟨A4, c4, rfl⟩ := Kd.R_slice hr4; have HW4 := Lib.hid (HW3.out.to hb); have HR4 := Lib.hid (Kd.R_mono (row_new HW3.out.bel (blk_lt HW3.out.b) hr4) (fun k hk => hk.1)); obtain ⟨r0_, r1_, r2_, r3_⟩ := bx4 HW4.out.b; obtain ⟨f0_, f1_, f2_, f3_⟩ := fz4 HW4.out.b; clear hb hr4))
            refine bodyPost_ret (results_ct rfl _ _ w.heap.size 29 #[.slice A4 r.length c4, .float .f32 r2, .float .f32 r3, .float .f32 r4] (0, 0) _ rfl (put4 HW4.out.b _ _ _ _) Try.underlying29 rfl (by kernel_rfl)) rfl ?_
            exact ⟨_, rfl, Kd.R_mono (fr4 HR4.out _ _ _ _) (fun _ _ => trivial), below4 HW4.out.bel (Nat.le_refl _) _ _ _ _⟩
    · have qn : ((n2 : Int) != n1) = true := bne_iff_ne.mpr (by omega)
      have HN := Lib.hid hn
      clear hn
      go_wp2_with (first | (go_at_call 45; (with_reducible refine (H1.out _ HW0.out.bel).mono ?_); rintro e w1 ⟨rfl, hb⟩; have HW1 := Lib.hid (HW0.out.to hb); obtain ⟨r0_, r1_, r2_, r3_⟩ := bx4 HW1.out.b; obtain ⟨f0_, f1_, f2_, f3_⟩ := fz4 HW1.out.b; clear hb))
      have hn := HN.out
      obtain ⟨rfl, rfl, rfl, rfl, rfl, -⟩ := HR.out.resolve_left (by simp [*])
      refine bodyPost_ret (results_ct rfl _ _ w.heap.size 29 zf (0, 0) _ rfl (by first | exact put4 HW1.out.b _ _ _ _ | exact HW1.out.b) Try.underlying29 rfl (by kernel_rfl)) rfl ?_
      exact ⟨_, rfl, Kd.R_nil _ _ _ _ _, by first | exact below4 HW1.out.bel (Nat.le_refl _) _ _ _ _ | exact HW1.out.bel⟩
end Go.Proofs.Yteooifighndmkaa.Fra
