import Derived.Test.YteooifighndmkaaFri
set_option linter.unusedVariables false
set_option linter.unusedSimpArgs false
namespace Go.Proofs.Yteooifighndmkaa.Fra
open Go.RowKit Go.Proofs.YteooifighndmkaaW.PrintWords Go.Proofs.YteooifighndmkaaW.PrintLast Go.Proofs.YteooifighndmkaaW.PrintMore Go.Proofs.YteooifighndmkaaW.PrintFl Go.Proofs.Yteooifighndmkaa Go.Proofs.Yteooifighndmkaa.PFnExactFrameAt
attribute [local go_sem high] binOp_feq binOp_fne binOp_fls binOp_fle binOp_fgr binOp_fge
attribute [local go_sem] run_stf run_fopr
set_option maxHeartbeats 8000000 in
set_option maxRecDepth 100000 in
theorem fo_spec (A0 A1 A2 : Option Addr) (c0 c1 c2 n0 n1 t : Nat) (ls : List Nat) (ab : Nat → Bool) (b1 fn : Bool) (r : List Nat) (r2 r3 r4 : Nat) (ok : Bool) (w : World) (hls : ls.length ≤ 1048576) (hC : Kd.C (Kd.float .f32) w A2 ls.length ls)
    (h1 : SaysB 41 #[.slice A0 n0 c0, .slice A1 n1 c1] b1 w) (h2 : SaysB 42 #[.float .f32 t] fn w)
    (h3 : ∀ x, SaysB 43 #[.float .f32 x] (ab x) w)
    (h4 : b1 = true → ls.length = n1 → fn = true → ls.all ab = true → AtSays 44 #[.slice A0 n0 c0, .slice A1 n1 c1, .slice A2 ls.length c2, .float .f32 t] w r r2 r3 r4 ok)
    (hr : (b1 = true ∧ ls.length = n1 ∧ fn = true ∧ ls.all ab = true) ∨ (r = [] ∧ r2 = 0 ∧ r3 = 0 ∧ r4 = 0 ∧ ok = false ∧ ¬ (b1 = true ∧ ls.length = n1 ∧ fn = true ∧ ls.all ab = true))) :
    Calls Try.prog 8 #[.slice A0 n0 c0, .slice A1 n1 c1, .slice A2 ls.length c2, .float .f32 t] w (OutF w r r2 r3 r4 ok) := by
  have H1 := Lib.hid h1
  have H2 := Lib.hid h2
  have H3 := Lib.hid h3
  have H4 := Lib.hid h4
  have HR := Lib.hid hr
  have HC := Lib.hid hC
  have HLs := Lib.hid hls
  clear h1 h2 h3 h4 hr hC hls
  go_enter Try.func8, Try.ntmps8
  have HW0 := Lib.hid (show Rb w (w.alloc (.cells zf 29)) from ⟨below_alloc (Below.refl _ _) _, heap_alloc_new w _⟩)
  cases b1 with
  | false =>
    go_wp2_with (first | (go_at_call 41; (with_reducible refine (H1.out _ HW0.out.bel).mono ?_); rintro e w1 ⟨rfl, hb⟩; have HW1 := Lib.hid (HW0.out.to hb); obtain ⟨r0_, r1_, r2_, r3_⟩ := bx4 HW1.out.b; obtain ⟨f0_, f1_, f2_, f3_⟩ := fz4 HW1.out.b; clear hb))
    obtain ⟨rfl, rfl, rfl, rfl, rfl, -⟩ := HR.out.resolve_left (by simp [*])
    refine bodyPost_ret (results_ct rfl _ _ w.heap.size 29 zf (0, 0) _ rfl (by first | exact put4 HW1.out.b _ _ _ _ | exact HW1.out.b) Try.underlying29 rfl (by kernel_rfl)) rfl ?_
    exact ⟨_, rfl, Kd.R_nil _ _ _ _ _, by first | exact below4 HW1.out.bel (Nat.le_refl _) _ _ _ _ | exact HW1.out.bel⟩
  | true =>
    by_cases hn : ls.length = n1
    · have qn : ((ls.length : Int) != n1) = false := bne_eq_false_iff_eq.mpr (by omega)
      have HN := Lib.hid hn
      clear hn
      cases fn with
      | false =>
        go_wp2_with (first | (go_at_call 41; (with_reducible refine (H1.out _ HW0.out.bel).mono ?_); rintro e w1 ⟨rfl, hb⟩; have HW1 := Lib.hid (HW0.out.to hb); obtain ⟨r0_, r1_, r2_, r3_⟩ := bx4 HW1.out.b; obtain ⟨f0_, f1_, f2_, f3_⟩ := fz4 HW1.out.b; clear hb) | (go_at_call 42; clear r0_ r1_ r2_ r3_ f0_ f1_ f2_ f3_; (with_reducible refine (H2.out _ HW1.out.bel).mono ?_); rintro e w2 ⟨rfl, hb⟩; have HW2 := Lib.hid (HW1.out.to hb); obtain ⟨r0_, r1_, r2_, r3_⟩ := bx4 HW2.out.b; obtain ⟨f0_, f1_, f2_, f3_⟩ := fz4 HW2.out.b; clear hb))
        obtain ⟨rfl, rfl, rfl, rfl, rfl, -⟩ := HR.out.resolve_left (by simp [*])
        refine bodyPost_ret (results_ct rfl _ _ w.heap.size 29 zf (0, 0) _ rfl (by first | exact put4 HW2.out.b _ _ _ _ | exact HW2.out.b) Try.underlying29 rfl (by kernel_rfl)) rfl ?_
        exact ⟨_, rfl, Kd.R_nil _ _ _ _ _, by first | exact below4 HW2.out.bel (Nat.le_refl _) _ _ _ _ | exact HW2.out.bel⟩
      | true =>
        go_wp2_with (first | (go_at_call 41; (with_reducible refine (H1.out _ HW0.out.bel).mono ?_); rintro e w1 ⟨rfl, hb⟩; have HW1 := Lib.hid (HW0.out.to hb); obtain ⟨r0_, r1_, r2_, r3_⟩ := bx4 HW1.out.b; obtain ⟨f0_, f1_, f2_, f3_⟩ := fz4 HW1.out.b; clear hb) | (go_at_call 42; clear r0_ r1_ r2_ r3_ f0_ f1_ f2_ f3_; (with_reducible refine (H2.out _ HW1.out.bel).mono ?_); rintro e w2 ⟨rfl, hb⟩; have HW2 := Lib.hid (HW1.out.to hb); obtain ⟨r0_, r1_, r2_, r3_⟩ := bx4 HW2.out.b; obtain ⟨f0_, f1_, f2_, f3_⟩ := fz4 HW2.out.b; clear hb))
        clear r0_ r1_ r2_ r3_ f0_ f1_ f2_ f3_
        go_loopw [10] (fun v10 wr => ∃ j : Nat, v10 = .int .i64 j ∧ j ≤ ls.length ∧ Hid ((ls.take j).all ab = true) ∧ Rb w wr) (fun v10 _ => ls.length - (intOf v10).toNat)
        case atStart => exact ⟨0, rfl, Nat.zero_le _, Lib.hid (by simp), HW2.out⟩
        case round =>
          obtain ⟨j, rfl, hj, HJ, hrl⟩ := hrel
          have HL := Lib.hid hrl
          clear hrl
          have e5 : wrap64 ((j : Int) + 1) = ((j + 1 : Nat) : Int) := by have := HLs.out; unfold wrap64; omega
          by_cases hlt : j < ls.length
          · have p1 : (0 : Int) ≤ (j : Int) := by omega
            have q2 : (j : Int) < (ls.length : Int) := by omega
            obtain ⟨at2, e2, hx2⟩ := Kd.at_float (Kd.C_below HC.out HL.out.bel) (j : Int) p1 q2
            cases e2
            rw [Int.toNat_natCast] at hx2
            have hxe : rdOf (0 : Nat) ls (j : Int) = ls[j]'hlt := by
              unfold rdOf
              rw [Int.toNat_natCast, List.getD_eq_getElem?_getD, List.getElem?_eq_getElem hlt]; rfl
            rw [hxe] at hx2
            replace p1 := eq_true p1
            replace q2 := eq_true q2
            have HT := Lib.hid (show ∀ b, ab (ls[j]'hlt) = b → (ls.take (j + 1)).all ab = b from fun b hb => by
              have h_ := HJ.out
              rw [List.take_succ_eq_append_getElem hlt, List.all_append, h_]
              simp [hb])
            have HLT := Lib.hid hlt
            generalize ls[j]'hlt = x at hx2 HT
            cases hx : ab x with
            | true =>
              have H3x := Lib.hid (show SaysB 43 #[.float .f32 x] true w from by have h_ := H3.out x; rw [hx] at h_; exact h_)
              have HT2 := Lib.hid (HT.out _ hx)
              clear hx hxe
              go_wp2_with (first | (go_at_call 43; (with_reducible refine (H3x.out _ HL.out.bel).mono ?_); rintro e w3 ⟨rfl, hb⟩; have HL3 := Lib.hid (HL.out.to hb); obtain ⟨r0_, r1_, r2_, r3_⟩ := bx4 HL3.out.b; obtain ⟨f0_, f1_, f2_, f3_⟩ := fz4 HL3.out.b; clear hb))
              exact ⟨⟨j + 1, by rw [e5], HLT.out, HT2, HL3.out⟩, by rw [e5]; show ls.length - (j + 1) < ls.length - j; have := HLT.out; omega⟩
            | false =>
              have H3x := Lib.hid (show SaysB 43 #[.float .f32 x] false w from by have h_ := H3.out x; rw [hx] at h_; exact h_)
              have HT2 := Lib.hid (HT.out _ hx)
              clear hx hxe
              go_wp2_with (first | (go_at_call 43; (with_reducible refine (H3x.out _ HL.out.bel).mono ?_); rintro e w3 ⟨rfl, hb⟩; have HL3 := Lib.hid (HL.out.to hb); obtain ⟨r0_, r1_, r2_, r3_⟩ := bx4 HL3.out.b; obtain ⟨f0_, f1_, f2_, f3_⟩ := fz4 HL3.out.b; clear hb))
              obtain ⟨rfl, rfl, rfl, rfl, rfl, -⟩ := HR.out.resolve_left (by
                rintro ⟨-, -, -, h_⟩
                have h2 := HT2.out
                rw [← List.take_append_drop (j + 1) ls, List.all_append, h2] at h_
                cases h_)
              refine bodyPost_ret (results_ct rfl _ _ w.heap.size 29 zf (0, 0) _ rfl (by first | exact put4 HL3.out.b _ _ _ _ | exact HL3.out.b) Try.underlying29 rfl (by kernel_rfl)) rfl ?_
              exact ⟨_, rfl, Kd.R_nil _ _ _ _ _, by first | exact below4 HL3.out.bel (Nat.le_refl _) _ _ _ _ | exact HL3.out.bel⟩
          · obtain rfl : j = ls.length := by omega
            have HALL := Lib.hid (show ls.all ab = true from by have h_ := HJ.out; rwa [List.take_length] at h_)
            go_wp2_with (first | (go_at_call 44; (with_reducible refine (H4.out (by trivial) HN.out (by trivial) HALL.out _ HL.out.bel).mono ?_); rintro e w4 ⟨v4, rfl, hr4, hb⟩; obtain ⟨A4, c4, rfl⟩ := Kd.R_slice hr4; have HW4 := Lib.hid (HL.out.to hb); have HR4 := Lib.hid (Kd.R_mono (row_new HL.out.bel (blk_lt HL.out.b) hr4) (fun k hk => hk.1)); obtain ⟨r0_, r1_, r2_, r3_⟩ := bx4 HW4.out.b; obtain ⟨f0_, f1_, f2_, f3_⟩ := fz4 HW4.out.b; clear hb hr4))
            refine bodyPost_ret (results_ct rfl _ _ w.heap.size 29 #[.slice A4 r.length c4, .float .f32 r2, .float .f32 r3, .float .f32 r4] (0, 0) _ rfl (put4 HW4.out.b _ _ _ _) Try.underlying29 rfl (by kernel_rfl)) rfl ?_
            exact ⟨_, rfl, Kd.R_mono (fr4 HR4.out _ _ _ _) (fun _ _ => trivial), below4 HW4.out.bel (Nat.le_refl _) _ _ _ _⟩
    · have qn : ((ls.length : Int) != n1) = true := bne_iff_ne.mpr (by omega)
      have HN := Lib.hid hn
      clear hn
      go_wp2_with (first | (go_at_call 41; (with_reducible refine (H1.out _ HW0.out.bel).mono ?_); rintro e w1 ⟨rfl, hb⟩; have HW1 := Lib.hid (HW0.out.to hb); obtain ⟨r0_, r1_, r2_, r3_⟩ := bx4 HW1.out.b; obtain ⟨f0_, f1_, f2_, f3_⟩ := fz4 HW1.out.b; clear hb))
      have hn := HN.out
      obtain ⟨rfl, rfl, rfl, rfl, rfl, -⟩ := HR.out.resolve_left (by simp [*])
      refine bodyPost_ret (results_ct rfl _ _ w.heap.size 29 zf (0, 0) _ rfl (by first | exact put4 HW1.out.b _ _ _ _ | exact HW1.out.b) Try.underlying29 rfl (by kernel_rfl)) rfl ?_
      exact ⟨_, rfl, Kd.R_nil _ _ _ _ _, by first | exact below4 HW1.out.bel (Nat.le_refl _) _ _ _ _ | exact HW1.out.bel⟩
end Go.Proofs.Yteooifighndmkaa.Fra
