import Derived.Test.YteooifighndmkaaFra
set_option linter.unusedVariables false
set_option linter.unusedSimpArgs false
namespace Go.Proofs.Yteooifighndmkaa.Fra
open Go.RowKit Go.Proofs.YteooifighndmkaaW.PrintWords Go.Proofs.YteooifighndmkaaW.PrintLast Go.Proofs.YteooifighndmkaaW.PrintMore Go.Proofs.YteooifighndmkaaW.PrintFl Go.Proofs.Yteooifighndmkaa Go.Proofs.Yteooifighndmkaa.PFnExactFrameAt
attribute [local go_sem] run_stf
theorem R_emp (W : World) (base : Nat) (hb : base ≤ W.heap.size) : Kd.R (Kd.float .f32) 25 (W.alloc (.cells #[] 25)) base (fun _ => True) (.slice (some ⟨W.heap.size, 0, none⟩) 0 0) [] := by
  refine ⟨fun _ _ => trivial, [], ?_, Reps.none _ _⟩
  have h2 := World.ownsRow_lit (base := base) (e := 25) (size := 1) W #[] 0 hb (by decide) (by decide)
  exact (by simpa using h2 : (W.alloc (.cells #[] 25)).ownsRow base 25 1 (.slice (some ⟨W.heap.size, 0, none⟩) 0 0) 0 [])
set_option maxHeartbeats 4000000 in
set_option maxRecDepth 100000 in
theorem of_at (ad : Addr) (A : Option Addr) (c : Nat) (x : SD) (p : Nat) (w : World) (hg : ad.block < w.heap.size) (h1 : w.cell? ⟨ad.block, ad.off + 1, none⟩ = some (.slice A x.f1.length c)) (h4 : w.cell? ⟨ad.block, ad.off + 4, none⟩ = some (.float .f32 x.f4)) (h5 : w.cell? ⟨ad.block, ad.off + 5, none⟩ = some (.float .f32 x.f5)) (hC : Kd.C (Kd.float .f32) w A x.f1.length x.f1) (hb : x.f1.length < 35184372088832) :
    Calls Try.prog 75 #[.pointer (some ad), .float .f32 p] w fun e w' => ∃ (A' : Option Addr) (c' : Nat), e = .returned (.agg #[.slice A' x.f1.length c', .float .f32 p, .float .f32 x.f4, .float .f32 x.f5]) ∧ FR w' w.heap.size (fun _ => True) (.slice A' x.f1.length c') x.f1 ∧ Below w.heap.size w w' := by
  have HC := Lib.hid hC
  have HB := Lib.hid hb
  have HG := Lib.hid hg
  clear hC hb hg
  go_enter Try.func75, Try.ntmps75
  go_wp2
  refine genw (Pw := fun W => Below w.heap.size w W ∧ Bx 29 W w.heap.size zf) ⟨below_alloc (Below.refl _ _) _, heap_alloc_new w _⟩ ?_
  rintro W1 ⟨hb1, hx1⟩
  have HW := Lib.hid hb1
  have HX := Lib.hid hx1
  have y1 := (hb1.cell (p := ⟨ad.block, ad.off + 1, none⟩) HG.out).trans h1
  have y4 := (hb1.cell (p := ⟨ad.block, ad.off + 4, none⟩) HG.out).trans h4
  have y5 := (hb1.cell (p := ⟨ad.block, ad.off + 5, none⟩) HG.out).trans h5
  clear h1 h4 h5 hb1 hx1
  have hn1 : ad.block ≠ w.heap.size := Nat.ne_of_lt HG.out
  have hn2 : w.heap.size ≠ ad.block := fun e => hn1 e.symm
  go_region_held_law (fun w' => w'.cell? ⟨ad.block, ad.off + 1, none⟩ = some (.slice A x.f1.length c) ∧ w'.cell? ⟨ad.block, ad.off + 4, none⟩ = some (.float .f32 x.f4) ∧ w'.cell? ⟨ad.block, ad.off + 5, none⟩ = some (.float .f32 x.f5)) (first | exact HK3.out | go_keep) (first
    | (refine Kd.R_append_rows_step (Kd.float .f32) (Rr := (Kd.float .f32).K w) (w0 := w) (W := (W1.drew.alloc (.cells #[] 25))) w.heap.size (by rfl) (.tmp 5) (.tmp 9) 24 25 (.float .f32 0) 4 rfl Try.underlying24 (by kernel_rfl) rfl (by decide) (by decide) (.slice (some ⟨W1.heap.size, 0, none⟩) 0 0) ([] : List Nat) x.f1 A x.f1.length c (fun _ => True) (fun _ => False) rfl rfl (R_emp W1.drew _ HW.out.size) (Kd.C_below HC.out (below_alloc (below_drew HW.out) _)) (fun _ _ h => h) (fun _ h => h.elim) (fun _ _ => trivial) (below_alloc (below_drew HW.out) _) ((below_alloc (below_drew HW.out) _ : Below w.heap.size w _).size) ?aL ?_
       (case aL => have := HB.out; simp only [List.length_nil]; omega)
       intro v3 w3 hr hb hg hat
       obtain ⟨A3, c3, hv3⟩ : ∃ A3 c3, v3 = .slice A3 x.f1.length c3 := Kd.R_slice hr
       subst hv3
       have hz : (W1.drew.alloc (.cells #[] 25)).heap.size = W1.heap.size + 1 := Array.size_push _
       have hbs := HW.out.size
       have hlt := blk_lt HX.out
       have hgl := HG.out
       have hne : ∀ k, (Value.slice A3 x.f1.length c3).ownBlock = some k → k ≠ w.heap.size := by
         intro k hk
         rcases hat with h_ | ⟨b, h_, hb_⟩
         · have e_ := Option.some.inj (hk.symm.trans (h_.trans (show (Value.slice (some ⟨W1.heap.size, 0, none⟩) 0 0).ownBlock = some W1.heap.size from by simp [Value.ownBlock])))
           omega
         · have e_ := Option.some.inj (hk.symm.trans h_)
           omega
       have hfar : ∀ (a : Addr) (u : Value), a.block < W1.heap.size → W1.cell? a = some u → w3.cell? a = some u := by
         intro a u ha hu
         rw [hg.cell_far a (by rw [hz]; omega) (by simp [Value.ownBlock]; omega)]
         exact ((below_alloc (Below.refl W1.drew.heap.size W1.drew) (.cells #[] 25)).cell (p := a) ha).trans hu
       have HX3 := Lib.hid (show Bx 29 w3 w.heap.size zf from blk_grown (blk_alloc (show W1.drew.heap[w.heap.size]? = _ from HX.out) _) hg (by simp [Value.ownBlock]; omega))
       have HR3 := Lib.hid (show FR w3 w.heap.size (fun k => k ≠ w.heap.size) (.slice A3 x.f1.length c3) x.f1 from Kd.R_mono (Kd.R_tight rfl hr) (fun k hk => hne k hk.symm))
       have HB3 := Lib.hid hb
       have HK3 := Lib.hid (show w3.cell? ⟨ad.block, ad.off + 1, none⟩ = some (.slice A x.f1.length c) ∧ w3.cell? ⟨ad.block, ad.off + 4, none⟩ = some (.float .f32 x.f4) ∧ w3.cell? ⟨ad.block, ad.off + 5, none⟩ = some (.float .f32 x.f5) from ⟨hfar _ _ (by show ad.block < _; omega) y1, hfar _ _ (by show ad.block < _; omega) y4, hfar _ _ (by show ad.block < _; omega) y5⟩)
       obtain ⟨r0, r1, r2, r3⟩ := bx4 HX3.out
       obtain ⟨f0, f1, f2, f3⟩ := fz4 HX3.out
       clear hr hb hg hat hz hbs hlt hgl hne hfar))
  go_wp2
  refine bodyPost_ret (results_cell_row rfl _ _ w.heap.size 29 (fcs A3 x.f1.length c3 p x.f4 x.f5) (0, 0) _ rfl (put4 HX3.out _ _ _ _) Try.underlying29 rfl (by kernel_rfl)) rfl ?_
  exact ⟨A3, c3, rfl, Kd.R_mono (fr4 HR3.out _ _ _ _) (fun _ _ => trivial), below4 HB3.out (Nat.le_refl _) _ _ _ _⟩
end Go.Proofs.Yteooifighndmkaa.Fra
