import Derived.Test.YteooifighndmkaaFrb
set_option linter.unusedVariables false
set_option linter.unusedSimpArgs false
namespace Go.Proofs.Yteooifighndmkaa.Fra
open Go.RowKit Go.Proofs.YteooifighndmkaaW.PrintWords Go.Proofs.YteooifighndmkaaW.PrintLast Go.Proofs.YteooifighndmkaaW.PrintMore Go.Proofs.YteooifighndmkaaW.PrintFl Go.Proofs.Yteooifighndmkaa Go.Proofs.Yteooifighndmkaa.PFnExactFrameAt
attribute [local go_sem high] binOp_feq binOp_fne binOp_fls binOp_fle binOp_fgr binOp_fge
attribute [local go_sem] run_stf run_fopr run_fconv run_fint
def mixV (sh x y : Nat) : Nat := fopr .add .f32 x (fopr .mul .f32 sh (fopr .sub .f32 y x))
structure MixOk (sh x y : Nat) : Prop where
  a : foprOk .sub .f32 y x = true
  b : foprOk .mul .f32 sh (fopr .sub .f32 y x) = true
  c : foprOk .add .f32 x (fopr .mul .f32 sh (fopr .sub .f32 y x)) = true
structure Fr where
  l : List Nat
  p : Nat
  v : Nat
  u : Nat
structure FB (W : World) (g : Nat) (A : Option Addr) (c : Nat) (f : Fr) : Prop where
  b : Bx 29 W g (fcs A f.l.length c f.p f.v f.u)
  r : Kd.C (Kd.float .f32) W A f.l.length f.l
  h : f.l.length ≤ c
theorem FB.to {W W' : World} {g : Nat} {A : Option Addr} {c : Nat} {f : Fr} (h : FB W g A c f) (hb : Below W.heap.size W W') : FB W' g A c f := ⟨blk_below h.b hb, Kd.C_below h.r hb, h.h⟩
structure Mw (w : World) (gr go : Nat) (c1 c2 : Array Value) (W : World) : Prop where
  bel : Below w.heap.size w W
  b1 : Bx 29 W gr c1
  b2 : Bx 29 W go c2
theorem Mw.to {w W W' : World} {gr go : Nat} {c1 c2 : Array Value} (h : Mw w gr go c1 c2 W) (hb : Below W.heap.size W W') : Mw w gr go c1 c2 W' := ⟨bl2 h.bel hb, blk_below h.b1 hb, blk_below h.b2 hb⟩
theorem Mw.dr {w W : World} {gr go : Nat} {c1 c2 : Array Value} (h : Mw w gr go c1 c2 W) : Mw w gr go c1 c2 W.drew := h.to (below_drew (Below.refl _ _))
theorem Mw.al {w W : World} {gr go : Nat} {c1 c2 : Array Value} (h : Mw w gr go c1 c2 W) (o : Obj) : Mw w gr go c1 c2 (W.alloc o) := h.to (below_alloc (Below.refl _ _) o)
theorem Mw.drN {w W : World} {gr go : Nat} {c1 c2 : Array Value} (h : Mw w gr go c1 c2 W) (n : Nat) : Mw w gr go c1 c2 (W.drewN n) := h.to (pw_below_drewN (Below.refl _ _) n)
theorem Mw.row {w W w' : World} {gr go : Nat} {c1 c2 : Array Value} (h : Mw w gr go c1 c2 W) {v : Value} {r : List Nat} (hr : FR w' W.heap.size (fun _ => True) v r) : FR w' w.heap.size (fun k => k ≠ gr ∧ k ≠ go) v r :=
  Kd.R_lower (Kd.R_mono (Kd.R_bound hr) (fun k hk => by
    have h1 : W.heap.size ≤ k := hk.2.1
    have h2 := blk_lt h.b1
    have h3 := blk_lt h.b2
    exact ⟨by omega, by omega⟩)) h.bel.size
theorem Mw.st {w W : World} {gr go : Nat} {a b c d : Value} (h : Mw w gr go zf #[a, b, c, d] W) (hne : gr ≠ go) (hge : w.heap.size ≤ go) (v0 v1 v2 v3 : Value) : Mw w gr go zf #[v0, v1, v2, v3] ((((W.setCell ⟨go, 0, none⟩ v0).setCell ⟨go, 1, none⟩ v1).setCell ⟨go, 2, none⟩ v2).setCell ⟨go, 3, none⟩ v3) :=
  ⟨below4 h.bel hge _ _ _ _, far4 h.b1 hne _ _ _ _, put4 h.b2 _ _ _ _⟩
theorem fr4' {W : World} {b gr g : Nat} {u : Value} {xs : List Nat} (h : FR W b (fun k => k ≠ gr ∧ k ≠ g) u xs) (v0 v1 v2 v3 : Value) : FR ((((W.setCell ⟨g, 0, none⟩ v0).setCell ⟨g, 1, none⟩ v1).setCell ⟨g, 2, none⟩ v2).setCell ⟨g, 3, none⟩ v3) b (fun k => k ≠ gr ∧ k ≠ g) u xs := by
  refine Kd.R_far ?_ (fun k hk => hk.2) _
  refine Kd.R_far ?_ (fun k hk => hk.2) _
  refine Kd.R_far ?_ (fun k hk => hk.2) _
  exact Kd.R_far h (fun k hk => hk.2) _
theorem Mw.put {w W : World} {gr go : Nat} {c1 c2 c3 : Array Value} (h : Mw w gr go c1 c2 W) (hne : gr ≠ go) (hge : w.heap.size ≤ go) (i : Nat) (v : Value) (e : c2.setIfInBounds i v = c3) : Mw w gr go c1 c3 (W.setCell ⟨go, i, none⟩ v) :=
  ⟨Below.setCell h.bel (p := ⟨go, i, none⟩) hge _, blk_far h.b1 (p := ⟨go, i, none⟩) hne _, blk_put h.b2 i v e⟩
theorem mixc_at {w W : World} {gr go : Nat} {c1 c2 : Array Value} (h : Mw w gr go c1 c2 W) {args : Array Value} {r : List Nat} (hM : ∀ W, Below w.heap.size w W → Calls Try.prog 110 args W fun e w' => ∃ v0_ : Value, e = .returned v0_ ∧ FR w' W.heap.size (fun _ => True) v0_ r ∧ Below W.heap.size W w') :
    Calls Try.prog 110 args W fun e w' => ∃ (A3 : Option Addr) (c3 : Nat), e = .returned (.slice A3 r.length c3) ∧ Mw w gr go c1 c2 w' ∧ FR w' w.heap.size (fun k => k ≠ gr ∧ k ≠ go) (.slice A3 r.length c3) r := by
  refine (hM W h.bel).mono ?_
  rintro e w' ⟨v, rfl, hr, hb⟩
  obtain ⟨A3, c3, rfl⟩ := Kd.R_slice hr
  exact ⟨A3, c3, rfl, h.to hb, h.row hr⟩
set_option maxHeartbeats 8000000 in
set_option maxRecDepth 100000 in
theorem mix_at (ga gb : Nat) (A B : Option Addr) (ca cb : Nat) (x y : Fr) (sh : Nat) (w : World) (ha : FB w ga A ca x) (hb : FB w gb B cb y) (r : List Nat)
    (hM : ∀ W, Below w.heap.size w W → Calls Try.prog 110 #[.slice A x.l.length ca, .slice B y.l.length cb, .float .f32 sh] W fun e w' => ∃ v0_ : Value, e = .returned v0_ ∧ FR w' W.heap.size (fun _ => True) v0_ r ∧ Below W.heap.size W w')
    (k1 : MixOk sh x.p y.p) (k2 : MixOk sh x.v y.v) (k3 : MixOk sh x.u y.u) :
    Calls Try.prog 76 #[.pointer (some ⟨ga, 0, none⟩), .pointer (some ⟨gb, 0, none⟩), .float .f32 sh] w fun e w' => ∃ (A' : Option Addr) (c' : Nat), e = .returned (.agg #[.slice A' r.length c', .float .f32 (mixV sh x.p y.p), .float .f32 (mixV sh x.v y.v), .float .f32 (mixV sh x.u y.u)]) ∧ FR w' w.heap.size (fun _ => True) (.slice A' r.length c') r ∧ Below w.heap.size w w' := by
  have HA := Lib.hid ha
  have HB := Lib.hid hb
  have HM := Lib.hid hM
  have hlA := blk_lt ha.b
  have hlB := blk_lt hb.b
  obtain ⟨p1, p2, p3⟩ := k1
  obtain ⟨p4, p5, p6⟩ := k2
  obtain ⟨p7, p8, p9⟩ := k3
  clear ha hb hM
  go_enter Try.func76, Try.ntmps76
  go_wp2
  refine genw (Pw := fun W => Below w.heap.size w W ∧ Bx 29 W w.heap.size zf) ⟨below_alloc (Below.refl _ _) _, heap_alloc_new w _⟩ ?_
  rintro W1 ⟨hb1, hx1⟩
  have HW := Lib.hid (show Mw w w.heap.size W1.heap.size zf zf (W1.alloc (.cells zf 29)) from ⟨below_alloc hb1 _, blk_alloc hx1 _, heap_alloc_new W1 _⟩)
  have a0 := (bx4 (HA.out.to hb1).b).1
  have b0 := (bx4 (HB.out.to hb1).b).1
  have n1 : ga ≠ W1.heap.size := by have := hb1.size; omega
  have n2 : W1.heap.size ≠ ga := fun e => n1 e.symm
  have n3 : gb ≠ W1.heap.size := by have := hb1.size; omega
  have n4 : W1.heap.size ≠ gb := fun e => n3 e.symm
  have n5 : w.heap.size ≠ W1.heap.size := by have := blk_lt hx1; omega
  have HN5 := Lib.hid n5
  have HW0 := Lib.hid (show Mw w w.heap.size w.heap.size zf zf W1 from ⟨hb1, hx1, hx1⟩)
  have HGE := Lib.hid (show w.heap.size ≤ W1.heap.size from hb1.size)
  clear hb1 hx1
  go_region_held_law (fun w' => w'.cell? ⟨ga, 0, none⟩ = some (.slice A x.l.length ca) ∧ w'.cell? ⟨gb, 0, none⟩ = some (.slice B y.l.length cb)) (first | exact ⟨c0, d0⟩ | go_keep) (first
    | (go_at_call 110; (with_reducible refine (mixc_at (gr := w.heap.size) (go := W1.heap.size) (c1 := zf) (c2 := zf) (by first | exact HW.out | exact HW.out.dr | exact HW.out.dr.dr) HM.out).mono ?_); rintro e w3 ⟨A3, c3, rfl, hm, hr⟩
       have HW3 := Lib.hid hm
       have HR3 := Lib.hid hr
       have c0 := (bx4 (HA.out.to hm.bel).b).1
       have d0 := (bx4 (HB.out.to hm.bel).b).1
       obtain ⟨r0, r1, r2, r3⟩ := bx4 hm.b2
       obtain ⟨f0, f1, f2, f3⟩ := fz4 hm.b2
       clear hr hm)
    | (go_at_call 110; (with_reducible refine (mixc_at (gr := w.heap.size) (go := w.heap.size) (c1 := zf) (c2 := zf) (by first | exact HW0.out | exact HW0.out.dr | exact HW0.out.dr.dr) HM.out).mono ?_); rintro e w3 ⟨A3, c3, rfl, hm, hr⟩
       have HV3 := Lib.hid hm
       have HR3 := Lib.hid (Kd.R_bound hr)
       have c0 := (bx4 (HA.out.to hm.bel).b).1
       have d0 := (bx4 (HB.out.to hm.bel).b).1
       have m1 : ga ≠ w3.heap.size := by have := hm.bel.size; omega
       have m2 : w3.heap.size ≠ ga := fun e => m1 e.symm
       have m3 : gb ≠ w3.heap.size := by have := hm.bel.size; omega
       have m4 : w3.heap.size ≠ gb := fun e => m3 e.symm
       clear hr hm))
  all_goals go_wp2
  all_goals first
    | (refine genw (Pw := fun W => Mw w w.heap.size W1.heap.size zf (fcs A3 r.length c3 0 0 0) W ∧ FR W w.heap.size (fun k => k ≠ w.heap.size ∧ k ≠ W1.heap.size) (.slice A3 r.length c3) r) ⟨HW3.out.st HN5.out HGE.out _ _ _ _, fr4' HR3.out _ _ _ _⟩ ?_
       clear HW3 HR3 HW HW0 c0 d0 r0 r1 r2 r3 f0 f1 f2 f3 a0 b0
       generalize hgo : W1.heap.size = go
       rw [hgo] at n1 n2 n3 n4 HN5 HGE)
    | (refine genw (Pw := fun W => Mw w w.heap.size w3.heap.size zf (fcs A3 r.length c3 0 0 0) W ∧ FR W w.heap.size (fun k => k ≠ w.heap.size ∧ k ≠ w3.heap.size) (.slice A3 r.length c3) r) ⟨⟨below_alloc HV3.out.bel _, blk_alloc HV3.out.b1 _, heap_alloc_new w3 _⟩, Kd.R_alloc (Kd.R_mono HR3.out (fun k hk => ⟨hk.1.1, by have := hk.2.2.1; omega⟩)) _⟩ ?_
       have n5 : w.heap.size ≠ w3.heap.size := by have := blk_lt HV3.out.b1; omega
       replace HGE := Lib.hid (show w.heap.size ≤ w3.heap.size from HV3.out.bel.size)
       clear HN5 HV3 HR3 HW HW0 c0 d0 a0 b0 n1 n2 n3 n4
       have HN5 := Lib.hid n5
       generalize hgo : w3.heap.size = go
       rw [hgo] at m1 m2 m3 m4 HN5 HGE)
  all_goals
    rintro W4 ⟨hm, hr⟩
    have HM4 := Lib.hid hm
    have HR4 := Lib.hid hr
    have a4 := (bx4 (HA.out.to hm.bel).b).2.1
    have b4 := (bx4 (HB.out.to hm.bel).b).2.1
    have o4 := (bx4 hm.b2).2.1
    have q4 := (fz4 hm.b2).2.1
    clear hm hr
    go_region_held_law (fun w' => w'.cell? ⟨ga, 1, none⟩ = some (.float .f32 x.p) ∧ w'.cell? ⟨gb, 1, none⟩ = some (.float .f32 y.p)) (go_keep) (fail)
    refine genw (Pw := fun W => Mw w w.heap.size go zf (fcs A3 r.length c3 (mixV sh x.p y.p) 0 0) W ∧ FR W w.heap.size (fun k => k ≠ w.heap.size ∧ k ≠ go) (.slice A3 r.length c3) r) ⟨by first | exact (HM4.out.put HN5.out HGE.out 1 _ rfl).dr | exact HM4.out.put HN5.out HGE.out 1 _ rfl, by first | exact Kd.R_drew (Kd.R_far HR4.out (fun k hk => hk.2) _) | exact Kd.R_far HR4.out (fun k hk => hk.2) _⟩ ?_
    clear HM4 HR4 a4 b4 o4 q4
    rintro W5 ⟨hm, hr⟩
    have HM5 := Lib.hid hm
    have HR5 := Lib.hid hr
    have a5 := (bx4 (HA.out.to hm.bel).b).2.2.1
    have b5 := (bx4 (HB.out.to hm.bel).b).2.2.1
    have o5 := (bx4 hm.b2).2.2.1
    have q5 := (fz4 hm.b2).2.2.1
    clear hm hr
    go_wp2
    go_region_held_law (fun w' => w'.cell? ⟨ga, 2, none⟩ = some (.float .f32 x.v) ∧ w'.cell? ⟨gb, 2, none⟩ = some (.float .f32 y.v)) (go_keep) (fail)
    refine genw (Pw := fun W => Mw w w.heap.size go zf (fcs A3 r.length c3 (mixV sh x.p y.p) (mixV sh x.v y.v) 0) W ∧ FR W w.heap.size (fun k => k ≠ w.heap.size ∧ k ≠ go) (.slice A3 r.length c3) r) ⟨by first | exact (HM5.out.put HN5.out HGE.out 2 _ rfl).dr | exact HM5.out.put HN5.out HGE.out 2 _ rfl, by first | exact Kd.R_drew (Kd.R_far HR5.out (fun k hk => hk.2) _) | exact Kd.R_far HR5.out (fun k hk => hk.2) _⟩ ?_
    clear HM5 HR5 a5 b5 o5 q5
    rintro W6 ⟨hm, hr⟩
    have HM6 := Lib.hid hm
    have HR6 := Lib.hid hr
    have a6 := (bx4 (HA.out.to hm.bel).b).2.2.2
    have b6 := (bx4 (HB.out.to hm.bel).b).2.2.2
    have o6 := (bx4 hm.b2).2.2.2
    have q6 := (fz4 hm.b2).2.2.2
    clear hm hr
    go_wp2
    go_region_held_law (fun w' => w'.cell? ⟨ga, 3, none⟩ = some (.float .f32 x.u) ∧ w'.cell? ⟨gb, 3, none⟩ = some (.float .f32 y.u)) (go_keep) (fail)
    refine genw (Pw := fun W => Mw w w.heap.size go zf (fcs A3 r.length c3 (mixV sh x.p y.p) (mixV sh x.v y.v) (mixV sh x.u y.u)) W ∧ FR W w.heap.size (fun k => k ≠ w.heap.size ∧ k ≠ go) (.slice A3 r.length c3) r) ⟨by first | exact (HM6.out.put HN5.out HGE.out 3 _ rfl).dr | exact HM6.out.put HN5.out HGE.out 3 _ rfl, by first | exact Kd.R_drew (Kd.R_far HR6.out (fun k hk => hk.2) _) | exact Kd.R_far HR6.out (fun k hk => hk.2) _⟩ ?_
    clear HM6 HR6 a6 b6 o6 q6
    rintro W7 ⟨hm, hr⟩
    have HM7 := Lib.hid hm
    have HR7 := Lib.hid hr
    obtain ⟨o0, o1, o2, o3⟩ := bx4 hm.b2
    obtain ⟨r0, r1, r2, r3⟩ := bx4 hm.b1
    obtain ⟨f0, f1, f2, f3⟩ := fz4 hm.b1
    clear hm hr
    go_wp2
    refine bodyPost_ret (results_cell_row rfl _ _ w.heap.size 29 (fcs A3 r.length c3 (mixV sh x.p y.p) (mixV sh x.v y.v) (mixV sh x.u y.u)) (0, 0) _ rfl (put4 HM7.out.b1 _ _ _ _) Try.underlying29 rfl (by kernel_rfl)) rfl ?_
    exact ⟨A3, c3, rfl, Kd.R_mono (fr4 (Kd.R_mono HR7.out (fun k hk => hk.1)) _ _ _ _) (fun _ _ => trivial), below4 HM7.out.bel (Nat.le_refl _) _ _ _ _⟩
end Go.Proofs.Yteooifighndmkaa.Fra
