import Derived.Test.YteooifighndmkaaFre
set_option linter.unusedVariables false
set_option linter.unusedSimpArgs false
namespace Go.Proofs.Yteooifighndmkaa.Fra
open Go.RowKit Go.Proofs.YteooifighndmkaaW.PrintWords Go.Proofs.YteooifighndmkaaW.PrintLast Go.Proofs.YteooifighndmkaaW.PrintMore Go.Proofs.YteooifighndmkaaW.PrintFl Go.Proofs.Yteooifighndmkaa Go.Proofs.Yteooifighndmkaa.PFnExactFrameAt
attribute [local go_sem high] binOp_feq binOp_fne binOp_fls binOp_fle binOp_fgr binOp_fge
attribute [local go_sem] run_stf run_fopr
abbrev RpSays (x sh : Nat) : Prop := ∀ W : World, Calls Try.prog 86 #[.float .f32 x] W fun e w' => e = .returned (.float .f32 sh) ∧ Below W.heap.size W w'
structure FM (w : World) (gs gf : Nat) (c : Array Value) (A3 : Option Addr) (c3 : Nat) (x : SD) (W : World) : Prop where
  bel : Below w.heap.size w W
  br : Bx 29 W w.heap.size zf
  bs : Bx 49 W gs c
  bf : Bx 29 W gf (fcs A3 x.f1.length c3 0 x.f4 x.f5)
  row : FR W w.heap.size (fun k => k ≠ w.heap.size ∧ k < gf) (.slice A3 x.f1.length c3) x.f1
  lt1 : w.heap.size ≠ gs
  lt2 : w.heap.size ≠ gf
theorem FM.to {w W W' : World} {gs gf : Nat} {c : Array Value} {A3 : Option Addr} {c3 : Nat} {x : SD} (h : FM w gs gf c A3 c3 x W) (hb : Below W.heap.size W W') : FM w gs gf c A3 c3 x W' := ⟨bl2 h.bel hb, blk_below h.br hb, blk_below h.bs hb, blk_below h.bf hb, Kd.R_below h.row hb, h.lt1, h.lt2⟩
structure FM2 (w : World) (gs gf gb : Nat) (c : Array Value) (A3 : Option Addr) (c3 : Nat) (x : SD) (A6 : Option Addr) (c6 : Nat) (y : SD) (W : World) : Prop where
  fm : FM w gs gf c A3 c3 x W
  bb : Bx 29 W gb (fcs A6 y.f1.length c6 0 y.f4 y.f5)
  row : FR W w.heap.size (fun k => k ≠ w.heap.size ∧ k < gb) (.slice A6 y.f1.length c6) y.f1
  lt3 : w.heap.size ≠ gb
theorem FM2.to {w W W' : World} {gs gf gb : Nat} {c : Array Value} {A3 : Option Addr} {c3 : Nat} {x : SD} {A6 : Option Addr} {c6 : Nat} {y : SD} (h : FM2 w gs gf gb c A3 c3 x A6 c6 y W) (hb : Below W.heap.size W W') : FM2 w gs gf gb c A3 c3 x A6 c6 y W' := ⟨h.fm.to hb, blk_below h.bb hb, Kd.R_below h.row hb, h.lt3⟩
theorem R_C {α : Type} {d : Kd α} {e : Nat} {w : World} {base : Nat} {ok : Nat → Prop} {A : Option Addr} {n c : Nat} {xs : List α} (h : d.R e w base ok (.slice A n c) xs) : Kd.C d w A n xs ∧ n ≤ c ∧ n = xs.length := by
  obtain ⟨h1, h2, h3⟩ := Kd.R_reads' h
  subst h1
  exact ⟨h3, h2, rfl⟩
theorem mx_at {w W : World} {gs gf gb : Nat} {cs : Array Value} {A3 : Option Addr} {c3 : Nat} {x : SD} {A6 : Option Addr} {c6 : Nat} {y : SD} {sh : Nat} {r : List Nat} {r2 r3 r4 : Nat} {ok : Bool} (hM : MxSays w y.f1 x.f1 0 y.f4 y.f5 0 x.f4 x.f5 sh r r2 r3 r4 ok) (h : FM2 w gs gf gb cs A3 c3 x A6 c6 y W) :
    Calls Try.prog 85 #[.agg #[.slice A6 y.f1.length c6, .float .f32 0, .float .f32 y.f4, .float .f32 y.f5], .agg #[.slice A3 x.f1.length c3, .float .f32 0, .float .f32 x.f4, .float .f32 x.f5], .float .f32 sh] W fun e w' => ∃ (A9 : Option Addr) (c9 : Nat), e = .returned (.tuple #[.agg #[.slice A9 r.length c9, .float .f32 r2, .float .f32 r3, .float .f32 r4], .bool ok]) ∧ FM2 w gs gf gb cs A3 c3 x A6 c6 y w' ∧ FR w' w.heap.size (fun k => k ≠ w.heap.size) (.slice A9 r.length c9) r := by
  have h1 := R_C h.row
  have h2 := R_C h.fm.row
  refine (hM A6 A3 c6 c3 W h.fm.bel h1.1 h1.2.1 h2.1 h2.2.1).mono ?_
  rintro e w9 ⟨v9, rfl, hr, hb⟩
  obtain ⟨A9, c9, rfl⟩ := Kd.R_slice hr
  exact ⟨A9, c9, rfl, h.to hb, Kd.R_mono (row_new h.fm.bel (blk_lt h.fm.br) hr) (fun k hk => hk.1)⟩
theorem FM2.far {w W : World} {gs gf gb : Nat} {A3 : Option Addr} {c3 : Nat} {x : SD} {A6 : Option Addr} {c6 : Nat} {y : SD} {As : Option Addr} {cs : Nat} (h : FM2 w gs gf gb (scs x As cs) A3 c3 x A6 c6 y W) (a0 a1 a2 a3 : Value) : (((((W.setCell ⟨w.heap.size, 0, none⟩ a0).setCell ⟨w.heap.size, 1, none⟩ a1).setCell ⟨w.heap.size, 2, none⟩ a2).setCell ⟨w.heap.size, 3, none⟩ a3).cell? ⟨gf, 0, none⟩ = some (.slice A3 x.f1.length c3) ∧ ((((W.setCell ⟨w.heap.size, 0, none⟩ a0).setCell ⟨w.heap.size, 1, none⟩ a1).setCell ⟨w.heap.size, 2, none⟩ a2).setCell ⟨w.heap.size, 3, none⟩ a3).cell? ⟨gf, 1, none⟩ = some (.float .f32 0) ∧ ((((W.setCell ⟨w.heap.size, 0, none⟩ a0).setCell ⟨w.heap.size, 1, none⟩ a1).setCell ⟨w.heap.size, 2, none⟩ a2).setCell ⟨w.heap.size, 3, none⟩ a3).cell? ⟨gf, 2, none⟩ = some (.float .f32 x.f4) ∧ ((((W.setCell ⟨w.heap.size, 0, none⟩ a0).setCell ⟨w.heap.size, 1, none⟩ a1).setCell ⟨w.heap.size, 2, none⟩ a2).setCell ⟨w.heap.size, 3, none⟩ a3).cell? ⟨gf, 3, none⟩ = some (.float .f32 x.f5)) ∧ (((((W.setCell ⟨w.heap.size, 0, none⟩ a0).setCell ⟨w.heap.size, 1, none⟩ a1).setCell ⟨w.heap.size, 2, none⟩ a2).setCell ⟨w.heap.size, 3, none⟩ a3).cell? ⟨gb, 0, none⟩ = some (.slice A6 y.f1.length c6) ∧ ((((W.setCell ⟨w.heap.size, 0, none⟩ a0).setCell ⟨w.heap.size, 1, none⟩ a1).setCell ⟨w.heap.size, 2, none⟩ a2).setCell ⟨w.heap.size, 3, none⟩ a3).cell? ⟨gb, 1, none⟩ = some (.float .f32 0) ∧ ((((W.setCell ⟨w.heap.size, 0, none⟩ a0).setCell ⟨w.heap.size, 1, none⟩ a1).setCell ⟨w.heap.size, 2, none⟩ a2).setCell ⟨w.heap.size, 3, none⟩ a3).cell? ⟨gb, 2, none⟩ = some (.float .f32 y.f4) ∧ ((((W.setCell ⟨w.heap.size, 0, none⟩ a0).setCell ⟨w.heap.size, 1, none⟩ a1).setCell ⟨w.heap.size, 2, none⟩ a2).setCell ⟨w.heap.size, 3, none⟩ a3).cell? ⟨gb, 3, none⟩ = some (.float .f32 y.f5)) ∧ ((((W.setCell ⟨w.heap.size, 0, none⟩ a0).setCell ⟨w.heap.size, 1, none⟩ a1).setCell ⟨w.heap.size, 2, none⟩ a2).setCell ⟨w.heap.size, 3, none⟩ a3).cell? ⟨gs, 3, none⟩ = some (.float .f32 x.f3) :=
  ⟨bx4 (far4 h.fm.bf (fun e => h.fm.lt2 e.symm) _ _ _ _), bx4 (far4 h.bb (fun e => h.lt3 e.symm) _ _ _ _), (bx6 (far4 h.fm.bs (fun e => h.fm.lt1 e.symm) _ _ _ _)).2.2.2.1⟩
set_option maxHeartbeats 8000000 in
set_option maxRecDepth 100000 in
theorem frameAt_mix (A0 : Option Addr) (c0 : Nat) (L : List SD) (A1 : Option Addr) (c1 : Nat) (ns : List ByteArray) (A2 : Option Addr) (c2 : Nat) (ls : List Nat) (t i u : Nat) (w : World) (hG : Ag w A0 c0 L A1 c1 ns A2 c2 ls) (hn : 1 ≤ ns.length ∧ ns.length ≤ 24) (hl : ls.length = ns.length) (hA : adv ls (ns.length - 1) 0 t = some (i, u))
    (fnd : ByteArray → Nat) (hF : ∀ nm ∈ ns, ∀ W, Below w.heap.size w W → Calls Try.prog 58 #[.slice A0 L.length c0, .string nm] W fun e w' => e = .returned (.int .i64 (fnd nm)) ∧ Below W.heap.size W w')
    (hfn : ∀ nm ∈ ns, fnd nm < L.length) (hareas : ∀ x ∈ L, x.f1.length ≤ 1048576)
    (r : List Nat) (r2 r3 r4 sh : Nat) (ok : Bool)
    (hcnd : (i ≠ 0 ∧ fge .f32 u (SndAt L fnd ns i).f3 = false ∧ foprOk .quo .f32 u (SndAt L fnd ns i).f3 = true) ∧ RpSays (fopr .quo .f32 u (SndAt L fnd ns i).f3) sh ∧ MxSays w (SndAt L fnd ns (i - 1)).f1 (SndAt L fnd ns i).f1 0 (SndAt L fnd ns (i - 1)).f4 (SndAt L fnd ns (i - 1)).f5 0 (SndAt L fnd ns i).f4 (SndAt L fnd ns i).f5 sh r r2 r3 r4 ok) :
    Calls Try.prog 49 #[.slice A0 L.length c0, .slice A1 ns.length c1, .slice A2 ls.length c2, .float .f32 t] w fun e w' => ∃ v0_ : Value, e = .returned (.tuple #[.agg #[v0_, .float .f32 r2, .float .f32 r3, .float .f32 r4], .bool ok]) ∧ FR w' w.heap.size (fun _ => True) v0_ r ∧ Below w.heap.size w w' := by
  have HG := Lib.hid hG
  have HN := Lib.hid hn
  have HLn := Lib.hid hl
  have HA := Lib.hid hA
  have HF := Lib.hid hF
  have HFN := Lib.hid hfn
  have HAR := Lib.hid hareas
  clear hG hn hl hA hF hfn hareas
  have HCND := Lib.hid hcnd
  clear hcnd
  go_enter Try.func49, Try.ntmps49
  go_wp2
  refine genw (Pw := fun W => Below w.heap.size w W ∧ Bx 29 W w.heap.size zf) ⟨below_alloc (Below.refl _ _) _, heap_alloc_new w _⟩ ?_
  rintro W1 ⟨hb1, hx1⟩
  have HW := Lib.hid hb1
  have HX := Lib.hid hx1
  clear hb1 hx1
  go_loopw [3, 10] (fun v3 v10 wr => ∃ (d j tt : Nat), v3 = .float .f32 tt ∧ v10 = .int .i64 j ∧ j + d = ns.length - 1 ∧ Hid (adv ls d j tt = some (i, u)) ∧ wr = W1) (fun _ v10 _ => ns.length - (intOf v10).toNat)
  case atStart => exact ⟨ns.length - 1, 0, t, rfl, rfl, by omega, HA, rfl⟩
  case round =>
    obtain ⟨d, j, tt, rfl, rfl, hjd, HD, rfl⟩ := hrel
    have e0 : wrap64 ((ns.length : Int) - 1) = ((ns.length - 1 : Nat) : Int) := by have := HN.out; unfold wrap64; omega
    have hD := HD.out
    cases d with
    | zero =>
      rw [adv] at hD
      injection hD with hD
      injection hD with h1 h2
      subst h1 h2
      have q1 : decide ((j : Int) < ((ns.length - 1 : Nat) : Int)) = false := decide_eq_false (by omega)
      have p1 : (0 : Int) ≤ (j : Int) := by omega
      have q2 : (j : Int) < (ns.length : Int) := by have := HN.out; omega
      have hj0 : j ≠ 0 := HCND.out.1.1
      have g1 : ((j : Int) == 0) = false := beq_eq_false_iff_ne.mpr (by omega)
      have e7 : wrap64 ((j : Int) - 1) = ((j - 1 : Nat) : Int) := by have := HN.out; unfold wrap64; omega
      have p8 : (0 : Int) ≤ ((j - 1 : Nat) : Int) := by omega
      have q8 : ((j - 1 : Nat) : Int) < (ns.length : Int) := by omega
      obtain ⟨ad, e1, hx1⟩ := Kd.at_string (HG.out.to HW.out).r1 (j : Int) p1 q2
      cases e1
      rw [Int.toNat_natCast] at hx1
      have hC0 := HCND.out
      simp only [SndAt] at hC0
      have hmn := rd_mem (ns := ns) (i := j) (by omega)
      have hmn2 := rd_mem (ns := ns) (i := j - 1) (by omega)
      generalize hnm : rdOf ByteArray.empty ns (j : Int) = nm at hx1 hC0 hmn
      generalize hnm2 : rdOf ByteArray.empty ns ((j - 1 : Nat) : Int) = nm2 at hC0 hmn2
      have HMN := Lib.hid hmn
      have HMN2 := Lib.hid hmn2
      clear hmn hmn2
      replace HCND := Lib.hid hC0
      have HX2N := Lib.hid (show ∀ W, Below w.heap.size w W → W.cell? (ad.add (j - 1)) = some (.string nm2) from fun W hW => by
        obtain ⟨ad2, e2, hx2⟩ := Kd.at_string (HG.out.to hW).r1 ((j - 1 : Nat) : Int) p8 q8
        injection e2 with e2
        subst e2
        rw [Int.toNat_natCast, hnm2] at hx2
        exact hx2)
      replace p1 := eq_true p1
      replace q2 := eq_true q2
      replace p8 := eq_true p8
      replace q8 := eq_true q8
      clear hC0 hj0
      have M1 : True := trivial
      have M2 : True := trivial
      go_wp2_with (first
        | (go_at_call 58; clear M1; (with_reducible refine (HF.out nm HMN.out _ (HW.out)).mono ?_); rintro e w2 ⟨rfl, hb⟩; have HB2 := Lib.hid (bl2 (HW.out) hb); have HX2 := Lib.hid (blk_below (HX.out) hb)
           have p3 : (0 : Int) ≤ (fnd nm : Int) := by omega
           have q3 : (fnd nm : Int) < (L.length : Int) := by have := HFN.out nm HMN.out; omega
           obtain ⟨al, As, cs, e2, z0, z1, z2, z3, z4, z5, hls, his⟩ := at_T49 (HG.out.to HB2.out).r0 (fnd nm : Int) p3 q3
           cases e2
           rw [Int.toNat_natCast] at z0 z1 z2 z3 z4 z5
           replace p3 := eq_true p3
           replace q3 := eq_true q3
           have hmem : rd_T49 L (fnd nm : Int) ∈ L := by
             have h_ := HFN.out nm HMN.out
             unfold rd_T49
             rw [Int.toNat_natCast, List.getD_eq_getElem?_getD, List.getElem?_eq_getElem h_]
             exact List.getElem_mem h_
           have hM1 := HAR.out _ hmem
           have hC1 := HCND.out
           generalize hsx : rd_T49 L (fnd nm : Int) = sx at z0 z1 z2 z3 z4 z5 hls his hM1 hC1
           replace HCND := Lib.hid hC1
           have HMem := Lib.hid hM1
           have HIS := Lib.hid his
           have HLS := Lib.hid hls
           clear hC1 hM1 hb his hls hmem)
        | (go_at_call 83; clear M2; (with_reducible refine (frameOf_at As cs sx 0 _ (Kd.C_below HIS.out (by repeat (first | exact Below.refl _ _ | apply below_alloc | apply pw_below_drewN | apply below_drew1))) (by have := HMem.out; omega)).mono ?_); rintro e w3 ⟨A3, c3, rfl, hr, hb⟩
           have hB3 := bl2 (below_alloc HB2.out (.cells (scs sx As cs) 49)) hb
           have HW3 := Lib.hid (show FM w w2.heap.size w3.heap.size (scs sx As cs) A3 c3 sx (w3.alloc (.cells (fcs A3 sx.f1.length c3 0 sx.f4 sx.f5) 29)) from ⟨below_alloc hB3 _, blk_alloc (blk_below (blk_alloc HX2.out _) hb) _, blk_alloc (blk_below (heap_alloc_new w2 _) hb) _, heap_alloc_new w3 _, Kd.R_alloc (row_new (below_alloc HB2.out _) (blk_lt (blk_alloc HX2.out (.cells (scs sx As cs) 49))) hr) _, Nat.ne_of_lt (blk_lt HX2.out), Nat.ne_of_lt (blk_lt (blk_below (blk_alloc HX2.out (.cells (scs sx As cs) 49)) hb))⟩)
           have s3' : (w3.alloc (.cells #[.slice A3 sx.f1.length c3, .float .f32 0, .float .f32 sx.f4, .float .f32 sx.f5] 29)).cell? ⟨w2.heap.size, 3, none⟩ = some (.float .f32 sx.f3) := (bx6 HW3.out.bs).2.2.2.1
           have hx2' : (w3.alloc (.cells #[.slice A3 sx.f1.length c3, .float .f32 0, .float .f32 sx.f4, .float .f32 sx.f5] 29)).cell? (ad.add (j - 1)) = some (.string nm2) := HX2N.out _ HW3.out.bel
           have g2 := HCND.out.1.2.1
           have g3 := HCND.out.1.2.2
           clear hr hb hB3)
        | (go_at_call 58; (with_reducible refine (HF.out nm2 HMN2.out _ (HW3.out.bel)).mono ?_); rintro e w5 ⟨rfl, hb⟩; have HB5 := Lib.hid (bl2 (HW3.out.bel) hb); have HX5 := Lib.hid (blk_below (HW3.out.br) hb)
           have HW5 := Lib.hid (HW3.out.to hb)
           have p32 : (0 : Int) ≤ (fnd nm2 : Int) := by omega
           have q32 : (fnd nm2 : Int) < (L.length : Int) := by have := HFN.out nm2 HMN2.out; omega
           obtain ⟨al2, As2, cs2, e2, z0, z1, z2, z3, z4, z5, hls, his⟩ := at_T49 (HG.out.to HB5.out).r0 (fnd nm2 : Int) p32 q32
           cases e2
           rw [Int.toNat_natCast] at z0 z1 z2 z3 z4 z5
           replace p32 := eq_true p32
           replace q32 := eq_true q32
           have hmem : rd_T49 L (fnd nm2 : Int) ∈ L := by
             have h_ := HFN.out nm2 HMN2.out
             unfold rd_T49
             rw [Int.toNat_natCast, List.getD_eq_getElem?_getD, List.getElem?_eq_getElem h_]
             exact List.getElem_mem h_
           have hM1 := HAR.out _ hmem
           have hC1 := HCND.out
           generalize hsx2 : rd_T49 L (fnd nm2 : Int) = sx2 at z0 z1 z2 z3 z4 z5 hls his hM1 hC1
           replace HCND := Lib.hid hC1
           have HMem2 := Lib.hid hM1
           have HIS2 := Lib.hid his
           have HLS2 := Lib.hid hls
           clear hC1 hM1 hb his hls hmem)
        | (go_at_call 83; (with_reducible refine (frameOf_at As2 cs2 sx2 0 _ (Kd.C_below HIS2.out (by repeat (first | exact Below.refl _ _ | apply below_alloc | apply pw_below_drewN | apply below_drew1))) (by have := HMem2.out; omega)).mono ?_); rintro e w6 ⟨A6, c6, rfl, hr, hb⟩
           have HW6 := Lib.hid (show FM2 w w2.heap.size w3.heap.size w6.heap.size (scs sx As cs) A3 c3 sx A6 c6 sx2 (w6.alloc (.cells (fcs A6 sx2.f1.length c6 0 sx2.f4 sx2.f5) 29)) from ⟨(HW5.out.to hb).to (below_alloc (Below.refl _ _) _), heap_alloc_new w6 _, Kd.R_alloc (row_new HW5.out.bel (blk_lt HW5.out.br) hr) _, Nat.ne_of_lt (blk_lt (HW5.out.to hb).br)⟩)
           obtain ⟨t0, t1, t2, t3⟩ := bx4 HW6.out.fm.bf
           obtain ⟨v0, v1, v2, v3⟩ := bx4 HW6.out.bb
           have v4 := (bx6 HW6.out.fm.bs).2.2.2.1
           clear hr hb))
      refine genw HW6.out ?_
      intro W7 hW7
      have HW7 := Lib.hid hW7
      have HRp := Lib.hid HCND.out.2.1
      have HMx := Lib.hid HCND.out.2.2
      clear t0 t1 t2 t3 v0 v1 v2 v3 v4 s3' hx2' z0 z1 z2 z3 z4 z5 hx1 HW6 HW5 HW3 HB5 HX5 HB2 HX2
      obtain ⟨t0, t1, t2, t3⟩ := bx4 hW7.fm.bf
      obtain ⟨v0, v1, v2, v3⟩ := bx4 hW7.bb
      have v4 := (bx6 hW7.fm.bs).2.2.2.1
      clear hW7
      go_region_held_law (fun w' => (w'.cell? ⟨w3.heap.size, 0, none⟩ = some (.slice A3 sx.f1.length c3) ∧ w'.cell? ⟨w3.heap.size, 1, none⟩ = some (.float .f32 0) ∧ w'.cell? ⟨w3.heap.size, 2, none⟩ = some (.float .f32 sx.f4) ∧ w'.cell? ⟨w3.heap.size, 3, none⟩ = some (.float .f32 sx.f5)) ∧ (w'.cell? ⟨w6.heap.size, 0, none⟩ = some (.slice A6 sx2.f1.length c6) ∧ w'.cell? ⟨w6.heap.size, 1, none⟩ = some (.float .f32 0) ∧ w'.cell? ⟨w6.heap.size, 2, none⟩ = some (.float .f32 sx2.f4) ∧ w'.cell? ⟨w6.heap.size, 3, none⟩ = some (.float .f32 sx2.f5)) ∧ w'.cell? ⟨w2.heap.size, 3, none⟩ = some (.float .f32 sx.f3)) (first | (with_reducible exact ⟨bx4 HW9.out.fm.bf, bx4 HW9.out.bb, (bx6 HW9.out.fm.bs).2.2.2.1⟩) | (with_reducible exact HW9.out.far _ _ _ _) | (with_reducible exact ⟨bx4 HW8.out.fm.bf, bx4 HW8.out.bb, (bx6 HW8.out.fm.bs).2.2.2.1⟩) | go_keep) (first
        | (go_at_call 86; (with_reducible refine (HRp.out _).mono ?_); rintro e w8 ⟨rfl, hb⟩
           have HW8 := Lib.hid (HW7.out.to (bl2 (by first | exact Below.refl _ _ | exact below_drew (Below.refl _ _)) hb))
           clear hb)
        | (go_at_call 85; (first | (with_reducible refine (mx_at HMx.out HW8.out).mono ?_) | (with_reducible refine (mx_at HMx.out (HW8.out.to (below_drew (Below.refl _ _)))).mono ?_)); rintro e w9 ⟨A9, c9, rfl, hfm, hr⟩
           have HW9 := Lib.hid hfm
           have HR9 := Lib.hid hr
           obtain ⟨r0_, r1_, r2_, r3_⟩ := bx4 HW9.out.fm.br
           obtain ⟨f0_, f1_, f2_, f3_⟩ := fz4 HW9.out.fm.br
           clear hr hfm))
      all_goals
        go_wp2
        refine bodyPost_ret (results_ct rfl _ _ w.heap.size 29 #[.slice A9 r.length c9, .float .f32 r2, .float .f32 r3, .float .f32 r4] (0, 0) _ rfl (put4 HW9.out.fm.br _ _ _ _) Try.underlying29 rfl (by kernel_rfl)) rfl ?_
        exact ⟨_, rfl, Kd.R_mono (fr4 HR9.out _ _ _ _) (fun _ _ => trivial), below4 HW9.out.fm.bel (Nat.le_refl _) _ _ _ _⟩
    | succ d =>
      rw [adv] at hD
      have p1 : (0 : Int) ≤ (j : Int) := by omega
      have q2' : (j : Int) < (ls.length : Int) := by have h1 := HN.out; have h2 := HLn.out; omega
      have q1 : decide ((j : Int) < ((ns.length - 1 : Nat) : Int)) = true := decide_eq_true (by omega)
      obtain ⟨at2, e2, hx2⟩ := Kd.at_float (HG.out.to HW.out).r2 (j : Int) p1 q2'
      cases e2
      rw [Int.toNat_natCast] at hx2
      have p1' := p1
      replace p1 := eq_true p1
      replace q2' := eq_true q2'
      generalize hly : rdOf (0 : Nat) ls (j : Int) = ly at hx2 hD
      by_cases c1 : fle .f32 ly tt = true
      · rw [if_pos c1] at hD
        by_cases c2 : foprOk .sub .f32 tt ly = true
        · rw [if_pos c2] at hD
          have HD2 := Lib.hid hD
          have e5 : wrap64 ((j : Int) + 1) = ((j + 1 : Nat) : Int) := by have := HN.out; unfold wrap64; omega
          clear hD
          go_wp2
          exact ⟨⟨d, j + 1, _, rfl, by rw [e5], by omega, HD2, trivial⟩, by rw [e5]; show ns.length - (j + 1) < ns.length - j; have := HN.out; omega⟩
        · rw [if_neg c2] at hD
          cases hD
      · rw [if_neg c1] at hD
        rw [Bool.not_eq_true] at c1
        injection hD with hD
        injection hD with h1 h2
        subst h1 h2
        have p1 : (0 : Int) ≤ (j : Int) := by omega
        have q2 : (j : Int) < (ns.length : Int) := by have := HN.out; omega
        have hj0 : j ≠ 0 := HCND.out.1.1
        have g1 : ((j : Int) == 0) = false := beq_eq_false_iff_ne.mpr (by omega)
        have e7 : wrap64 ((j : Int) - 1) = ((j - 1 : Nat) : Int) := by have := HN.out; unfold wrap64; omega
        have p8 : (0 : Int) ≤ ((j - 1 : Nat) : Int) := by omega
        have q8 : ((j - 1 : Nat) : Int) < (ns.length : Int) := by omega
        obtain ⟨ad, e1, hx1⟩ := Kd.at_string (HG.out.to HW.out).r1 (j : Int) p1 q2
        cases e1
        rw [Int.toNat_natCast] at hx1
        have hC0 := HCND.out
        simp only [SndAt] at hC0
        have hmn := rd_mem (ns := ns) (i := j) (by omega)
        have hmn2 := rd_mem (ns := ns) (i := j - 1) (by omega)
        generalize hnm : rdOf ByteArray.empty ns (j : Int) = nm at hx1 hC0 hmn
        generalize hnm2 : rdOf ByteArray.empty ns ((j - 1 : Nat) : Int) = nm2 at hC0 hmn2
        have HMN := Lib.hid hmn
        have HMN2 := Lib.hid hmn2
        clear hmn hmn2
        replace HCND := Lib.hid hC0
        have HX2N := Lib.hid (show ∀ W, Below w.heap.size w W → W.cell? (ad.add (j - 1)) = some (.string nm2) from fun W hW => by
          obtain ⟨ad2, e2, hx2⟩ := Kd.at_string (HG.out.to hW).r1 ((j - 1 : Nat) : Int) p8 q8
          injection e2 with e2
          subst e2
          rw [Int.toNat_natCast, hnm2] at hx2
          exact hx2)
        replace p1 := eq_true p1
        replace q2 := eq_true q2
        replace p8 := eq_true p8
        replace q8 := eq_true q8
        clear hC0 hj0
        have M1 : True := trivial
        have M2 : True := trivial
        go_wp2_with (first
          | (go_at_call 58; clear M1; (with_reducible refine (HF.out nm HMN.out _ (HW.out)).mono ?_); rintro e w2 ⟨rfl, hb⟩; have HB2 := Lib.hid (bl2 (HW.out) hb); have HX2 := Lib.hid (blk_below (HX.out) hb)
             have p3 : (0 : Int) ≤ (fnd nm : Int) := by omega
             have q3 : (fnd nm : Int) < (L.length : Int) := by have := HFN.out nm HMN.out; omega
             obtain ⟨al, As, cs, e2, z0, z1, z2, z3, z4, z5, hls, his⟩ := at_T49 (HG.out.to HB2.out).r0 (fnd nm : Int) p3 q3
             cases e2
             rw [Int.toNat_natCast] at z0 z1 z2 z3 z4 z5
             replace p3 := eq_true p3
             replace q3 := eq_true q3
             have hmem : rd_T49 L (fnd nm : Int) ∈ L := by
               have h_ := HFN.out nm HMN.out
               unfold rd_T49
               rw [Int.toNat_natCast, List.getD_eq_getElem?_getD, List.getElem?_eq_getElem h_]
               exact List.getElem_mem h_
             have hM1 := HAR.out _ hmem
             have hC1 := HCND.out
             generalize hsx : rd_T49 L (fnd nm : Int) = sx at z0 z1 z2 z3 z4 z5 hls his hM1 hC1
             replace HCND := Lib.hid hC1
             have HMem := Lib.hid hM1
             have HIS := Lib.hid his
             have HLS := Lib.hid hls
             clear hC1 hM1 hb his hls hmem)
          | (go_at_call 83; clear M2; (with_reducible refine (frameOf_at As cs sx 0 _ (Kd.C_below HIS.out (by repeat (first | exact Below.refl _ _ | apply below_alloc | apply pw_below_drewN | apply below_drew1))) (by have := HMem.out; omega)).mono ?_); rintro e w3 ⟨A3, c3, rfl, hr, hb⟩
             have hB3 := bl2 (below_alloc HB2.out (.cells (scs sx As cs) 49)) hb
             have HW3 := Lib.hid (show FM w w2.heap.size w3.heap.size (scs sx As cs) A3 c3 sx (w3.alloc (.cells (fcs A3 sx.f1.length c3 0 sx.f4 sx.f5) 29)) from ⟨below_alloc hB3 _, blk_alloc (blk_below (blk_alloc HX2.out _) hb) _, blk_alloc (blk_below (heap_alloc_new w2 _) hb) _, heap_alloc_new w3 _, Kd.R_alloc (row_new (below_alloc HB2.out _) (blk_lt (blk_alloc HX2.out (.cells (scs sx As cs) 49))) hr) _, Nat.ne_of_lt (blk_lt HX2.out), Nat.ne_of_lt (blk_lt (blk_below (blk_alloc HX2.out (.cells (scs sx As cs) 49)) hb))⟩)
             have s3' : (w3.alloc (.cells #[.slice A3 sx.f1.length c3, .float .f32 0, .float .f32 sx.f4, .float .f32 sx.f5] 29)).cell? ⟨w2.heap.size, 3, none⟩ = some (.float .f32 sx.f3) := (bx6 HW3.out.bs).2.2.2.1
             have hx2' : (w3.alloc (.cells #[.slice A3 sx.f1.length c3, .float .f32 0, .float .f32 sx.f4, .float .f32 sx.f5] 29)).cell? (ad.add (j - 1)) = some (.string nm2) := HX2N.out _ HW3.out.bel
             have g2 := HCND.out.1.2.1
             have g3 := HCND.out.1.2.2
             clear hr hb hB3)
          | (go_at_call 58; (with_reducible refine (HF.out nm2 HMN2.out _ (HW3.out.bel)).mono ?_); rintro e w5 ⟨rfl, hb⟩; have HB5 := Lib.hid (bl2 (HW3.out.bel) hb); have HX5 := Lib.hid (blk_below (HW3.out.br) hb)
             have HW5 := Lib.hid (HW3.out.to hb)
             have p32 : (0 : Int) ≤ (fnd nm2 : Int) := by omega
             have q32 : (fnd nm2 : Int) < (L.length : Int) := by have := HFN.out nm2 HMN2.out; omega
             obtain ⟨al2, As2, cs2, e2, z0, z1, z2, z3, z4, z5, hls, his⟩ := at_T49 (HG.out.to HB5.out).r0 (fnd nm2 : Int) p32 q32
             cases e2
             rw [Int.toNat_natCast] at z0 z1 z2 z3 z4 z5
             replace p32 := eq_true p32
             replace q32 := eq_true q32
             have hmem : rd_T49 L (fnd nm2 : Int) ∈ L := by
               have h_ := HFN.out nm2 HMN2.out
               unfold rd_T49
               rw [Int.toNat_natCast, List.getD_eq_getElem?_getD, List.getElem?_eq_getElem h_]
               exact List.getElem_mem h_
             have hM1 := HAR.out _ hmem
             have hC1 := HCND.out
             generalize hsx2 : rd_T49 L (fnd nm2 : Int) = sx2 at z0 z1 z2 z3 z4 z5 hls his hM1 hC1
             replace HCND := Lib.hid hC1
             have HMem2 := Lib.hid hM1
             have HIS2 := Lib.hid his
             have HLS2 := Lib.hid hls
             clear hC1 hM1 hb his hls hmem)
          | (go_at_call 83; (with_reducible refine (frameOf_at As2 cs2 sx2 0 _ (Kd.C_below HIS2.out (by repeat (first | exact Below.refl _ _ | apply below_alloc | apply pw_below_drewN | apply below_drew1))) (by have := HMem2.out; omega)).mono ?_); rintro e w6 ⟨A6, c6, rfl, hr, hb⟩
             have HW6 := Lib.hid (show FM2 w w2.heap.size w3.heap.size w6.heap.size (scs sx As cs) A3 c3 sx A6 c6 sx2 (w6.alloc (.cells (fcs A6 sx2.f1.length c6 0 sx2.f4 sx2.f5) 29)) from ⟨(HW5.out.to hb).to (below_alloc (Below.refl _ _) _), heap_alloc_new w6 _, Kd.R_alloc (row_new HW5.out.bel (blk_lt HW5.out.br) hr) _, Nat.ne_of_lt (blk_lt (HW5.out.to hb).br)⟩)
             obtain ⟨t0, t1, t2, t3⟩ := bx4 HW6.out.fm.bf
             obtain ⟨v0, v1, v2, v3⟩ := bx4 HW6.out.bb
             have v4 := (bx6 HW6.out.fm.bs).2.2.2.1
             clear hr hb))
        refine genw HW6.out ?_
        intro W7 hW7
        have HW7 := Lib.hid hW7
        have HRp := Lib.hid HCND.out.2.1
        have HMx := Lib.hid HCND.out.2.2
        clear t0 t1 t2 t3 v0 v1 v2 v3 v4 s3' hx2' z0 z1 z2 z3 z4 z5 hx1 HW6 HW5 HW3 HB5 HX5 HB2 HX2
        obtain ⟨t0, t1, t2, t3⟩ := bx4 hW7.fm.bf
        obtain ⟨v0, v1, v2, v3⟩ := bx4 hW7.bb
        have v4 := (bx6 hW7.fm.bs).2.2.2.1
        clear hW7
        go_region_held_law (fun w' => (w'.cell? ⟨w3.heap.size, 0, none⟩ = some (.slice A3 sx.f1.length c3) ∧ w'.cell? ⟨w3.heap.size, 1, none⟩ = some (.float .f32 0) ∧ w'.cell? ⟨w3.heap.size, 2, none⟩ = some (.float .f32 sx.f4) ∧ w'.cell? ⟨w3.heap.size, 3, none⟩ = some (.float .f32 sx.f5)) ∧ (w'.cell? ⟨w6.heap.size, 0, none⟩ = some (.slice A6 sx2.f1.length c6) ∧ w'.cell? ⟨w6.heap.size, 1, none⟩ = some (.float .f32 0) ∧ w'.cell? ⟨w6.heap.size, 2, none⟩ = some (.float .f32 sx2.f4) ∧ w'.cell? ⟨w6.heap.size, 3, none⟩ = some (.float .f32 sx2.f5)) ∧ w'.cell? ⟨w2.heap.size, 3, none⟩ = some (.float .f32 sx.f3)) (first | (with_reducible exact ⟨bx4 HW9.out.fm.bf, bx4 HW9.out.bb, (bx6 HW9.out.fm.bs).2.2.2.1⟩) | (with_reducible exact HW9.out.far _ _ _ _) | (with_reducible exact ⟨bx4 HW8.out.fm.bf, bx4 HW8.out.bb, (bx6 HW8.out.fm.bs).2.2.2.1⟩) | go_keep) (first
          | (go_at_call 86; (with_reducible refine (HRp.out _).mono ?_); rintro e w8 ⟨rfl, hb⟩
             have HW8 := Lib.hid (HW7.out.to (bl2 (by first | exact Below.refl _ _ | exact below_drew (Below.refl _ _)) hb))
             clear hb)
          | (go_at_call 85; (first | (with_reducible refine (mx_at HMx.out HW8.out).mono ?_) | (with_reducible refine (mx_at HMx.out (HW8.out.to (below_drew (Below.refl _ _)))).mono ?_)); rintro e w9 ⟨A9, c9, rfl, hfm, hr⟩
             have HW9 := Lib.hid hfm
             have HR9 := Lib.hid hr
             obtain ⟨r0_, r1_, r2_, r3_⟩ := bx4 HW9.out.fm.br
             obtain ⟨f0_, f1_, f2_, f3_⟩ := fz4 HW9.out.fm.br
             clear hr hfm))
        all_goals
          go_wp2
          refine bodyPost_ret (results_ct rfl _ _ w.heap.size 29 #[.slice A9 r.length c9, .float .f32 r2, .float .f32 r3, .float .f32 r4] (0, 0) _ rfl (put4 HW9.out.fm.br _ _ _ _) Try.underlying29 rfl (by kernel_rfl)) rfl ?_
          exact ⟨_, rfl, Kd.R_mono (fr4 HR9.out _ _ _ _) (fun _ _ => trivial), below4 HW9.out.fm.bel (Nat.le_refl _) _ _ _ _⟩
end Go.Proofs.Yteooifighndmkaa.Fra
