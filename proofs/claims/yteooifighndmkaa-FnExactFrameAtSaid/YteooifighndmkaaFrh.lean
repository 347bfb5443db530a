import Derived.Test.YteooifighndmkaaFrg
import Derived.Test.YteooifighndmkaaFrc
set_option linter.unusedVariables false
set_option linter.unusedSimpArgs false
namespace Go.Proofs.Yteooifighndmkaa.Fra
open Go.RowKit Go.Proofs.YteooifighndmkaaW.PrintWords Go.Proofs.YteooifighndmkaaW.PrintLast Go.Proofs.YteooifighndmkaaW.PrintMore Go.Proofs.YteooifighndmkaaW.PrintFl Go.Proofs.Yteooifighndmkaa Go.Proofs.Yteooifighndmkaa.PFnExactFrameAt
attribute [local go_sem high] binOp_feq binOp_fne binOp_fls binOp_fle binOp_fgr binOp_fge
attribute [local go_sem] run_stf run_fopr
abbrev LrSays (x sh : Nat) : Prop := ∀ W : World, Calls Try.prog 77 #[.float .f32 x] W fun e w' => e = .returned (.float .f32 sh) ∧ Below W.heap.size W w'
abbrev LmSays (a b : List Nat) (sh : Nat) (m : List Nat) : Prop := ∀ (A B : Option Addr) (ca cb : Nat) (W : World), Kd.C (Kd.float .f32) W A a.length a → a.length ≤ ca → Kd.C (Kd.float .f32) W B b.length b → b.length ≤ cb → Calls Try.prog 110 #[.slice A a.length ca, .slice B b.length cb, .float .f32 sh] W fun e w' => ∃ v0_ : Value, e = .returned v0_ ∧ FR w' W.heap.size (fun _ => True) v0_ m ∧ Below W.heap.size W w'
structure LM (w w2 : World) (gf : Nat) (A3 : Option Addr) (c3 : Nat) (x : SD) (W : World) : Prop where
  bel : Below w.heap.size w W
  b2 : Below w2.heap.size w2 W
  br : Bx 29 W w.heap.size zf
  bf : Bx 29 W gf (fcs A3 x.f1.length c3 0 x.f4 x.f5)
  row : FR W w.heap.size (fun k => k ≠ w.heap.size ∧ k < gf) (.slice A3 x.f1.length c3) x.f1
  lt2 : w.heap.size ≠ gf
  ge : w.heap.size ≤ gf
theorem LM.to {w w2 W W' : World} {gf : Nat} {A3 : Option Addr} {c3 : Nat} {x : SD} (h : LM w w2 gf A3 c3 x W) (hb : Below W.heap.size W W') : LM w w2 gf A3 c3 x W' := ⟨bl2 h.bel hb, bl2 h.b2 hb, blk_below h.br hb, blk_below h.bf hb, Kd.R_below h.row hb, h.lt2, h.ge⟩
structure LM2 (w w2 : World) (gf gb : Nat) (A3 : Option Addr) (c3 : Nat) (x : SD) (A6 : Option Addr) (c6 : Nat) (y : SD) (W : World) : Prop where
  lm : LM w w2 gf A3 c3 x W
  bb : Bx 29 W gb (fcs A6 y.f1.length c6 0 y.f4 y.f5)
  row : FR W w.heap.size (fun k => k ≠ w.heap.size ∧ k < gb) (.slice A6 y.f1.length c6) y.f1
  lt3 : w.heap.size ≠ gb
  ne : gf ≠ gb
theorem LM2.to {w w2 W W' : World} {gf gb : Nat} {A3 : Option Addr} {c3 : Nat} {x : SD} {A6 : Option Addr} {c6 : Nat} {y : SD} (h : LM2 w w2 gf gb A3 c3 x A6 c6 y W) (hb : Below W.heap.size W W') : LM2 w w2 gf gb A3 c3 x A6 c6 y W' := ⟨h.lm.to hb, blk_below h.bb hb, Kd.R_below h.row hb, h.lt3, h.ne⟩
theorem R_Cl {α : Type} {d : Kd α} {e : Nat} {w : World} {base : Nat} {ok : Nat → Prop} {A : Option Addr} {n c : Nat} {xs : List α} (h : d.R e w base ok (.slice A n c) xs) : Kd.C d w A n xs ∧ n ≤ c ∧ n = xs.length := by
  obtain ⟨h1, h2, h3⟩ := Kd.R_reads' h
  subst h1
  exact ⟨h3, h2, rfl⟩
theorem lm_at {w w2 W : World} {gf gb : Nat} {A3 : Option Addr} {c3 : Nat} {x : SD} {A6 : Option Addr} {c6 : Nat} {y : SD} {sh : Nat} {m : List Nat} (hM : LmSays y.f1 x.f1 sh m) (k : MixOk sh 0 0 ∧ MixOk sh y.f4 x.f4 ∧ MixOk sh y.f5 x.f5) (h : LM2 w w2 gf gb A3 c3 x A6 c6 y W) :
    Calls Try.prog 76 #[.pointer (some ⟨gb, 0, none⟩), .pointer (some ⟨gf, 0, none⟩), .float .f32 sh] W fun e w' => ∃ (A9 : Option Addr) (c9 : Nat), e = .returned (.agg #[.slice A9 m.length c9, .float .f32 (mixV sh 0 0), .float .f32 (mixV sh y.f4 x.f4), .float .f32 (mixV sh y.f5 x.f5)]) ∧ LM2 w w2 gf gb A3 c3 x A6 c6 y w' ∧ FR w' w.heap.size (fun k => k ≠ w.heap.size ∧ k ≠ gf) (.slice A9 m.length c9) m := by
  have h1 := R_Cl h.row
  have h2 := R_Cl h.lm.row
  refine (mix_at gb gf A6 A3 c6 c3 ⟨y.f1, 0, y.f4, y.f5⟩ ⟨x.f1, 0, x.f4, x.f5⟩ sh W ⟨h.bb, h1.1, h1.2.1⟩ ⟨h.lm.bf, h2.1, h2.2.1⟩ m (fun W' hW => hM A6 A3 c6 c3 W' (Kd.C_below h1.1 hW) h1.2.1 (Kd.C_below h2.1 hW) h2.2.1) k.1 k.2.1 k.2.2).mono ?_
  rintro e w9 ⟨A9, c9, rfl, hr, hb⟩
  refine ⟨A9, c9, rfl, h.to hb, Kd.R_lower (Kd.R_mono (Kd.R_bound hr) (fun k hk => ?_)) h.lm.bel.size⟩
  have e1 : W.heap.size ≤ k := hk.2.1
  have e2 := blk_lt h.lm.br
  have e3 := blk_lt h.lm.bf
  exact ⟨by omega, by omega⟩
set_option maxHeartbeats 8000000 in
set_option maxRecDepth 100000 in
theorem lat_mix (A0 : Option Addr) (c0 : Nat) (L : List SD) (A1 : Option Addr) (c1 : Nat) (ns : List ByteArray) (A2 : Option Addr) (c2 : Nat) (ls : List Nat) (t i u : Nat) (w : World) (hG : Ag w A0 c0 L A1 c1 ns A2 c2 ls) (hn : 1 ≤ ns.length ∧ ns.length ≤ 24) (hl : ls.length = ns.length) (hA : adv ls (ns.length - 1) 0 t = some (i, u))
    (fnd : ByteArray → Nat) (hF : ∀ nm ∈ ns, ∀ W, Below w.heap.size w W → Calls Try.prog 74 #[.slice A0 L.length c0, .string nm] W fun e w' => e = .returned (.int .i64 (fnd nm)) ∧ Below W.heap.size W w')
    (hfn : ∀ nm ∈ ns, fnd nm < L.length) (hareas : ∀ x ∈ L, x.f1.length ≤ 1048576)
    (r : List Nat) (m : List Nat) (r2 r3 r4 sh : Nat) (ok : Bool)
    (hcnd : (i ≠ 0 ∧ fls .f32 u (SndAt L fnd ns i).f3 = true ∧ foprOk .quo .f32 u (SndAt L fnd ns i).f3 = true) ∧ LrSays (fopr .quo .f32 u (SndAt L fnd ns i).f3) sh ∧ LmSays (SndAt L fnd ns (i - 1)).f1 (SndAt L fnd ns i).f1 sh m ∧ (MixOk sh 0 0 ∧ MixOk sh (SndAt L fnd ns (i - 1)).f4 (SndAt L fnd ns i).f4 ∧ MixOk sh (SndAt L fnd ns (i - 1)).f5 (SndAt L fnd ns i).f5) ∧ GvSays m (mixV sh 0 0) (mixV sh (SndAt L fnd ns (i - 1)).f4 (SndAt L fnd ns i).f4) (mixV sh (SndAt L fnd ns (i - 1)).f5 (SndAt L fnd ns i).f5) r r2 r3 r4 ok) :
    Calls Try.prog 44 #[.slice A0 L.length c0, .slice A1 ns.length c1, .slice A2 ls.length c2, .float .f32 t] w fun e w' => ∃ v0_ : Value, e = .returned (.tuple #[.agg #[v0_, .float .f32 r2, .float .f32 r3, .float .f32 r4], .bool ok]) ∧ FR w' w.heap.size (fun _ => True) v0_ r ∧ Below w.heap.size w w' := by
  have HG := Lib.hid hG
  have HN := Lib.hid hn
  have HLn := Lib.hid hl
  have HA := Lib.hid hA
  have HF := Lib.hid hF
  have HFN := Lib.hid hfn
  have HAR := Lib.hid hareas
  clear hG hn hl hA hF hfn hareas
  have HCND := Lib.hid hcnd
  clear hcnd
  go_enter Try.func44, Try.ntmps44
  go_wp2
  refine genw (Pw := fun W => Below w.heap.size w W ∧ Bx 29 W w.heap.size zf) ⟨below_alloc (Below.refl _ _) _, heap_alloc_new w _⟩ ?_
  rintro W1 ⟨hb1, hx1⟩
  have HW := Lib.hid hb1
  have HX := Lib.hid hx1
  clear hb1 hx1
  go_loopw [3, 10] (fun v3 v10 wr => ∃ (d j tt : Nat), v3 = .float .f32 tt ∧ v10 = .int .i64 j ∧ j + d = ns.length - 1 ∧ Hid (adv ls d j tt = some (i, u)) ∧ wr = W1) (fun _ v10 _ => ns.length - (intOf v10).toNat)
  case atStart => exact ⟨ns.length - 1, 0, t, rfl, rfl, by omega, HA, rfl⟩
  case round =>
    obtain ⟨d, j, tt, rfl, rfl, hjd, HD, rfl⟩ := hrel
    have e0 : wrap64 ((ns.length : Int) - 1) = ((ns.length - 1 : Nat) : Int) := by have := HN.out; unfold wrap64; omega
    have hD := HD.out
    cases d with
    | zero =>
      rw [adv] at hD
      injection hD with hD
      injection hD with h1 h2
      subst h1 h2
      have q1 : decide ((j : Int) < ((ns.length - 1 : Nat) : Int)) = false := decide_eq_false (by omega)
      have p1 : (0 : Int) ≤ (j : Int) := by omega
      have q2 : (j : Int) < (ns.length : Int) := by have := HN.out; omega
      have hj0 : j ≠ 0 := HCND.out.1.1
      have g1 : decide ((0 : Int) < (j : Int)) = true := decide_eq_true (by omega)
      have g1n : decide (0 < j) = true := decide_eq_true (by omega)
      have e7 : wrap64 ((j : Int) - 1) = ((j - 1 : Nat) : Int) := by have := HN.out; unfold wrap64; omega
      have p8 : (0 : Int) ≤ ((j - 1 : Nat) : Int) := by omega
      have q8 : ((j - 1 : Nat) : Int) < (ns.length : Int) := by omega
      obtain ⟨ad, e1, hx1⟩ := Kd.at_string (HG.out.to HW.out).r1 (j : Int) p1 q2
      cases e1
      rw [Int.toNat_natCast] at hx1
      have hC0 := HCND.out
      simp only [SndAt] at hC0
      have hmn := rd_mem (ns := ns) (i := j) (by omega)
      have hmn2 := rd_mem (ns := ns) (i := j - 1) (by omega)
      generalize hnm : rdOf ByteArray.empty ns (j : Int) = nm at hx1 hC0 hmn
      generalize hnm2 : rdOf ByteArray.empty ns ((j - 1 : Nat) : Int) = nm2 at hC0 hmn2
      have HMN := Lib.hid hmn
      have HMN2 := Lib.hid hmn2
      clear hmn hmn2
      replace HCND := Lib.hid hC0
      have HX2N := Lib.hid (show ∀ W, Below w.heap.size w W → W.cell? (ad.add (j - 1)) = some (.string nm2) from fun W hW => by
        obtain ⟨ad2, e2, hx2⟩ := Kd.at_string (HG.out.to hW).r1 ((j - 1 : Nat) : Int) p8 q8
        injection e2 with e2
        subst e2
        rw [Int.toNat_natCast, hnm2] at hx2
        exact hx2)
      replace p1 := eq_true p1
      replace q2 := eq_true q2
      replace p8 := eq_true p8
      replace q8 := eq_true q8
      clear hC0 hj0
      have M1 : True := trivial
      have M2 : True := trivial
      go_wp2_with (first
        | (go_at_call 74; clear M1; (with_reducible refine (HF.out nm HMN.out _ (HW.out)).mono ?_); rintro e w2 ⟨rfl, hb⟩; have HB2 := Lib.hid (bl2 (HW.out) hb); have HX2 := Lib.hid (blk_below (HX.out) hb)
           have p3 : (0 : Int) ≤ (fnd nm : Int) := by omega
           have q3 : (fnd nm : Int) < (L.length : Int) := by have := HFN.out nm HMN.out; omega
           obtain ⟨al, As, cs, e2, z0, z1, z2, z3, z4, z5, hls, his⟩ := at_T49 (HG.out.to HB2.out).r0 (fnd nm : Int) p3 q3
           cases e2
           rw [Int.toNat_natCast] at z0 z1 z2 z3 z4 z5
           replace p3 := eq_true p3
           replace q3 := eq_true q3
           have hmem : rd_T49 L (fnd nm : Int) ∈ L := by
             have h_ := HFN.out nm HMN.out
             unfold rd_T49
             rw [Int.toNat_natCast, List.getD_eq_getElem?_getD, List.getElem?_eq_getElem h_]
             exact List.getElem_mem h_
           have hM1 := HAR.out _ hmem
           have hC1 := HCND.out
           generalize hsx : rd_T49 L (fnd nm : Int) = sx at z0 z1 z2 z3 z4 z5 hls his hM1 hC1
           replace HCND := Lib.hid hC1
           have HMem := Lib.hid hM1
           have HIS := Lib.hid his
           have HLS := Lib.hid hls
           clear hC1 hM1 hb his hls hmem)
        | (go_at_call 75; clear M2; (with_reducible refine (of_at (al.add (fnd nm * 6)) As cs sx 0 _ (World.block_lt_of_cell? _ _ z0) z1 z4 z5 HIS.out (by have := HMem.out; omega)).mono ?_); rintro e w3 ⟨A3, c3, rfl, hr, hb⟩
           have HZ3 := Lib.hid (show ∀ W, Below w2.heap.size w2 W → W.cell? ⟨(al.add (fnd nm * 6)).block, (al.add (fnd nm * 6)).off + 3, none⟩ = some (.float .f32 sx.f3) from fun W hW => (hW.cell (p := ⟨(al.add (fnd nm * 6)).block, (al.add (fnd nm * 6)).off + 3, none⟩) (World.block_lt_of_cell? _ _ z3)).trans z3)
           have HW3 := Lib.hid (show LM w w2 w3.heap.size A3 c3 sx (w3.alloc (.cells #[.slice A3 sx.f1.length c3, .float .f32 0, .float .f32 sx.f4, .float .f32 sx.f5] 29)) from ⟨below_alloc (bl2 HB2.out hb) _, below_alloc hb _, blk_alloc (blk_below HX2.out hb) _, heap_alloc_new w3 _, Kd.R_alloc (row_new HB2.out (blk_lt HX2.out) hr) _, Nat.ne_of_lt (blk_lt (blk_below HX2.out hb)), Nat.le_of_lt (blk_lt (blk_below HX2.out hb))⟩)
           have z3' : (w3.alloc (.cells #[.slice A3 sx.f1.length c3, .float .f32 0, .float .f32 sx.f4, .float .f32 sx.f5] 29)).cell? ⟨(al.add (fnd nm * 6)).block, (al.add (fnd nm * 6)).off + 3, none⟩ = some (.float .f32 sx.f3) := HZ3.out _ HW3.out.b2
           have hx2' : (w3.alloc (.cells #[.slice A3 sx.f1.length c3, .float .f32 0, .float .f32 sx.f4, .float .f32 sx.f5] 29)).cell? (ad.add (j - 1)) = some (.string nm2) := HX2N.out _ HW3.out.bel
           have g2 := HCND.out.1.2.1
           have g3 := HCND.out.1.2.2
           clear hr hb z0 z1 z2 z3 z4 z5)
        | (go_at_call 74; (with_reducible refine (HF.out nm2 HMN2.out _ (HW3.out.bel)).mono ?_); rintro e w5 ⟨rfl, hb⟩; have HB5 := Lib.hid (bl2 (HW3.out.bel) hb); have HX5 := Lib.hid (blk_below (HW3.out.br) hb)
           have HW5 := Lib.hid (HW3.out.to hb)
           have p32 : (0 : Int) ≤ (fnd nm2 : Int) := by omega
           have q32 : (fnd nm2 : Int) < (L.length : Int) := by have := HFN.out nm2 HMN2.out; omega
           obtain ⟨al2, As2, cs2, e2, z0, z1, z2, z3, z4, z5, hls, his⟩ := at_T49 (HG.out.to HB5.out).r0 (fnd nm2 : Int) p32 q32
           cases e2
           rw [Int.toNat_natCast] at z0 z1 z2 z3 z4 z5
           replace p32 := eq_true p32
           replace q32 := eq_true q32
           have hmem : rd_T49 L (fnd nm2 : Int) ∈ L := by
             have h_ := HFN.out nm2 HMN2.out
             unfold rd_T49
             rw [Int.toNat_natCast, List.getD_eq_getElem?_getD, List.getElem?_eq_getElem h_]
             exact List.getElem_mem h_
           have hM1 := HAR.out _ hmem
           have hC1 := HCND.out
           generalize hsx2 : rd_T49 L (fnd nm2 : Int) = sx2 at z0 z1 z2 z3 z4 z5 hls his hM1 hC1
           replace HCND := Lib.hid hC1
           have HMem2 := Lib.hid hM1
           have HIS2 := Lib.hid his
           have HLS2 := Lib.hid hls
           clear hC1 hM1 hb his hls hmem)
        | (go_at_call 75; (with_reducible refine (of_at (al.add (fnd nm2 * 6)) As2 cs2 sx2 0 _ (World.block_lt_of_cell? _ _ z0) z1 z4 z5 HIS2.out (by have := HMem2.out; omega)).mono ?_); rintro e w6 ⟨A6, c6, rfl, hr, hb⟩
           have HW6 := Lib.hid (show LM2 w w2 w3.heap.size w6.heap.size A3 c3 sx A6 c6 sx2 (w6.alloc (.cells (fcs A6 sx2.f1.length c6 0 sx2.f4 sx2.f5) 29)) from ⟨(HW5.out.to hb).to (below_alloc (Below.refl _ _) _), heap_alloc_new w6 _, Kd.R_alloc (row_new HW5.out.bel (blk_lt HW5.out.br) hr) _, Nat.ne_of_lt (blk_lt (HW5.out.to hb).br), Nat.ne_of_lt (blk_lt (HW5.out.to hb).bf)⟩)
           have z3'' : (w6.alloc (.cells #[.slice A6 sx2.f1.length c6, .float .f32 0, .float .f32 sx2.f4, .float .f32 sx2.f5] 29)).cell? ⟨(al.add (fnd nm * 6)).block, (al.add (fnd nm * 6)).off + 3, none⟩ = some (.float .f32 sx.f3) := HZ3.out _ HW6.out.lm.b2
           clear hr hb z0 z1 z2 z3 z4 z5)
        | (go_at_call 77; (with_reducible refine (HCND.out.2.1 _).mono ?_); rintro e w8 ⟨rfl, hb⟩
           have HW8 := Lib.hid (HW6.out.to hb)
           clear hb)
        | (go_at_call 76; (with_reducible refine (lm_at HCND.out.2.2.1 HCND.out.2.2.2.1 HW8.out).mono ?_); rintro e w9 ⟨A9, c9, rfl, hlm, hr⟩
           have HW9 := Lib.hid hlm
           have HR9 := Lib.hid hr
           obtain ⟨o0, o1, o2, o3⟩ := bx4 hlm.lm.bf
           obtain ⟨q0_, q1_, q2_, q3_⟩ := fz4 hlm.lm.bf
           clear hlm hr)
        | (go_at_call 78; (with_reducible refine (HCND.out.2.2.2.2 (fun k => k ≠ w.heap.size) _ w _ (below4 HW9.out.lm.bel HW9.out.lm.ge _ _ _ _) (Kd.R_mono (fr4' HR9.out _ _ _ _) (fun k hk => hk.1))).mono ?_); rintro e w10 ⟨v10, rfl, hr10, hb10, hk10⟩; obtain ⟨A10, c10, rfl⟩ := Kd.R_slice hr10
           have HX10 := Lib.hid (show Bx 29 w10 w.heap.size zf from blk_kept (far4 HW9.out.lm.br HW9.out.lm.lt2 _ _ _ _) hk10 (fun h => h rfl))
           have HR10 := Lib.hid (row_ck (blk_lt (far4 HW9.out.lm.br HW9.out.lm.lt2 _ _ _ _)) hr10)
           obtain ⟨r0_, r1_, r2_, r3_⟩ := bx4 HX10.out
           obtain ⟨f0_, f1_, f2_, f3_⟩ := fz4 HX10.out
           have HB10 := Lib.hid hb10
           clear hr10 hb10 hk10))
      refine bodyPost_ret (results_ct rfl _ _ w.heap.size 29 #[.slice A10 r.length c10, .float .f32 r2, .float .f32 r3, .float .f32 r4] (0, 0) _ rfl (put4 HX10.out _ _ _ _) Try.underlying29 rfl (by kernel_rfl)) rfl ?_
      exact ⟨_, rfl, Kd.R_mono (fr4 HR10.out _ _ _ _) (fun _ _ => trivial), below4 HB10.out (Nat.le_refl _) _ _ _ _⟩
    | succ d =>
      rw [adv] at hD
      have p1 : (0 : Int) ≤ (j : Int) := by omega
      have q2' : (j : Int) < (ls.length : Int) := by have h1 := HN.out; have h2 := HLn.out; omega
      have q1 : decide ((j : Int) < ((ns.length - 1 : Nat) : Int)) = true := decide_eq_true (by omega)
      obtain ⟨at2, e2, hx2⟩ := Kd.at_float (HG.out.to HW.out).r2 (j : Int) p1 q2'
      cases e2
      rw [Int.toNat_natCast] at hx2
      have p1' := p1
      replace p1 := eq_true p1
      replace q2' := eq_true q2'
      generalize hly : rdOf (0 : Nat) ls (j : Int) = ly at hx2 hD
      by_cases c1 : fle .f32 ly tt = true
      · rw [if_pos c1] at hD
        by_cases c2 : foprOk .sub .f32 tt ly = true
        · rw [if_pos c2] at hD
          have HD2 := Lib.hid hD
          have e5 : wrap64 ((j : Int) + 1) = ((j + 1 : Nat) : Int) := by have := HN.out; unfold wrap64; omega
          clear hD
          go_wp2
          exact ⟨⟨d, j + 1, _, rfl, by rw [e5], by omega, HD2, trivial⟩, by rw [e5]; show ns.length - (j + 1) < ns.length - j; have := HN.out; omega⟩
        · rw [if_neg c2] at hD
          cases hD
      · rw [if_neg c1] at hD
        rw [Bool.not_eq_true] at c1
        injection hD with hD
        injection hD with h1 h2
        subst h1 h2
        have p1 : (0 : Int) ≤ (j : Int) := by omega
        have q2 : (j : Int) < (ns.length : Int) := by have := HN.out; omega
        have hj0 : j ≠ 0 := HCND.out.1.1
        have g1 : decide ((0 : Int) < (j : Int)) = true := decide_eq_true (by omega)
        have g1n : decide (0 < j) = true := decide_eq_true (by omega)
        have e7 : wrap64 ((j : Int) - 1) = ((j - 1 : Nat) : Int) := by have := HN.out; unfold wrap64; omega
        have p8 : (0 : Int) ≤ ((j - 1 : Nat) : Int) := by omega
        have q8 : ((j - 1 : Nat) : Int) < (ns.length : Int) := by omega
        obtain ⟨ad, e1, hx1⟩ := Kd.at_string (HG.out.to HW.out).r1 (j : Int) p1 q2
        cases e1
        rw [Int.toNat_natCast] at hx1
        have hC0 := HCND.out
        simp only [SndAt] at hC0
        have hmn := rd_mem (ns := ns) (i := j) (by omega)
        have hmn2 := rd_mem (ns := ns) (i := j - 1) (by omega)
        generalize hnm : rdOf ByteArray.empty ns (j : Int) = nm at hx1 hC0 hmn
        generalize hnm2 : rdOf ByteArray.empty ns ((j - 1 : Nat) : Int) = nm2 at hC0 hmn2
        have HMN := Lib.hid hmn
        have HMN2 := Lib.hid hmn2
        clear hmn hmn2
        replace HCND := Lib.hid hC0
        have HX2N := Lib.hid (show ∀ W, Below w.heap.size w W → W.cell? (ad.add (j - 1)) = some (.string nm2) from fun W hW => by
          obtain ⟨ad2, e2, hx2⟩ := Kd.at_string (HG.out.to hW).r1 ((j - 1 : Nat) : Int) p8 q8
          injection e2 with e2
          subst e2
          rw [Int.toNat_natCast, hnm2] at hx2
          exact hx2)
        replace p1 := eq_true p1
        replace q2 := eq_true q2
        replace p8 := eq_true p8
        replace q8 := eq_true q8
        clear hC0 hj0
        have M1 : True := trivial
        have M2 : True := trivial
        go_wp2_with (first
          | (go_at_call 74; clear M1; (with_reducible refine (HF.out nm HMN.out _ (HW.out)).mono ?_); rintro e w2 ⟨rfl, hb⟩; have HB2 := Lib.hid (bl2 (HW.out) hb); have HX2 := Lib.hid (blk_below (HX.out) hb)
             have p3 : (0 : Int) ≤ (fnd nm : Int) := by omega
             have q3 : (fnd nm : Int) < (L.length : Int) := by have := HFN.out nm HMN.out; omega
             obtain ⟨al, As, cs, e2, z0, z1, z2, z3, z4, z5, hls, his⟩ := at_T49 (HG.out.to HB2.out).r0 (fnd nm : Int) p3 q3
             cases e2
             rw [Int.toNat_natCast] at z0 z1 z2 z3 z4 z5
             replace p3 := eq_true p3
             replace q3 := eq_true q3
             have hmem : rd_T49 L (fnd nm : Int) ∈ L := by
               have h_ := HFN.out nm HMN.out
               unfold rd_T49
               rw [Int.toNat_natCast, List.getD_eq_getElem?_getD, List.getElem?_eq_getElem h_]
               exact List.getElem_mem h_
             have hM1 := HAR.out _ hmem
             have hC1 := HCND.out
             generalize hsx : rd_T49 L (fnd nm : Int) = sx at z0 z1 z2 z3 z4 z5 hls his hM1 hC1
             replace HCND := Lib.hid hC1
             have HMem := Lib.hid hM1
             have HIS := Lib.hid his
             have HLS := Lib.hid hls
             clear hC1 hM1 hb his hls hmem)
          | (go_at_call 75; clear M2; (with_reducible refine (of_at (al.add (fnd nm * 6)) As cs sx 0 _ (World.block_lt_of_cell? _ _ z0) z1 z4 z5 HIS.out (by have := HMem.out; omega)).mono ?_); rintro e w3 ⟨A3, c3, rfl, hr, hb⟩
             have HZ3 := Lib.hid (show ∀ W, Below w2.heap.size w2 W → W.cell? ⟨(al.add (fnd nm * 6)).block, (al.add (fnd nm * 6)).off + 3, none⟩ = some (.float .f32 sx.f3) from fun W hW => (hW.cell (p := ⟨(al.add (fnd nm * 6)).block, (al.add (fnd nm * 6)).off + 3, none⟩) (World.block_lt_of_cell? _ _ z3)).trans z3)
             have HW3 := Lib.hid (show LM w w2 w3.heap.size A3 c3 sx (w3.alloc (.cells #[.slice A3 sx.f1.length c3, .float .f32 0, .float .f32 sx.f4, .float .f32 sx.f5] 29)) from ⟨below_alloc (bl2 HB2.out hb) _, below_alloc hb _, blk_alloc (blk_below HX2.out hb) _, heap_alloc_new w3 _, Kd.R_alloc (row_new HB2.out (blk_lt HX2.out) hr) _, Nat.ne_of_lt (blk_lt (blk_below HX2.out hb)), Nat.le_of_lt (blk_lt (blk_below HX2.out hb))⟩)
             have z3' : (w3.alloc (.cells #[.slice A3 sx.f1.length c3, .float .f32 0, .float .f32 sx.f4, .float .f32 sx.f5] 29)).cell? ⟨(al.add (fnd nm * 6)).block, (al.add (fnd nm * 6)).off + 3, none⟩ = some (.float .f32 sx.f3) := HZ3.out _ HW3.out.b2
             have hx2' : (w3.alloc (.cells #[.slice A3 sx.f1.length c3, .float .f32 0, .float .f32 sx.f4, .float .f32 sx.f5] 29)).cell? (ad.add (j - 1)) = some (.string nm2) := HX2N.out _ HW3.out.bel
             have g2 := HCND.out.1.2.1
             have g3 := HCND.out.1.2.2
             clear hr hb z0 z1 z2 z3 z4 z5)
          | (go_at_call 74; (with_reducible refine (HF.out nm2 HMN2.out _ (HW3.out.bel)).mono ?_); rintro e w5 ⟨rfl, hb⟩; have HB5 := Lib.hid (bl2 (HW3.out.bel) hb); have HX5 := Lib.hid (blk_below (HW3.out.br) hb)
             have HW5 := Lib.hid (HW3.out.to hb)
             have p32 : (0 : Int) ≤ (fnd nm2 : Int) := by omega
             have q32 : (fnd nm2 : Int) < (L.length : Int) := by have := HFN.out nm2 HMN2.out; omega
             obtain ⟨al2, As2, cs2, e2, z0, z1, z2, z3, z4, z5, hls, his⟩ := at_T49 (HG.out.to HB5.out).r0 (fnd nm2 : Int) p32 q32
             cases e2
             rw [Int.toNat_natCast] at z0 z1 z2 z3 z4 z5
             replace p32 := eq_true p32
             replace q32 := eq_true q32
             have hmem : rd_T49 L (fnd nm2 : Int) ∈ L := by
               have h_ := HFN.out nm2 HMN2.out
               unfold rd_T49
               rw [Int.toNat_natCast, List.getD_eq_getElem?_getD, List.getElem?_eq_getElem h_]
               exact List.getElem_mem h_
             have hM1 := HAR.out _ hmem
             have hC1 := HCND.out
             generalize hsx2 : rd_T49 L (fnd nm2 : Int) = sx2 at z0 z1 z2 z3 z4 z5 hls his hM1 hC1
             replace HCND := Lib.hid hC1
             have HMem2 := Lib.hid hM1
             have HIS2 := Lib.hid his
             have HLS2 := Lib.hid hls
             clear hC1 hM1 hb his hls hmem)
          | (go_at_call 75; (with_reducible refine (of_at (al.add (fnd nm2 * 6)) As2 cs2 sx2 0 _ (World.block_lt_of_cell? _ _ z0) z1 z4 z5 HIS2.out (by have := HMem2.out; omega)).mono ?_); rintro e w6 ⟨A6, c6, rfl, hr, hb⟩
             have HW6 := Lib.hid (show LM2 w w2 w3.heap.size w6.heap.size A3 c3 sx A6 c6 sx2 (w6.alloc (.cells (fcs A6 sx2.f1.length c6 0 sx2.f4 sx2.f5) 29)) from ⟨(HW5.out.to hb).to (below_alloc (Below.refl _ _) _), heap_alloc_new w6 _, Kd.R_alloc (row_new HW5.out.bel (blk_lt HW5.out.br) hr) _, Nat.ne_of_lt (blk_lt (HW5.out.to hb).br), Nat.ne_of_lt (blk_lt (HW5.out.to hb).bf)⟩)
             have z3'' : (w6.alloc (.cells #[.slice A6 sx2.f1.length c6, .float .f32 0, .float .f32 sx2.f4, .float .f32 sx2.f5] 29)).cell? ⟨(al.add (fnd nm * 6)).block, (al.add (fnd nm * 6)).off + 3, none⟩ = some (.float .f32 sx.f3) := HZ3.out _ HW6.out.lm.b2
             clear hr hb z0 z1 z2 z3 z4 z5)
          | (go_at_call 77; (with_reducible refine (HCND.out.2.1 _).mono ?_); rintro e w8 ⟨rfl, hb⟩
             have HW8 := Lib.hid (HW6.out.to hb)
             clear hb)
          | (go_at_call 76; (with_reducible refine (lm_at HCND.out.2.2.1 HCND.out.2.2.2.1 HW8.out).mono ?_); rintro e w9 ⟨A9, c9, rfl, hlm, hr⟩
             have HW9 := Lib.hid hlm
             have HR9 := Lib.hid hr
             obtain ⟨o0, o1, o2, o3⟩ := bx4 hlm.lm.bf
             obtain ⟨q0_, q1_, q2_, q3_⟩ := fz4 hlm.lm.bf
             clear hlm hr)
          | (go_at_call 78; (with_reducible refine (HCND.out.2.2.2.2 (fun k => k ≠ w.heap.size) _ w _ (below4 HW9.out.lm.bel HW9.out.lm.ge _ _ _ _) (Kd.R_mono (fr4' HR9.out _ _ _ _) (fun k hk => hk.1))).mono ?_); rintro e w10 ⟨v10, rfl, hr10, hb10, hk10⟩; obtain ⟨A10, c10, rfl⟩ := Kd.R_slice hr10
             have HX10 := Lib.hid (show Bx 29 w10 w.heap.size zf from blk_kept (far4 HW9.out.lm.br HW9.out.lm.lt2 _ _ _ _) hk10 (fun h => h rfl))
             have HR10 := Lib.hid (row_ck (blk_lt (far4 HW9.out.lm.br HW9.out.lm.lt2 _ _ _ _)) hr10)
             obtain ⟨r0_, r1_, r2_, r3_⟩ := bx4 HX10.out
             obtain ⟨f0_, f1_, f2_, f3_⟩ := fz4 HX10.out
             have HB10 := Lib.hid hb10
             clear hr10 hb10 hk10))
        refine bodyPost_ret (results_ct rfl _ _ w.heap.size 29 #[.slice A10 r.length c10, .float .f32 r2, .float .f32 r3, .float .f32 r4] (0, 0) _ rfl (put4 HX10.out _ _ _ _) Try.underlying29 rfl (by kernel_rfl)) rfl ?_
        exact ⟨_, rfl, Kd.R_mono (fr4 HR10.out _ _ _ _) (fun _ _ => trivial), below4 HB10.out (Nat.le_refl _) _ _ _ _⟩
end Go.Proofs.Yteooifighndmkaa.Fra
