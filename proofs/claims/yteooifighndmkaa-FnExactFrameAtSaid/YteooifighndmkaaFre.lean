import Derived.Test.YteooifighndmkaaFra
set_option linter.unusedVariables false
set_option linter.unusedSimpArgs false
namespace Go.Proofs.Yteooifighndmkaa.Fra
open Go.RowKit Go.Proofs.YteooifighndmkaaW.PrintWords Go.Proofs.YteooifighndmkaaW.PrintLast Go.Proofs.YteooifighndmkaaW.PrintMore Go.Proofs.YteooifighndmkaaW.PrintFl Go.Proofs.Yteooifighndmkaa Go.Proofs.Yteooifighndmkaa.PFnExactFrameAt
attribute [local go_sem high] binOp_feq binOp_fne binOp_fls binOp_fle binOp_fgr binOp_fge
attribute [local go_sem] run_stf run_fopr
def adv (ls : List Nat) : Nat → Nat → Nat → Option (Nat × Nat)
  | 0, i, t => some (i, t)
  | d + 1, i, t => if fle .f32 (rdOf (0 : Nat) ls (i : Int)) t = true then (if foprOk .sub .f32 t (rdOf (0 : Nat) ls (i : Int)) = true then adv ls d (i + 1) (fopr .sub .f32 t (rdOf (0 : Nat) ls (i : Int))) else none) else some (i, t)
abbrev kSd : Kd SD := k49
structure Ag (w : World) (A0 : Option Addr) (c0 : Nat) (L : List SD) (A1 : Option Addr) (c1 : Nat) (ns : List ByteArray) (A2 : Option Addr) (c2 : Nat) (ls : List Nat) : Prop where
  r0 : Kd.C kSd w A0 L.length L
  r1 : Kd.C Kd.string w A1 ns.length ns
  r2 : Kd.C (Kd.float .f32) w A2 ls.length ls
  c0 : L.length ≤ c0
  c1 : ns.length ≤ c1
  c2 : ls.length ≤ c2
theorem Ag.to {w w1 : World} {A0 A1 A2 : Option Addr} {c0 c1 c2 : Nat} {L : List SD} {ns : List ByteArray} {ls : List Nat} (h : Ag w A0 c0 L A1 c1 ns A2 c2 ls) (hb : Below w.heap.size w w1) : Ag w1 A0 c0 L A1 c1 ns A2 c2 ls := ⟨Kd.C_below h.r0 hb, Kd.C_below h.r1 hb, Kd.C_below h.r2 hb, h.c0, h.c1, h.c2⟩
theorem rd_mem {ns : List ByteArray} {i : Nat} (h : i < ns.length) : rdOf ByteArray.empty ns (i : Int) ∈ ns := by
  unfold rdOf
  rw [Int.toNat_natCast, List.getD_eq_getElem?_getD, List.getElem?_eq_getElem h]
  exact List.getElem_mem h
abbrev SndAt (L : List SD) (fnd : ByteArray → Nat) (ns : List ByteArray) (i : Nat) : SD := rd_T49 L (fnd (rdOf ByteArray.empty ns (i : Int)) : Int)
abbrev CkSays (l : List Nat) (p v n : Nat) (r : List Nat) (r2 r3 r4 : Nat) (b : Bool) : Prop := ∀ (P : Nat → Prop) (u : Value) (w0 W : World), Below w0.heap.size w0 W → Kd.R (Kd.float .f32) 25 W w0.heap.size P u l → Calls Try.prog 84 #[.agg #[u, .float .f32 p, .float .f32 v, .float .f32 n]] W fun e w' => ∃ v0_ : Value, e = .returned (.tuple #[.agg #[v0_, .float .f32 r2, .float .f32 r3, .float .f32 r4], .bool b]) ∧ Kd.R (Kd.float .f32) 25 w' w0.heap.size (fun k_ => (P k_ ∨ W.heap.size ≤ k_)) v0_ r ∧ Below w0.heap.size w0 w' ∧ Kept W w' (fun k_ => P k_)
abbrev MxSays (w : World) (a b : List Nat) (p v n p' v' n' sh : Nat) (r : List Nat) (r2 r3 r4 : Nat) (ok : Bool) : Prop := ∀ (A B : Option Addr) (ca cb : Nat) (W : World), Below w.heap.size w W → Kd.C (Kd.float .f32) W A a.length a → a.length ≤ ca → Kd.C (Kd.float .f32) W B b.length b → b.length ≤ cb → Calls Try.prog 85 #[.agg #[.slice A a.length ca, .float .f32 p, .float .f32 v, .float .f32 n], .agg #[.slice B b.length cb, .float .f32 p', .float .f32 v', .float .f32 n'], .float .f32 sh] W fun e w' => ∃ v0_ : Value, e = .returned (.tuple #[.agg #[v0_, .float .f32 r2, .float .f32 r3, .float .f32 r4], .bool ok]) ∧ FR w' W.heap.size (fun _ => True) v0_ r ∧ Below W.heap.size W w'
theorem row_new {w W w3 : World} {gr : Nat} (hW : Below w.heap.size w W) (hgr : gr < W.heap.size) {v : Value} {r : List Nat} (hr : FR w3 W.heap.size (fun _ => True) v r) : FR w3 w.heap.size (fun k => k ≠ gr ∧ k < w3.heap.size) v r :=
  Kd.R_lower (Kd.R_mono (Kd.R_bound hr) (fun k hk => ⟨by have h1 := hk.2.1; omega, hk.2.2.1⟩)) hW.size
theorem row_ck {W w4 : World} {b gr : Nat} (hgr : gr < W.heap.size) {v : Value} {r : List Nat} (hr : FR w4 b (fun k => k ≠ gr ∨ W.heap.size ≤ k) v r) : FR w4 b (fun k => k ≠ gr) v r :=
  Kd.R_mono hr (fun k hk => by rcases hk with h | h; exact h; omega)
set_option maxHeartbeats 8000000 in
set_option maxRecDepth 100000 in
theorem frameAt_plain (A0 : Option Addr) (c0 : Nat) (L : List SD) (A1 : Option Addr) (c1 : Nat) (ns : List ByteArray) (A2 : Option Addr) (c2 : Nat) (ls : List Nat) (t i u : Nat) (w : World) (hG : Ag w A0 c0 L A1 c1 ns A2 c2 ls) (hn : 1 ≤ ns.length ∧ ns.length ≤ 24) (hl : ls.length = ns.length) (hA : adv ls (ns.length - 1) 0 t = some (i, u))
    (fnd : ByteArray → Nat) (hF : ∀ nm ∈ ns, ∀ W, Below w.heap.size w W → Calls Try.prog 58 #[.slice A0 L.length c0, .string nm] W fun e w' => e = .returned (.int .i64 (fnd nm)) ∧ Below W.heap.size W w')
    (hfn : ∀ nm ∈ ns, fnd nm < L.length) (hareas : ∀ x ∈ L, x.f1.length ≤ 1048576)
    (r : List Nat) (r2 r3 r4 : Nat) (ok : Bool)
    (hcnd : (i = 0 ∨ fge .f32 u (SndAt L fnd ns i).f3 = true) ∧ CkSays (SndAt L fnd ns i).f1 0 (SndAt L fnd ns i).f4 (SndAt L fnd ns i).f5 r r2 r3 r4 ok) :
    Calls Try.prog 49 #[.slice A0 L.length c0, .slice A1 ns.length c1, .slice A2 ls.length c2, .float .f32 t] w fun e w' => ∃ v0_ : Value, e = .returned (.tuple #[.agg #[v0_, .float .f32 r2, .float .f32 r3, .float .f32 r4], .bool ok]) ∧ FR w' w.heap.size (fun _ => True) v0_ r ∧ Below w.heap.size w w' := by
  have HG := Lib.hid hG
  have HN := Lib.hid hn
  have HLn := Lib.hid hl
  have HA := Lib.hid hA
  have HF := Lib.hid hF
  have HFN := Lib.hid hfn
  have HAR := Lib.hid hareas
  clear hG hn hl hA hF hfn hareas
  have HCND := Lib.hid hcnd
  clear hcnd
  go_enter Try.func49, Try.ntmps49
  go_wp2
  refine genw (Pw := fun W => Below w.heap.size w W ∧ Bx 29 W w.heap.size zf) ⟨below_alloc (Below.refl _ _) _, heap_alloc_new w _⟩ ?_
  rintro W1 ⟨hb1, hx1⟩
  have HW := Lib.hid hb1
  have HX := Lib.hid hx1
  clear hb1 hx1
  go_loopw [3, 10] (fun v3 v10 wr => ∃ (d j tt : Nat), v3 = .float .f32 tt ∧ v10 = .int .i64 j ∧ j + d = ns.length - 1 ∧ Hid (adv ls d j tt = some (i, u)) ∧ wr = W1) (fun _ v10 _ => ns.length - (intOf v10).toNat)
  case atStart => exact ⟨ns.length - 1, 0, t, rfl, rfl, by omega, HA, rfl⟩
  case round =>
    obtain ⟨d, j, tt, rfl, rfl, hjd, HD, rfl⟩ := hrel
    have e0 : wrap64 ((ns.length : Int) - 1) = ((ns.length - 1 : Nat) : Int) := by have := HN.out; unfold wrap64; omega
    have hD := HD.out
    cases d with
    | zero =>
      rw [adv] at hD
      injection hD with hD
      injection hD with h1 h2
      subst h1 h2
      have q1 : decide ((j : Int) < ((ns.length - 1 : Nat) : Int)) = false := decide_eq_false (by omega)
      have p1 : (0 : Int) ≤ (j : Int) := by omega
      have q2 : (j : Int) < (ns.length : Int) := by have := HN.out; omega
      obtain ⟨ad, e1, hx1⟩ := Kd.at_string (HG.out.to HW.out).r1 (j : Int) p1 q2
      cases e1
      rw [Int.toNat_natCast] at hx1
      replace p1 := eq_true p1
      replace q2 := eq_true q2
      have hC0 := HCND.out
      simp only [SndAt] at hC0
      have hmn := rd_mem (ns := ns) (i := j) (by have := HN.out; omega)
      generalize hnm : rdOf ByteArray.empty ns (j : Int) = nm at hx1 hC0 hmn
      have HMN := Lib.hid hmn
      clear hmn
      replace HCND := Lib.hid hC0
      clear hC0
      by_cases hj0 : j = 0
      · have g1 : ((j : Int) == 0) = true := beq_iff_eq.mpr (by omega)
        clear hj0
        go_wp2_with (first
          | (go_at_call 58; (with_reducible refine (HF.out nm HMN.out _ HW.out).mono ?_); rintro e w2 ⟨rfl, hb⟩; have HB2 := Lib.hid (bl2 HW.out hb); have HX2 := Lib.hid (blk_below HX.out hb)
             have p3 : (0 : Int) ≤ (fnd nm : Int) := by omega
             have q3 : (fnd nm : Int) < (L.length : Int) := by have := HFN.out nm HMN.out; omega
             obtain ⟨al, As, cs, e2, z0, z1, z2, z3, z4, z5, hls, his⟩ := at_T49 (HG.out.to HB2.out).r0 (fnd nm : Int) p3 q3
             cases e2
             rw [Int.toNat_natCast] at z0 z1 z2 z3 z4 z5
             replace p3 := eq_true p3
             replace q3 := eq_true q3
             have hmem : rd_T49 L (fnd nm : Int) ∈ L := by
               have h_ := HFN.out nm HMN.out
               unfold rd_T49
               rw [Int.toNat_natCast, List.getD_eq_getElem?_getD, List.getElem?_eq_getElem h_]
               exact List.getElem_mem h_
             have HMem := Lib.hid (HAR.out _ hmem)
             have hC1 := HCND.out; have hM1 := HMem.out; generalize hsx : rd_T49 L (fnd nm : Int) = sx at z0 z1 z2 z3 z4 z5 hls his hM1 hC1; replace HCND := Lib.hid hC1; replace HMem := Lib.hid hM1; clear hC1 hM1
             have HIS := Lib.hid his
             have HLS := Lib.hid hls
             clear hb his hls hmem)
          | (go_at_call 83; (with_reducible refine (frameOf_at As cs sx 0 _ (Kd.C_below HIS.out (by repeat (first | exact Below.refl _ _ | apply below_alloc | apply pw_below_drewN | apply below_drew1))) (by have := HMem.out; omega)).mono ?_); rintro e w3 ⟨A3, c3, rfl, hr, hb⟩
             have HB3 := Lib.hid (bl2 (below_alloc HB2.out _) hb)
             have HX3 := Lib.hid (blk_below (blk_alloc HX2.out _) hb)
             have hs3 : Bx 49 w3 w2.heap.size (scs sx As cs) := blk_below (heap_alloc_new w2 _) hb
             obtain ⟨s0, s1, s2, s3, s4, s5⟩ := bx6 hs3
             have HR3 := Lib.hid (row_new (below_alloc HB2.out _) (blk_lt (blk_alloc HX2.out _)) hr)
             have HCk := HCND.out.2
             clear hr hb hs3)
          | (go_at_call 84; (with_reducible refine (HCk (fun k => k ≠ w.heap.size) _ w _ (below_alloc HB3.out _) (Kd.R_alloc (Kd.R_mono HR3.out (fun k hk => hk.1)) _)).mono ?_); rintro e w4 ⟨v4, rfl, hr4, hb4, hk4⟩; obtain ⟨A4, c4, rfl⟩ := Kd.R_slice hr4
             have HX4 := Lib.hid (show Bx 29 w4 w.heap.size zf from blk_kept (blk_alloc HX3.out _) hk4 (fun h => h rfl))
             obtain ⟨r0_, r1_, r2_, r3_⟩ := bx4 HX4.out
             obtain ⟨f0_, f1_, f2_, f3_⟩ := fz4 HX4.out
             have HB4 := Lib.hid hb4
             have HR4 := Lib.hid (row_ck (blk_lt (blk_alloc HX3.out _)) hr4)
             clear hr4 hb4 hk4))
        refine bodyPost_ret (results_ct rfl _ _ w.heap.size 29 #[.slice A4 r.length c4, .float .f32 r2, .float .f32 r3, .float .f32 r4] (0, 0) _ rfl (put4 HX4.out _ _ _ _) Try.underlying29 rfl (by kernel_rfl)) rfl ?_
        exact ⟨_, rfl, Kd.R_mono (fr4 HR4.out _ _ _ _) (fun _ _ => trivial), below4 HB4.out (Nat.le_refl _) _ _ _ _⟩
      · have g1 : ((j : Int) == 0) = false := beq_eq_false_iff_ne.mpr (by omega)
        have HJ := Lib.hid hj0
        clear hj0
        go_wp2_with (first
          | (go_at_call 58; (with_reducible refine (HF.out nm HMN.out _ HW.out).mono ?_); rintro e w2 ⟨rfl, hb⟩; have HB2 := Lib.hid (bl2 HW.out hb); have HX2 := Lib.hid (blk_below HX.out hb)
             have p3 : (0 : Int) ≤ (fnd nm : Int) := by omega
             have q3 : (fnd nm : Int) < (L.length : Int) := by have := HFN.out nm HMN.out; omega
             obtain ⟨al, As, cs, e2, z0, z1, z2, z3, z4, z5, hls, his⟩ := at_T49 (HG.out.to HB2.out).r0 (fnd nm : Int) p3 q3
             cases e2
             rw [Int.toNat_natCast] at z0 z1 z2 z3 z4 z5
             replace p3 := eq_true p3
             replace q3 := eq_true q3
             have hmem : rd_T49 L (fnd nm : Int) ∈ L := by
               have h_ := HFN.out nm HMN.out
               unfold rd_T49
               rw [Int.toNat_natCast, List.getD_eq_getElem?_getD, List.getElem?_eq_getElem h_]
               exact List.getElem_mem h_
             have HMem := Lib.hid (HAR.out _ hmem)
             have hC1 := HCND.out; have hM1 := HMem.out; generalize hsx : rd_T49 L (fnd nm : Int) = sx at z0 z1 z2 z3 z4 z5 hls his hM1 hC1; replace HCND := Lib.hid hC1; replace HMem := Lib.hid hM1; clear hC1 hM1
             have HIS := Lib.hid his
             have HLS := Lib.hid hls
             clear hb his hls hmem)
          | (go_at_call 83; (with_reducible refine (frameOf_at As cs sx 0 _ (Kd.C_below HIS.out (by repeat (first | exact Below.refl _ _ | apply below_alloc | apply pw_below_drewN | apply below_drew1))) (by have := HMem.out; omega)).mono ?_); rintro e w3 ⟨A3, c3, rfl, hr, hb⟩
             have HB3 := Lib.hid (bl2 (below_alloc HB2.out _) hb)
             have HX3 := Lib.hid (blk_below (blk_alloc HX2.out _) hb)
             have hs3 : Bx 49 w3 w2.heap.size (scs sx As cs) := blk_below (heap_alloc_new w2 _) hb
             obtain ⟨s0, s1, s2, s3, s4, s5⟩ := bx6 hs3
             have HR3 := Lib.hid (row_new (below_alloc HB2.out _) (blk_lt (blk_alloc HX2.out _)) hr)
             have HCk := HCND.out.2
             have g2 := HCND.out.1.resolve_left HJ.out
             have s3' : (w3.alloc (.cells #[.slice A3 sx.f1.length c3, .float .f32 0, .float .f32 sx.f4, .float .f32 sx.f5] 29)).cell? ⟨w2.heap.size, 3, none⟩ = some (.float .f32 sx.f3) := (bx6 (blk_alloc hs3 _)).2.2.2.1
             clear hr hb hs3)
          | (go_at_call 84; (with_reducible refine (HCk (fun k => k ≠ w.heap.size) _ w _ (below_alloc HB3.out _) (Kd.R_alloc (Kd.R_mono HR3.out (fun k hk => hk.1)) _)).mono ?_); rintro e w4 ⟨v4, rfl, hr4, hb4, hk4⟩; obtain ⟨A4, c4, rfl⟩ := Kd.R_slice hr4
             have HX4 := Lib.hid (show Bx 29 w4 w.heap.size zf from blk_kept (blk_alloc HX3.out _) hk4 (fun h => h rfl))
             obtain ⟨r0_, r1_, r2_, r3_⟩ := bx4 HX4.out
             obtain ⟨f0_, f1_, f2_, f3_⟩ := fz4 HX4.out
             have HB4 := Lib.hid hb4
             have HR4 := Lib.hid (row_ck (blk_lt (blk_alloc HX3.out _)) hr4)
             clear hr4 hb4 hk4))
        refine bodyPost_ret (results_ct rfl _ _ w.heap.size 29 #[.slice A4 r.length c4, .float .f32 r2, .float .f32 r3, .float .f32 r4] (0, 0) _ rfl (put4 HX4.out _ _ _ _) Try.underlying29 rfl (by kernel_rfl)) rfl ?_
        exact ⟨_, rfl, Kd.R_mono (fr4 HR4.out _ _ _ _) (fun _ _ => trivial), below4 HB4.out (Nat.le_refl _) _ _ _ _⟩
    | succ d =>
      rw [adv] at hD
      have p1 : (0 : Int) ≤ (j : Int) := by omega
      have q2' : (j : Int) < (ls.length : Int) := by have h1 := HN.out; have h2 := HLn.out; omega
      have q1 : decide ((j : Int) < ((ns.length - 1 : Nat) : Int)) = true := decide_eq_true (by omega)
      obtain ⟨at2, e2, hx2⟩ := Kd.at_float (HG.out.to HW.out).r2 (j : Int) p1 q2'
      cases e2
      rw [Int.toNat_natCast] at hx2
      have p1' := p1
      replace p1 := eq_true p1
      replace q2' := eq_true q2'
      generalize hly : rdOf (0 : Nat) ls (j : Int) = ly at hx2 hD
      by_cases c1 : fle .f32 ly tt = true
      · rw [if_pos c1] at hD
        by_cases c2 : foprOk .sub .f32 tt ly = true
        · rw [if_pos c2] at hD
          have HD2 := Lib.hid hD
          have e5 : wrap64 ((j : Int) + 1) = ((j + 1 : Nat) : Int) := by have := HN.out; unfold wrap64; omega
          clear hD
          go_wp2
          exact ⟨⟨d, j + 1, _, rfl, by rw [e5], by omega, HD2, trivial⟩, by rw [e5]; show ns.length - (j + 1) < ns.length - j; have := HN.out; omega⟩
        · rw [if_neg c2] at hD
          cases hD
      · rw [if_neg c1] at hD
        rw [Bool.not_eq_true] at c1
        injection hD with hD
        injection hD with h1 h2
        subst h1 h2
        have p1 : (0 : Int) ≤ (j : Int) := by omega
        have q2 : (j : Int) < (ns.length : Int) := by have := HN.out; omega
        obtain ⟨ad, e1, hx1⟩ := Kd.at_string (HG.out.to HW.out).r1 (j : Int) p1 q2
        cases e1
        rw [Int.toNat_natCast] at hx1
        replace p1 := eq_true p1
        replace q2 := eq_true q2
        have hC0 := HCND.out
        simp only [SndAt] at hC0
        have hmn := rd_mem (ns := ns) (i := j) (by have := HN.out; omega)
        generalize hnm : rdOf ByteArray.empty ns (j : Int) = nm at hx1 hC0 hmn
        have HMN := Lib.hid hmn
        clear hmn
        replace HCND := Lib.hid hC0
        clear hC0
        by_cases hj0 : j = 0
        · have g1 : ((j : Int) == 0) = true := beq_iff_eq.mpr (by omega)
          clear hj0
          go_wp2_with (first
            | (go_at_call 58; (with_reducible refine (HF.out nm HMN.out _ HW.out).mono ?_); rintro e w2 ⟨rfl, hb⟩; have HB2 := Lib.hid (bl2 HW.out hb); have HX2 := Lib.hid (blk_below HX.out hb)
               have p3 : (0 : Int) ≤ (fnd nm : Int) := by omega
               have q3 : (fnd nm : Int) < (L.length : Int) := by have := HFN.out nm HMN.out; omega
               obtain ⟨al, As, cs, e2, z0, z1, z2, z3, z4, z5, hls, his⟩ := at_T49 (HG.out.to HB2.out).r0 (fnd nm : Int) p3 q3
               cases e2
               rw [Int.toNat_natCast] at z0 z1 z2 z3 z4 z5
               replace p3 := eq_true p3
               replace q3 := eq_true q3
               have hmem : rd_T49 L (fnd nm : Int) ∈ L := by
                 have h_ := HFN.out nm HMN.out
                 unfold rd_T49
                 rw [Int.toNat_natCast, List.getD_eq_getElem?_getD, List.getElem?_eq_getElem h_]
                 exact List.getElem_mem h_
               have HMem := Lib.hid (HAR.out _ hmem)
               have hC1 := HCND.out; have hM1 := HMem.out; generalize hsx : rd_T49 L (fnd nm : Int) = sx at z0 z1 z2 z3 z4 z5 hls his hM1 hC1; replace HCND := Lib.hid hC1; replace HMem := Lib.hid hM1; clear hC1 hM1
               have HIS := Lib.hid his
               have HLS := Lib.hid hls
               clear hb his hls hmem)
            | (go_at_call 83; (with_reducible refine (frameOf_at As cs sx 0 _ (Kd.C_below HIS.out (by repeat (first | exact Below.refl _ _ | apply below_alloc | apply pw_below_drewN | apply below_drew1))) (by have := HMem.out; omega)).mono ?_); rintro e w3 ⟨A3, c3, rfl, hr, hb⟩
               have HB3 := Lib.hid (bl2 (below_alloc HB2.out _) hb)
               have HX3 := Lib.hid (blk_below (blk_alloc HX2.out _) hb)
               have hs3 : Bx 49 w3 w2.heap.size (scs sx As cs) := blk_below (heap_alloc_new w2 _) hb
               obtain ⟨s0, s1, s2, s3, s4, s5⟩ := bx6 hs3
               have HR3 := Lib.hid (row_new (below_alloc HB2.out _) (blk_lt (blk_alloc HX2.out _)) hr)
               have HCk := HCND.out.2
               clear hr hb hs3)
            | (go_at_call 84; (with_reducible refine (HCk (fun k => k ≠ w.heap.size) _ w _ (below_alloc HB3.out _) (Kd.R_alloc (Kd.R_mono HR3.out (fun k hk => hk.1)) _)).mono ?_); rintro e w4 ⟨v4, rfl, hr4, hb4, hk4⟩; obtain ⟨A4, c4, rfl⟩ := Kd.R_slice hr4
               have HX4 := Lib.hid (show Bx 29 w4 w.heap.size zf from blk_kept (blk_alloc HX3.out _) hk4 (fun h => h rfl))
               obtain ⟨r0_, r1_, r2_, r3_⟩ := bx4 HX4.out
               obtain ⟨f0_, f1_, f2_, f3_⟩ := fz4 HX4.out
               have HB4 := Lib.hid hb4
               have HR4 := Lib.hid (row_ck (blk_lt (blk_alloc HX3.out _)) hr4)
               clear hr4 hb4 hk4))
          refine bodyPost_ret (results_ct rfl _ _ w.heap.size 29 #[.slice A4 r.length c4, .float .f32 r2, .float .f32 r3, .float .f32 r4] (0, 0) _ rfl (put4 HX4.out _ _ _ _) Try.underlying29 rfl (by kernel_rfl)) rfl ?_
          exact ⟨_, rfl, Kd.R_mono (fr4 HR4.out _ _ _ _) (fun _ _ => trivial), below4 HB4.out (Nat.le_refl _) _ _ _ _⟩
        · have g1 : ((j : Int) == 0) = false := beq_eq_false_iff_ne.mpr (by omega)
          have HJ := Lib.hid hj0
          clear hj0
          go_wp2_with (first
            | (go_at_call 58; (with_reducible refine (HF.out nm HMN.out _ HW.out).mono ?_); rintro e w2 ⟨rfl, hb⟩; have HB2 := Lib.hid (bl2 HW.out hb); have HX2 := Lib.hid (blk_below HX.out hb)
               have p3 : (0 : Int) ≤ (fnd nm : Int) := by omega
               have q3 : (fnd nm : Int) < (L.length : Int) := by have := HFN.out nm HMN.out; omega
               obtain ⟨al, As, cs, e2, z0, z1, z2, z3, z4, z5, hls, his⟩ := at_T49 (HG.out.to HB2.out).r0 (fnd nm : Int) p3 q3
               cases e2
               rw [Int.toNat_natCast] at z0 z1 z2 z3 z4 z5
               replace p3 := eq_true p3
               replace q3 := eq_true q3
               have hmem : rd_T49 L (fnd nm : Int) ∈ L := by
                 have h_ := HFN.out nm HMN.out
                 unfold rd_T49
                 rw [Int.toNat_natCast, List.getD_eq_getElem?_getD, List.getElem?_eq_getElem h_]
                 exact List.getElem_mem h_
               have HMem := Lib.hid (HAR.out _ hmem)
               have hC1 := HCND.out; have hM1 := HMem.out; generalize hsx : rd_T49 L (fnd nm : Int) = sx at z0 z1 z2 z3 z4 z5 hls his hM1 hC1; replace HCND := Lib.hid hC1; replace HMem := Lib.hid hM1; clear hC1 hM1
               have HIS := Lib.hid his
               have HLS := Lib.hid hls
               clear hb his hls hmem)
            | (go_at_call 83; (with_reducible refine (frameOf_at As cs sx 0 _ (Kd.C_below HIS.out (by repeat (first | exact Below.refl _ _ | apply below_alloc | apply pw_below_drewN | apply below_drew1))) (by have := HMem.out; omega)).mono ?_); rintro e w3 ⟨A3, c3, rfl, hr, hb⟩
               have HB3 := Lib.hid (bl2 (below_alloc HB2.out _) hb)
               have HX3 := Lib.hid (blk_below (blk_alloc HX2.out _) hb)
               have hs3 : Bx 49 w3 w2.heap.size (scs sx As cs) := blk_below (heap_alloc_new w2 _) hb
               obtain ⟨s0, s1, s2, s3, s4, s5⟩ := bx6 hs3
               have HR3 := Lib.hid (row_new (below_alloc HB2.out _) (blk_lt (blk_alloc HX2.out _)) hr)
               have HCk := HCND.out.2
               have g2 := HCND.out.1.resolve_left HJ.out
               have s3' : (w3.alloc (.cells #[.slice A3 sx.f1.length c3, .float .f32 0, .float .f32 sx.f4, .float .f32 sx.f5] 29)).cell? ⟨w2.heap.size, 3, none⟩ = some (.float .f32 sx.f3) := (bx6 (blk_alloc hs3 _)).2.2.2.1
               clear hr hb hs3)
            | (go_at_call 84; (with_reducible refine (HCk (fun k => k ≠ w.heap.size) _ w _ (below_alloc HB3.out _) (Kd.R_alloc (Kd.R_mono HR3.out (fun k hk => hk.1)) _)).mono ?_); rintro e w4 ⟨v4, rfl, hr4, hb4, hk4⟩; obtain ⟨A4, c4, rfl⟩ := Kd.R_slice hr4
               have HX4 := Lib.hid (show Bx 29 w4 w.heap.size zf from blk_kept (blk_alloc HX3.out _) hk4 (fun h => h rfl))
               obtain ⟨r0_, r1_, r2_, r3_⟩ := bx4 HX4.out
               obtain ⟨f0_, f1_, f2_, f3_⟩ := fz4 HX4.out
               have HB4 := Lib.hid hb4
               have HR4 := Lib.hid (row_ck (blk_lt (blk_alloc HX3.out _)) hr4)
               clear hr4 hb4 hk4))
          refine bodyPost_ret (results_ct rfl _ _ w.heap.size 29 #[.slice A4 r.length c4, .float .f32 r2, .float .f32 r3, .float .f32 r4] (0, 0) _ rfl (put4 HX4.out _ _ _ _) Try.underlying29 rfl (by kernel_rfl)) rfl ?_
          exact ⟨_, rfl, Kd.R_mono (fr4 HR4.out _ _ _ _) (fun _ _ => trivial), below4 HB4.out (Nat.le_refl _) _ _ _ _⟩
end Go.Proofs.Yteooifighndmkaa.Fra
