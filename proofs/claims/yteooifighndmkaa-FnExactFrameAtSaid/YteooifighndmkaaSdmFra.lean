import Derived.Test.YteooifighndmkaaPFnExactFrameAtx
import Derived.Lib.Hide
set_option linter.unusedVariables false
set_option linter.unusedSimpArgs false
namespace Go.Proofs.Yteooifighndmkaa.Sdm
open Go.RowKit Go.Proofs.YteooifighndmkaaW.PrintWords Go.Proofs.YteooifighndmkaaW.PrintLast Go.Proofs.YteooifighndmkaaW.PrintMore Go.Proofs.YteooifighndmkaaW.PrintFl Go.Proofs.Yteooifighndmkaa Go.Proofs.Yteooifighndmkaa.PFnExactFrameAt
abbrev SD := S49
@[go_sem] theorem run_store_float (P : Program) (w : World) (a : Addr) (m : Mode) (f : FloatKind) (x : Nat) : Sem.run P (store a (.float f x) m) w = Go.stored P w a (.float f x) m := Go.run_store P w a _ m rfl
def flA (a : Int) : Nat := floatOfInt .f32 a
def sd0 : Nat → List SD → Int → Int → Option (Int × List SD)
  | 0, _, _, _ => none
  | k + 1, xs, a, i => if i < (xs.length : Int) then (laws_markText.f k a).bind fun s => (laws_markFloat32S.f k (rd_T49 xs i).f1 (wrap64 (a + 1))).bind fun t =>
      sd0 k (xs.set i.toNat ⟨s, t.2, flA t.1, flA (wrap64 (t.1 + 1)), flA (wrap64 ((wrap64 (t.1 + 1)) + 1)), flA (wrap64 ((wrap64 ((wrap64 (t.1 + 1)) + 1)) + 1))⟩) (wrap64 ((wrap64 ((wrap64 ((wrap64 (t.1 + 1)) + 1)) + 1)) + 1)) (wrap64 (i + 1)) else some (a, xs)
structure SdRel (w0 : World) (W0 : World) (P : Nat → Prop) (u : Value) (xs : List SD) (wr : World) : Prop where
  row : Kd.S k49 49 wr w0.heap.size P u xs
  below : Below w0.heap.size w0 wr
  kept : Kept W0 wr P
theorem rdD_getD (xs : List SD) (i : Int) : rd_T49 xs i = xs.getD i.toNat z49 := rfl
theorem rdD_set {xs : List SD} {j : Nat} (h : j < xs.length) (x : SD) : rd_T49 (xs.set j x) (j : Int) = x := by
  rw [rdD_getD, Int.toNat_natCast, List.getD_eq_getElem?_getD, List.getElem?_set_self h]; rfl
theorem sd_facts {w0 W0 W : World} {P : Nat → Prop} {g n cap : Nat} {xs : List SD} (h : SdRel w0 W0 P (.slice (some ⟨g, 0, none⟩) n cap) xs W) (j : Nat) (hj : j < n) :
    n = xs.length ∧ W.cell? ⟨g, j * 6, none⟩ = some (.string (rd_T49 xs (j : Int)).f0) ∧ W.cell? ⟨g, j * 6 + 2, none⟩ = some (.float .f32 (rd_T49 xs (j : Int)).f2) ∧ W.cell? ⟨g, j * 6 + 3, none⟩ = some (.float .f32 (rd_T49 xs (j : Int)).f3) ∧ W.cell? ⟨g, j * 6 + 4, none⟩ = some (.float .f32 (rd_T49 xs (j : Int)).f4) ∧ W.cell? ⟨g, j * 6 + 5, none⟩ = some (.float .f32 (rd_T49 xs (j : Int)).f5) ∧ (∀ m, W.frozen? ⟨g, j * 6 + m, none⟩ = false) := by
  obtain ⟨oki, c, hcl, hM, hcc, hfr, hoki, hH⟩ := Kd.S_elem h.row z49 (j : Int) (by omega) (by omega)
  rw [Int.toNat_natCast] at hM hcc hfr
  obtain ⟨v, rfl, hR⟩ := k49_openM hM
  exact ⟨(Kd.S_reads' h.row).1, hcc 0 _ rfl, hcc 2 _ rfl, hcc 3 _ rfl, hcc 4 _ rfl, hcc 5 _ rfl, fun m => hfr m⟩
theorem sd_put0 {w0 W0 W : World} {P : Nat → Prop} {g n cap : Nat} {xs : List SD} (h : SdRel w0 W0 P (.slice (some ⟨g, 0, none⟩) n cap) xs W) (j : Nat) (hj : j < n) (a : ByteArray) (x : SD) (hx : rd_T49 xs (j : Int) = x) :
    SdRel w0 W0 P (.slice (some ⟨g, 0, none⟩) n cap) (xs.set j (⟨a, x.f1, x.f2, x.f3, x.f4, x.f5⟩ : SD)) (W.setCell ⟨g, j * 6, none⟩ (.string a)) := by
  subst hx
  obtain ⟨oki, c, hcl, hM, hcc, hfr, hoki, hH⟩ := Kd.S_elem (Kd.S_mono (ok' := fun k => P k ∧ ¬ False) h.row (fun k hk => ⟨hk, id⟩)) z49 (j : Int) (by omega) (by omega)
  rw [Int.toNat_natCast] at hM hcc hfr
  obtain ⟨v, rfl, hR⟩ := k49_openM hM
  have hg : w0.heap.size ≤ g := Kd.S_base h.row g (by simp [Value.ownBlock])
  obtain ⟨hs, -⟩ := Kd.S_seg (okg := fun _ => False) hH (by omega) (by omega) (seg := [.string a]) (j := 0) (x' := ⟨a, (rd_T49 xs (j : Int)).f1, (rd_T49 xs (j : Int)).f2, (rd_T49 xs (j : Int)).f3, (rd_T49 xs (j : Int)).f4, (rd_T49 xs (j : Int)).f5⟩) (okp := oki) (by show 0 + 1 ≤ 6; decide) (k49_mkM W w0.heap.size oki ⟨a, (rd_T49 xs (j : Int)).f1, (rd_T49 xs (j : Int)).f2, (rd_T49 xs (j : Int)).f3, (rd_T49 xs (j : Int)).f4, (rd_T49 xs (j : Int)).f5⟩ hR) (fun k hk => .inl hk) (fun k hk => hk.elim)
  rw [Int.toNat_natCast] at hs
  exact ⟨hs, Below.setCell h.below (p := ⟨g, j * 6, none⟩) hg _, Kept.setCell h.kept (p := ⟨g, j * 6, none⟩) (.inl ((Kd.S_R h.row).1 g rfl)) _⟩
theorem sd_put2 {w0 W0 W : World} {P : Nat → Prop} {g n cap : Nat} {xs : List SD} (h : SdRel w0 W0 P (.slice (some ⟨g, 0, none⟩) n cap) xs W) (j : Nat) (hj : j < n) (a : Nat) (x : SD) (hx : rd_T49 xs (j : Int) = x) :
    SdRel w0 W0 P (.slice (some ⟨g, 0, none⟩) n cap) (xs.set j (⟨x.f0, x.f1, a, x.f3, x.f4, x.f5⟩ : SD)) (W.setCell ⟨g, j * 6 + 2, none⟩ (.float .f32 a)) := by
  subst hx
  obtain ⟨oki, c, hcl, hM, hcc, hfr, hoki, hH⟩ := Kd.S_elem (Kd.S_mono (ok' := fun k => P k ∧ ¬ False) h.row (fun k hk => ⟨hk, id⟩)) z49 (j : Int) (by omega) (by omega)
  rw [Int.toNat_natCast] at hM hcc hfr
  obtain ⟨v, rfl, hR⟩ := k49_openM hM
  have hg : w0.heap.size ≤ g := Kd.S_base h.row g (by simp [Value.ownBlock])
  obtain ⟨hs, -⟩ := Kd.S_seg (okg := fun _ => False) hH (by omega) (by omega) (seg := [.float .f32 a]) (j := 2) (x' := ⟨(rd_T49 xs (j : Int)).f0, (rd_T49 xs (j : Int)).f1, a, (rd_T49 xs (j : Int)).f3, (rd_T49 xs (j : Int)).f4, (rd_T49 xs (j : Int)).f5⟩) (okp := oki) (by show 2 + 1 ≤ 6; decide) (k49_mkM W w0.heap.size oki ⟨(rd_T49 xs (j : Int)).f0, (rd_T49 xs (j : Int)).f1, a, (rd_T49 xs (j : Int)).f3, (rd_T49 xs (j : Int)).f4, (rd_T49 xs (j : Int)).f5⟩ hR) (fun k hk => .inl hk) (fun k hk => hk.elim)
  rw [Int.toNat_natCast] at hs
  exact ⟨hs, Below.setCell h.below (p := ⟨g, j * 6 + 2, none⟩) hg _, Kept.setCell h.kept (p := ⟨g, j * 6 + 2, none⟩) (.inl ((Kd.S_R h.row).1 g rfl)) _⟩
theorem sd_put3 {w0 W0 W : World} {P : Nat → Prop} {g n cap : Nat} {xs : List SD} (h : SdRel w0 W0 P (.slice (some ⟨g, 0, none⟩) n cap) xs W) (j : Nat) (hj : j < n) (a : Nat) (x : SD) (hx : rd_T49 xs (j : Int) = x) :
    SdRel w0 W0 P (.slice (some ⟨g, 0, none⟩) n cap) (xs.set j (⟨x.f0, x.f1, x.f2, a, x.f4, x.f5⟩ : SD)) (W.setCell ⟨g, j * 6 + 3, none⟩ (.float .f32 a)) := by
  subst hx
  obtain ⟨oki, c, hcl, hM, hcc, hfr, hoki, hH⟩ := Kd.S_elem (Kd.S_mono (ok' := fun k => P k ∧ ¬ False) h.row (fun k hk => ⟨hk, id⟩)) z49 (j : Int) (by omega) (by omega)
  rw [Int.toNat_natCast] at hM hcc hfr
  obtain ⟨v, rfl, hR⟩ := k49_openM hM
  have hg : w0.heap.size ≤ g := Kd.S_base h.row g (by simp [Value.ownBlock])
  obtain ⟨hs, -⟩ := Kd.S_seg (okg := fun _ => False) hH (by omega) (by omega) (seg := [.float .f32 a]) (j := 3) (x' := ⟨(rd_T49 xs (j : Int)).f0, (rd_T49 xs (j : Int)).f1, (rd_T49 xs (j : Int)).f2, a, (rd_T49 xs (j : Int)).f4, (rd_T49 xs (j : Int)).f5⟩) (okp := oki) (by show 3 + 1 ≤ 6; decide) (k49_mkM W w0.heap.size oki ⟨(rd_T49 xs (j : Int)).f0, (rd_T49 xs (j : Int)).f1, (rd_T49 xs (j : Int)).f2, a, (rd_T49 xs (j : Int)).f4, (rd_T49 xs (j : Int)).f5⟩ hR) (fun k hk => .inl hk) (fun k hk => hk.elim)
  rw [Int.toNat_natCast] at hs
  exact ⟨hs, Below.setCell h.below (p := ⟨g, j * 6 + 3, none⟩) hg _, Kept.setCell h.kept (p := ⟨g, j * 6 + 3, none⟩) (.inl ((Kd.S_R h.row).1 g rfl)) _⟩
theorem sd_put4 {w0 W0 W : World} {P : Nat → Prop} {g n cap : Nat} {xs : List SD} (h : SdRel w0 W0 P (.slice (some ⟨g, 0, none⟩) n cap) xs W) (j : Nat) (hj : j < n) (a : Nat) (x : SD) (hx : rd_T49 xs (j : Int) = x) :
    SdRel w0 W0 P (.slice (some ⟨g, 0, none⟩) n cap) (xs.set j (⟨x.f0, x.f1, x.f2, x.f3, a, x.f5⟩ : SD)) (W.setCell ⟨g, j * 6 + 4, none⟩ (.float .f32 a)) := by
  subst hx
  obtain ⟨oki, c, hcl, hM, hcc, hfr, hoki, hH⟩ := Kd.S_elem (Kd.S_mono (ok' := fun k => P k ∧ ¬ False) h.row (fun k hk => ⟨hk, id⟩)) z49 (j : Int) (by omega) (by omega)
  rw [Int.toNat_natCast] at hM hcc hfr
  obtain ⟨v, rfl, hR⟩ := k49_openM hM
  have hg : w0.heap.size ≤ g := Kd.S_base h.row g (by simp [Value.ownBlock])
  obtain ⟨hs, -⟩ := Kd.S_seg (okg := fun _ => False) hH (by omega) (by omega) (seg := [.float .f32 a]) (j := 4) (x' := ⟨(rd_T49 xs (j : Int)).f0, (rd_T49 xs (j : Int)).f1, (rd_T49 xs (j : Int)).f2, (rd_T49 xs (j : Int)).f3, a, (rd_T49 xs (j : Int)).f5⟩) (okp := oki) (by show 4 + 1 ≤ 6; decide) (k49_mkM W w0.heap.size oki ⟨(rd_T49 xs (j : Int)).f0, (rd_T49 xs (j : Int)).f1, (rd_T49 xs (j : Int)).f2, (rd_T49 xs (j : Int)).f3, a, (rd_T49 xs (j : Int)).f5⟩ hR) (fun k hk => .inl hk) (fun k hk => hk.elim)
  rw [Int.toNat_natCast] at hs
  exact ⟨hs, Below.setCell h.below (p := ⟨g, j * 6 + 4, none⟩) hg _, Kept.setCell h.kept (p := ⟨g, j * 6 + 4, none⟩) (.inl ((Kd.S_R h.row).1 g rfl)) _⟩
theorem sd_put5 {w0 W0 W : World} {P : Nat → Prop} {g n cap : Nat} {xs : List SD} (h : SdRel w0 W0 P (.slice (some ⟨g, 0, none⟩) n cap) xs W) (j : Nat) (hj : j < n) (a : Nat) (x : SD) (hx : rd_T49 xs (j : Int) = x) :
    SdRel w0 W0 P (.slice (some ⟨g, 0, none⟩) n cap) (xs.set j (⟨x.f0, x.f1, x.f2, x.f3, x.f4, a⟩ : SD)) (W.setCell ⟨g, j * 6 + 5, none⟩ (.float .f32 a)) := by
  subst hx
  obtain ⟨oki, c, hcl, hM, hcc, hfr, hoki, hH⟩ := Kd.S_elem (Kd.S_mono (ok' := fun k => P k ∧ ¬ False) h.row (fun k hk => ⟨hk, id⟩)) z49 (j : Int) (by omega) (by omega)
  rw [Int.toNat_natCast] at hM hcc hfr
  obtain ⟨v, rfl, hR⟩ := k49_openM hM
  have hg : w0.heap.size ≤ g := Kd.S_base h.row g (by simp [Value.ownBlock])
  obtain ⟨hs, -⟩ := Kd.S_seg (okg := fun _ => False) hH (by omega) (by omega) (seg := [.float .f32 a]) (j := 5) (x' := ⟨(rd_T49 xs (j : Int)).f0, (rd_T49 xs (j : Int)).f1, (rd_T49 xs (j : Int)).f2, (rd_T49 xs (j : Int)).f3, (rd_T49 xs (j : Int)).f4, a⟩) (okp := oki) (by show 5 + 1 ≤ 6; decide) (k49_mkM W w0.heap.size oki ⟨(rd_T49 xs (j : Int)).f0, (rd_T49 xs (j : Int)).f1, (rd_T49 xs (j : Int)).f2, (rd_T49 xs (j : Int)).f3, (rd_T49 xs (j : Int)).f4, a⟩ hR) (fun k hk => .inl hk) (fun k hk => hk.elim)
  rw [Int.toNat_natCast] at hs
  exact ⟨hs, Below.setCell h.below (p := ⟨g, j * 6 + 5, none⟩) hg _, Kept.setCell h.kept (p := ⟨g, j * 6 + 5, none⟩) (.inl ((Kd.S_R h.row).1 g rfl)) _⟩
theorem sd_lend {w0 W0 W : World} {P : Nat → Prop} {g n cap : Nat} {xs : List SD} (h : SdRel w0 W0 P (.slice (some ⟨g, 0, none⟩) n cap) xs W) (j : Nat) (hj : j < n) (x : SD) (hx : rd_T49 xs (j : Int) = x) :
    ∃ (v : Value) (oki : Nat → Prop), W.cell? ⟨g, j * 6 + 1, none⟩ = some v ∧ Kd.R (Kd.float .f32) 25 W w0.heap.size oki v x.f1 ∧
      (∀ (W' : World) (ys : List Nat), Kd.R (Kd.float .f32) 25 W' w0.heap.size (fun k => oki k ∨ W.heap.size ≤ k) v ys → Below w0.heap.size w0 W' → Kept W W' oki → SdRel w0 W0 P (.slice (some ⟨g, 0, none⟩) n cap) (xs.set j (⟨x.f0, ys, x.f2, x.f3, x.f4, x.f5⟩ : SD)) W') := by
  subst hx
  obtain ⟨oki, c, hcl, hM, hcc, hoki, hH⟩ := Kd.S_lend h.row z49 (j : Int) (by omega) (by omega)
  rw [Int.toNat_natCast] at hM hcc
  obtain ⟨v, rfl, hR⟩ := k49_openM hM
  have e1 := hcc 1 _ rfl
  refine ⟨v, oki, e1, hR, fun W' ys hy hb hk => ⟨?_, hb, h.kept.then_ hk (fun k hk2 => .inl (hoki k hk2).1)⟩⟩
  have hH' := Kd.H_step (w1 := W') hH (fun k _ hn hlt => hk.2 k hlt hn)
  have hy' := Kd.R_mono (ok' := oki) (Kd.R_tight rfl hy) (fun k hk => hR.1 k hk.symm)
  have hs := Kd.H_back hH' (x' := ⟨(rd_T49 xs (j : Int)).f0, ys, (rd_T49 xs (j : Int)).f2, (rd_T49 xs (j : Int)).f3, (rd_T49 xs (j : Int)).f4, (rd_T49 xs (j : Int)).f5⟩) (okp := oki) (k49_mkM W' w0.heap.size oki ⟨(rd_T49 xs (j : Int)).f0, ys, (rd_T49 xs (j : Int)).f2, (rd_T49 xs (j : Int)).f3, (rd_T49 xs (j : Int)).f4, (rd_T49 xs (j : Int)).f5⟩ hy') (fun _ hk => hk)
  rw [Int.toNat_natCast] at hs
  exact hs
theorem sd_bel {w0 W0 W W' : World} {P : Nat → Prop} {u : Value} {xs : List SD} (h : SdRel w0 W0 P u xs W) (hb : Below W.heap.size W W') : SdRel w0 W0 P u xs W' := ⟨Kd.S_below h.row hb, h.below.trans (hb.mono h.below.size), h.kept.below hb⟩
set_option maxHeartbeats 16000000 in
set_option maxRecDepth 100000 in
theorem sd_mark (k : Nat) (P : Nat → Prop) (u : Value) (l0 : List SD) (a1 r1 : Int) (r2 : List SD) (w0 w : World) (hB : Below w0.heap.size w0 w) (ho : Kd.S k49 49 w w0.heap.size P u l0) (hl1 : l0.length ≤ 2000000) (h : sd0 k l0 a1 0 = some (r1, r2)) :
    Calls Try.prog 17 #[u, .int .i64 a1] w fun e w' => e = .returned (.int .i64 r1) ∧ Kd.S k49 49 w' w0.heap.size P u r2 ∧ Below w0.heap.size w0 w' ∧ Kept w w' P := by
  obtain ⟨A, c, rfl⟩ := Kd.S_slice ho
  have HR0 := Lib.hid (show SdRel w0 w P (.slice A l0.length c) l0 w from ⟨ho, hB, Kept.refl _ _⟩)
  have HH := Lib.hid h
  clear hB ho h
  go_enter Try.func17, Try.ntmps17
  go_wp2
  go_loopw [1, 5] (fun v1 v5 wr => ∃ (kq : Nat) (xs : List SD) (a : Int) (j : Nat), v1 = .int .i64 a ∧ v5 = .int .i64 j ∧ j ≤ l0.length ∧ xs.length = l0.length ∧ Hid (sd0 kq xs a (j : Int) = some (r1, r2)) ∧ SdRel w0 w P (.slice A l0.length c) xs wr) (fun _ v5 _ => l0.length - (intOf v5).toNat)
  case atStart => exact ⟨k, l0, a1, 0, rfl, rfl, Nat.zero_le _, rfl, HH, HR0.out⟩
  case round =>
    obtain ⟨kq, xs, a, j, rfl, rfl, hj, hlen, HD, hrl⟩ := hrel
    have HL := Lib.hid hrl
    clear hrl
    have hD := HD.out
    cases kq with
    | zero => simp [sd0] at hD
    | succ kq =>
      rw [sd0] at hD
      by_cases hlt : j < l0.length
      · obtain ⟨g, capg, eA, hg⟩ := Kd.R_form (Kd.S_R HL.out.row) (by omega)
        injection eA with eA1 eA2 eA3
        clear eA2
        subst eA1 eA3
        rw [if_pos (by omega)] at hD
        obtain ⟨s, hs, hD⟩ := Option.bind_eq_some_iff.mp hD
        obtain ⟨⟨t1, t2⟩, ht, hD⟩ := Option.bind_eq_some_iff.mp hD
        rw [Int.toNat_natCast] at hD
        obtain ⟨x, hx⟩ : ∃ x, rd_T49 xs (j : Int) = x := ⟨_, rfl⟩
        rw [hx] at ht
        have hjx : j < xs.length := by omega
        have HT := Lib.hid (fun W => laws_markText.calls kq a s W hs)
        have HM := Lib.hid (fun oki v W hB hR => laws_markFloat32S.calls kq oki v x.f1 (wrap64 (a + 1)) t1 t2 w0 W hB hR ht)
        have HD2 := Lib.hid hD
        have HLen := Lib.hid hlen
        have HX := Lib.hid hx
        have HJX := Lib.hid hjx
        clear hD hs ht hg HD hlen hx hjx
        go_wp2_with (first
          | (go_at_call 51; (with_reducible refine (HT.out _).mono ?_); rintro e w2 ⟨rfl, hb2⟩
             have hL2 := sd_bel HL.out hb2
             obtain ⟨-, e0, -, -, -, -, hf⟩ := sd_facts hL2 j hlt
             have f0 : w2.frozen? ⟨g, j * 6, none⟩ = false := hf 0
             have hP := sd_put0 hL2 j hlt s x HX.out
             obtain ⟨v, oki, e1, hR, hback⟩ := sd_lend hP j hlt _ (rdD_set HJX.out _)
             have HM2 := Lib.hid (HM.out oki v _ hP.below hR)
             have HBk := Lib.hid hback
             clear hL2 hf hP hR hback hb2)
          | (go_at_call 19; (with_reducible refine HM2.out.mono ?_); rintro e w3 ⟨rfl, hr3, hb3, hk3⟩
             have hN := HBk.out w3 t2 hr3 hb3 hk3
             obtain ⟨-, -, e2, e3, e4, e5, hf⟩ := sd_facts hN j hlt
             have f2 := hf 2
             have f3 := hf 3
             have f4 := hf 4
             have f5 := hf 5
             have HN := Lib.hid hN
             clear hN hf hr3 hb3 hk3))
        have e1 : wrap64 ((j : Int) + 1) = ((j + 1 : Nat) : Int) := by unfold wrap64; omega
        have hD3 := HD2.out
        rw [e1] at hD3
        have hN2 := sd_put2 HN.out j hlt (flA t1) _ (rdD_set (by rw [List.length_set]; exact HJX.out) _)
        have hN3 := sd_put3 hN2 j hlt (flA (wrap64 (t1 + 1))) _ (rdD_set (by rw [List.length_set, List.length_set]; exact HJX.out) _)
        have hN4 := sd_put4 hN3 j hlt (flA (wrap64 (wrap64 (t1 + 1) + 1))) _ (rdD_set (by rw [List.length_set, List.length_set, List.length_set]; exact HJX.out) _)
        have hN5 := sd_put5 hN4 j hlt (flA (wrap64 (wrap64 (wrap64 (t1 + 1) + 1) + 1))) _ (rdD_set (by rw [List.length_set, List.length_set, List.length_set, List.length_set]; exact HJX.out) _)
        simp only [List.set_set] at hN5
        exact ⟨⟨kq, _, _, j + 1, rfl, by go_num, hlt, by rw [List.length_set]; exact HLen.out, Lib.hid hD3, hN5⟩, by simp [intOf]; omega⟩
      · rw [if_neg (by omega)] at hD
        injection hD with hD
        injection hD with h1 h2
        subst h1 h2
        go_wp2
        go_ret
        exact ⟨rfl, HL.out.row, HL.out.below, HL.out.kept⟩
end Go.Proofs.Yteooifighndmkaa.Sdm
