/- laws.markBlockS by hand: each block's time and its numbers are numbered through, in rows that lie apart. -/
import Derived.Test.YtoiaojdkgagblaaPFnExactRecoverBlocksx
import Derived.Lib.Hide
set_option linter.unusedVariables false
set_option linter.unusedSimpArgs false
namespace Go.Proofs.Ytoiaojdkgagblaa.Rbm
open Go.RowKit Go.Proofs.YtoiaojdkgagblaaW.PrintWords Go.Proofs.YtoiaojdkgagblaaW.PrintLast Go.Proofs.YtoiaojdkgagblaaW.PrintMore Go.Proofs.YtoiaojdkgagblaaW.PrintFl Go.Proofs.Ytoiaojdkgagblaa Go.Proofs.Ytoiaojdkgagblaa.PFnExactRecoverBlocks
abbrev BL := S28
def mb0 : Nat → List BL → Int → Int → Option (Int × List BL)
  | 0, _, _, _ => none
  | k + 1, xs, a, i => if i < (xs.length : Int) then (laws_markFloat32S.f k (rd_T28 xs i).f1 (wrap64 (a + 1))).bind fun t => mb0 k (xs.set i.toNat ⟨a, t.2⟩) t.1 (wrap64 (i + 1)) else some (a, xs)
theorem mb0_mono : ∀ k xs a i, LeO (mb0 k xs a i) (mb0 (k + 1) xs a i)
  | 0, _, _, _ => fun r h => by simp [mb0] at h
  | k + 1, xs, a, i => by
    unfold mb0
    refine LeO.ite ?_ (LeO.refl _)
    intro r h
    obtain ⟨t, h1, h2⟩ := Option.bind_eq_some_iff.mp h
    exact Option.bind_eq_some_iff.mpr ⟨t, laws_markFloat32S.mono _ _ k t h1, mb0_mono k _ _ _ r h2⟩
structure MbRel (w0 : World) (P : Nat → Prop) (u : Value) (xs : List BL) (wr : World) : Prop where
  row : Kd.S k28 28 wr w0.heap.size P u xs
  below : Below w0.heap.size w0 wr
theorem rdB_getD (xs : List BL) (i : Int) : rd_T28 xs i = xs.getD i.toNat z28 := rfl
/-- the time of block i is stored -/
theorem put_time {w0 W : World} {P : Nat → Prop} {g n cap : Nat} {xs : List BL} (h : MbRel w0 P (.slice (some ⟨g, 0, none⟩) n cap) xs W) (j : Nat) (hj : j < n) (a : Int) :
    ∃ v : Value, W.cell? ⟨g, j * 2, none⟩ = some (.int .i64 (rd_T28 xs (j : Int)).f0) ∧ W.frozen? ⟨g, j * 2, none⟩ = false ∧ W.cell? ⟨g, j * 2 + 1, none⟩ = some v ∧
      MbRel w0 P (.slice (some ⟨g, 0, none⟩) n cap) (xs.set j ⟨a, (rd_T28 xs (j : Int)).f1⟩) (W.setCell ⟨g, j * 2, none⟩ (.int .i64 a)) := by
  obtain ⟨oki, c, hcl, hM, hcc, hfr, hoki, hH⟩ := Kd.S_elem (Kd.S_mono (ok' := fun k => P k ∧ ¬ False) h.row (fun k hk => ⟨hk, id⟩)) z28 (j : Int) (by omega) (by omega)
  rw [Int.toNat_natCast] at hM hcc hfr
  obtain ⟨v, rfl, hR⟩ := k28_openM hM
  have e0 := hcc 0 _ rfl
  have e1 := hcc 1 _ rfl
  have hg : w0.heap.size ≤ g := Kd.S_base h.row g (by simp [Value.ownBlock])
  obtain ⟨hs, -⟩ := Kd.S_seg (okg := fun _ => False) hH (by omega) (by omega) (seg := [.int .i64 a]) (j := 0) (x' := ⟨a, (rd_T28 xs (j : Int)).f1⟩) (okp := oki) (by show 0 + 1 ≤ 2; decide) (k28_mkM W w0.heap.size oki ⟨a, (rd_T28 xs (j : Int)).f1⟩ hR) (fun k hk => .inl hk) (fun k hk => hk.elim)
  rw [Int.toNat_natCast] at hs
  exact ⟨v, e0, hfr 0, e1, ⟨hs, Below.setCell h.below (p := ⟨g, j * 2, none⟩) hg _⟩⟩
/-- the numbers of block i are lent to a call that writes them -/
theorem lend_vals {w0 W : World} {P : Nat → Prop} {g n cap : Nat} {xs : List BL} (h : MbRel w0 P (.slice (some ⟨g, 0, none⟩) n cap) xs W) (j : Nat) (hj : j < n) :
    ∃ (v : Value) (oki : Nat → Prop), W.cell? ⟨g, j * 2 + 1, none⟩ = some v ∧ Kd.R (Kd.float .f32) 36 W w0.heap.size oki v (rd_T28 xs (j : Int)).f1 ∧
      (∀ (W' : World) (ys : List Nat), Kd.R (Kd.float .f32) 36 W' w0.heap.size (fun k => oki k ∨ W.heap.size ≤ k) v ys → Below w0.heap.size w0 W' → Kept W W' oki → MbRel w0 P (.slice (some ⟨g, 0, none⟩) n cap) (xs.set j ⟨(rd_T28 xs (j : Int)).f0, ys⟩) W') := by
  obtain ⟨oki, c, hcl, hM, hcc, hoki, hH⟩ := Kd.S_lend h.row z28 (j : Int) (by omega) (by omega)
  rw [Int.toNat_natCast] at hM hcc
  obtain ⟨v, rfl, hR⟩ := k28_openM hM
  have e1 := hcc 1 _ rfl
  refine ⟨v, oki, e1, hR, fun W' ys hy hb hk => ⟨?_, hb⟩⟩
  have hH' := Kd.H_step (w1 := W') hH (fun k _ hn hlt => hk.2 k hlt hn)
  have hy' := Kd.R_mono (ok' := oki) (Kd.R_tight rfl hy) (fun k hk => hR.1 k hk.symm)
  have hs := Kd.H_back hH' (x' := ⟨(rd_T28 xs (j : Int)).f0, ys⟩) (okp := oki) (k28_mkM W' w0.heap.size oki ⟨(rd_T28 xs (j : Int)).f0, ys⟩ hy') (fun _ hk => hk)
  rw [Int.toNat_natCast] at hs
  exact hs
set_option maxHeartbeats 8000000 in
set_option maxRecDepth 100000 in
theorem mark_calls (k : Nat) (P : Nat → Prop) (u : Value) (l0 : List BL) (a1 r1 : Int) (r2 : List BL) (w0 w : World) (hB : Below w0.heap.size w0 w) (ho : Kd.S k28 28 w w0.heap.size P u l0) (hl1 : l0.length ≤ 1000000) (h : mb0 k l0 a1 0 = some (r1, r2)) :
    Calls Try.prog 38 #[u, .int .i64 a1] w fun e w' => e = .returned (.int .i64 r1) ∧ Kd.S k28 28 w' w0.heap.size P u r2 ∧ Below w0.heap.size w0 w' := by
  obtain ⟨A, c, rfl⟩ := Kd.S_slice ho
  have HR0 := Lib.hid (show MbRel w0 P (.slice A l0.length c) l0 w from ⟨ho, hB⟩)
  have HH := Lib.hid h
  clear hB ho h
  go_enter Try.func38, Try.ntmps38
  go_wp2
  go_loopw [1, 5] (fun v1 v5 wr => ∃ (kq : Nat) (xs : List BL) (a : Int) (j : Nat), v1 = .int .i64 a ∧ v5 = .int .i64 j ∧ j ≤ l0.length ∧ xs.length = l0.length ∧ Hid (mb0 kq xs a (j : Int) = some (r1, r2)) ∧ MbRel w0 P (.slice A l0.length c) xs wr) (fun _ v5 _ => l0.length - (intOf v5).toNat)
  case atStart => exact ⟨k, l0, a1, 0, rfl, rfl, Nat.zero_le _, rfl, HH, HR0.out⟩
  case round =>
    obtain ⟨kq, xs, a, j, rfl, rfl, hj, hlen, HD, hrl⟩ := hrel
    have HL := Lib.hid hrl
    clear hrl
    have hD := HD.out
    cases kq with
    | zero => simp [mb0] at hD
    | succ kq =>
      rw [mb0] at hD
      by_cases hlt : j < l0.length
      · obtain ⟨g, capg, eA, hg⟩ := Kd.R_form (Kd.S_R HL.out.row) (by omega)
        injection eA with eA1 eA2 eA3
        clear eA2
        subst eA1 eA3
        rw [if_pos (by omega)] at hD
        obtain ⟨⟨t1, t2⟩, ht, hD⟩ := Option.bind_eq_some_iff.mp hD
        obtain ⟨v, e0, f0, e1, hrel1⟩ := put_time HL.out j hlt a
        have hrd : rd_T28 (xs.set j ⟨a, (rd_T28 xs (j : Int)).f1⟩) (j : Int) = ⟨a, (rd_T28 xs (j : Int)).f1⟩ := by
          rw [rdB_getD, Int.toNat_natCast, List.getD_eq_getElem?_getD, List.getElem?_set_self (by omega)]; rfl
        obtain ⟨v', oki, e1', hR, hback⟩ := lend_vals hrel1 j hlt
        rw [hrd] at hR hback
        have hM := laws_markFloat32S.calls kq oki v' (rd_T28 xs (j : Int)).f1 (wrap64 (a + 1)) t1 t2 w0 _ hrel1.below hR ht
        have hset : (xs.set j (⟨a, (rd_T28 xs (j : Int)).f1⟩ : BL)).set j ⟨a, t2⟩ = xs.set j ⟨a, t2⟩ := by rw [List.set_set]
        rw [Int.toNat_natCast] at hD
        have HM := Lib.hid hM
        have HBk := Lib.hid hback
        have HSet := Lib.hid hset
        have HD2 := Lib.hid hD
        have HLen := Lib.hid hlen
        clear hrel1 hrd hR hM hback hset hD ht hg HD hlen
        go_wp2_with (first | (go_at_call 26; (with_reducible refine HM.out.mono ?_); rintro e w2 ⟨rfl, hr2, hb2, hk2⟩; have HN := Lib.hid (HBk.out w2 t2 hr2 hb2 hk2); clear hr2 hb2 hk2))
        have e1 : wrap64 ((j : Int) + 1) = ((j + 1 : Nat) : Int) := by unfold wrap64; omega
        have hD3 := HD2.out
        rw [e1] at hD3
        have hN := HN.out
        rw [HSet.out] at hN
        exact ⟨⟨kq, xs.set j ⟨a, t2⟩, t1, j + 1, rfl, by go_num, hlt, by rw [List.length_set]; exact HLen.out, Lib.hid hD3, hN⟩, by simp [intOf]; omega⟩
      · rw [if_neg (by omega)] at hD
        injection hD with hD
        injection hD with h1 h2
        subst h1 h2
        go_wp2
        go_ret
        exact ⟨rfl, HL.out.row, HL.out.below⟩
end Go.Proofs.Ytoiaojdkgagblaa.Rbm
