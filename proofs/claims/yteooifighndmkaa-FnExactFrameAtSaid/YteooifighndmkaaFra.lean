import Derived.Test.YteooifighndmkaaPFnExactFrameAtx0
import Derived.Deep.RegionHeldLaw
import Derived.Deep.RegionLaw
import Derived.Lib.Hide
import Derived.Lib.SliceRun
import Derived.Lib.Walk
set_option linter.unusedVariables false
set_option linter.unusedSimpArgs false
namespace Go.Proofs.Yteooifighndmkaa.Fra
open Go.RowKit Go.Proofs.YteooifighndmkaaW.PrintWords Go.Proofs.YteooifighndmkaaW.PrintLast Go.Proofs.YteooifighndmkaaW.PrintMore Go.Proofs.YteooifighndmkaaW.PrintFl Go.Proofs.Yteooifighndmkaa Go.Proofs.Yteooifighndmkaa.PFnExactFrameAt
attribute [local go_sem] run_stf
abbrev SD := S49
abbrev FR (W : World) (base : Nat) (ok : Nat → Prop) (v : Value) (xs : List Nat) : Prop := Kd.R (Kd.float .f32) 25 W base ok v xs
theorem eql_nilF (w : World) (a : Option Addr) (n c n' c' : Nat) : (binOp .eql 24 (.slice a n c) (.slice none n' c')).run Try.prog w = .ok (.bool a.isNone) w := Lib.run_eql_slice_nil w _ _ a n c n' c' Try.underlying24
theorem infoFc : (Try.prog.info? 25).map (fun i => (i.zero, i.size, i.bytes)) = some (some (.float .f32 0), 1, 4) := by kernel_rfl
theorem info_cut {P : Program} {e : TypeId} {z : Value} {s b : Nat} (h : (P.info? e).map (fun i => (i.zero, i.size, i.bytes)) = some (some z, s, b)) : ∃ i0, P.info? e = some i0 ∧ i0.zero = some z ∧ i0.size = s ∧ i0.bytes = b := by
  obtain ⟨i0, h1, h2⟩ := Option.map_eq_some_iff.1 h
  injection h2 with h2 h3
  injection h3 with h3 h4
  exact ⟨i0, h1, h2, h3, h4⟩
set_option maxHeartbeats 4000000 in
set_option maxRecDepth 100000 in
theorem clone_fcells (ad : Addr) (n c : Nat) (news : List Value) (w : World) (hl : news.length = n * 1) (hn : n ≤ maxLen) (hbig : n * 4 ≤ 140737488355328) (hc : ∀ j u, news[j]? = some u → w.cell? (ad.add j) = some u) (h1 : ∀ u ∈ news, u.oneCell' = true) :
    Calls Try.prog 92 #[.slice (some ad) n c] w fun e w' => ∃ v', e = .returned v' ∧ w'.ownsRow w.heap.size 25 1 v' n news ∧ Below w.heap.size w w' := by
  have q := eql_nilF
  obtain ⟨i0, hi, hz0, hz1, hz2⟩ := info_cut infoFc
  have A : Aside (∀ j u, news[j]? = some u → w.cell? (ad.add j) = some u) := hc
  clear hc
  go_enter Try.func92, Try.ntmps92
  go_wp2_with (at_builtin; refine wpList_append_own _ rfl _ _ 24 rfl w.heap.size 25 i0 (.float .f32 0) 1 4 Try.underlying24 hi hz0 hz1 hz2 rfl (by decide) _ _ _ rfl (World.ownsRow_made w #[] 0 (Nat.le_refl _) (Nat.zero_le _) (by simp)) ad n c news rfl ?qc1 ?qc2 ?qc3 ?qc4 ?qc5 ?qc6 ?_)
  case qc1 => exact hl
  case qc2 =>
    intro j u hj
    exact Lib.cell?_alloc_some _ (A.out j u hj)
  case qc3 => exact h1
  case qc4 => rw [Nat.zero_add]; exact hn
  case qc5 => rw [Nat.zero_add]; exact hbig
  case qc6 => simp
  intro v' w1 hown hgrow hnil
  go_wp2
  go_ret
  refine ⟨v', rfl, by simpa using hown, ?_⟩
  exact ((Below.refl _ w).alloc (Nat.le_refl _) _).grown hgrow (by simp) (by intro k hk; simp [Value.ownBlock] at hk; omega)
set_option maxHeartbeats 4000000 in
set_option maxRecDepth 100000 in
theorem clone_fnil (n c : Nat) (w : World) : Calls Try.prog 92 #[.slice none n c] w fun e w' => e = .returned (.slice none 0 0) ∧ w' = w := by
  have q := eql_nilF
  go_enter Try.func92, Try.ntmps92
  go_wp2
  go_ret
  exact ⟨rfl, rfl⟩
set_option maxHeartbeats 4000000 in
set_option maxRecDepth 100000 in
theorem reps_one {α : Type} {d : Kd α} {w : World} {xs : List α} {cs : List Value} (h : Reps (d.K w) d.sz xs cs) : ∀ u ∈ cs, u.oneCell' = true := by
  intro u hu
  obtain ⟨j, hj, rfl⟩ := List.getElem_of_mem hu
  have hs : 0 < d.sz := by
    rcases Nat.eq_zero_or_pos d.sz with h0 | h0
    · rw [h.1, h0, Nat.mul_zero] at hj; omega
    · exact h0
  have hq : j / d.sz < xs.length := by rw [Nat.div_lt_iff_lt_mul hs, ← h.1]; exact hj
  refine d.K_one (h.2 (j / d.sz) _ (List.getElem?_eq_getElem hq)) _ ?_
  refine List.mem_iff_getElem?.2 ⟨j % d.sz, ?_⟩
  rw [List.getElem?_take, if_pos (Nat.mod_lt _ hs), List.getElem?_drop, Nat.div_add_mod' j d.sz]
  exact List.getElem?_eq_getElem hj
theorem clone_f (A : Option Addr) (c : Nat) (l : List Nat) (w : World) (hC : Kd.C (Kd.float .f32) w A l.length l) (hb : l.length < 35184372088832) :
    Calls Try.prog 92 #[.slice A l.length c] w fun e w' => ∃ (A' : Option Addr) (c' : Nat), e = .returned (.slice A' l.length c') ∧ FR w' w.heap.size (fun _ => True) (.slice A' l.length c') l ∧ Below w.heap.size w w' := by
  cases A with
  | none =>
    have h0 : l = [] := by
      rcases Nat.eq_zero_or_pos l.length with h | h
      · exact List.eq_nil_of_length_eq_zero h
      · obtain ⟨_, he, _⟩ := hC.2.2 h
        cases he
    subst h0
    refine (clone_fnil 0 c w).mono ?_
    rintro e w' ⟨rfl, rfl⟩
    exact ⟨none, 0, rfl, Kd.R_nil _ _ _ _ _, Below.refl _ _⟩
  | some ad =>
    obtain ⟨inner, hr, hcc⟩ := ReadsRow.inner_ hC
    refine (clone_fcells ad l.length c inner w hr.1 (by unfold maxLen; omega) (by omega) hcc (reps_one (d := Kd.float .f32) (w := w) hr)).mono ?_
    rintro e w' ⟨v', rfl, ho, hbl⟩
    have hR : FR w' w.heap.size (fun _ => True) v' l := ⟨fun _ _ => trivial, inner, ho, hr⟩
    obtain ⟨A', c', rfl⟩ := Kd.R_slice hR
    exact ⟨A', c', rfl, hR, hbl⟩
theorem bl2 {w w1 w2 : World} (h1 : Below w.heap.size w w1) (h2 : Below w1.heap.size w1 w2) : Below w.heap.size w w2 := h1.trans (h2.mono h1.size)
theorem genw {Pw : World → Prop} {G : Act → World → Prop} {a : Act} {w : World} (h : Pw w) (k : ∀ w, Pw w → G a w) : G a w := k w h
abbrev scs (x : SD) (A : Option Addr) (c : Nat) : Array Value := #[.string x.f0, .slice A x.f1.length c, .float .f32 x.f2, .float .f32 x.f3, .float .f32 x.f4, .float .f32 x.f5]
abbrev zf : Array Value := #[.slice none 0 0, .float .f32 0, .float .f32 0, .float .f32 0]
abbrev fcs (A : Option Addr) (n c : Nat) (p v u : Nat) : Array Value := #[.slice A n c, .float .f32 p, .float .f32 v, .float .f32 u]
abbrev Bx (T : TypeId) (W : World) (g : Nat) (cs : Array Value) : Prop := W.heap[g]? = some (.cells cs T (0, 0))
theorem bx4 {T : TypeId} {W : World} {g : Nat} {a b c d : Value} (h : Bx T W g #[a, b, c, d]) : W.cell? ⟨g, 0, none⟩ = some a ∧ W.cell? ⟨g, 1, none⟩ = some b ∧ W.cell? ⟨g, 2, none⟩ = some c ∧ W.cell? ⟨g, 3, none⟩ = some d :=
  ⟨(blk_cell h 0).trans rfl, (blk_cell h 1).trans rfl, (blk_cell h 2).trans rfl, (blk_cell h 3).trans rfl⟩
theorem bx6 {T : TypeId} {W : World} {g : Nat} {a b c d e f : Value} (h : Bx T W g #[a, b, c, d, e, f]) : W.cell? ⟨g, 0, none⟩ = some a ∧ W.cell? ⟨g, 1, none⟩ = some b ∧ W.cell? ⟨g, 2, none⟩ = some c ∧ W.cell? ⟨g, 3, none⟩ = some d ∧ W.cell? ⟨g, 4, none⟩ = some e ∧ W.cell? ⟨g, 5, none⟩ = some f :=
  ⟨(blk_cell h 0).trans rfl, (blk_cell h 1).trans rfl, (blk_cell h 2).trans rfl, (blk_cell h 3).trans rfl, (blk_cell h 4).trans rfl, (blk_cell h 5).trans rfl⟩
theorem fz4 {T : TypeId} {W : World} {g : Nat} {cs : Array Value} (h : Bx T W g cs) : W.frozen? ⟨g, 0, none⟩ = false ∧ W.frozen? ⟨g, 1, none⟩ = false ∧ W.frozen? ⟨g, 2, none⟩ = false ∧ W.frozen? ⟨g, 3, none⟩ = false :=
  ⟨blk_frozen h 0, blk_frozen h 1, blk_frozen h 2, blk_frozen h 3⟩
structure Two (w : World) (T1 : TypeId) (c1 : Array Value) (T2 : TypeId) (c2 : Array Value) (W : World) : Prop where
  bel : Below w.heap.size w W
  b1 : Bx T1 W w.heap.size c1
  b2 : Bx T2 W (w.heap.size + 1) c2
theorem Two.to {w W W' : World} {T1 T2 : TypeId} {c1 c2 : Array Value} (h : Two w T1 c1 T2 c2 W) (hb : Below W.heap.size W W') : Two w T1 c1 T2 c2 W' := ⟨bl2 h.bel hb, blk_below h.b1 hb, blk_below h.b2 hb⟩
theorem Two.new (w : World) (T1 : TypeId) (c1 : Array Value) (T2 : TypeId) (c2 : Array Value) : Two w T1 c1 T2 c2 ((w.alloc (.cells c1 T1)).alloc (.cells c2 T2)) :=
  ⟨below_alloc (below_alloc (Below.refl _ _) _) _, blk_alloc (heap_alloc_new w _) _, by
    have h := heap_alloc_new (w.alloc (.cells c1 T1)) (.cells c2 T2)
    have e : (w.alloc (.cells c1 T1)).heap.size = w.heap.size + 1 := by show (w.heap.push _).size = _; exact Array.size_push _
    rw [e] at h; exact h⟩
theorem put4 {T : TypeId} {W : World} {g : Nat} {a b c d : Value} (h : Bx T W g #[a, b, c, d]) (v0 v1 v2 v3 : Value) : Bx T ((((W.setCell ⟨g, 0, none⟩ v0).setCell ⟨g, 1, none⟩ v1).setCell ⟨g, 2, none⟩ v2).setCell ⟨g, 3, none⟩ v3) g #[v0, v1, v2, v3] := by
  refine blk_put (cs := #[v0, v1, v2, d]) ?_ 3 _ rfl
  refine blk_put (cs := #[v0, v1, c, d]) ?_ 2 _ rfl
  refine blk_put (cs := #[v0, b, c, d]) ?_ 1 _ rfl
  exact blk_put (cs := #[a, b, c, d]) h 0 _ rfl
theorem far4 {T : TypeId} {W : World} {g g' : Nat} {cs : Array Value} (h : Bx T W g cs) (hne : g ≠ g') (v0 v1 v2 v3 : Value) : Bx T ((((W.setCell ⟨g', 0, none⟩ v0).setCell ⟨g', 1, none⟩ v1).setCell ⟨g', 2, none⟩ v2).setCell ⟨g', 3, none⟩ v3) g cs :=
  blk_far (blk_far (blk_far (blk_far h (p := ⟨g', 0, none⟩) hne v0) (p := ⟨g', 1, none⟩) hne v1) (p := ⟨g', 2, none⟩) hne v2) (p := ⟨g', 3, none⟩) hne v3
theorem below4 {B : Nat} {w W : World} {g : Nat} (h : Below B w W) (hg : B ≤ g) (v0 v1 v2 v3 : Value) : Below B w ((((W.setCell ⟨g, 0, none⟩ v0).setCell ⟨g, 1, none⟩ v1).setCell ⟨g, 2, none⟩ v2).setCell ⟨g, 3, none⟩ v3) :=
  Below.setCell (Below.setCell (Below.setCell (Below.setCell h (p := ⟨g, 0, none⟩) hg _) (p := ⟨g, 1, none⟩) hg _) (p := ⟨g, 2, none⟩) hg _) (p := ⟨g, 3, none⟩) hg _
theorem fr4 {W : World} {b g : Nat} {u : Value} {xs : List Nat} (h : FR W b (fun k => k ≠ g) u xs) (v0 v1 v2 v3 : Value) : FR ((((W.setCell ⟨g, 0, none⟩ v0).setCell ⟨g, 1, none⟩ v1).setCell ⟨g, 2, none⟩ v2).setCell ⟨g, 3, none⟩ v3) b (fun k => k ≠ g) u xs := by
  refine Kd.R_far ?_ (fun k hk => hk) _
  refine Kd.R_far ?_ (fun k hk => hk) _
  refine Kd.R_far ?_ (fun k hk => hk) _
  exact Kd.R_far h (fun k hk => hk) _
set_option maxHeartbeats 4000000 in
set_option maxRecDepth 100000 in
theorem frameOf_at (A : Option Addr) (c : Nat) (x : SD) (p : Nat) (w : World) (hC : Kd.C (Kd.float .f32) w A x.f1.length x.f1) (hb : x.f1.length < 35184372088832) :
    Calls Try.prog 83 #[.agg #[.string x.f0, .slice A x.f1.length c, .float .f32 x.f2, .float .f32 x.f3, .float .f32 x.f4, .float .f32 x.f5], .float .f32 p] w fun e w' => ∃ (A' : Option Addr) (c' : Nat), e = .returned (.agg #[.slice A' x.f1.length c', .float .f32 p, .float .f32 x.f4, .float .f32 x.f5]) ∧ FR w' w.heap.size (fun _ => True) (.slice A' x.f1.length c') x.f1 ∧ Below w.heap.size w w' := by
  have HC := Lib.hid hC
  have HB := Lib.hid hb
  clear hC hb
  go_enter Try.func83, Try.ntmps83
  go_wp2
  refine genw (Two.new w 49 (scs x A c) 29 zf) ?_
  intro W1 hW1
  have HW := Lib.hid hW1
  obtain ⟨-, x1, -, -, x4, x5⟩ := bx6 hW1.b1
  clear hW1
  go_region_held_law (fun w' => w'.cell? ⟨w.heap.size, 1, none⟩ = some (.slice A x.f1.length c) ∧ w'.cell? ⟨w.heap.size, 4, none⟩ = some (.float .f32 x.f4) ∧ w'.cell? ⟨w.heap.size, 5, none⟩ = some (.float .f32 x.f5)) (first | exact ⟨y1, y4, y5⟩ | go_keep) (first
    | (go_at_call 92; (with_reducible refine (clone_f A c x.f1 _ (Kd.C_below HC.out (HW.out.to (by repeat (first | exact Below.refl _ _ | apply below_alloc | apply pw_below_drewN | apply below_drew1))).bel) HB.out).mono ?_); rintro e w3 ⟨A3, c3, rfl, hr, hb⟩
       have HW3 := Lib.hid (HW.out.to (bl2 (by repeat (first | exact Below.refl _ _ | apply below_alloc | apply pw_below_drewN | apply below_drew1)) hb))
       have HR3 := Lib.hid (show FR w3 w.heap.size (fun k => k ≠ w.heap.size + 1) (.slice A3 x.f1.length c3) x.f1 from Kd.R_lower (Kd.R_mono (Kd.R_bound hr) (fun k hk => by have h1 : W1.heap.size ≤ k := hk.2.1; have h2 := blk_lt HW.out.b2; omega)) (by first | exact HW.out.bel.size | exact (HW.out.to (below_drew (Below.refl _ _))).bel.size))
       obtain ⟨-, y1, -, -, y4, y5⟩ := bx6 HW3.out.b1
       obtain ⟨r0, r1, r2, r3⟩ := bx4 HW3.out.b2
       obtain ⟨f0, f1, f2, f3⟩ := fz4 HW3.out.b2
       clear hr hb))
  go_wp2
  refine bodyPost_ret (results_cell_row rfl _ _ (w.heap.size + 1) 29 (fcs A3 x.f1.length c3 p x.f4 x.f5) (0, 0) _ rfl (put4 HW3.out.b2 _ _ _ _) Try.underlying29 rfl (by kernel_rfl)) rfl ?_
  exact ⟨A3, c3, rfl, Kd.R_mono (fr4 HR3.out _ _ _ _) (fun _ _ => trivial), below4 HW3.out.bel (Nat.le_succ _) _ _ _ _⟩
end Go.Proofs.Yteooifighndmkaa.Fra
