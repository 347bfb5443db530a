/- slices.Repeat by hand, at one float, four times. -/
import Derived.Test.YtoiaojdkgagblaaSq
import Derived.Test.YtoiaojdkgagblaaProg
import Derived.Lib.Hide
import Derived.Lib.SliceRun
import Derived.Lib.Walk
import Derived.Laws.CopyOwn
import Derived.Deep.RegionLaw
import Derived.Deep.OwnRows
import Derived.LoopN
set_option linter.unusedVariables false
set_option linter.unusedSimpArgs false
namespace Go.Proofs.Ytoiaojdkgagblaa.Rep
open Go.RowKit Go.Proofs.YtoiaojdkgagblaaW.PrintWords Go.Proofs.YtoiaojdkgagblaaW.PrintFl Go.Proofs.Ytoiaojdkgagblaa
abbrev Says (f : FuncId) (args : Array Value) (t : Value) (w : World) : Prop := ∀ W, Below w.heap.size w W → Calls Try.prog f args W fun e w' => e = .returned t ∧ Below W.heap.size W w'
theorem infoF : (Try.prog.info? 36).map (fun i => (i.zero, i.size, i.bytes)) = some (some (.float .f32 0), 1, 4) := by kernel_rfl
theorem info_cut {P : Program} {e : TypeId} {z : Value} {s b : Nat} (h : (P.info? e).map (fun i => (i.zero, i.size, i.bytes)) = some (some z, s, b)) : ∃ i0, P.info? e = some i0 ∧ i0.zero = some z ∧ i0.size = s ∧ i0.bytes = b := by
  obtain ⟨i0, h1, h2⟩ := Option.map_eq_some_iff.1 h
  injection h2 with h2 h3
  injection h3 with h3 h4
  exact ⟨i0, h1, h2, h3, h4⟩
theorem infoS : (Try.prog.info? 36).map (·.size) = some 1 := by kernel_rfl
theorem two_cells {w : World} {ad : Addr} {u v : Value} (h : w.cell? ad = some u) (h2 : w.cell? (ad.add 1) = some v) : ∀ (j : Nat) (x : Value), [u, v][j]? = some x → w.cell? (ad.add j) = some x := by
  intro j x hj
  match j, hj with
  | 0, hj => injection hj with hj; subst hj; rw [Addr.add_zero']; exact h
  | 1, hj => injection hj with hj; subst hj; exact h2
  | j + 2, hj => simp at hj
/-- what a copy into a block of one's own comes to, at any count of draws -/
theorem cp {w : World} {h : Nat} {cur : Array Value} (hg : w.heap[h]? = some (.cells cur 36 (0, 0))) (o dLen dCap : Nat) (ad : Addr) (sLen sCap : Nat) (cs : List Value) (hn : cs.length = Nat.min sLen dLen) (hs : ∀ j v, cs[j]? = some v → w.cell? (ad.add j) = some v) (hf : o + cs.length ≤ cur.size) (h1 : ∀ v ∈ cs, v.oneCell' = true) (new : Array Value) (he : (cur.toList.take o ++ cs ++ cur.toList.drop (o + cs.length)).toArray = new) :
    ∃ w', (∀ n, Sem.run Try.prog (Builtin.copy_ #[26, 26] 3 #[.slice (some ⟨h, o, none⟩) dLen dCap, .slice (some ad) sLen sCap]) (w.drewN n) = .ok (goInt cs.length) (w'.drewN n)) ∧ w'.heap[h]? = some (.cells new 36 (0, 0)) ∧ ∀ B, B ≤ h → Below B w w' := by
  refine ⟨w.setRow h new, fun n => ?_, setRow_heap w h _ _ _ _ hg, fun B hB => below_setRow (Below.refl _ _) hB _⟩
  have := run_copy_row (P := Try.prog) (w.drewN n) 26 26 3 36 h o dLen dCap ad sLen sCap cur 36 cs Try.underlying26 infoS hg hn hs hf h1
  rw [he] at this
  exact this
theorem dk3 {w w2 w3 : World} {h : Nat} (h1 : Below w.heap.size w w2) (h2 : ∀ B, B ≤ h → Below B w2 w3) (hl : w.heap.size ≤ h) : Below w.heap.size w w3 := h1.trans (h2 _ hl)
theorem made4 : madeCells #[Value.float .f32 0] 4 = #[Value.float .f32 0, .float .f32 0, .float .f32 0, .float .f32 0] := by
  first | kernel_rfl | (simp [madeCells]; done) | (unfold madeCells; rfl)
theorem one_cell {w : World} {ad : Addr} {v : Value} (h : w.cell? ad = some v) : ∀ (j : Nat) (u : Value), [v][j]? = some u → w.cell? (ad.add j) = some u := by
  intro j u hj
  match j, hj with
  | 0, hj => injection hj with hj; subst hj; rw [Addr.add_zero']; exact h
  | j + 1, hj => simp at hj
set_option maxHeartbeats 8000000 in
set_option maxRecDepth 100000 in
theorem rep_walk (g a : Nat) (w : World) (hx : w.cell? ⟨g, 0, none⟩ = some (.float .f32 a)) (hM : Says 202 #[.int .u64 1, .int .u64 4] (.tuple #[.int .u64 0, .int .u64 4]) w) :
    Calls Try.prog 173 #[.slice (some ⟨g, 0, none⟩) 1 1, .int .i64 4] w fun e w' => ∃ b, e = .returned (.slice (some ⟨b, 0, none⟩) 4 4) ∧ w'.heap[b]? = some (.cells #[.float .f32 a, .float .f32 a, .float .f32 a, .float .f32 a] 36 (0, 0)) ∧ w.heap.size ≤ b ∧ Below w.heap.size w w' := by
  obtain ⟨i0, hi, hz0, hz1, hz2⟩ := info_cut infoF
  have HM := Lib.hid hM
  have HX := Lib.hid hx
  clear hM hx
  go_enter Try.func173, Try.ntmps173
  go_wp2_with (first
    | (go_at_call 202; (with_reducible refine (HM.out _ (Below.refl _ _)).mono ?_); rintro e w1 ⟨rfl, hb⟩; have HB1 := Lib.hid hb; clear hb)
    | (at_make; go_loud (refine wpList_make_row _ rfl _ _ _ rfl 36 i0 (.float .f32 0) Try.underlying26 hi hz0 hz1 rfl .i64 .i64 4 rfl rfl (by rw [hz2]; decide) (by decide) ?_)
       rw [made4]
       have HB2 := Lib.hid (show Below w.heap.size w (w1.alloc (.cells #[Value.float .f32 0, .float .f32 0, .float .f32 0, .float .f32 0] 36)) from below_alloc HB1.out _)
       have HL := Lib.hid HB1.out.size
       have HG := Lib.hid (show (w1.alloc (.cells #[Value.float .f32 0, .float .f32 0, .float .f32 0, .float .f32 0] 36)).heap[w1.heap.size]? = some (.cells #[Value.float .f32 0, .float .f32 0, .float .f32 0, .float .f32 0] 36 (0, 0)) from heap_alloc_new _ _)
       obtain ⟨w2, hw2⟩ : ∃ w2, w1.alloc (.cells #[Value.float .f32 0, .float .f32 0, .float .f32 0, .float .f32 0] 36) = w2 := ⟨_, rfl⟩
       rw [hw2] at HB2 HG ⊢
       obtain ⟨h, hh⟩ : ∃ h, w1.heap.size = h := ⟨_, rfl⟩
       rw [hh] at HG HL ⊢
       have HX2 := Lib.hid (show w2.cell? ⟨g, 0, none⟩ = some (.float .f32 a) from cu HB2.out HX.out)
       obtain ⟨w3, e3, HG3, hb3⟩ := cp HG.out 0 4 4 ⟨g, 0, none⟩ 1 1 [.float .f32 a] rfl (one_cell HX2.out) (by simp) (by intro v hv; simp at hv; subst hv; rfl) #[Value.float .f32 a, .float .f32 0, .float .f32 0, .float .f32 0] rfl
       have HB3 := Lib.hid (dk3 HB2.out hb3 HL.out)
       have G3 := Lib.hid HG3
       obtain ⟨w4, e4, HG4, hb4⟩ := cp HG3 1 3 3 ⟨h, 0, none⟩ 1 4 [.float .f32 a] rfl (one_cell ((blk_cell HG3 0).trans rfl)) (by simp) (by intro v hv; simp at hv; subst hv; rfl) #[Value.float .f32 a, .float .f32 a, .float .f32 0, .float .f32 0] rfl
       have HB4 := Lib.hid (dk3 HB3.out hb4 HL.out)
       have G4 := Lib.hid HG4
       obtain ⟨w5, e5, HG5, hb5⟩ := cp HG4 2 2 2 ⟨h, 0, none⟩ 2 4 [.float .f32 a, .float .f32 a] rfl (two_cells ((blk_cell HG4 0).trans rfl) ((blk_cell HG4 1).trans rfl)) (by simp) (by intro v hv; simp at hv; subst hv; rfl) #[Value.float .f32 a, .float .f32 a, .float .f32 a, .float .f32 a] rfl
       have HB5 := Lib.hid (dk3 HB4.out hb5 HL.out)
       have G5 := Lib.hid HG5
       have e3' : Sem.run Try.prog (Builtin.copy_ #[26, 26] 3 #[.slice (some ⟨h, 0, none⟩) 4 4, .slice (some ⟨g, 0, none⟩) 1 1]) w2 = .ok (goInt 1) w3 := e3 0
       clear e3
       clear HG3 HG4 HG5 hb3 hb4 hb5
       clear hw2 HB1 hh))
  refine wp_loop_rounds 3 ?_
  rw [rounds_succ]
  go_wp2
  have e4' : Sem.run Try.prog (Builtin.copy_ #[26, 26] 3 #[.slice (some ⟨h, 1, none⟩) 3 3, .slice (some ⟨h, 0, none⟩) 1 4]) w3.drew = .ok (goInt 1) w4.drew := e4 1
  clear e4
  have e5' : Sem.run Try.prog (Builtin.copy_ #[26, 26] 3 #[.slice (some ⟨h, 2, none⟩) 2 2, .slice (some ⟨h, 0, none⟩) 2 4]) w4.drew.drew = .ok (goInt 2) w5.drew.drew := e5 2
  clear e5
  go_region_law (go_simp)
  all_goals
    go_wp2
    rw [rounds_succ]
    go_wp2
    go_region_law (go_simp)
  all_goals
    go_wp2
    rw [rounds_succ]
    go_wp2
    go_ret
    exact ⟨h, rfl, G5.out, HL.out, below_drew (below_drew HB5.out)⟩
end Go.Proofs.Ytoiaojdkgagblaa.Rep
