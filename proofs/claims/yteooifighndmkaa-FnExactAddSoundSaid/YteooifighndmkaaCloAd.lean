import Derived.Test.YteooifighndmkaaPFnExactAddSoundx0
import Derived.Lib.Hide
import Derived.Lib.SliceRun
import Derived.Lib.Walk
set_option linter.unusedVariables false
set_option linter.unusedSimpArgs false
namespace Go.Proofs.Yteooifighndmkaa.PFnExactAddSound.Clo
open Go.RowKit Go.Proofs.YteooifighndmkaaW.PrintWords Go.Proofs.YteooifighndmkaaW.PrintLast Go.Proofs.YteooifighndmkaaW.PrintMore Go.Proofs.YteooifighndmkaaW.PrintFl Go.Proofs.Yteooifighndmkaa Go.Proofs.Yteooifighndmkaa.PFnExactAddSound
abbrev SD := S49
abbrev FR (W : World) (base : Nat) (ok : Nat → Prop) (v : Value) (xs : List Nat) : Prop := Kd.R (Kd.float .f32) 25 W base ok v xs
theorem eql_nilF (w : World) (a : Option Addr) (n c n' c' : Nat) : (binOp .eql 24 (.slice a n c) (.slice none n' c')).run Try.prog w = .ok (.bool a.isNone) w := Lib.run_eql_slice_nil w _ _ a n c n' c' Try.underlying24
theorem eql_nilS (w : World) (a : Option Addr) (n c n' c' : Nat) : (binOp .eql 32 (.slice a n c) (.slice none n' c')).run Try.prog w = .ok (.bool a.isNone) w := Lib.run_eql_slice_nil w _ _ a n c n' c' Try.underlying32
theorem infoFc : (Try.prog.info? 25).map (fun i => (i.zero, i.size, i.bytes)) = some (some (.float .f32 0), 1, 4) := by kernel_rfl
theorem infoSc : (Try.prog.info? 49).map (fun i => (i.zero, i.size, i.bytes)) = some (some (.agg #[.string ⟨#[]⟩, .slice none 0 0, .float .f32 0, .float .f32 0, .float .f32 0, .float .f32 0]), 6, 56) := by kernel_rfl
theorem info_cut {P : Program} {e : TypeId} {z : Value} {s b : Nat} (h : (P.info? e).map (fun i => (i.zero, i.size, i.bytes)) = some (some z, s, b)) : ∃ i0, P.info? e = some i0 ∧ i0.zero = some z ∧ i0.size = s ∧ i0.bytes = b := by
  obtain ⟨i0, h1, h2⟩ := Option.map_eq_some_iff.1 h
  injection h2 with h2 h3
  injection h3 with h3 h4
  exact ⟨i0, h1, h2, h3, h4⟩
set_option maxHeartbeats 4000000 in
set_option maxRecDepth 100000 in
theorem clone_fcells (ad : Addr) (n c : Nat) (news : List Value) (w : World) (hl : news.length = n * 1) (hn : n ≤ maxLen) (hbig : n * 4 ≤ 140737488355328) (hc : ∀ j u, news[j]? = some u → w.cell? (ad.add j) = some u) (h1 : ∀ u ∈ news, u.oneCell' = true) :
    Calls Try.prog 92 #[.slice (some ad) n c] w fun e w' => ∃ v', e = .returned v' ∧ w'.ownsRow w.heap.size 25 1 v' n news ∧ Below w.heap.size w w' := by
  have q := eql_nilF
  obtain ⟨i0, hi, hz0, hz1, hz2⟩ := info_cut infoFc
  have A : Aside (∀ j u, news[j]? = some u → w.cell? (ad.add j) = some u) := hc
  clear hc
  go_enter Try.func92, Try.ntmps92
  go_wp2_with (at_builtin; refine wpList_append_own _ rfl _ _ 24 rfl w.heap.size 25 i0 (.float .f32 0) 1 4 Try.underlying24 hi hz0 hz1 hz2 rfl (by decide) _ _ _ rfl (World.ownsRow_made w #[] 0 (Nat.le_refl _) (Nat.zero_le _) (by simp)) ad n c news rfl ?qc1 ?qc2 ?qc3 ?qc4 ?qc5 ?qc6 ?_)
  case qc1 => exact hl
  case qc2 =>
    intro j u hj
    exact Lib.cell?_alloc_some _ (A.out j u hj)
  case qc3 => exact h1
  case qc4 => rw [Nat.zero_add]; exact hn
  case qc5 => rw [Nat.zero_add]; exact hbig
  case qc6 => simp
  intro v' w1 hown hgrow hnil
  go_wp2
  go_ret
  refine ⟨v', rfl, by simpa using hown, ?_⟩
  exact ((Below.refl _ w).alloc (Nat.le_refl _) _).grown hgrow (by simp) (by intro k hk; simp [Value.ownBlock] at hk; omega)
set_option maxHeartbeats 4000000 in
set_option maxRecDepth 100000 in
theorem clone_fnil (n c : Nat) (w : World) : Calls Try.prog 92 #[.slice none n c] w fun e w' => e = .returned (.slice none 0 0) ∧ w' = w := by
  have q := eql_nilF
  go_enter Try.func92, Try.ntmps92
  go_wp2
  go_ret
  exact ⟨rfl, rfl⟩
set_option maxHeartbeats 4000000 in
set_option maxRecDepth 100000 in
theorem clone_scells (ad : Addr) (n c : Nat) (news : List Value) (w : World) (hl : news.length = n * 6) (hn : n ≤ maxLen) (hbig : n * 56 ≤ 140737488355328) (hc : ∀ j u, news[j]? = some u → w.cell? (ad.add j) = some u) (h1 : ∀ u ∈ news, u.oneCell' = true) :
    Calls Try.prog 91 #[.slice (some ad) n c] w fun e w' => ∃ v', e = .returned v' ∧ w'.ownsRow w.heap.size 49 6 v' n news ∧ Below w.heap.size w w' := by
  have q := eql_nilS
  obtain ⟨i0, hi, hz0, hz1, hz2⟩ := info_cut infoSc
  have A : Aside (∀ j u, news[j]? = some u → w.cell? (ad.add j) = some u) := hc
  clear hc
  go_enter Try.func91, Try.ntmps91
  go_wp2_with (at_builtin; refine wpList_append_own _ rfl _ _ 32 rfl w.heap.size 49 i0 (.agg #[.string ⟨#[]⟩, .slice none 0 0, .float .f32 0, .float .f32 0, .float .f32 0, .float .f32 0]) 6 56 Try.underlying32 hi hz0 hz1 hz2 rfl (by decide) _ _ _ rfl (World.ownsRow_made w #[] 0 (Nat.le_refl _) (Nat.zero_le _) (by simp)) ad n c news rfl ?qc1 ?qc2 ?qc3 ?qc4 ?qc5 ?qc6 ?_)
  case qc1 => exact hl
  case qc2 =>
    intro j u hj
    exact Lib.cell?_alloc_some _ (A.out j u hj)
  case qc3 => exact h1
  case qc4 => rw [Nat.zero_add]; exact hn
  case qc5 => rw [Nat.zero_add]; exact hbig
  case qc6 => simp
  intro v' w1 hown hgrow hnil
  go_wp2
  go_ret
  refine ⟨v', rfl, by simpa using hown, ?_⟩
  exact ((Below.refl _ w).alloc (Nat.le_refl _) _).grown hgrow (by simp) (by intro k hk; simp [Value.ownBlock] at hk; omega)
set_option maxHeartbeats 4000000 in
set_option maxRecDepth 100000 in
theorem clone_snil (n c : Nat) (w : World) : Calls Try.prog 91 #[.slice none n c] w fun e w' => e = .returned (.slice none 0 0) ∧ w' = w := by
  have q := eql_nilS
  go_enter Try.func91, Try.ntmps91
  go_wp2
  go_ret
  exact ⟨rfl, rfl⟩
theorem reps_one {α : Type} {d : Kd α} {w : World} {xs : List α} {cs : List Value} (h : Reps (d.K w) d.sz xs cs) : ∀ u ∈ cs, u.oneCell' = true := by
  intro u hu
  obtain ⟨j, hj, rfl⟩ := List.getElem_of_mem hu
  have hs : 0 < d.sz := by
    rcases Nat.eq_zero_or_pos d.sz with h0 | h0
    · rw [h.1, h0, Nat.mul_zero] at hj; omega
    · exact h0
  have hq : j / d.sz < xs.length := by rw [Nat.div_lt_iff_lt_mul hs, ← h.1]; exact hj
  refine d.K_one (h.2 (j / d.sz) _ (List.getElem?_eq_getElem hq)) _ ?_
  refine List.mem_iff_getElem?.2 ⟨j % d.sz, ?_⟩
  rw [List.getElem?_take, if_pos (Nat.mod_lt _ hs), List.getElem?_drop, Nat.div_add_mod' j d.sz]
  exact List.getElem?_eq_getElem hj
theorem clone_f (A : Option Addr) (c : Nat) (l : List Nat) (w : World) (hC : Kd.C (Kd.float .f32) w A l.length l) (hb : l.length < 35184372088832) :
    Calls Try.prog 92 #[.slice A l.length c] w fun e w' => ∃ (A' : Option Addr) (c' : Nat), e = .returned (.slice A' l.length c') ∧ FR w' w.heap.size (fun _ => True) (.slice A' l.length c') l ∧ Below w.heap.size w w' := by
  cases A with
  | none =>
    have h0 : l = [] := by
      rcases Nat.eq_zero_or_pos l.length with h | h
      · exact List.eq_nil_of_length_eq_zero h
      · obtain ⟨_, he, _⟩ := hC.2.2 h
        cases he
    subst h0
    refine (clone_fnil 0 c w).mono ?_
    rintro e w' ⟨rfl, rfl⟩
    exact ⟨none, 0, rfl, Kd.R_nil _ _ _ _ _, Below.refl _ _⟩
  | some ad =>
    obtain ⟨inner, hr, hcc⟩ := ReadsRow.inner_ hC
    refine (clone_fcells ad l.length c inner w hr.1 (by unfold maxLen; omega) (by omega) hcc (reps_one (d := Kd.float .f32) (w := w) hr)).mono ?_
    rintro e w' ⟨v', rfl, ho, hbl⟩
    have hR : FR w' w.heap.size (fun _ => True) v' l := ⟨fun _ _ => trivial, inner, ho, hr⟩
    obtain ⟨A', c', rfl⟩ := Kd.R_slice hR
    exact ⟨A', c', rfl, hR, hbl⟩
theorem clone_s (A : Option Addr) (c : Nat) (l : List SD) (w : World) (hC : Kd.C k49 w A l.length l) (hb : l.length < 2513169434916) :
    Calls Try.prog 91 #[.slice A l.length c] w fun e w' => ∃ (A' : Option Addr) (c' : Nat) (css : List (List Value)), e = .returned (.slice A' l.length c') ∧ css.length = l.length ∧ (Kd.raw 6).R 49 w' w.heap.size (fun _ => True) (.slice A' l.length c') css ∧ (∀ (i : Nat) (x : SD), l[i]? = some x → ∃ cs, css[i]? = some cs ∧ k49.K w x cs) ∧ Below w.heap.size w w' := by
  cases A with
  | none =>
    have h0 : l = [] := by
      rcases Nat.eq_zero_or_pos l.length with h | h
      · exact List.eq_nil_of_length_eq_zero h
      · obtain ⟨_, he, _⟩ := hC.2.2 h
        cases he
    subst h0
    refine (clone_snil 0 c w).mono ?_
    rintro e w' ⟨rfl, rfl⟩
    exact ⟨none, 0, [], rfl, rfl, Kd.R_nil _ _ _ _ _, fun i x h => by simp at h, Below.refl _ _⟩
  | some ad =>
    obtain ⟨inner, hr, hcc⟩ := ReadsRow.inner_ hC
    refine (clone_scells ad l.length c inner w hr.1 (by unfold maxLen; omega) (by omega) hcc (reps_one (d := k49) (w := w) hr)).mono ?_
    rintro e w' ⟨v', rfl, ho, hbl⟩
    have hl : ((List.range l.length).map fun j => (inner.drop (j * 6)).take 6).length = l.length := by rw [List.length_map, List.length_range]
    have hrep : ∀ (i : Nat) (x : SD), l[i]? = some x → k49.K w x ((inner.drop (i * 6)).take 6) := fun i x hi => hr.2 i x hi
    have hR : (Kd.raw 6).R 49 w' w.heap.size (fun _ => True) v' ((List.range l.length).map fun j => (inner.drop (j * 6)).take 6) := by
      refine ⟨fun _ _ => trivial, inner, by rw [hl]; exact ho, by rw [hl]; exact hr.1, fun j p hj => ?_⟩
      rw [List.getElem?_map] at hj
      obtain ⟨j', hj', rfl⟩ := Option.map_eq_some_iff.1 hj
      obtain ⟨hl2, he⟩ := List.getElem?_eq_some_iff.1 hj'
      rw [List.getElem_range] at he
      subst he
      rw [List.length_range] at hl2
      have hm := hrep j _ (List.getElem?_eq_getElem hl2)
      exact ⟨rfl, k49.K_len hm, k49.K_one hm⟩
    obtain ⟨A', c', e'⟩ := Kd.R_slice hR
    rw [hl] at e'
    subst e'
    refine ⟨A', c', _, rfl, hl, hR, fun i x hi => ⟨_, ?_, hrep i x hi⟩, hbl⟩
    have hlt := (List.getElem?_eq_some_iff.1 hi).1
    rw [List.getElem?_map, List.getElem?_eq_getElem (by rw [List.length_range]; exact hlt), List.getElem_range]
    rfl
def okx (okj : Nat → Nat → Prop) (j a b : Nat) (i k : Nat) : Prop := if i = j then (a ≤ k ∧ k < b) else okj i k
theorem okx_self {okj : Nat → Nat → Prop} {j a b k : Nat} : okx okj j a b j k ↔ (a ≤ k ∧ k < b) := by unfold okx; rw [if_pos rfl]
theorem okx_ne {okj : Nat → Nat → Prop} {j a b i k : Nat} (h : i ≠ j) : okx okj j a b i k ↔ okj i k := by unfold okx; rw [if_neg h]
structure CloInv (w0 w1 : World) (v : Value) (l : List SD) (css : List (List Value)) (j : Nat) (W : World) : Prop where
  rows : ∃ (rows : List (List Value)) (okj : Nat → Nat → Prop), rows.length = l.length ∧ (Kd.raw 6).R 49 W w0.heap.size (fun _ => True) v rows ∧ (∀ i, j ≤ i → rows[i]? = css[i]?) ∧ (∀ i x, i < j → l[i]? = some x → ∃ c, rows[i]? = some c ∧ k49.M W w0.heap.size (okj i) x c) ∧ (∀ i k, okj i k → w1.heap.size ≤ k ∧ k < W.heap.size) ∧ (∀ i i' k, okj i k → okj i' k → i = i')
  below : Below w0.heap.size w0 W
  size : w1.heap.size ≤ W.heap.size
theorem clo_end {w0 w1 W : World} {v : Value} {l : List SD} {css : List (List Value)} (hv : ∀ k, v.ownBlock = some k → k < w1.heap.size) (h : CloInv w0 w1 v l css l.length W) : Kd.S k49 49 W w0.heap.size (fun _ => True) v l := by
  obtain ⟨rows, okj, hl, ⟨_, inner, ho, hr⟩, -, hM, hlt, hap⟩ := h.rows
  obtain ⟨f, hf⟩ := Kd.reps_tag (d := k49) (w := W) (base := w0.heap.size) (ok := fun k => True ∧ some k ≠ v.ownBlock) (xs := l) (inner := inner) okj (fun i j k => hap i j k) (fun i k hk => ⟨trivial, fun he => by have h1 := hv k he.symm; have h2 := (hlt i k hk).1; omega⟩) (by rw [← hl]; exact hr.1) (fun j x hj => by
    obtain ⟨c, hc, hm⟩ := hM j x (List.getElem?_eq_some_iff.1 hj).1 hj
    have e9 : (inner.drop (j * 6)).take 6 = c := (hr.2 j c hc).1
    show k49.M W _ _ x ((inner.drop (j * 6)).take 6)
    rw [e9]
    exact hm)
  exact ⟨f, fun _ _ => trivial, inner, by rw [List.length_zipIdx, ← hl]; exact ho, hf⟩
theorem clo_facts {w0 w1 W : World} {g n cap : Nat} {l : List SD} {css : List (List Value)} {j : Nat} (h : CloInv w0 w1 (.slice (some ⟨g, 0, none⟩) n cap) l css j W) (hn : n = l.length) (hj : j < n) {c : List Value} (hc : css[j]? = some c) : (∀ i u, c[i]? = some u → W.cell? ⟨g, j * 6 + i, none⟩ = some u) ∧ (∀ m, W.frozen? ⟨g, m, none⟩ = false) := by
  obtain ⟨rows, okj, hl, hR, he, -⟩ := h.rows
  have hrj : rows[j]? = some c := (he j (Nat.le_refl _)).trans hc
  obtain ⟨c2, hl2, hM2, hcc, hfr⟩ := Kd.R_elem hR [] (j : Int) (by omega) (by omega)
  rw [Int.toNat_natCast] at hM2 hcc
  have hM3 := hM2.1
  rw [List.getD_eq_getElem?_getD, hrj] at hM3
  subst hM3
  refine ⟨fun i u hu => hcc i u hu, fun m => ?_⟩
  obtain ⟨cells, hb⟩ := Kd.R_typed hR g rfl
  exact blk_frozen hb m
theorem clo_step {w0 w1 W W2 : World} {g n cap : Nat} {l : List SD} {css : List (List Value)} {j : Nat} (h : CloInv w0 w1 (.slice (some ⟨g, 0, none⟩) n cap) l css j W) (hn : n = l.length) (hj : j < n) (hg : g < w1.heap.size) (hB : Below W.heap.size W W2) {x : SD} (hx : l[j]? = some x) {A1 : Option Addr} {c1 : Nat} (hc : css[j]? = some [.string x.f0, .slice A1 x.f1.length c1, .float .f32 x.f2, .float .f32 x.f3, .float .f32 x.f4, .float .f32 x.f5]) {v1 : Value} (hv : FR W2 W.heap.size (fun _ => True) v1 x.f1) :
    CloInv w0 w1 (.slice (some ⟨g, 0, none⟩) n cap) l css (j + 1) (W2.setCell ⟨g, j * 6 + 1, none⟩ v1) := by
  obtain ⟨rows, okj, hl, hR, he, hM, hlt, hap⟩ := h.rows
  have hrj := (he j (Nat.le_refl _)).trans hc
  obtain ⟨hcc, -⟩ := clo_facts h hn hj hc
  have hR2 := Kd.R_below hR hB
  have hsz : (W2.setCell ⟨g, j * 6 + 1, none⟩ v1).heap.size = W2.heap.size := by unfold World.setCell; split <;> simp
  have hseg := Kd.R_seg hR2 (j : Int) (by omega) (by omega) (c := [.string x.f0, .slice A1 x.f1.length c1, .float .f32 x.f2, .float .f32 x.f3, .float .f32 x.f4, .float .f32 x.f5]) (seg := [v1]) (j := 1) (x' := [.string x.f0, v1, .float .f32 x.f2, .float .f32 x.f3, .float .f32 x.f4, .float .f32 x.f5]) (okp := fun _ => False) rfl (fun i u hu => by
    rw [Int.toNat_natCast]
    exact hB.cell (p := ⟨g, j * 6 + i, none⟩) (by have := h.size; show g < _; omega) ▸ hcc i u hu) (by show 1 + 1 ≤ 6; decide) ⟨rfl, rfl, fun u hu => by
      have hu2 : u ∈ ([.string x.f0, v1, .float .f32 x.f2, .float .f32 x.f3, .float .f32 x.f4, .float .f32 x.f5] : List Value) := hu
      simp only [List.mem_cons, List.not_mem_nil, or_false] at hu2
      rcases hu2 with rfl | rfl | rfl | rfl | rfl | rfl
      · rfl
      · obtain ⟨_, _, rfl⟩ := Kd.R_slice hv; rfl
      all_goals rfl⟩ (fun _ hk => hk.elim)
  rw [Int.toNat_natCast] at hseg
  obtain ⟨h2, h3⟩ := hseg
  refine ⟨⟨_, okx okj j W.heap.size W2.heap.size, by rw [List.length_set]; exact hl, h2, fun i hi => ?_, fun i y hi hy => ?_, fun i k hk => ?_, fun i i' k hk hk' => ?_⟩, ?_, ?_⟩
  · rw [List.getElem?_set_ne (by omega)]
    exact he i (by omega)
  · by_cases hij : i = j
    · subst hij
      obtain rfl : x = y := Option.some.inj (hx.symm.trans hy)
      refine ⟨_, List.getElem?_set_self (by omega), ?_⟩
      refine k49_mkM _ _ _ x ?_
      refine Kd.R_far (Kd.R_lower (Kd.R_mono (Kd.R_bound hv) (fun k hk => okx_self.2 ⟨hk.2.1, hk.2.2.1⟩)) h.below.size) (fun k hk => ?_) _
      have h3 := okx_self.1 hk
      have h4 := h.size
      intro e5
      have h6 : k = g := e5
      omega
    · obtain ⟨c, hc2, hm⟩ := hM i y (by omega) hy
      refine ⟨c, by rw [List.getElem?_set_ne (Ne.symm hij)]; exact hc2, ?_⟩
      refine k49.M_move (w := W) (fun k hk => ?_) (k49.M_mono (fun k hk => (okx_ne hij).2 hk) hm)
      have h4 := hlt i k ((okx_ne hij).1 hk)
      rw [Below.heap_setCell _ _ _ _ (by show k ≠ g; omega)]
      exact hB.block k h4.2
  · by_cases hij : i = j
    · subst hij
      have hk2 := okx_self.1 hk
      rw [hsz]
      exact ⟨by have := h.size; omega, hk2.2⟩
    · have h4 := hlt i k ((okx_ne hij).1 hk)
      have h5 := hB.size
      rw [hsz]
      exact ⟨h4.1, by omega⟩
  · by_cases hij : i = j
    · by_cases hij' : i' = j
      · rw [hij, hij']
      · subst hij
        have h3 := okx_self.1 hk
        have h4 := hlt i' k ((okx_ne hij').1 hk')
        omega
    · by_cases hij' : i' = j
      · subst hij'
        have h3 := okx_self.1 hk'
        have h4 := hlt i k ((okx_ne hij).1 hk)
        omega
      · exact hap i i' k ((okx_ne hij).1 hk) ((okx_ne hij').1 hk')
  · refine Below.setCell (h.below.trans (hB.mono h.below.size)) ?_ _
    exact Kd.R_base hR g rfl
  · rw [hsz]
    have h5 := hB.size
    have h6 := h.size
    omega
set_option maxHeartbeats 8000000 in
set_option maxRecDepth 100000 in
theorem clone_sounds (A0 : Option Addr) (c0 : Nat) (l : List SD) (w : World) (hC : Kd.C k49 w A0 l.length l) (hc0 : l.length ≤ c0) (hb : l.length < 2513169434916) (hx : ∀ x ∈ l, x.f1.length < 35184372088832) :
    Calls Try.prog 59 #[.slice A0 l.length c0] w fun e w' => ∃ v0_ : Value, e = .returned v0_ ∧ Kd.S k49 49 w' w.heap.size (fun _ => True) v0_ l ∧ Below w.heap.size w w' := by
  have HC := Lib.hid (clone_s A0 c0 l w hC hb)
  have HX := Lib.hid hx
  have HN := Lib.hid hb
  clear hC hc0 hx hb
  go_enter Try.func59, Try.ntmps59
  go_wp2_with (first
    | (go_at_call 91; (with_reducible refine HC.out.mono ?_); rintro e w1 ⟨A', c', css, rfl, hl, hR, hK, hB⟩
       have HL := Lib.hid hl
       have HR := Lib.hid hR
       have HK := Lib.hid hK
       have HB := Lib.hid hB
       clear hl hR hK hB))
  have HV := Lib.hid (fun k hk => Kd.R_lt HR.out k hk)
  have hle : (l.length : Int) < 2513169434916 := by have := HN.out; omega
  go_loopw [9] (fun v9 W => ∃ j : Nat, v9 = .int .i64 j ∧ j ≤ l.length ∧ CloInv w w1 (.slice A' l.length c') l css j W) (fun v9 _ => l.length - (intOf v9).toNat)
  case atStart =>
    exact ⟨0, rfl, Nat.zero_le _, ⟨⟨css, fun _ _ => False, HL.out, HR.out, fun i _ => rfl, fun i x hi => by omega, fun _ _ hk => hk.elim, fun _ _ _ hk => hk.elim⟩, HB.out, Nat.le_refl _⟩⟩
  case round =>
    obtain ⟨j, rfl, hj, hrl⟩ := hrel
    have HI := Lib.hid hrl
    clear hrl
    by_cases hlt : j < l.length
    · obtain ⟨x, hxj⟩ : ∃ x, l[j]? = some x := ⟨_, List.getElem?_eq_getElem hlt⟩
      obtain ⟨rows, okj, hrl, hRr, -⟩ := HI.out.rows
      obtain ⟨g, cap, eA, hg0, hgl, -⟩ := Kd.R_form hRr (by omega)
      injection eA with eA1 eA2 eA3
      clear eA2
      subst eA1 eA3
      obtain ⟨c, hcj, hcK⟩ := HK.out j x hxj
      obtain ⟨A1, c1, rfl, hl1, hC1⟩ := k49_open hcK
      obtain ⟨hcc, hff⟩ := clo_facts HI.out rfl hlt hcj
      have e1 := hcc 1 _ rfl
      have HCf := Lib.hid (fun W (hW : Below w.heap.size w W) => clone_f A1 c1 x.f1 W (Kd.C_below hC1 hW) (HX.out x (List.mem_of_getElem? hxj)))
      have HXJ := Lib.hid hxj
      have HCJ := Lib.hid hcj
      have HG := Lib.hid (show g < w1.heap.size from HV.out g rfl)
      clear rows okj hrl hRr hg0 hgl hcK hl1 hC1 hcc hff hxj hcj
      go_wp2_with (first
        | (go_at_call 92; (with_reducible refine (HCf.out _ HI.out.below).mono ?_); rintro e w2 ⟨A2, c2, rfl, hr2, hb2⟩
           have e2 : w2.cell? ⟨g, j * 6 + 1, none⟩ = some (.slice A1 x.f1.length c1) := (hb2.cell (p := ⟨g, j * 6 + 1, none⟩) (Nat.lt_of_lt_of_le HG.out HI.out.size)).trans e1
           have hR2 : w2.frozen? ⟨g, j * 6 + 1, none⟩ = false := (hb2.frozen (p := ⟨g, j * 6 + 1, none⟩) (Nat.lt_of_lt_of_le HG.out HI.out.size)).trans ((clo_facts HI.out rfl hlt HCJ.out).2 _)
           have HR2 := Lib.hid hr2
           have HB2 := Lib.hid hb2
           clear hr2 hb2 e1))
      exact ⟨⟨j + 1, by go_num, hlt, clo_step HI.out rfl hlt HG.out HB2.out HXJ.out HCJ.out HR2.out⟩, by simp [intOf]; omega⟩
    · obtain rfl : j = l.length := by omega
      go_wp2
      go_ret
      exact ⟨_, rfl, clo_end HV.out HI.out, HI.out.below⟩
end Go.Proofs.Yteooifighndmkaa.PFnExactAddSound.Clo
