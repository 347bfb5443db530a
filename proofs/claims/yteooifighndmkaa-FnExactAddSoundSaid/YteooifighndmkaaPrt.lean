import Derived.Test.YteooifighndmkaaPFnExactAddSoundx0
import Derived.Test.YteooifighndmkaaSrt
import Derived.Test.YteooifighndmkaaShelf
import Derived.Lib.Hide
import Derived.Sort.OwnSorted
set_option linter.unusedVariables false
set_option linter.unusedSimpArgs false
namespace Go.Proofs.Yteooifighndmkaa.PFnExactAddSound.Prt
open Go.RowKit Go.Proofs.YteooifighndmkaaW.PrintWords Go.Proofs.YteooifighndmkaaW.PrintLast Go.Proofs.YteooifighndmkaaW.PrintMore Go.Proofs.YteooifighndmkaaW.PrintFl Go.Proofs.Yteooifighndmkaa Go.Proofs.Yteooifighndmkaa.PFnExactAddSound
abbrev SD := S49
abbrev FR (W : World) (base : Nat) (ok : Nat → Prop) (v : Value) (xs : List Nat) : Prop := Kd.R (Kd.float .f32) 25 W base ok v xs
structure PS where
  x : SD
  A : Option Addr
  c : Nat
instance : Inhabited PS := ⟨⟨z49, none, 0⟩⟩
def encS (p : PS) : List Value := [.string p.x.f0, .slice p.A p.x.f1.length p.c, .float .f32 p.x.f2, .float .f32 p.x.f3, .float .f32 p.x.f4, .float .f32 p.x.f5]
theorem encS_len (p : PS) : (encS p).length = 6 := rfl
theorem encS_one (p : PS) : ∀ v ∈ encS p, v.oneCell' = true := by
  intro v hv
  simp only [encS, List.mem_cons, List.not_mem_nil, or_false] at hv
  rcases hv with rfl | rfl | rfl | rfl | rfl | rfl <;> rfl
def okOf (p : PS) (k : Nat) : Prop := some k = (Value.slice p.A p.x.f1.length p.c).ownBlock
def apart (p q : PS) : Prop := ∀ k, okOf p k → ¬ okOf q k
structure Parts (W : World) (base : Nat) (ok : Nat → Prop) (v : Value) (ps : List PS) : Prop where
  own : (Kd.raw 6).R 49 W base (fun _ => True) v (ps.map encS)
  row : ∀ p ∈ ps, FR W base (okOf p) (.slice p.A p.x.f1.length p.c) p.x.f1
  okb : ∀ p ∈ ps, ∀ k, okOf p k → ok k ∧ some k ≠ v.ownBlock
  okv : ∀ k, v.ownBlock = some k → ok k
  ap : ps.Pairwise apart
theorem S_parts {W : World} {base : Nat} {ok : Nat → Prop} {v : Value} {xs : List SD} (h : Kd.S k49 49 W base ok v xs) : ∃ ps : List PS, ps.map (·.x) = xs ∧ Parts W base ok v ps := by
  obtain ⟨f, h0, inner, ho, hr⟩ := h
  rw [List.length_zipIdx] at ho
  have hrl : inner.length = xs.length * 6 := by have := hr.1; rw [List.length_zipIdx] at this; exact this
  have key : ∀ j : Nat, ∃ q : Option Addr × Nat, ∀ (hj : j < xs.length), (inner.drop (j * 6)).take 6 = encS ⟨xs[j], q.1, q.2⟩ ∧ FR W base (fun k => (ok k ∧ some k ≠ v.ownBlock) ∧ f k = j) (.slice q.1 (xs[j]).f1.length q.2) (xs[j]).f1 := by
    intro j
    by_cases hj : j < xs.length
    · have hM := hr.2 j (xs[j], j) (Kd.zip_at (List.getElem?_eq_getElem hj))
      obtain ⟨v1, e1, hR⟩ := k49_openM hM
      obtain ⟨A, c, rfl⟩ := Kd.R_slice hR
      exact ⟨(A, c), fun _ => ⟨e1, hR⟩⟩
    · exact ⟨(none, 0), fun h => absurd h hj⟩
  obtain ⟨F, hF⟩ := Classical.axiomOfChoice key
  have hlen : (xs.zipIdx.map fun p => (⟨p.1, (F p.2).1, (F p.2).2⟩ : PS)).length = xs.length := by rw [List.length_map, List.length_zipIdx]
  have hget : ∀ (j : Nat) (hj : j < xs.length), (xs.zipIdx.map fun p => (⟨p.1, (F p.2).1, (F p.2).2⟩ : PS))[j]? = some ⟨xs[j], (F j).1, (F j).2⟩ := fun j hj => by
    rw [List.getElem?_map, Kd.zip_at (List.getElem?_eq_getElem hj)]; rfl
  have hmem : ∀ p ∈ (xs.zipIdx.map fun p => (⟨p.1, (F p.2).1, (F p.2).2⟩ : PS)), ∃ (j : Nat) (hj : j < xs.length), p = ⟨xs[j], (F j).1, (F j).2⟩ := fun p hp => by
    obtain ⟨j, hj, e⟩ := List.getElem_of_mem hp
    rw [hlen] at hj
    have h2 := hget j hj
    rw [List.getElem?_eq_getElem (by rw [hlen]; exact hj), e] at h2
    exact ⟨j, hj, Option.some.inj h2⟩
  refine ⟨xs.zipIdx.map fun p => (⟨p.1, (F p.2).1, (F p.2).2⟩ : PS), ?_, ⟨fun _ _ => trivial, inner, ?_, ?_, ?_⟩, ?_, ?_, h0, ?_⟩
  · rw [List.map_map]
    show xs.zipIdx.map (fun p => p.1) = xs
    exact List.zipIdx_map_fst 0 xs
  · rw [List.length_map, hlen]; exact ho
  · rw [List.length_map, hlen]; exact hrl
  · intro j p hj
    rw [List.getElem?_map] at hj
    obtain ⟨q, hq, rfl⟩ := Option.map_eq_some_iff.1 hj
    have hjl : j < xs.length := by have := (List.getElem?_eq_some_iff.1 hq).1; rwa [hlen] at this
    rw [hget j hjl] at hq
    obtain rfl := Option.some.inj hq
    have e1 := (hF j hjl).1
    refine ⟨e1, ?_, fun u hu => ?_⟩
    · show ((inner.drop (j * 6)).take 6).length = 6
      rw [e1]; rfl
    · have hu2 : u ∈ (inner.drop (j * 6)).take 6 := hu
      rw [e1] at hu2
      exact encS_one _ u hu2
  · intro p hp
    obtain ⟨j, hj, rfl⟩ := hmem p hp
    exact Kd.R_mono (Kd.R_tight rfl (hF j hj).2) (fun k hk => hk)
  · intro p hp k hk
    obtain ⟨j, hj, rfl⟩ := hmem p hp
    exact ((hF j hj).2.1 k hk.symm).1
  · rw [List.pairwise_iff_getElem]
    intro i j hi hj hij k h1 h2
    rw [hlen] at hi hj
    have e1 := hget i hi
    rw [List.getElem?_eq_getElem (by rw [hlen]; exact hi)] at e1
    have e2 := hget j hj
    rw [List.getElem?_eq_getElem (by rw [hlen]; exact hj)] at e2
    rw [Option.some.inj e1] at h1
    rw [Option.some.inj e2] at h2
    have g1 := ((hF i hi).2.1 k h1.symm).2
    have g2 := ((hF j hj).2.1 k h2.symm).2
    omega
theorem parts_S {W : World} {base : Nat} {ok : Nat → Prop} {v : Value} {ps : List PS} (h : Parts W base ok v ps) : Kd.S k49 49 W base ok v (ps.map (·.x)) := by
  obtain ⟨_, inner, ho, hr⟩ := h.own
  rw [List.length_map] at ho
  obtain ⟨f, hf⟩ := Kd.reps_tag (d := k49) (w := W) (base := base) (ok := fun k => ok k ∧ some k ≠ v.ownBlock) (xs := ps.map (·.x)) (inner := inner) (fun j k => ∃ hj : j < ps.length, okOf ps[j] k) (fun i j k ⟨hi, h1⟩ ⟨hj, h2⟩ => by
    have hp := List.pairwise_iff_getElem.1 h.ap
    rcases Nat.lt_trichotomy i j with c | c | c
    · exact absurd h2 (hp i j hi hj c k h1)
    · exact c
    · exact absurd h1 (hp j i hj hi c k h2)) (fun j k ⟨hj, hk⟩ => h.okb _ (List.getElem_mem hj) k hk) (by rw [List.length_map]; have := hr.1; rw [List.length_map] at this; exact this) (fun j x hj => by
    rw [List.getElem?_map] at hj
    obtain ⟨p, hp, rfl⟩ := Option.map_eq_some_iff.1 hj
    obtain ⟨hjl, rfl⟩ := List.getElem?_eq_some_iff.1 hp
    have e9 : (inner.drop (j * 6)).take 6 = encS ps[j] := (hr.2 j (encS ps[j]) (by rw [List.getElem?_map, hp]; rfl)).1
    show k49.M W _ _ ps[j].x ((inner.drop (j * 6)).take 6)
    rw [e9]
    exact k49_mkM W base _ _ (Kd.R_mono (h.row _ (List.getElem_mem hjl)) (fun k hk => ⟨hjl, hk⟩)))
  exact ⟨f, h.okv, inner, by rw [List.length_zipIdx, List.length_map]; exact ho, hf⟩
theorem Parts.step {W W1 : World} {base : Nat} {ok : Nat → Prop} {v : Value} {ps : List PS} (h : Parts W base ok v ps) (hm : ∀ k, ok k → k < W.heap.size → W1.heap[k]? = W.heap[k]?) : Parts W1 base ok v ps :=
  ⟨Kd.R_mono (Kd.R_step (Kd.R_mono (ok' := ok) ⟨fun k hk => h.okv k hk, h.own.2⟩ (fun _ hk => hk)) hm) (fun _ _ => trivial), fun p hp => Kd.R_step (h.row p hp) (fun k hk => hm k (h.okb p hp k hk).1), h.okb, h.okv, h.ap⟩
theorem flat_at (ps : List PS) (t : Nat) (ht : t < ps.length * 6) : (Go.Sort.flatK encS 6 ps.toArray)[t]! = (encS (ps.toArray[t / 6]!))[t % 6]! := Go.Sort.get_flatK encS 6 ps.toArray t (by simpa using ht)
theorem flat_eq (ps : List PS) (inner : List Value) (hl : inner.length = ps.length * 6) (hs : ∀ (j : Nat) (hj : j < ps.length), (inner.drop (j * 6)).take 6 = encS ps[j]) : inner = (Go.Sort.flatK encS 6 ps.toArray).toList := by
  apply List.ext_getElem
  · simp [hl]
  · intro t h1 h2
    have ht : t < ps.length * 6 := by omega
    have hj : t / 6 < ps.length := by omega
    have e1 := flat_at ps t ht
    rw [getElem!_pos _ t (by simpa using h2)] at e1
    have e0 : (Go.Sort.flatK encS 6 ps.toArray).toList[t]'h2 = (Go.Sort.flatK encS 6 ps.toArray)[t]'(by simpa using h2) := Array.getElem_toList _
    rw [e0, e1, getElem!_pos _ (t / 6) (by simpa using hj), List.getElem_toArray]
    have e2 := hs (t / 6) hj
    have e3 : inner[t]? = (encS ps[t / 6])[t % 6]? := by
      rw [← e2, List.getElem?_take, if_pos (Nat.mod_lt _ (by decide)), List.getElem?_drop, Nat.div_add_mod' t 6]
    rw [List.getElem?_eq_getElem h1, List.getElem?_eq_getElem (by rw [encS_len]; exact Nat.mod_lt _ (by decide))] at e3
    rw [getElem!_pos _ (t % 6) (by rw [encS_len]; exact Nat.mod_lt _ (by decide))]
    exact Option.some.inj e3
theorem flat_seg (ps : List PS) (j : Nat) (hj : j < ps.length) : ((Go.Sort.flatK encS 6 ps.toArray).toList.drop (j * 6)).take 6 = encS ps[j] := by
  apply List.ext_getElem
  · simp [encS_len]; omega
  · intro t h1 h2
    rw [encS_len] at h2
    have ht : j * 6 + t < ps.length * 6 := by omega
    have e1 := flat_at ps (j * 6 + t) ht
    rw [getElem!_pos _ (j * 6 + t) (by simpa using ht)] at e1
    rw [List.getElem_take, List.getElem_drop]
    have e0 : (Go.Sort.flatK encS 6 ps.toArray).toList[j * 6 + t]'(by simpa using ht) = (Go.Sort.flatK encS 6 ps.toArray)[j * 6 + t]'(by simpa using ht) := Array.getElem_toList _
    rw [e0, e1, show (j * 6 + t) / 6 = j by omega, show (j * 6 + t) % 6 = t by omega, getElem!_pos _ j (by simpa using hj), List.getElem_toArray, getElem!_pos _ t (by rw [encS_len]; exact h2)]
theorem holds_id {w : World} {g : Nat} {cur : Array Value} {e : TypeId} {F : Array Value} (hb : w.heap[g]? = some (.cells cur e (0, 0))) (ht : cur.toList.take F.size = F.toList) : Go.Sort.Holds id w g 0 F := by
  intro j hj
  refine ⟨?_, by simp [World.frozen?, hb]⟩
  have h1 : (cur.toList.take F.size)[j]? = F.toList[j]? := by rw [ht]
  rw [List.getElem?_take_of_lt hj] at h1
  simp only [World.cell?, hb, Nat.zero_add]
  simp only [Option.isSome_none, Bool.false_eq_true, if_false]
  rw [← Array.getElem?_toList, h1]
  simp [hj]
theorem heap_id {w : World} {g n : Nat} {os : Array Obj} {cur : Array Value} {e : TypeId} {fr : Nat × Nat} (d : Array Value) (hb : w.heap[g]? = some (.cells cur e fr)) :
    (Go.Sort.grow (Go.Sort.putRow id (Go.Sort.ahead w n) g 0 d) os).heap[g]? = some (.cells (Go.Sort.putCells id 0 d cur) e fr) := by
  have hg : g < w.heap.size := (Array.getElem?_eq_some_iff.1 hb).1
  rw [Go.Sort.heap_grow_old _ _ (by simpa using hg)]
  simp [Go.Sort.putRow, Go.Sort.mapBlock, Go.Sort.ahead, Array.getElem?_modify, hb, Go.Sort.onCells]
theorem grown_id {w : World} {g n : Nat} {os : Array Obj} (d : Array Value) : w.grownBy (Go.Sort.grow (Go.Sort.putRow id (Go.Sort.ahead w n) g 0 d) os) (some g) := by
  refine ⟨rfl, rfl, rfl, by simp, fun k hk hne => ?_⟩
  rw [Go.Sort.heap_grow_old _ _ (by simpa using hk)]
  have : g ≠ k := fun e => hne (by rw [e])
  simp [Go.Sort.putRow, Go.Sort.mapBlock, Go.Sort.ahead, Array.getElem?_modify, this]
theorem take_id (cur : Array Value) (F : Array Value) (h : F.size ≤ cur.size) : (Go.Sort.putCells id 0 F cur).toList.take F.size = F.toList := by
  apply List.ext_getElem?
  intro j
  by_cases hj : j < F.size
  · rw [List.getElem?_take_of_lt hj, Array.getElem?_toList]
    simp [Go.Sort.putCells, hj, show j < cur.size by omega]
  · rw [List.getElem?_take_eq_none (by omega), List.getElem?_eq_none (by simp; omega)]
theorem parts_block {W : World} {base g cap n : Nat} {ok : Nat → Prop} {ps : List PS} (h : Parts W base ok (.slice (some ⟨g, 0, none⟩) n cap) ps) : n = ps.length ∧ ∃ cur, base ≤ g ∧ W.heap[g]? = some (.cells cur 49 (0, 0)) ∧ ps.length ≤ cap ∧ cap ≤ maxLen ∧ cur.size = cap * 6 ∧ cur.toList.take (ps.length * 6) = (Go.Sort.flatK encS 6 ps.toArray).toList := by
  have hn := (Kd.R_reads' h.own).1
  rw [List.length_map] at hn
  obtain ⟨_, inner, ⟨h1, h2⟩, hr⟩ := h.own
  rw [List.length_map] at h1 h2
  rcases h2 with ⟨h2, _⟩ | ⟨g', cap', cur, hE, hg, hh, hnc, hm, hs, ht⟩
  · cases h2
  · injection hE with ha hb hc
    injection ha with ha
    injection ha with ha
    subst ha hc
    refine ⟨hn, cur, hg, hh, hnc, hm, hs, ?_⟩
    rw [show cur.toList.take (ps.length * 6) = inner from ht]
    exact flat_eq ps inner h1 (fun j hj => (hr.2 j (encS ps[j]) (by rw [List.getElem?_map, List.getElem?_eq_getElem hj]; rfl)).1)
theorem parts_sorted {W : World} {base g cap n m : Nat} {ok : Nat → Prop} {ps qs : List PS} {os : Array Obj} (h : Parts W base ok (.slice (some ⟨g, 0, none⟩) n cap) ps) (hp : qs.Perm ps) : Parts (Go.Sort.grow (Go.Sort.putRow id (Go.Sort.ahead W m) g 0 (Go.Sort.flatK encS 6 qs.toArray)) os) base ok (.slice (some ⟨g, 0, none⟩) n cap) qs := by
  obtain ⟨rfl, cur, hg, hh, hnc, hm, hs, ht⟩ := parts_block h
  have hl := hp.length_eq
  have hgr := grown_id (w := W) (g := g) (n := m) (os := os) (Go.Sort.flatK encS 6 qs.toArray)
  refine ⟨⟨fun _ _ => trivial, (Go.Sort.flatK encS 6 qs.toArray).toList, ⟨by simp; rfl, .inr ⟨g, cap, _, by rw [List.length_map, hl], hg, heap_id _ hh, by simpa [hl] using hnc, hm, by simp [Go.Sort.putCells, hs, Kd.raw], ?_⟩⟩, by simp [Kd.raw], fun j p hj => ?_⟩, fun p hp2 => ?_, fun p hp2 => h.okb p (hp.subset hp2), h.okv, h.ap.perm hp.symm (fun hab k h1 h2 => hab k h2 h1)⟩
  · rw [show (qs.map encS).length * (Kd.raw 6).sz = (Go.Sort.flatK encS 6 qs.toArray).size by simp [Kd.raw]]
    exact take_id _ _ (by simp [hs, hl]; exact Nat.mul_le_mul_right 6 hnc)
  · rw [List.getElem?_map] at hj
    obtain ⟨q, hq, rfl⟩ := Option.map_eq_some_iff.1 hj
    obtain ⟨hjl, rfl⟩ := List.getElem?_eq_some_iff.1 hq
    have e1 := flat_seg qs j hjl
    refine ⟨e1, ?_, fun u hu => ?_⟩
    · show (((Go.Sort.flatK encS 6 qs.toArray).toList.drop (j * 6)).take 6).length = 6
      rw [e1]; rfl
    · have hu2 : u ∈ ((Go.Sort.flatK encS 6 qs.toArray).toList.drop (j * 6)).take 6 := hu
      rw [e1] at hu2
      exact encS_one _ u hu2
  · refine Kd.R_step (h.row p (hp.subset hp2)) (fun k hk hlt => hgr.block k hlt (fun e => (h.okb p (hp.subset hp2) k hk).2 (by rw [e]; rfl)))
theorem less_irrefl : ∀ x : List UInt8, Op.bytesLess x x = false
  | [] => rfl
  | a :: x => by
    unfold Op.bytesLess
    rw [less_irrefl x]
    simp
theorem less_trans : ∀ x y z : List UInt8, Op.bytesLess x y = true → Op.bytesLess y z = true → Op.bytesLess x z = true
  | _, [], _, h, _ => by cases ‹List UInt8› <;> simp [Op.bytesLess] at h
  | _, _ :: _, [], _, h => by simp [Op.bytesLess] at h
  | [], _ :: _, _ :: _, _, _ => rfl
  | a :: x, b :: y, c :: z, h1, h2 => by
    unfold Op.bytesLess at h1 h2 ⊢
    simp only [Bool.or_eq_true, decide_eq_true_eq, Bool.and_eq_true, beq_iff_eq] at h1 h2 ⊢
    rcases h1 with h1 | ⟨rfl, h1⟩
    · rcases h2 with h2 | ⟨rfl, h2⟩
      · exact .inl (UInt8.lt_trans h1 h2)
      · exact .inl h1
    · rcases h2 with h2 | ⟨rfl, h2⟩
      · exact .inl h2
      · exact .inr ⟨rfl, less_trans x y z h1 h2⟩
theorem less_tri : ∀ x y : List UInt8, Op.bytesLess x y = true ∨ x = y ∨ Op.bytesLess y x = true
  | [], [] => .inr (.inl rfl)
  | [], _ :: _ => .inl rfl
  | _ :: _, [] => .inr (.inr rfl)
  | a :: x, b :: y => by
    unfold Op.bytesLess
    simp only [Bool.or_eq_true, decide_eq_true_eq, Bool.and_eq_true, beq_iff_eq]
    by_cases h1 : a < b
    · exact .inl (.inl h1)
    · by_cases h2 : b < a
      · exact .inr (.inr (.inl h2))
      · have e : a = b := UInt8.le_antisymm (UInt8.not_lt.1 h2) (UInt8.not_lt.1 h1)
        subst e
        rcases less_tri x y with h | h | h
        · exact .inl (.inr ⟨rfl, h⟩)
        · exact .inr (.inl (by rw [h]))
        · exact .inr (.inr (.inr ⟨rfl, h⟩))
def cfS (p q : PS) : Int := Lib.compareBytes p.x.f0.data.toList q.x.f0.data.toList
theorem cmp_less : ∀ a b : List UInt8, (Lib.compareBytes a b < 0) ↔ Op.bytesLess a b = true
  | [], [] => by simp [Lib.compareBytes, Op.bytesLess]
  | [], _ :: _ => by simp [Lib.compareBytes, Op.bytesLess]
  | _ :: _, [] => by simp [Lib.compareBytes, Op.bytesLess]
  | a :: x, b :: y => by
    unfold Lib.compareBytes Op.bytesLess
    simp only [Bool.or_eq_true, decide_eq_true_eq, Bool.and_eq_true, beq_iff_eq]
    by_cases h1 : a < b
    · simp [h1]
    · rw [if_neg h1]
      by_cases h2 : b < a
      · rw [if_pos h2]
        constructor
        · intro h; omega
        · rintro (h | ⟨rfl, _⟩)
          · exact absurd h h1
          · exact absurd h2 (UInt8.lt_irrefl _)
      · rw [if_neg h2]
        have e : a = b := UInt8.le_antisymm (UInt8.not_lt.1 h2) (UInt8.not_lt.1 h1)
        subst e
        rw [cmp_less x y]
        simp [UInt8.lt_irrefl]
theorem lt_eq (p q : PS) : ltOf cfS p q = Op.bytesLess p.x.f0.data.toList q.x.f0.data.toList := by
  unfold ltOf cfS
  cases h : Op.bytesLess p.x.f0.data.toList q.x.f0.data.toList with
  | true => exact decide_eq_true ((cmp_less _ _).2 h)
  | false => exact decide_eq_false (fun h2 => by rw [(cmp_less _ _).1 h2] at h; cases h)
theorem swoS : Go.Sort.SWO (ltOf cfS) where
  irrefl p := by rw [lt_eq]; exact less_irrefl _
  trans p q r h1 h2 := by rw [lt_eq] at *; exact less_trans _ _ _ h1 h2
  ntrans p q r h1 h2 := by
    rw [lt_eq] at *
    cases h3 : Op.bytesLess p.x.f0.data.toList r.x.f0.data.toList with
    | false => rfl
    | true =>
      rcases less_tri p.x.f0.data.toList q.x.f0.data.toList with h4 | h4 | h4
      · rw [h1] at h4; cases h4
      · rw [h4] at h3; rw [h3] at h2; cases h2
      · rw [less_trans _ _ _ h4 h3] at h2; cases h2
set_option maxHeartbeats 4000000 in
set_option maxRecDepth 100000 in
theorem closure (x y : PS) (W : World) : Calls Try.prog 61 (#[.agg (encS x).toArray, .agg (encS y).toArray] ++ #[]) W fun e w' => e = .returned (.int .i64 (cfS x y)) ∧ ∃ q os', w' = Go.Sort.grow (W.drewN q) os' := by
  have hcon := fun W' => Try.strings_Compare x.x.f0 y.x.f0 W'
  change ∀ W', Calls Try.prog 62 _ _ _ at hcon
  unfold cfS
  generalize Lib.compareBytes x.x.f0.data.toList y.x.f0.data.toList = r at hcon ⊢
  change Calls Try.prog 61 #[.agg #[.string x.x.f0, .slice x.A x.x.f1.length x.c, .float .f32 x.x.f2, .float .f32 x.x.f3, .float .f32 x.x.f4, .float .f32 x.x.f5], .agg #[.string y.x.f0, .slice y.A y.x.f1.length y.c, .float .f32 y.x.f2, .float .f32 y.x.f3, .float .f32 y.x.f4, .float .f32 y.x.f5]] W _
  go_enter Try.func61, Try.ntmps61
  go_wp2_with (go_at_call 62; refine (hcon _).mono ?_; rintro e w' ⟨rfl, rfl⟩)
  go_ret
  exact ⟨rfl, 0, _, by rw [Go.Sort.alloc_eq_grow, Go.Sort.alloc_eq_grow, Go.Sort.grow_grow]; rfl⟩
theorem sort_s {W : World} {base g cap n : Nat} {ok : Nat → Prop} {ps : List PS} (h : Parts W base ok (.slice (some ⟨g, 0, none⟩) n cap) ps) (hn : n < 4611686018427387904) :
    Calls Try.prog 60 #[.slice (some ⟨g, 0, none⟩) n cap, .func (.func 61) #[] #[]] W fun e w' => e = .returned (.tuple #[]) ∧ ∃ qs, qs.Perm ps ∧ qs.Pairwise (fun p q => Op.bytesLess q.x.f0.data.toList p.x.f0.data.toList = false) ∧ Parts w' base ok (.slice (some ⟨g, 0, none⟩) n cap) qs ∧ W.grownBy w' (some g) := by
  obtain ⟨rfl, cur, hg, hh, hnc, hm, hs, ht⟩ := parts_block h
  have eg : ∀ args w, (callFunc 61 args).run Try.prog w = .ok (.enter 61 args) w := enters_of Try.func61 (by kernel_rfl) rfl
  have hH : Go.Sort.HoldsK encS 6 W g 0 ps.toArray := holds_id hh (by rw [Go.Sort.size_flatK]; simpa using ht)
  have hcon := AnyQ.slices_SortFunc Try.sortS 6 Try.isAgg49 Try.sizeOf49 encS encS_len encS_one cfS swoS 61 #[] g 0 cap ps.toArray W eg (fun m os dk _ x y => closure x y _) hH ((Array.getElem?_eq_some_iff.1 hh).1) (by simpa using hn)
  change Calls Try.prog 60 _ _ _ at hcon
  rw [List.size_toArray] at hcon
  refine hcon.mono ?_
  rintro e w' ⟨rfl, d', m, os, hp, hso, rfl⟩
  obtain ⟨hsz, -, hperm⟩ := hp
  have hperm2 : d'.toList.Perm ps := by
    have e1 : d'.extract 0 ps.length = d' := by apply Array.ext <;> simp_all
    have e2 : ps.toArray.extract 0 ps.length = ps.toArray := by apply Array.ext <;> simp
    rw [e1, e2] at hperm
    simpa using hperm
  have hd : d' = d'.toList.toArray := by simp
  refine ⟨rfl, d'.toList, hperm2, ?_, ?_, ?_⟩
  · rw [List.pairwise_iff_getElem]
    intro i j hi hj hij
    have h3 := hso i j (Nat.zero_le _) hij (by simpa [hsz] using hj)
    rw [lt_eq] at h3
    have hi2 : i < d'.size := by simpa using hi
    have hj2 : j < d'.size := by simpa using hj
    rw [getElem!_pos d' i hi2, getElem!_pos d' j hj2] at h3
    simpa using h3
  · have := parts_sorted (m := m) (os := os) h hperm2
    rw [← hd] at this
    exact this
  · exact grown_id _
theorem parts_app {W w1 : World} {base : Nat} {ok1 ok2 : Nat → Prop} {v v1 v2 : Value} {ps1 ps2 : List PS} (P1 : Parts W base ok1 v ps1) (P2 : Parts W base ok2 v2 ps2) (hr : (Kd.raw 6).R 49 w1 base (fun _ => True) v1 (ps1.map encS ++ ps2.map encS)) (hg : W.grownBy w1 v.ownBlock) (hat : v1.ownBlock = v.ownBlock ∨ ∃ b, v1.ownBlock = some b ∧ W.heap.size ≤ b) (hap : ∀ k, ok1 k → ¬ ok2 k) : Parts w1 base (fun _ => True) v1 (ps1 ++ ps2) := by
  have hne : ∀ p, p ∈ ps1 ++ ps2 → FR W base (okOf p) (.slice p.A p.x.f1.length p.c) p.x.f1 ∧ ∀ k, okOf p k → some k ≠ v.ownBlock ∧ k < W.heap.size := fun p hp => by
    rcases List.mem_append.1 hp with h | h
    · exact ⟨P1.row p h, fun k hk => ⟨(P1.okb p h k hk).2, Kd.R_lt (P1.row p h) k hk.symm⟩⟩
    · exact ⟨P2.row p h, fun k hk => ⟨fun e => hap k (P1.okv k e.symm) (P2.okb p h k hk).1, Kd.R_lt (P2.row p h) k hk.symm⟩⟩
  refine ⟨by rw [List.map_append]; exact hr, fun p hp => Kd.R_step (hne p hp).1 (fun k hk hlt => hg.block k hlt ((hne p hp).2 k hk).1), fun p hp k hk => ⟨trivial, ?_⟩, fun _ _ => trivial, List.pairwise_append.2 ⟨P1.ap, P2.ap, fun p hp q hq k h1 h2 => hap k (P1.okb p hp k h1).1 (P2.okb q hq k h2).1⟩⟩
  have h2 := (hne p hp).2 k hk
  rcases hat with h | ⟨b, h, hb⟩
  · rw [h]; exact h2.1
  · rw [h]
    intro e
    injection e with e
    omega
theorem sorted_unique : ∀ (I J : List SD), J.Perm I → I.Pairwise (fun a b => Op.bytesLess a.f0.toList b.f0.toList = true) → J.Pairwise (fun a b => Op.bytesLess b.f0.toList a.f0.toList = false) → J = I
  | [], J, hp, _, _ => List.perm_nil.1 hp
  | a :: I, [], hp, _, _ => absurd hp.length_eq (by simp)
  | a :: I, b :: J, hp, hI, hJ => by
    have hab : b = a := by
      rcases List.mem_cons.1 (hp.subset (List.mem_cons_self ..)) with h | h
      · exact h
      · have h1 := (List.pairwise_cons.1 hI).1 b h
        rcases List.mem_cons.1 (hp.symm.subset (List.mem_cons_self ..)) with h2 | h2
        · exact h2.symm
        · have h3 := (List.pairwise_cons.1 hJ).1 a h2
          rw [h1] at h3; cases h3
    subst hab
    rw [sorted_unique I J ((List.perm_cons b).1 hp) (List.pairwise_cons.1 hI).2 (List.pairwise_cons.1 hJ).2]
end Go.Proofs.Yteooifighndmkaa.PFnExactAddSound.Prt
