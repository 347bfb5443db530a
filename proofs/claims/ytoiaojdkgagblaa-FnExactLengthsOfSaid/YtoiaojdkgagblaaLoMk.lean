import Derived.Test.YtoiaojdkgagblaaLoPure
set_option linter.unusedVariables false
set_option linter.unusedSimpArgs false
namespace Go.Proofs.Ytoiaojdkgagblaa.LoPure
open Go.RowKit Go.Proofs.YtoiaojdkgagblaaW.PrintWords Go.Proofs.YtoiaojdkgagblaaW.PrintMore Go.Proofs.YtoiaojdkgagblaaW.PrintFl Go.Proofs.Ytoiaojdkgagblaa Go.Proofs.Ytoiaojdkgagblaa.PFnExactLengthsOf Go.Proofs.Ytoiaojdkgagblaa.Lm Go.Proofs.Ytoiaojdkgagblaa.Sdm
attribute [local irreducible] flA floatOfInt marksA
theorem sd_one (k : Nat) (xs : List SD) (a i : Int) (s : ByteArray) (t1 : Int) (t2 : List Nat) (h : i < (xs.length : Int)) (hs : laws_markText.f k a = some s) (ht : laws_markFloat32S.f k (rd_T138 xs i).f1 (wrap64 (a + 1)) = some (t1, t2)) :
    sd0 (k + 1) xs a i = sd0 k (xs.set i.toNat ⟨s, t2, flA t1, flA (wrap64 (t1 + 1)), flA (wrap64 ((wrap64 (t1 + 1)) + 1)), flA (wrap64 ((wrap64 ((wrap64 (t1 + 1)) + 1)) + 1))⟩) (wrap64 ((wrap64 ((wrap64 ((wrap64 (t1 + 1)) + 1)) + 1)) + 1)) (wrap64 (i + 1)) := by
  rw [sd0, if_pos h, hs, Option.bind_some, ht, Option.bind_some]
theorem sd_step (k i a : Nat) (xs : List SD) (hi : i < xs.length) (hn : xs.length ≤ 1048576) (hq : (rd_T138 xs (i : Int)).f1.length ≤ 1048576) (ha : a ≤ 200000000000000) (hk : 1048600 < k) :
    ∃ x : SD, sd0 (k + 1) xs (a : Int) (i : Int) = sd0 k (xs.set i x) ((a + (rd_T138 xs (i : Int)).f1.length + 5 : Nat) : Int) ((i + 1 : Nat) : Int) := by
  have hil : (i : Int) < (xs.length : Int) := by omega
  have ha1 : a + 1 ≤ 1000000000000000 := by omega
  obtain ⟨l, hl⟩ : ∃ l, (rd_T138 xs (i : Int)).f1 = l := ⟨_, rfl⟩
  rw [hl] at hq ⊢
  obtain ⟨n, hn2⟩ : ∃ n, l.length = n := ⟨_, rfl⟩
  obtain ⟨t, ht⟩ := mt_some a (by omega) k (by omega)
  have e0 : wrap64 ((a : Int) + 1) = ((a + 1 : Nat) : Int) := by rw [w64 (by omega) (by omega)]; omega
  have hm := markA_some (a + 1) ha1 l hq k (by clear e0; omega)
  rw [hn2] at hm hq ⊢
  have e1 : wrap64 (((a + 1 + n : Nat) : Int) + 1) = ((a + 1 + n + 1 : Nat) : Int) := by rw [w64 (by omega) (by omega)]; omega
  have e2 : wrap64 (((a + 1 + n + 1 : Nat) : Int) + 1) = ((a + 1 + n + 2 : Nat) : Int) := by rw [w64 (by omega) (by omega)]; omega
  have e3 : wrap64 (((a + 1 + n + 2 : Nat) : Int) + 1) = ((a + 1 + n + 3 : Nat) : Int) := by rw [w64 (by omega) (by omega)]; omega
  have e4 : wrap64 (((a + 1 + n + 3 : Nat) : Int) + 1) = ((a + n + 5 : Nat) : Int) := by rw [w64 (by omega) (by omega)]; omega
  have e5 : wrap64 ((i : Int) + 1) = ((i + 1 : Nat) : Int) := by rw [w64 (by omega) (by omega)]; omega
  have h1 := sd_one k xs (a : Int) (i : Int) t _ _ hil ht (by rw [e0, hl]; exact hm)
  rw [e1, e2, e3, e4, e5, Int.toNat_natCast] at h1
  exact ⟨_, h1⟩
theorem sd_some (n : Nat) (hn : n ≤ 1048576) (d : Nat) : ∀ (i k : Nat) (xs : List SD) (a : Nat), i + d = n → xs.length = n → (∀ j : Nat, i ≤ j → j < n → (rd_T138 xs (j : Int)).f1.length ≤ 1048576) → a + d * 1048582 ≤ 100000000000000 → d + 1048600 < k →
    ∃ (r : Nat) (zs : List SD), sd0 k xs (a : Int) (i : Int) = some ((r : Int), zs) ∧ r ≤ a + d * 1048582 ∧ zs.length = n := by
  induction d with
  | zero =>
    intro i k xs a h1 hl hf ha hk
    obtain ⟨k, rfl⟩ : ∃ m, k = m + 1 := ⟨k - 1, by omega⟩
    rw [sd0, if_neg (by omega)]
    exact ⟨a, xs, rfl, by omega, hl⟩
  | succ d ih =>
    intro i k xs a h1 hl hf ha hk
    obtain ⟨k, rfl⟩ : ∃ m, k = m + 1 := ⟨k - 1, by omega⟩
    have hq := hf i (by omega) (by omega)
    obtain ⟨x, hs⟩ := sd_step k i a xs (by omega) (by omega) hq (by omega) (by omega)
    obtain ⟨r, zs, h5, h6, h7⟩ := ih (i + 1) k (xs.set i x) (a + (rd_T138 xs (i : Int)).f1.length + 5) (by omega) (by rw [List.length_set]; exact hl) (fun j hj hj2 => by
      have := hf j (by omega) hj2
      rw [rdD_getD, Int.toNat_natCast, List.getD_eq_getElem?_getD, List.getElem?_set_ne (by omega)]
      rw [rdD_getD, Int.toNat_natCast, List.getD_eq_getElem?_getD] at this
      exact this) (by omega) (by omega)
    exact ⟨r, zs, by rw [hs]; exact h5, by omega, h7⟩
theorem ms_some (n : Nat) (hn : n ≤ 1048576) : ∀ (d i k : Nat) (xs : List ByteArray) (a : Nat), i + d = n → xs.length = n → a + d ≤ 1000000000000000 → d + 20 < k → ∃ (zs : List ByteArray), laws_markStringS.l0 k xs (a : Int) (i : Int) = some (((a + d : Nat) : Int), zs)
  | _, _, 0, _, _, _, _, _, h => by omega
  | 0, i, k + 1, xs, a, h1, hl, ha, hk => by
    rw [laws_markStringS.l0, if_neg (by omega)]
    exact ⟨xs, rfl⟩
  | d + 1, i, k + 1, xs, a, h1, hl, ha, hk => by
    obtain ⟨t, ht⟩ := mt_some a (by omega) k (by omega)
    have e0 : wrap64 ((a : Int) + 1) = ((a + 1 : Nat) : Int) := by rw [w64 (by omega) (by omega)]; omega
    have e5 : wrap64 ((i : Int) + 1) = ((i + 1 : Nat) : Int) := by rw [w64 (by omega) (by omega)]; omega
    rw [laws_markStringS.l0, if_pos (by omega), ht, Option.bind_some, if_pos (by omega), e0, e5, show a + (d + 1) = (a + 1) + d by omega]
    exact ms_some n hn d (i + 1) k _ (a + 1) (by omega) (by rw [List.length_set]; exact hl) (by omega) (by omega)
theorem mb_some (n : Nat) (hn : n ≤ 1048576) (d : Nat) : ∀ (i k : Nat) (xs : List Bool) (a : Nat), i + d = n → xs.length = n → a + d ≤ 1000000000000000 → d + 20 < k → ∃ (zs : List Bool), laws_markBoolS.l0 k xs (a : Int) (i : Int) = some (((a + d : Nat) : Int), zs) := by
  induction d with
  | zero =>
    intro i k xs a h1 hl ha hk
    obtain ⟨k, rfl⟩ : ∃ m, k = m + 1 := ⟨k - 1, by omega⟩
    rw [laws_markBoolS.l0, if_neg (by omega)]
    exact ⟨xs, rfl⟩
  | succ d ih =>
    intro i k xs a h1 hl ha hk
    obtain ⟨k, rfl⟩ : ∃ m, k = m + 1 := ⟨k - 1, by omega⟩
    have e0 : wrap64 ((a : Int) + 1) = ((a + 1 : Nat) : Int) := by rw [w64 (by omega) (by omega)]; omega
    have e5 : wrap64 ((i : Int) + 1) = ((i + 1 : Nat) : Int) := by rw [w64 (by omega) (by omega)]; omega
    obtain ⟨zs, h⟩ := ih (i + 1) k (xs.set i (Int.tmod (a : Int) 3 == 0)) (a + 1) (by omega) (by rw [List.length_set]; exact hl) (by omega) (by omega)
    refine ⟨zs, ?_⟩
    rw [laws_markBoolS.l0, if_pos (by omega), if_pos (by omega), e0, e5, Int.toNat_natCast, h]
    rw [show a + (d + 1) = a + 1 + d by omega]
theorem toBl (l : List Bool) (hl : l.length ≤ 1048576) (d : Nat) : ∀ (k : Nat) (ys : List Bool) (i : Nat), i + d = l.length → d < k → ys.length = l.length → ys.take i = l.take i → laws_toBoolS.l0 k l ys (i : Int) = some l := by
  induction d with
  | zero =>
    intro k ys i h1 hk hy ht
    obtain ⟨k, rfl⟩ : ∃ m, k = m + 1 := ⟨k - 1, by omega⟩
    obtain rfl : i = l.length := by omega
    rw [laws_toBoolS.l0, if_neg (nlt (Nat.le_refl _))]
    rw [List.take_of_length_le (by omega), List.take_of_length_le (Nat.le_refl _)] at ht
    rw [ht]
  | succ d ih =>
    intro k ys i h1 hk hy ht
    obtain ⟨k, rfl⟩ : ∃ m, k = m + 1 := ⟨k - 1, by omega⟩
    have hi : i < l.length := by omega
    have hiy : i < ys.length := by omega
    have hset := take_set_succ hi hy ht (List.getElem?_eq_getElem hi)
    rw [laws_toBoolS.l0, if_pos (lt' hi), if_pos (nn i), rdB_at hi, if_pos (lt' hiy), up hi (by omega), Int.toNat_natCast]
    exact ih k _ (i + 1) (by omega) (by omega) (by rw [List.length_set]; exact hy) hset
theorem toB (l : List Bool) (hl : l.length ≤ 1048576) (k : Nat) (hk : 1048577 ≤ k) : laws_toBoolS.f k l = some l := by
  unfold laws_toBoolS.f
  rw [if_pos (nn _), if_pos (by omega)]
  exact toBl l hl l.length k _ 0 (by omega) (by omega) (by rw [List.length_replicate]; omega) rfl
theorem eqBl (l : List Bool) (hl : l.length ≤ 1048576) (d : Nat) : ∀ (k i : Nat), i + d = l.length → d < k → laws_eqBoolS.l0 k l l (i : Int) = some true := by
  induction d with
  | zero =>
    intro k i h1 hk
    obtain ⟨k, rfl⟩ : ∃ m, k = m + 1 := ⟨k - 1, by omega⟩
    rw [laws_eqBoolS.l0, if_neg (nlt (by omega))]
  | succ d ih =>
    intro k i h1 hk
    obtain ⟨k, rfl⟩ : ∃ m, k = m + 1 := ⟨k - 1, by omega⟩
    have hi : i < l.length := by omega
    rw [laws_eqBoolS.l0, if_pos (lt' hi), if_pos (nn i), if_pos (lt' hi), if_neg (by simp), up hi (by omega)]
    exact ih k (i + 1) (by omega) (by omega)
theorem eqBs (l : List Bool) (hl : l.length ≤ 1048576) (k : Nat) (hk : 1048577 ≤ k) : laws_eqBoolS.f k l l = some true := by
  unfold laws_eqBoolS.f
  rw [if_pos rfl]
  exact eqBl l (by omega) l.length k 0 (by omega) (by omega)
theorem szT (l : List ByteArray) (hl : l.length ≤ 9223372036854775807) (hz : ∀ x ∈ l, x.size ≤ 140737488351232) (a : Nat) (ha : a ≤ 1048576) (k : Nat) (hk : 1048577 ≤ k) : ∃ r, laws_szStringS.f k l (a : Int) = some r ∧ (r < 0 ∨ l.length ≤ 1048576) := by
  have e1 : wrap64 ((a : Int) - (l.length : Int)) = (a : Int) - (l.length : Int) := w64 (by omega) (by omega)
  unfold laws_szStringS.f
  rw [e1]
  by_cases c : (a : Int) - (l.length : Int) < 0
  · rw [if_pos c]; exact ⟨_, rfl, .inl (by decide)⟩
  · have hll : l.length ≤ 1048576 := by clear e1; omega
    obtain ⟨r, h4, h5⟩ := szSl l hll hz l.length 0 (a - l.length) k (by omega) (by omega) (by clear e1; omega)
    rw [if_neg c, show (a : Int) - (l.length : Int) = ((a - l.length : Nat) : Int) by clear e1; omega]
    exact ⟨r, h4, .inr hll⟩
structure AllL (k : Nat) (l : List LS) (ns : List ByteArray) (st : List Bool) (z1 z2 : Int) : Prop where
  hz1 : laws_szSoundS.f k l 1048576 = some z1
  hz2 : ¬ z1 < 0 → laws_szStringS.f k ns z1 = some z2
structure AllM (k : Nat) (l : List LS) (ns : List ByteArray) (st : List Bool) (r : List Nat) (b : Bool) (a1 a2 a3 : Nat) (zs : List SD) (zn : List ByteArray) (zb : List Bool) : Prop where
  t1 : laws_toSoundS.f k l = some (l.map cv1)
  t2 : laws_toStringS.f k ns = some ns
  t3 : laws_toBoolS.f k st = some st
  s1 : spec_LengthsOf.f k (l.map cv1) ns st = some (r, b)
  s2 : impl_LengthsOf.f k (l.map cv1) ns st = some (r, b)
  q1 : laws_eqSoundS.f k (l.map cv1) (l.map cv1) = some true
  q2 : laws_eqStringS.f k ns ns = some true
  q3 : laws_eqBoolS.f k st st = some true
  q4 : laws_eqFloat32S.f r r = some true
  m1 : sd0 k (l.map cv1) 1 0 = some ((a1 : Int), zs)
  m2 : laws_markStringS.f k ns (a1 : Int) = some ((a2 : Int), zn)
  m3 : laws_markBoolS.f k st (a2 : Int) = some ((a3 : Int), zb)
  m4 : laws_markFloat32S.f k r 1 = some (((1 + r.length : Nat) : Int), marksA 1 r.length)
  h4 : laws_heldFloat32S.f k (marksA 1 r.length) 1 = some ((1 + r.length : Nat) : Int)
theorem okI_cv (x : LS) (h : okS x) (hz : x.f0.size ≤ 1048576 ∧ x.f1.length ≤ 1048576) : okI (cv1 x) := ⟨hz.1, hz.2, h.2.1.2, h.2.2.1, h.2.2.2.1, h.2.2.2.2.1, h.2.2.2.2.2⟩
theorem all_some (l : List LS) (ns : List ByteArray) (st : List Bool) (hl : l.length ≤ 9223372036854775807) (hx : ∀ x ∈ l, okS x) (hn : ns.length ≤ 9223372036854775807) (hnz : ∀ x ∈ ns, x.size ≤ 140737488351232) (hst : st.length ≤ 1048576) :
    ∃ z1 z2, AllL 6000000 l ns st z1 z2 ∧ (¬ z1 < 0 → ¬ z2 < 0 → l.length ≤ 1048576 ∧ ∃ r b a1 a2 a3 zs zn zb, AllM 6000000 l ns st r b a1 a2 a3 zs zn zb) := by
  obtain ⟨z1, h1, h2⟩ := szL_some l hl hx 6000000 (by decide)
  by_cases c1 : z1 < 0
  · exact ⟨z1, 0, ⟨h1, fun h => absurd c1 h⟩, fun h => absurd c1 h⟩
  · obtain ⟨hzz, hll, hz⟩ := h2.resolve_left c1
    have hz1 : ∃ n : Nat, z1 = (n : Int) ∧ n ≤ 1048576 := by
      exact ⟨z1.toNat, by omega, by omega⟩
    obtain ⟨n, rfl, hn1⟩ := hz1
    obtain ⟨z2, h3, h4⟩ := szT ns hn hnz n hn1 6000000 (by decide)
    refine ⟨n, z2, ⟨h1, fun _ => h3⟩, fun _ c2 => ⟨hll, ?_⟩⟩
    have hnl := h4.resolve_left c2
    have hL : (l.map cv1).length ≤ 1048576 := by rw [List.length_map]; exact hll
    have hI : ∀ x ∈ l.map cv1, okI x := by
      intro x hx2
      obtain ⟨y, hy, rfl⟩ := List.mem_map.1 hx2
      exact okI_cv y (hx y hy) (hz y hy)
    obtain ⟨r, b, hr, hr2, hb⟩ := both (l.map cv1) hL hI ns hnl st hst
    obtain ⟨a1, zs, m1, m1b, -⟩ := sd_some (l.map cv1).length hL (l.map cv1).length 0 6000000 (l.map cv1) 1 (by omega) rfl (fun j _ hj => by rw [rdI_at hj]; exact (hI _ (List.getElem_mem _)).2.1) (by omega) (by omega)
    obtain ⟨zn, m2⟩ := ms_some ns.length hnl ns.length 0 6000000 ns a1 (by omega) rfl (by omega) (by omega)
    obtain ⟨zb, m3⟩ := mb_some st.length hst st.length 0 6000000 st (a1 + ns.length) (by omega) rfl (by omega) (by omega)
    refine ⟨r, b, a1, _, _, zs, zn, zb, ⟨toS_some l hll (fun x hx2 => (hz x hx2).2) _ (by decide), toS ns hnl _ (by decide), toB st hst _ (by decide), (hb _ (by decide)).1, (hb _ (by decide)).2, eqS_some _ hL hI _ (by decide), eqS1 ns hnl _ (by omega), eqBs st hst _ (by decide), eqF_some r (by omega) hr2, m1, m2, m3, markA_some 1 (by decide) r (by omega) _ (by omega), heldA_some 1 r.length (by omega) _ (by omega)⟩⟩
end Go.Proofs.Ytoiaojdkgagblaa.LoPure
