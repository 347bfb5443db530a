import Derived.Test.YteooifighndmkaaFrr
set_option linter.unusedVariables false
set_option linter.unusedSimpArgs false
namespace Go.Proofs.Yteooifighndmkaa.FrPure
open Go.RowKit Go.Proofs.YteooifighndmkaaW.PrintWords Go.Proofs.YteooifighndmkaaW.PrintLast Go.Proofs.YteooifighndmkaaW.PrintMore Go.Proofs.YteooifighndmkaaW.PrintFl Go.Proofs.Yteooifighndmkaa Go.Proofs.Yteooifighndmkaa.PFnExactFrameAt Go.Proofs.Yteooifighndmkaa.Lm Go.Proofs.Yteooifighndmkaa.Sdm Go.ChangeShapes Go.WideShapes
open Go.Proofs.Yteooifighndmkaa.Frl (bl bn)
attribute [local irreducible] flA floatOfInt marksA
theorem sd_one (k : Nat) (xs : List SD) (a i : Int) (s : ByteArray) (t1 : Int) (t2 : List Nat) (h : i < (xs.length : Int)) (hs : laws_markText.f k a = some s) (ht : laws_markFloat32S.f k (rd_T49 xs i).f1 (wrap64 (a + 1)) = some (t1, t2)) :
    sd0 (k + 1) xs a i = sd0 k (xs.set i.toNat ⟨s, t2, flA t1, flA (wrap64 (t1 + 1)), flA (wrap64 ((wrap64 (t1 + 1)) + 1)), flA (wrap64 ((wrap64 ((wrap64 (t1 + 1)) + 1)) + 1))⟩) (wrap64 ((wrap64 ((wrap64 ((wrap64 (t1 + 1)) + 1)) + 1)) + 1)) (wrap64 (i + 1)) := by
  rw [sd0, if_pos h, hs, Option.bind_some, ht, Option.bind_some]
theorem sd_step (k i a : Nat) (xs : List SD) (hi : i < xs.length) (hn : xs.length ≤ 1048576) (hq : (rd_T49 xs (i : Int)).f1.length ≤ 1048576) (ha : a ≤ 200000000000000) (hk : 1048600 < k) :
    ∃ x : SD, sd0 (k + 1) xs (a : Int) (i : Int) = sd0 k (xs.set i x) ((a + (rd_T49 xs (i : Int)).f1.length + 5 : Nat) : Int) ((i + 1 : Nat) : Int) := by
  have hil : (i : Int) < (xs.length : Int) := by omega
  have ha1 : a + 1 ≤ 1000000000000000 := by omega
  obtain ⟨l, hl⟩ : ∃ l, (rd_T49 xs (i : Int)).f1 = l := ⟨_, rfl⟩
  rw [hl] at hq ⊢
  obtain ⟨n, hn2⟩ : ∃ n, l.length = n := ⟨_, rfl⟩
  obtain ⟨t, ht⟩ := mt_some a (by omega) k (by omega)
  have e0 : wrap64 ((a : Int) + 1) = ((a + 1 : Nat) : Int) := by rw [w64 (by omega) (by omega)]; omega
  have hm := markA_some (a + 1) ha1 l hq k (by clear e0; omega)
  rw [hn2] at hm hq ⊢
  have e1 : wrap64 (((a + 1 + n : Nat) : Int) + 1) = ((a + 1 + n + 1 : Nat) : Int) := by rw [w64 (by omega) (by omega)]; omega
  have e2 : wrap64 (((a + 1 + n + 1 : Nat) : Int) + 1) = ((a + 1 + n + 2 : Nat) : Int) := by rw [w64 (by omega) (by omega)]; omega
  have e3 : wrap64 (((a + 1 + n + 2 : Nat) : Int) + 1) = ((a + 1 + n + 3 : Nat) : Int) := by rw [w64 (by omega) (by omega)]; omega
  have e4 : wrap64 (((a + 1 + n + 3 : Nat) : Int) + 1) = ((a + n + 5 : Nat) : Int) := by rw [w64 (by omega) (by omega)]; omega
  have e5 : wrap64 ((i : Int) + 1) = ((i + 1 : Nat) : Int) := by rw [w64 (by omega) (by omega)]; omega
  have h1 := sd_one k xs (a : Int) (i : Int) t _ _ hil ht (by rw [e0, hl]; exact hm)
  rw [e1, e2, e3, e4, e5, Int.toNat_natCast] at h1
  exact ⟨_, h1⟩
theorem sd_some (n : Nat) (hn : n ≤ 1048576) (d : Nat) : ∀ (i k : Nat) (xs : List SD) (a : Nat), i + d = n → xs.length = n → (∀ j : Nat, i ≤ j → j < n → (rd_T49 xs (j : Int)).f1.length ≤ 1048576) → a + d * 1048582 ≤ 100000000000000 → d + 1048600 < k →
    ∃ (r : Nat) (zs : List SD), sd0 k xs (a : Int) (i : Int) = some ((r : Int), zs) ∧ r ≤ a + d * 1048582 ∧ zs.length = n := by
  induction d with
  | zero =>
    intro i k xs a h1 hl hf ha hk
    obtain ⟨k, rfl⟩ : ∃ m, k = m + 1 := ⟨k - 1, by omega⟩
    rw [sd0, if_neg (by omega)]
    exact ⟨a, xs, rfl, by omega, hl⟩
  | succ d ih =>
    intro i k xs a h1 hl hf ha hk
    obtain ⟨k, rfl⟩ : ∃ m, k = m + 1 := ⟨k - 1, by omega⟩
    have hq := hf i (by omega) (by omega)
    obtain ⟨x, hs⟩ := sd_step k i a xs (by omega) (by omega) hq (by omega) (by omega)
    obtain ⟨r, zs, h5, h6, h7⟩ := ih (i + 1) k (xs.set i x) (a + (rd_T49 xs (i : Int)).f1.length + 5) (by omega) (by rw [List.length_set]; exact hl) (fun j hj hj2 => by
      have := hf j (by omega) hj2
      rw [rdD_getD, Int.toNat_natCast, List.getD_eq_getElem?_getD, List.getElem?_set_ne (by omega)]
      rw [rdD_getD, Int.toNat_natCast, List.getD_eq_getElem?_getD] at this
      exact this) (by omega) (by omega)
    exact ⟨r, zs, by rw [hs]; exact h5, by omega, h7⟩
theorem ms_some (n : Nat) (hn : n ≤ 1048576) : ∀ (d i k : Nat) (xs : List ByteArray) (a : Nat), i + d = n → xs.length = n → a + d ≤ 1000000000000000 → d + 20 < k → ∃ (zs : List ByteArray), laws_markStringS.l0 k xs (a : Int) (i : Int) = some (((a + d : Nat) : Int), zs)
  | _, _, 0, _, _, _, _, _, h => by omega
  | 0, i, k + 1, xs, a, h1, hl, ha, hk => by
    rw [laws_markStringS.l0, if_neg (by omega)]
    exact ⟨xs, rfl⟩
  | d + 1, i, k + 1, xs, a, h1, hl, ha, hk => by
    obtain ⟨t, ht⟩ := mt_some a (by omega) k (by omega)
    have e0 : wrap64 ((a : Int) + 1) = ((a + 1 : Nat) : Int) := by rw [w64 (by omega) (by omega)]; omega
    have e5 : wrap64 ((i : Int) + 1) = ((i + 1 : Nat) : Int) := by rw [w64 (by omega) (by omega)]; omega
    rw [laws_markStringS.l0, if_pos (by omega), ht, Option.bind_some, if_pos (by omega), e0, e5, show a + (d + 1) = (a + 1) + d by omega]
    exact ms_some n hn d (i + 1) k _ (a + 1) (by omega) (by rw [List.length_set]; exact hl) (by omega) (by omega)
theorem szT (l : List ByteArray) (hl : l.length ≤ 9223372036854775807) (hz : ∀ x ∈ l, x.size ≤ 140737488351232) (a : Nat) (ha : a ≤ 1048576) (k : Nat) (hk : 1048577 ≤ k) : ∃ r, laws_szStringS.f k l (a : Int) = some r ∧ (r < 0 ∨ l.length ≤ 1048576) := by
  have e1 : wrap64 ((a : Int) - (l.length : Int)) = (a : Int) - (l.length : Int) := w64 (by omega) (by omega)
  unfold laws_szStringS.f
  rw [e1]
  by_cases c : (a : Int) - (l.length : Int) < 0
  · rw [if_pos c]; exact ⟨_, rfl, .inl (by decide)⟩
  · have hll : l.length ≤ 1048576 := by clear e1; omega
    obtain ⟨r, h4, h5⟩ := szSl l hll hz l.length 0 (a - l.length) k (by omega) (by omega) (by clear e1; omega)
    rw [if_neg c, show (a : Int) - (l.length : Int) = ((a - l.length : Nat) : Int) by clear e1; omega]
    exact ⟨r, h4, .inr hll⟩
theorem okI_cv (x : LS) (h : okS x) (hz : x.f0.size ≤ 1048576 ∧ x.f1.length ≤ 1048576) : okI (cv1 x) := ⟨hz.1, hz.2, h.2.1.2, h.2.2.1, h.2.2.2.1, h.2.2.2.2.1, h.2.2.2.2.2⟩
set_option maxHeartbeats 8000000 in
set_option maxRecDepth 100000 in
theorem law_far (A0 : Option Addr) (c0 : Nat) (l : List LS) (A1 : Option Addr) (c1 : Nat) (ns : List ByteArray) (A2 : Option Addr) (c2 : Nat) (st : List Nat) (t : Nat) (w : World) (hs : (st.length : Int) > 1048576) : Calls Try.prog 3 #[.slice A0 l.length c0, .slice A1 ns.length c1, .slice A2 st.length c2, .float .f32 t] w fun e w' => e = .returned (.bool true) ∧ Below w.heap.size w w' := by
  have q0 : decide (1048576 < (st.length : Int)) = true := decide_eq_true hs
  clear hs
  go_enter Try.func3, Try.ntmps3
  go_wp2
  go_ret
  exact ⟨rfl, Below.refl _ _⟩
set_option maxHeartbeats 8000000 in
set_option maxRecDepth 100000 in
theorem law_far1 (k : Nat) (A0 : Option Addr) (c0 : Nat) (l : List LS) (A1 : Option Addr) (c1 : Nat) (ns : List ByteArray) (A2 : Option Addr) (c2 : Nat) (st : List Nat) (t : Nat) (w : World) (hr0 : Kd.C k45 w A0 l.length l) (hc0 : l.length ≤ c0) (hs : ¬ (st.length : Int) > 1048576) (z1 : Int) (h1 : laws_szSoundS.f k l 1048576 = some z1) (hz : z1 < 0) : Calls Try.prog 3 #[.slice A0 l.length c0, .slice A1 ns.length c1, .slice A2 st.length c2, .float .f32 t] w fun e w' => e = .returned (.bool true) ∧ Below w.heap.size w w' := by
  have q0 : decide (1048576 < (st.length : Int)) = false := decide_eq_false hs
  have q1 : decide (z1 < 0) = true := decide_eq_true hz
  clear hs hz
  have H1 := Lib.hid (laws_szSoundS.calls k A0 c0 l 1048576 z1 w hr0 hc0 h1)
  clear h1 hr0
  go_enter Try.func3, Try.ntmps3
  go_wp2_with (first | (go_at_call 6; (with_reducible refine H1.out.mono ?_); rintro e w1 ⟨rfl, hb1⟩; have HB1 := Lib.hid hb1; clear hb1))
  go_ret
  exact ⟨rfl, HB1.out⟩
set_option maxHeartbeats 8000000 in
set_option maxRecDepth 100000 in
theorem law_far2 (k : Nat) (A0 : Option Addr) (c0 : Nat) (l : List LS) (A1 : Option Addr) (c1 : Nat) (ns : List ByteArray) (A2 : Option Addr) (c2 : Nat) (st : List Nat) (t : Nat) (w : World) (hr0 : Kd.C k45 w A0 l.length l) (hc0 : l.length ≤ c0) (hr1 : Kd.C Kd.string w A1 ns.length ns) (hc1 : ns.length ≤ c1) (hs : ¬ (st.length : Int) > 1048576) (z1 z2 : Int) (h1 : laws_szSoundS.f k l 1048576 = some z1) (hz : ¬ z1 < 0) (h2 : laws_szStringS.f k ns z1 = some z2) (hz2 : z2 < 0) : Calls Try.prog 3 #[.slice A0 l.length c0, .slice A1 ns.length c1, .slice A2 st.length c2, .float .f32 t] w fun e w' => e = .returned (.bool true) ∧ Below w.heap.size w w' := by
  have q0 : decide (1048576 < (st.length : Int)) = false := decide_eq_false hs
  have q1 : decide (z1 < 0) = false := decide_eq_false hz
  have q2 : decide (z2 < 0) = true := decide_eq_true hz2
  clear hs hz hz2
  have H1 := Lib.hid (laws_szSoundS.calls k A0 c0 l 1048576 z1 w hr0 hc0 h1)
  have H2 := Lib.hid (fun W (hb : Below w.heap.size w W) => laws_szStringS.calls k A1 c1 ns z1 z2 W (Kd.C_below hr1 hb) hc1 h2)
  clear h1 h2 hr0 hr1
  go_enter Try.func3, Try.ntmps3
  go_wp2_with (first
    | (go_at_call 6; (with_reducible refine H1.out.mono ?_); rintro e w1 ⟨rfl, hb1⟩; have HB1 := Lib.hid hb1; clear hb1)
    | (go_at_call 7; (with_reducible refine (H2.out _ HB1.out).mono ?_); rintro e w2 ⟨rfl, ⟨n2, rfl⟩⟩))
  go_ret
  exact ⟨rfl, bn HB1.out _⟩
structure AllL (k : Nat) (l : List LS) (ns : List ByteArray) (z1 z2 : Int) : Prop where
  hz1 : laws_szSoundS.f k l 1048576 = some z1
  hz2 : ¬ z1 < 0 → laws_szStringS.f k ns z1 = some z2
structure AllM (k : Nat) (l : List LS) (ns : List ByteArray) (st r : List Nat) (p v u a1 a2 a3 : Nat) (zs : List SD) (zn : List ByteArray) (zb : List Nat) : Prop where
  t1 : laws_toSoundS.f k l = some (l.map cv1)
  t2 : laws_toStringS.f k ns = some ns
  t3 : laws_toFloat32S.f k st = some st
  q1 : laws_eqSoundS.f k (l.map cv1) (l.map cv1) = some true
  q2 : laws_eqStringS.f k ns ns = some true
  q3 : laws_eqFloat32S.f st st = some true
  q4 : laws_eqFrame.f r p v u r p v u = some true
  m1 : sd0 k (l.map cv1) 1 0 = some ((a1 : Int), zs)
  m2 : laws_markStringS.f k ns (a1 : Int) = some ((a2 : Int), zn)
  m3 : laws_markFloat32S.f k st (a2 : Int) = some ((a3 : Int), zb)
  m4 : laws_markFrame.f k r p v u 1 = some (((1 + r.length : Nat) : Int), marksA 1 r.length)
  h4 : laws_heldFrame.f k (marksA 1 r.length) p v u 1 = some ((1 + r.length : Nat) : Int)
theorem all_some (l : List LS) (ns : List ByteArray) (st : List Nat) (t : Nat) (hl : l.length ≤ 9223372036854775807) (hx : ∀ x ∈ l, okS x) (hn : ns.length ≤ 9223372036854775807) (hnz : ∀ x ∈ ns, x.size ≤ 140737488351232) (hst : st.length ≤ 1048576) (hlt : ∀ x ∈ st, x < 4294967296) :
    ∃ z1 z2, AllL 6000000 l ns z1 z2 ∧ (¬ z1 < 0 → ¬ z2 < 0 → l.length ≤ 1048576 ∧ ∃ r p v u b a1 a2 a3 zs zn zb, AllM 6000000 l ns st r p v u a1 a2 a3 zs zn zb ∧ Frl.Fsays 8 (l.map cv1) ns st t r p v u b ∧ Frl.Fsays 12 (l.map cv1) ns st t r p v u b) := by
  obtain ⟨z1, h1, h2⟩ := szL_some l hl hx 6000000 (by decide)
  by_cases c1 : z1 < 0
  · exact ⟨z1, 0, ⟨h1, fun h => absurd c1 h⟩, fun h => absurd c1 h⟩
  · obtain ⟨hzz, hll, hz⟩ := h2.resolve_left c1
    have hz1 : ∃ n : Nat, z1 = (n : Int) ∧ n ≤ 1048576 := by
      exact ⟨z1.toNat, by omega, by omega⟩
    obtain ⟨n, rfl, hn1⟩ := hz1
    obtain ⟨z2, h3, h4⟩ := szT ns hn hnz n hn1 6000000 (by decide)
    refine ⟨n, z2, ⟨h1, fun _ => h3⟩, fun _ c2 => ⟨hll, ?_⟩⟩
    have hnl := h4.resolve_left c2
    have hL : (l.map cv1).length ≤ 1048576 := by rw [List.length_map]; exact hll
    have hI : ∀ x ∈ l.map cv1, okI x := by
      intro x hx2
      obtain ⟨y, hy, rfl⟩ := List.mem_map.1 hx2
      exact okI_cv y (hx y hy) (hz y hy)
    obtain ⟨r, p, v, u, b, ho, hi, hs⟩ := fo_both (l.map cv1) hL hI ns hnl st hst t
    obtain ⟨a1, zs, m1, m1b, -⟩ := sd_some (l.map cv1).length hL (l.map cv1).length 0 6000000 (l.map cv1) 1 (by omega) rfl (fun j _ hj => by rw [rdI_at hj]; exact (hI _ (List.getElem_mem _)).2.1) (by omega) (by omega)
    obtain ⟨zn, m2⟩ := ms_some ns.length hnl ns.length 0 6000000 ns a1 (by omega) rfl (by omega) (by omega)
    have m3 := markA_some (a1 + ns.length) (by omega) st hst 6000000 (by omega)
    have hr := ho.len
    have m4 := markA_some 1 (by decide) r (by omega) 6000000 (by omega)
    have h5 := heldA_some 1 r.length (by omega) 6000000 (by omega)
    refine ⟨r, p, v, u, b, a1, _, _, zs, zn, _, ⟨toS_some l hll (fun x hx2 => (hz x hx2).2) _ (by decide), toS ns hnl _ (by decide), toF_some st hst _ (by decide), eqS_some _ hL hI _ (by decide), eqS1 ns hnl _ (by omega), eqF_some st hst hlt, ?_, m1, m2, m3, ?_, ?_⟩, hs, hi⟩
    · unfold laws_eqFrame.f
      rw [if_pos (by
        refine ⟨rfl, rfl, rfl, rfl, by omega, ho.lt, ?_⟩
        exact ⟨ho.p, ho.v, ho.u⟩)]
    · unfold laws_markFrame.f
      rw [show (1 : Int) = ((1 : Nat) : Int) from rfl, m4]
      rfl
    · unfold laws_heldFrame.f
      rw [show (1 : Int) = ((1 : Nat) : Int) from rfl, h5, Option.bind_some, if_neg (by omega)]
theorem opens_soundS_lo : Opens Try.prog 45 k45 okS :=
  opens_imp (opens_struct (P := Try.prog) (fun x : S45 => (x.f0, x.f1, x.f2, x.f3, x.f4, x.f5)) (fun x => ⟨x.1, x.2.1, x.2.2.1, x.2.2.2.1, x.2.2.2.2.1, x.2.2.2.2.2⟩) (fun _ => rfl) Try.underlying45 rfl (N := 6) (by kernel_rfl)
    (opensF_cons rfl (off' := 1) (by kernel_rfl) (opens_str Try.underlying9) (opensF_cons rfl (off' := 2) (by kernel_rfl) (opens_slice (B := 4) _ Try.underlying24 (by kernel_rfl) (by kernel_rfl) (opens_raw Try.underlying25))
      (opensF_cons rfl (off' := 3) (by kernel_rfl) (opens_raw Try.underlying25) (opensF_cons rfl (off' := 4) (by kernel_rfl) (opens_raw Try.underlying25) (opensF_cons rfl (off' := 5) (by kernel_rfl) (opens_raw Try.underlying25) (opensF_last rfl (by kernel_rfl) (opens_raw Try.underlying25))))))))
    (fun x h => ⟨h.1, ⟨h.2.1.1, h.2.1.2.2⟩, h.2.2.1, h.2.2.2.1, h.2.2.2.2.1, h.2.2.2.2.2⟩)
theorem opens_sounds_lo : Opens Try.prog 22 (Kd.slice 45 k45) (fun l => l.length ≤ 9223372036854775807 ∧ l.length * 56 ≤ 140737488351232 ∧ ∀ x ∈ l, okS x) :=
  opens_slice _ Try.underlying22 (by kernel_rfl) (by kernel_rfl) opens_soundS_lo
theorem opens_strings_lo : Opens Try.prog 23 (Kd.slice 9 Kd.string) (fun l => l.length ≤ 9223372036854775807 ∧ l.length * 16 ≤ 140737488351232 ∧ ∀ x ∈ l, x.size ≤ 140737488351232) :=
  opens_slice _ Try.underlying23 (by kernel_rfl) (by kernel_rfl) (opens_str Try.underlying9)
theorem opens_floats_fr : Opens Try.prog 24 (Kd.slice 25 (Kd.float .f32)) (fun l => l.length ≤ 9223372036854775807 ∧ l.length * 4 ≤ 140737488351232 ∧ ∀ x ∈ l, x < 4294967296) :=
  opens_slice _ Try.underlying24 (by kernel_rfl) (by kernel_rfl) (opens_raw Try.underlying25)
theorem frameAt_w (A0 : Option Addr) (c0 : Nat) (l : List S45) (A1 : Option Addr) (c1 : Nat) (ns : List ByteArray) (A2 : Option Addr) (c2 : Nat) (st : List Nat) (t : Nat) (w : World)
    (hr0 : Kd.C k45 w A0 l.length l) (hc0 : l.length ≤ c0) (z0 : l.length ≤ 9223372036854775807 ∧ l.length * 56 ≤ 140737488351232 ∧ ∀ x ∈ l, okS x)
    (hr1 : Kd.C Kd.string w A1 ns.length ns) (hc1 : ns.length ≤ c1) (z1 : ns.length ≤ 9223372036854775807 ∧ ns.length * 16 ≤ 140737488351232 ∧ ∀ x ∈ ns, x.size ≤ 140737488351232)
    (hr2 : Kd.C (Kd.float .f32) w A2 st.length st) (hc2 : st.length ≤ c2) (z2 : st.length ≤ 9223372036854775807 ∧ st.length * 4 ≤ 140737488351232 ∧ ∀ x ∈ st, x < 4294967296) (_ : (Lit.float .f32 t).wf = true) :
    Calls Try.prog 3 #[.slice A0 l.length c0, .slice A1 ns.length c1, .slice A2 st.length c2, .float .f32 t] w fun e w' => e = .returned (.bool true) ∧ Below w.heap.size w w' := by
  by_cases hs : (st.length : Int) > 1048576
  · exact law_far A0 c0 l A1 c1 ns A2 c2 st t w hs
  · obtain ⟨y1, y2, hA, hM⟩ := all_some l ns st t z0.1 z0.2.2 z1.1 z1.2.2 (by omega) z2.2.2
    by_cases q1 : y1 < 0
    · exact law_far1 6000000 A0 c0 l A1 c1 ns A2 c2 st t w hr0 hc0 hs y1 hA.hz1 q1
    · by_cases q2 : y2 < 0
      · exact law_far2 6000000 A0 c0 l A1 c1 ns A2 c2 st t w hr0 hc0 hr1 hc1 hs y1 y2 hA.hz1 q1 (hA.hz2 q1) q2
      · obtain ⟨hl, r, p, v, u, b, a1, a2, a3, zs, zn, zb, m, f1, f2⟩ := hM q1 q2
        exact Frl.law_calls 6000000 A0 c0 l A1 c1 ns A2 c2 st t w ⟨hr0, hr1, hr2, hc0, hc1, hc2⟩ hs y1 y2 hA.hz1 q1 (hA.hz2 q1) q2 _ (by rw [List.length_map]; exact hl) r p v u b a1 a2 a3 _ zs zn zb _ (marksA_len _ _) m.t1 m.t2 m.t3 f1 f2 m.q1 m.q2 m.q3 m.q4 m.m1 m.m2 m.m3 m.m4 m.h4
end Go.Proofs.Yteooifighndmkaa.FrPure
