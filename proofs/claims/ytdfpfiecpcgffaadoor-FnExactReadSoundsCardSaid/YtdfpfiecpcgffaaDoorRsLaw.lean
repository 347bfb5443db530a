import Derived.Test.YtdfpfiecpcgffaaDoorRsPure
set_option linter.unusedVariables false
set_option linter.unusedSimpArgs false
namespace Go.Proofs.YtdfpfiecpcgffaaDoor.Rsl
open Go.RowKit Go.Proofs.YtdfpfiecpcgffaaDoorW.PrintWords Go.Proofs.YtdfpfiecpcgffaaDoorW.PrintLast Go.Proofs.YtdfpfiecpcgffaaDoorW.PrintMore Go.Proofs.YtdfpfiecpcgffaaDoorW.PrintFl Go.Proofs.YtdfpfiecpcgffaaDoor Go.Proofs.YtdfpfiecpcgffaaDoor.PFnExactReadSounds Go.Proofs.YtdfpfiecpcgffaaDoor.Lm Go.Proofs.YtdfpfiecpcgffaaDoor.Sdm Go.Proofs.YtdfpfiecpcgffaaDoor.RsPure
theorem bel {B : Nat} {w w1 w2 : World} (h1 : Below B w w1) (h2 : Below w1.heap.size w1 w2) (hB : B ≤ w1.heap.size) : Below B w w2 := h1.trans (h2.mono hB)
theorem bl {w w1 w2 : World} (h1 : Below w.heap.size w w1) (h2 : Below w1.heap.size w1 w2) : Below w.heap.size w w2 := bel h1 h2 h1.size
theorem S_C {α : Type} {d : Kd α} {e : Nat} {w : World} {base : Nat} {ok : Nat → Prop} {A : Option Addr} {n c : Nat} {xs : List α} (h : Kd.S d e w base ok (.slice A n c) xs) : Kd.C d w A n xs ∧ n ≤ c ∧ n = xs.length := by
  obtain ⟨h1, h2, h3⟩ := Kd.S_reads' h
  subst h1
  exact ⟨h3, h2, rfl⟩
theorem V_C {α : Type} {d : Kd α} {e : Nat} {w : World} {base : Nat} {ok : Nat → Prop} {A : Option Addr} {n c : Nat} {xs : List α} (h : Kd.V d e w base ok (.slice A n c) xs) : Kd.C d w A n xs ∧ n ≤ c ∧ n = xs.length := by
  obtain ⟨h1, h2, h3⟩ := Kd.V_reads' h
  subst h1
  exact ⟨h3, h2, rfl⟩
abbrev kS : Kd SD := k58
abbrev SS (W : World) (b : Nat) (ok : Nat → Prop) (v : Value) (xs : List SD) : Prop := Kd.S kS 58 W b ok v xs
abbrev VS (W : World) (b : Nat) (ok : Nat → Prop) (v : Value) (xs : List SD) : Prop := Kd.V kS 58 W b ok v xs
structure St (w : World) (p : Nat) (V G : Value) (r g : List SD) (W : World) : Prop where
  below : Below w.heap.size w W
  v : VS W w.heap.size (fun k => k < p) V r
  g : SS W w.heap.size (fun k => p ≤ k) G g
theorem St.to {w W W' : World} {p : Nat} {V G : Value} {r g : List SD} (h : St w p V G r g W) (hb : Below W.heap.size W W') : St w p V G r g W' :=
  ⟨bl h.below hb, Kd.V_below h.v hb, Kd.S_below h.g hb⟩
theorem eqVS_at (k : Nat) (A0 : Option Addr) (c0 : Nat) (A1 : Option Addr) (c1 : Nat) (l : List SD) (w : World) {b0 b1 : Nat} {o0 o1 : Nat → Prop} (h0 : SS w b0 o0 (.slice A0 l.length c0) l) (h1 : VS w b1 o1 (.slice A1 l.length c1) l) (h : laws_eqSoundS.f k l l = some true) :
    Calls Tryd.prog 12 #[.slice A0 l.length c0, .slice A1 l.length c1] w fun e w' => e = .returned (.bool true) ∧ Below w.heap.size w w' :=
  laws_eqSoundS.calls k A0 c0 l A1 c1 l true w (S_C h0).1 (S_C h0).2.1 (V_C h1).1 (V_C h1).2.1 h
theorem heldS_at (k : Nat) (A : Option Addr) (c n : Nat) (ms : List SD) (m : Int) (W : World) {b0 : Nat} {o0 : Nat → Prop} (h0 : SS W b0 o0 (.slice A n c) ms) (h : laws_heldSoundS.f k ms 1 = some m) :
    Calls Tryd.prog 29 #[.slice A n c, .int .i64 1] W fun e w' => e = .returned (.int .i64 m) ∧ Below W.heap.size W w' := by
  obtain ⟨hC, hc, rfl⟩ := S_C h0
  exact laws_heldSoundS.calls k A c ms 1 m W hC hc h
theorem mark1_at (k : Nat) {w W : World} {p : Nat} {V G : Value} {r ms : List SD} (m : Int) (h : St w p V G r r W) (hl : r.length ≤ 1048576) (hm : sd0 k r 1 0 = some (m, ms)) :
    Calls Tryd.prog 28 #[G, .int .i64 1] W fun e w' => e = .returned (.int .i64 m) ∧ St w p V G r ms w' := by
  refine (sd_mark k _ G r 1 m ms w W h.below h.g (by omega) hm).mono ?_
  rintro e w' ⟨he, hs, hb, hk⟩
  exact ⟨he, hb, Kd.V_kept h.v hk (fun k h1 h2 => by omega), hs⟩
theorem spec_at (k : Nat) (s : ByteArray) (r : List SD) (b : Bool) (w : World) (hs : spec_ReadSounds.f k s = some (r, b)) :
    Calls Tryd.prog 26 #[.string s] w fun e w' => ∃ (A' : Option Addr) (c' : Nat), e = .returned (.tuple #[.slice A' r.length c', .bool b]) ∧ VS w' w.heap.size (fun _ => True) (.slice A' r.length c') r ∧ Below w.heap.size w w' := by
  refine (spec_ReadSounds.calls k s r b w hs).mono ?_
  rintro e w' ⟨v, rfl, hr, hb⟩
  have hv : VS w' w.heap.size (fun _ => True) v r := Kd.V_mono hr (fun _ _ => trivial)
  obtain ⟨A', c', rfl⟩ := Kd.V_slice hv
  exact ⟨A', c', rfl, hv, hb⟩
abbrev ImplSays (s : ByteArray) (r : List SD) (b : Bool) : Prop := ∀ W : World, GLt W → Calls Tryd.prog 27 #[.string s] W fun e w' => ∃ v0_ : Value, e = .returned (.tuple #[v0_, .bool b]) ∧ SS w' W.heap.size (fun _ => True) v0_ r ∧ Below W.heap.size W w'
theorem impl_at {s : ByteArray} {r : List SD} {b : Bool} (h : ImplSays s r b) (W : World) (hT : GLt W) : Calls Tryd.prog 27 #[.string s] W fun e w' => ∃ (A' : Option Addr) (c' : Nat), e = .returned (.tuple #[.slice A' r.length c', .bool b]) ∧ SS w' W.heap.size (fun _ => True) (.slice A' r.length c') r ∧ Below W.heap.size W w' := by
  refine (h W hT).mono ?_
  rintro e w' ⟨v, rfl, hr, hb⟩
  obtain ⟨A', c', rfl⟩ := Kd.S_slice hr
  exact ⟨A', c', rfl, hr, hb⟩
set_option maxHeartbeats 8000000 in
set_option maxRecDepth 100000 in
theorem law_far (s : ByteArray) (w : World) (hs : (s.size : Int) > 1048576) : Calls Tryd.prog 7 #[.string s] w fun e w' => e = .returned (.bool true) ∧ Below w.heap.size w w' := by
  have q0 : decide (1048576 < (s.size : Int)) = true := decide_eq_true hs
  clear hs
  go_enter Tryd.func7, Tryd.ntmps7
  go_wp2
  go_ret
  exact ⟨rfl, Below.refl _ _⟩
set_option maxHeartbeats 16000000 in
set_option maxRecDepth 100000 in
theorem law_calls (k : Nat) (s : ByteArray) (w : World) (hT : GLt w) (hs : ¬ (s.size : Int) > 1048576) (r : List SD) (hrl : r.length ≤ 1048576) (b : Bool) (m : Nat) (ms : List SD)
    (s1 : spec_ReadSounds.f k s = some (r, b)) (s2 : ImplSays s r b) (e2 : laws_eqSoundS.f k r r = some true)
    (m2 : sd0 k r 1 0 = some ((m : Int), ms)) (h4 : laws_heldSoundS.f k ms 1 = some (m : Int)) :
    Calls Tryd.prog 7 #[.string s] w fun e w' => e = .returned (.bool true) ∧ Below w.heap.size w w' := by
  have q0 : decide (1048576 < (s.size : Int)) = false := decide_eq_false hs
  have q4 : decide ((m : Int) < 0) = false := decide_eq_false (by omega)
  have q5 : ((m : Int) != m) = false := bne_self_eq_false _
  have q6 : (b != b) = false := bne_self_eq_false _
  have HT := Lib.hid hT
  have HRL := Lib.hid hrl
  have S1 := Lib.hid s1
  have S2 := Lib.hid s2
  have E2 := Lib.hid e2
  have N2 := Lib.hid m2
  have H4 := Lib.hid h4
  clear hs hT hrl s1 s2 e2 m2 h4
  have M1 : True := trivial
  have M2 : True := trivial
  have M3 : True := trivial
  go_enter Tryd.func7, Tryd.ntmps7
  go_wp2_with (first
    | (go_at_call 26; (with_reducible refine (spec_at k s r b _ S1.out).mono ?_); rintro e w3 ⟨AV, cV, rfl, hx, hb⟩; have HB3 := Lib.hid hb; have HV := Lib.hid (show VS w3 w.heap.size (fun k => k < w3.heap.size) (.slice AV r.length cV) r from Kd.V_mono (Kd.V_bound hx) (fun _ hk => hk.2)); clear hb hx)
    | (go_at_call 27; clear M1; (with_reducible refine (impl_at S2.out _ (GLt_below HT.out HB3.out)).mono ?_); rintro e w5 ⟨G, cG, rfl, hx, hb⟩; have HS5 := Lib.hid (show St w w3.heap.size (.slice AV r.length cV) (.slice G r.length cG) r r w5 from ⟨bl HB3.out hb, Kd.V_below HV.out hb, Kd.S_lower (Kd.S_mono (Kd.S_bound hx) (fun _ hk => hk.2.1)) HB3.out.size⟩); clear hb hx)
    | (go_at_call 12; clear M2; (with_reducible refine (eqVS_at k G cG AV cV r _ HS5.out.g HS5.out.v E2.out).mono ?_); rintro e w6 ⟨rfl, hb⟩; have HS6 := Lib.hid (HS5.out.to hb); clear hb)
    | (go_at_call 28; (with_reducible refine (mark1_at k (m : Int) HS6.out HRL.out N2.out).mono ?_); rintro e w11 ⟨rfl, hx⟩; have HS11 := Lib.hid hx; clear hx)
    | (go_at_call 29; clear M3; (with_reducible refine (heldS_at k G cG r.length ms m _ HS11.out.g H4.out).mono ?_); rintro e w12 ⟨rfl, hb⟩; have HS12 := Lib.hid (HS11.out.to hb); clear hb)
    | (go_at_call 27; (with_reducible refine (impl_at S2.out _ (GLt_below HT.out HS12.out.below)).mono ?_); rintro e w14 ⟨G2, cG2, rfl, hx, hb⟩; have HS14 := Lib.hid (HS12.out.to hb); have HG2 := Lib.hid hx; clear hb hx)
    | (go_at_call 12; (with_reducible refine (eqVS_at k G2 cG2 AV cV r _ HG2.out HS14.out.v E2.out).mono ?_); rintro e w15 ⟨rfl, hb⟩; have HS15 := Lib.hid (HS14.out.to hb); clear hb)
    | (go_at_call 29; (with_reducible refine (heldS_at k G cG r.length ms m _ HS15.out.g H4.out).mono ?_); rintro e w16 ⟨rfl, hb⟩; have HS16 := Lib.hid (HS15.out.to hb); clear hb))
  go_ret
  exact ⟨rfl, HS16.out.below⟩
attribute [local irreducible] flA floatOfInt marksA
theorem sd_one (k : Nat) (xs : List SD) (a i : Int) (s : ByteArray) (t1 : Int) (t2 : List Nat) (h : i < (xs.length : Int)) (hs : laws_markText.f k a = some s) (ht : laws_markFloat32S.f k (rd_T58 xs i).f1 (wrap64 (a + 1)) = some (t1, t2)) :
    sd0 (k + 1) xs a i = sd0 k (xs.set i.toNat ⟨s, t2, flA t1, flA (wrap64 (t1 + 1)), flA (wrap64 ((wrap64 (t1 + 1)) + 1)), flA (wrap64 ((wrap64 ((wrap64 (t1 + 1)) + 1)) + 1))⟩) (wrap64 ((wrap64 ((wrap64 ((wrap64 (t1 + 1)) + 1)) + 1)) + 1)) (wrap64 (i + 1)) := by
  rw [sd0, if_pos h, hs, Option.bind_some, ht, Option.bind_some]
theorem sd_step (k i a : Nat) (xs : List SD) (hi : i < xs.length) (hn : xs.length ≤ 1048576) (hq : (rd_T58 xs (i : Int)).f1.length ≤ 1048576) (ha : a ≤ 200000000000000) (hk : 1048600 < k) :
    ∃ x : SD, sd0 (k + 1) xs (a : Int) (i : Int) = sd0 k (xs.set i x) ((a + (rd_T58 xs (i : Int)).f1.length + 5 : Nat) : Int) ((i + 1 : Nat) : Int) := by
  have hil : (i : Int) < (xs.length : Int) := by omega
  have ha1 : a + 1 ≤ 1000000000000000 := by omega
  obtain ⟨l, hl⟩ : ∃ l, (rd_T58 xs (i : Int)).f1 = l := ⟨_, rfl⟩
  rw [hl] at hq ⊢
  obtain ⟨n, hn2⟩ : ∃ n, l.length = n := ⟨_, rfl⟩
  obtain ⟨t, ht⟩ := mt_some a (by omega) k (by omega)
  have e0 : wrap64 ((a : Int) + 1) = ((a + 1 : Nat) : Int) := by rw [w64 (by omega) (by omega)]; omega
  have hm := markA_some (a + 1) ha1 l hq k (by clear e0; omega)
  rw [hn2] at hm hq ⊢
  have e1 : wrap64 (((a + 1 + n : Nat) : Int) + 1) = ((a + 1 + n + 1 : Nat) : Int) := by rw [w64 (by omega) (by omega)]; omega
  have e2 : wrap64 (((a + 1 + n + 1 : Nat) : Int) + 1) = ((a + 1 + n + 2 : Nat) : Int) := by rw [w64 (by omega) (by omega)]; omega
  have e3 : wrap64 (((a + 1 + n + 2 : Nat) : Int) + 1) = ((a + 1 + n + 3 : Nat) : Int) := by rw [w64 (by omega) (by omega)]; omega
  have e4 : wrap64 (((a + 1 + n + 3 : Nat) : Int) + 1) = ((a + n + 5 : Nat) : Int) := by rw [w64 (by omega) (by omega)]; omega
  have e5 : wrap64 ((i : Int) + 1) = ((i + 1 : Nat) : Int) := by rw [w64 (by omega) (by omega)]; omega
  have h1 := sd_one k xs (a : Int) (i : Int) t _ _ hil ht (by rw [e0, hl]; exact hm)
  rw [e1, e2, e3, e4, e5, Int.toNat_natCast] at h1
  exact ⟨_, h1⟩
theorem sd_some (n : Nat) (hn : n ≤ 1048576) (d : Nat) : ∀ (i k : Nat) (xs : List SD) (a : Nat), i + d = n → xs.length = n → (∀ j : Nat, i ≤ j → j < n → (rd_T58 xs (j : Int)).f1.length ≤ 1048576) → a + d * 1048582 ≤ 100000000000000 → d + 1048600 < k →
    ∃ (r : Nat) (zs : List SD), sd0 k xs (a : Int) (i : Int) = some ((r : Int), zs) ∧ r ≤ a + d * 1048582 ∧ zs.length = n := by
  induction d with
  | zero =>
    intro i k xs a h1 hl hf ha hk
    obtain ⟨k, rfl⟩ : ∃ m, k = m + 1 := ⟨k - 1, by omega⟩
    rw [sd0, if_neg (by omega)]
    exact ⟨a, xs, rfl, by omega, hl⟩
  | succ d ih =>
    intro i k xs a h1 hl hf ha hk
    obtain ⟨k, rfl⟩ : ∃ m, k = m + 1 := ⟨k - 1, by omega⟩
    have hq := hf i (by omega) (by omega)
    obtain ⟨x, hs⟩ := sd_step k i a xs (by omega) (by omega) hq (by omega) (by omega)
    obtain ⟨r, zs, h5, h6, h7⟩ := ih (i + 1) k (xs.set i x) (a + (rd_T58 xs (i : Int)).f1.length + 5) (by omega) (by rw [List.length_set]; exact hl) (fun j hj hj2 => by
      have := hf j (by omega) hj2
      rw [rdD_getD, Int.toNat_natCast, List.getD_eq_getElem?_getD, List.getElem?_set_ne (by omega)]
      rw [rdD_getD, Int.toNat_natCast, List.getD_eq_getElem?_getD] at this
      exact this) (by omega) (by omega)
    exact ⟨r, zs, by rw [hs]; exact h5, by omega, h7⟩
theorem mt_any (x : Nat) (hx : x < 10000000000000000) : ∃ t, ∀ k, 17 ≤ k → laws_markText.f k (x : Int) = some t := by
  obtain ⟨t, ht⟩ := mt_some x hx 17 (by decide)
  exact ⟨t, fun k hk => at_rounds (g := fun k => laws_markText.f k (x : Int)) (laws_markText.mono (x : Int)) hk ht⟩
theorem sdh_one (k i a n : Nat) (xs : List SD) (t : ByteArray) (hi : i < xs.length) (hn : (rd_T58 xs (i : Int)).f1.length = n) (hs : xs.length ≤ 1048576) (ha : a + n ≤ 2000) (hk : 2000 < k) (ht : ∀ k, 17 ≤ k → laws_markText.f k (a : Int) = some t) :
    sd0 (k + 1) xs (a : Int) (i : Int) = sd0 k (xs.set i ⟨t, marksA (a + 1) n, flA ((a + 1 + n : Nat) : Int), flA ((a + 1 + n + 1 : Nat) : Int), flA ((a + 1 + n + 2 : Nat) : Int), flA ((a + 1 + n + 3 : Nat) : Int)⟩) ((a + n + 5 : Nat) : Int) ((i + 1 : Nat) : Int) := by
  have hil : (i : Int) < (xs.length : Int) := by omega
  have e0 : wrap64 ((a : Int) + 1) = ((a + 1 : Nat) : Int) := by rw [w64 (by omega) (by omega)]; omega
  have hm := markA_some (a + 1) (by clear e0; omega) (rd_T58 xs (i : Int)).f1 (by clear e0; omega) k (by clear e0; omega)
  rw [hn] at hm
  have e1 : wrap64 (((a + 1 + n : Nat) : Int) + 1) = ((a + 1 + n + 1 : Nat) : Int) := by rw [w64 (by omega) (by omega)]; omega
  have e2 : wrap64 (((a + 1 + n + 1 : Nat) : Int) + 1) = ((a + 1 + n + 2 : Nat) : Int) := by rw [w64 (by omega) (by omega)]; omega
  have e3 : wrap64 (((a + 1 + n + 2 : Nat) : Int) + 1) = ((a + 1 + n + 3 : Nat) : Int) := by rw [w64 (by omega) (by omega)]; omega
  have e4 : wrap64 (((a + 1 + n + 3 : Nat) : Int) + 1) = ((a + n + 5 : Nat) : Int) := by rw [w64 (by omega) (by omega)]; omega
  have e5 : wrap64 ((i : Int) + 1) = ((i + 1 : Nat) : Int) := by rw [w64 (by omega) (by omega)]; omega
  have h1 := sd_one k xs (a : Int) (i : Int) t _ _ hil (ht k (by clear e0 e1 e2 e3 e4 e5; omega)) (by rw [e0]; exact hm)
  rw [e1, e2, e3, e4, e5, Int.toNat_natCast] at h1
  exact h1
theorem held_one (k i a n : Nat) (zs : List SD) (t : ByteArray) (hi : i < zs.length) (hs : zs.length ≤ 1048576) (ha : a + n ≤ 2000) (hk : 2000 < k) (ht : ∀ k, 17 ≤ k → laws_markText.f k (a : Int) = some t)
    (hz : rd_T58 zs (i : Int) = ⟨t, marksA (a + 1) n, flA ((a + 1 + n : Nat) : Int), flA ((a + 1 + n + 1 : Nat) : Int), flA ((a + 1 + n + 2 : Nat) : Int), flA ((a + 1 + n + 3 : Nat) : Int)⟩) :
    laws_heldSoundS.l0 (k + 1) zs (a : Int) (i : Int) = laws_heldSoundS.l0 k zs ((a + n + 5 : Nat) : Int) ((i + 1 : Nat) : Int) := by
  have e0 : wrap64 ((a : Int) + 1) = ((a + 1 : Nat) : Int) := by rw [w64 (by omega) (by omega)]; omega
  have hm := heldA_some (a + 1) n (by clear e0; omega) k (by clear e0; omega)
  have e1 : wrap64 (((a + 1 + n : Nat) : Int) + 1) = ((a + 1 + n + 1 : Nat) : Int) := by rw [w64 (by omega) (by omega)]; omega
  have e2 : wrap64 (((a + 1 + n + 1 : Nat) : Int) + 1) = ((a + 1 + n + 2 : Nat) : Int) := by rw [w64 (by omega) (by omega)]; omega
  have e3 : wrap64 (((a + 1 + n + 2 : Nat) : Int) + 1) = ((a + 1 + n + 3 : Nat) : Int) := by rw [w64 (by omega) (by omega)]; omega
  have e4 : wrap64 (((a + 1 + n + 3 : Nat) : Int) + 1) = ((a + n + 5 : Nat) : Int) := by rw [w64 (by omega) (by omega)]; omega
  have e5 : wrap64 ((i : Int) + 1) = ((i + 1 : Nat) : Int) := by rw [w64 (by omega) (by omega)]; omega
  have hF : ∀ m : Nat, m < 2200 → ¬ (fne .f32 (flA (m : Int)) (floatOfInt .f32 (m : Int)) = true) := fun m hm => by
    have e : flA (m : Int) = floatOfInt .f32 (m : Int) := by unfold flA; rfl
    rw [e, mkA_ok m hm]; exact Bool.false_ne_true
  rw [laws_heldSoundS.l0, if_pos (by clear e0 e1 e2 e3 e4 e5; omega), if_pos (by clear e0 e1 e2 e3 e4 e5; omega), ht k (by clear e0 e1 e2 e3 e4 e5; omega), Option.bind_some, hz, if_pos rfl, e0, hm, Option.bind_some, if_neg (by clear e0 e1 e2 e3 e4 e5; omega), if_neg (hF _ (by clear e0 e1 e2 e3 e4 e5; omega)), e1, if_neg (hF _ (by clear e0 e1 e2 e3 e4 e5; omega)), e2, if_neg (hF _ (by clear e0 e1 e2 e3 e4 e5; omega)), e3, if_neg (hF _ (by clear e0 e1 e2 e3 e4 e5; omega)), e4, e5]
theorem sdh_some (n : Nat) (hn : n ≤ 16) (d : Nat) : ∀ (i k : Nat) (xs : List SD) (a : Nat), i + d = n → xs.length = n → (∀ j : Nat, i ≤ j → j < n → (rd_T58 xs (j : Int)).f1.length ≤ 16) → a + d * 21 ≤ 1500 → d + 2100 < k →
    ∃ (r : Nat) (zs : List SD), sd0 k xs (a : Int) (i : Int) = some ((r : Int), zs) ∧ zs.length = n ∧ (∀ j : Nat, j < i → rd_T58 zs (j : Int) = rd_T58 xs (j : Int)) ∧ (∀ k', d + 2100 < k' → laws_heldSoundS.l0 k' zs (a : Int) (i : Int) = some (r : Int)) := by
  induction d with
  | zero =>
    intro i k xs a h1 hl hf ha hk
    obtain ⟨k, rfl⟩ : ∃ m, k = m + 1 := ⟨k - 1, by omega⟩
    rw [sd0, if_neg (by omega)]
    refine ⟨a, xs, rfl, hl, fun j hj => rfl, fun k' hk' => ?_⟩
    obtain ⟨k', rfl⟩ : ∃ m, k' = m + 1 := ⟨k' - 1, by omega⟩
    rw [laws_heldSoundS.l0, if_neg (by omega)]
  | succ d ih =>
    intro i k xs a h1 hl hf ha hk
    obtain ⟨k, rfl⟩ : ∃ m, k = m + 1 := ⟨k - 1, by omega⟩
    obtain ⟨q, hq0⟩ : ∃ q, (rd_T58 xs (i : Int)).f1.length = q := ⟨_, rfl⟩
    have hq := hf i (by omega) (by omega)
    rw [hq0] at hq
    obtain ⟨t, ht⟩ := mt_any a (by omega)
    have hil : i < xs.length := by omega
    rw [sdh_one k i a q xs t hil hq0 (by omega) (by omega) (by omega) ht]
    obtain ⟨X, hX⟩ : ∃ X : SD, (⟨t, marksA (a + 1) q, flA ((a + 1 + q : Nat) : Int), flA ((a + 1 + q + 1 : Nat) : Int), flA ((a + 1 + q + 2 : Nat) : Int), flA ((a + 1 + q + 3 : Nat) : Int)⟩ : SD) = X := ⟨_, rfl⟩
    rw [hX]
    obtain ⟨r, zs, h5, h6, h7, h8⟩ := ih (i + 1) k (xs.set i X) (a + q + 5) (by omega) (by rw [List.length_set]; exact hl) (fun j hj hj2 => by
      have := hf j (by omega) hj2
      rw [rdD_getD, Int.toNat_natCast, List.getD_eq_getElem?_getD, List.getElem?_set_ne (by omega)]
      rw [rdD_getD, Int.toNat_natCast, List.getD_eq_getElem?_getD] at this
      exact this) (by omega) (by omega)
    refine ⟨r, zs, h5, h6, fun j hj => ?_, fun k' hk' => ?_⟩
    · rw [h7 j (by omega), rdD_getD, rdD_getD, Int.toNat_natCast, List.getD_eq_getElem?_getD, List.getD_eq_getElem?_getD, List.getElem?_set_ne (by omega)]
    · obtain ⟨k', rfl⟩ : ∃ m, k' = m + 1 := ⟨k' - 1, by omega⟩
      have hzi := (h7 i (by omega)).trans (rdD_set hil X)
      rw [← hX] at hzi
      rw [held_one k' i a q zs t (by omega) (by omega) (by omega) (by omega) ht hzi]
      exact h8 k' (by omega)
end Go.Proofs.YtdfpfiecpcgffaaDoor.Rsl
namespace Go.Proofs.YtdfpfiecpcgffaaDoor
open Rsl RsPure Sdm
theorem readSounds_w (a0 : ByteArray) (w : World) (hT : GLt w) (w0 : a0.size ≤ 140737488351232) :
    Calls Tryd.prog 7 #[.string a0] w fun e w' => e = .returned (.bool true) ∧ Go.RowKit.Below w.heap.size w w' := by
  by_cases c : (a0.size : Int) > 1048576
  · exact law_far a0 w c
  · have hs : a0.size ≤ 1048576 := by omega
    have hf := read_few a0 hs
    obtain ⟨m, ms, m2, -, -, h4⟩ := sdh_some (read a0).1.length hf.len (read a0).1.length 0 6000000 (read a0).1 1 (by omega) rfl (fun j _ hj => hf.areas j hj) (by have := hf.len; omega) (by have := hf.len; omega)
    exact law_calls 6000000 a0 w hT c (read a0).1 (by have := hf.len; omega) (read a0).2 m ms (read_spec a0 hs _ (by decide)) (fun W hW => read_impl a0 hs W hW) (eqS_some _ (by have := hf.len; omega) hf.ok _ (by decide)) m2 (h4 6000000 (by have := hf.len; omega))
end Go.Proofs.YtdfpfiecpcgffaaDoor
