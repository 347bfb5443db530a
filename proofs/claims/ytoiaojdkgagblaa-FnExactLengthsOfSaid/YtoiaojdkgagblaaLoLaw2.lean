import Derived.Test.YtoiaojdkgagblaaLoLaw
set_option linter.unusedVariables false
set_option linter.unusedSimpArgs false
namespace Go.Proofs.Ytoiaojdkgagblaa.Lol
open Go.RowKit Go.Proofs.YtoiaojdkgagblaaW.PrintWords Go.Proofs.YtoiaojdkgagblaaW.PrintLast Go.Proofs.YtoiaojdkgagblaaW.PrintMore Go.Proofs.YtoiaojdkgagblaaW.PrintFl Go.Proofs.Ytoiaojdkgagblaa Go.Proofs.Ytoiaojdkgagblaa.PFnExactLengthsOf Go.Proofs.Ytoiaojdkgagblaa.Sdm Go.Proofs.Ytoiaojdkgagblaa.LoPure
abbrev RF (W : World) (b : Nat) (ok : Nat → Prop) (v : Value) (xs : List Nat) : Prop := Kd.R (Kd.float .f32) 36 W b ok v xs
abbrev RS (W : World) (b : Nat) (ok : Nat → Prop) (v : Value) (xs : List ByteArray) : Prop := Kd.R Kd.string 9 W b ok v xs
abbrev RB (W : World) (b : Nat) (ok : Nat → Prop) (v : Value) (xs : List Bool) : Prop := Kd.R Kd.bool 4 W b ok v xs
abbrev SS (W : World) (b : Nat) (ok : Nat → Prop) (v : Value) (xs : List SD) : Prop := Kd.S k138 138 W b ok v xs
structure St0 (w : World) (p1 p2 p3 p4 : Nat) (V X0 X1 X2 G : Value) (r : List Nat) (L : List SD) (ns : List ByteArray) (st : List Bool) (W : World) : Prop where
  below : Below w.heap.size w W
  v : RF W w.heap.size (fun k => k < p1) V r
  x0 : SS W w.heap.size (fun k => p1 ≤ k ∧ k < p2) X0 L
  x1 : RS W w.heap.size (fun k => p2 ≤ k ∧ k < p3) X1 ns
  x2 : RB W w.heap.size (fun k => p3 ≤ k ∧ k < p4) X2 st
  g : RF W w.heap.size (fun k => p4 ≤ k) G r
  q1 : p1 ≤ p2
  q2 : p2 ≤ p3
  q3 : p3 ≤ p4
structure St1 (w : World) (V G : Value) (r g : List Nat) (okv okg : Nat → Prop) (W : World) : Prop where
  below : Below w.heap.size w W
  v : RF W w.heap.size okv V r
  g : RF W w.heap.size okg G g
theorem St0.to {w W W' : World} {p1 p2 p3 p4 : Nat} {V X0 X1 X2 G : Value} {r : List Nat} {L : List SD} {ns : List ByteArray} {st : List Bool} (h : St0 w p1 p2 p3 p4 V X0 X1 X2 G r L ns st W) (hb : Below W.heap.size W W') : St0 w p1 p2 p3 p4 V X0 X1 X2 G r L ns st W' :=
  ⟨bl h.below hb, Kd.R_below h.v hb, Kd.S_below h.x0 hb, Kd.R_below h.x1 hb, Kd.R_below h.x2 hb, Kd.R_below h.g hb, h.q1, h.q2, h.q3⟩
theorem St1.to {w W W' : World} {V G : Value} {r g : List Nat} {okv okg : Nat → Prop} (h : St1 w V G r g okv okg W) (hb : Below W.heap.size W W') : St1 w V G r g okv okg W' :=
  ⟨bl h.below hb, Kd.R_below h.v hb, Kd.R_below h.g hb⟩
theorem drB {w w1 : World} (h : Drawn0 w w1) : Below w.heap.size w w1 := by
  obtain ⟨n, rfl⟩ := h
  exact pw_below_drewN (Below.refl _ _) n
theorem sz2_at (k : Nat) (A1 : Option Addr) (c1 : Nat) (ns : List ByteArray) (a z : Int) (w : World) (hr : Kd.C Kd.string w A1 ns.length ns) (hc : ns.length ≤ c1) (h : laws_szStringS.f k ns a = some z) :
    Calls Try.prog 60 #[.slice A1 ns.length c1, .int .i64 a] w fun e w' => e = .returned (.int .i64 z) ∧ Below w.heap.size w w' :=
  (laws_szStringS.calls k A1 c1 ns a z w hr hc h).mono (fun e w' ⟨h1, h2⟩ => ⟨h1, drB h2⟩)
theorem eqF_at (A0 : Option Addr) (c0 : Nat) (A1 : Option Addr) (c1 : Nat) (l : List Nat) (w : World) {b0 b1 : Nat} {o0 o1 : Nat → Prop} (h0 : RF w b0 o0 (.slice A0 l.length c0) l) (h1 : RF w b1 o1 (.slice A1 l.length c1) l) (h : laws_eqFloat32S.f l l = some true) :
    Calls Try.prog 23 #[.slice A0 l.length c0, .slice A1 l.length c1] w fun e w' => e = .returned (.bool true) ∧ Below w.heap.size w w' :=
  (laws_eqFloat32S.calls A0 c0 l A1 c1 l true w (R_C h0).1 (R_C h0).2.1 (R_C h1).1 (R_C h1).2.1 h).mono (fun e w' ⟨h1, h2⟩ => ⟨h1, drB h2⟩)
theorem eqT_at (k : Nat) (A0 : Option Addr) (c0 : Nat) (A1 : Option Addr) (c1 : Nat) (l : List ByteArray) (w : World) {b0 b1 : Nat} {o0 o1 : Nat → Prop} (h0 : RS w b0 o0 (.slice A0 l.length c0) l) (h1 : RS w b1 o1 (.slice A1 l.length c1) l) (h : laws_eqStringS.f k l l = some true) :
    Calls Try.prog 65 #[.slice A0 l.length c0, .slice A1 l.length c1] w fun e w' => e = .returned (.bool true) ∧ Below w.heap.size w w' :=
  (laws_eqStringS.calls k A0 c0 l A1 c1 l true w (R_C h0).1 (R_C h0).2.1 (R_C h1).1 (R_C h1).2.1 h).mono (fun e w' ⟨h1, h2⟩ => ⟨h1, drB h2⟩)
theorem eqB_at (k : Nat) (A0 : Option Addr) (c0 : Nat) (A1 : Option Addr) (c1 : Nat) (l : List Bool) (w : World) {b0 b1 : Nat} {o0 o1 : Nat → Prop} (h0 : RB w b0 o0 (.slice A0 l.length c0) l) (h1 : RB w b1 o1 (.slice A1 l.length c1) l) (h : laws_eqBoolS.f k l l = some true) :
    Calls Try.prog 66 #[.slice A0 l.length c0, .slice A1 l.length c1] w fun e w' => e = .returned (.bool true) ∧ Below w.heap.size w w' :=
  (laws_eqBoolS.calls k A0 c0 l A1 c1 l true w (R_C h0).1 (R_C h0).2.1 (R_C h1).1 (R_C h1).2.1 h).mono (fun e w' ⟨h1, h2⟩ => ⟨h1, drB h2⟩)
theorem eqS_at (k : Nat) (A0 : Option Addr) (c0 : Nat) (A1 : Option Addr) (c1 : Nat) (l : List SD) (w : World) {b0 b1 : Nat} {o0 o1 : Nat → Prop} (h0 : SS w b0 o0 (.slice A0 l.length c0) l) (h1 : SS w b1 o1 (.slice A1 l.length c1) l) (h : laws_eqSoundS.f k l l = some true) :
    Calls Try.prog 44 #[.slice A0 l.length c0, .slice A1 l.length c1] w fun e w' => e = .returned (.bool true) ∧ Below w.heap.size w w' :=
  laws_eqSoundS.calls k A0 c0 l A1 c1 l true w (S_C h0).1 (S_C h0).2.1 (S_C h1).1 (S_C h1).2.1 h
theorem held_at (k : Nat) (A : Option Addr) (c n : Nat) (ms : List Nat) (a m : Int) (W : World) {b0 : Nat} {o0 : Nat → Prop} (h0 : RF W b0 o0 (.slice A n c) ms) (h : laws_heldFloat32S.f k ms a = some m) :
    Calls Try.prog 27 #[.slice A n c, .int .i64 a] W fun e w' => e = .returned (.int .i64 m) ∧ Below W.heap.size W w' := by
  obtain ⟨hC, hc, rfl⟩ := R_C h0
  exact (laws_heldFloat32S.calls k A c ms a m W hC hc h).mono (fun e w' ⟨h1, h2⟩ => ⟨h1, drB h2⟩)
theorem mark0_at (k : Nat) {w W : World} {p1 p2 p3 p4 : Nat} {V X0 X1 X2 G : Value} {r : List Nat} {L zs : List SD} {ns : List ByteArray} {st : List Bool} (a1 : Int) (h : St0 w p1 p2 p3 p4 V X0 X1 X2 G r L ns st W) (hl : L.length ≤ 1048576) (hm : sd0 k L 1 0 = some (a1, zs)) :
    Calls Try.prog 45 #[X0, .int .i64 1] W fun e w' => e = .returned (.int .i64 a1) ∧ St0 w p1 p2 p3 p4 V X0 X1 X2 G r zs ns st w' := by
  refine (sd_mark k _ X0 L 1 a1 zs w W h.below h.x0 (by omega) hm).mono ?_
  rintro e w' ⟨he, hs, hb, hk⟩
  have q1 := h.q1
  have q2 := h.q2
  have q3 := h.q3
  exact ⟨he, hb, Kd.R_kept h.v hk (fun k h1 h2 => by omega), hs, Kd.R_kept h.x1 hk (fun k h1 h2 => by omega), Kd.R_kept h.x2 hk (fun k h1 h2 => by omega), Kd.R_kept h.g hk (fun k h1 h2 => by omega), h.q1, h.q2, h.q3⟩
theorem mark1_at (k : Nat) {w W : World} {p1 p2 p3 p4 : Nat} {V X0 X1 X2 G : Value} {r : List Nat} {L : List SD} {ns zn : List ByteArray} {st : List Bool} (a1 a2 : Int) (h : St0 w p1 p2 p3 p4 V X0 X1 X2 G r L ns st W) (hm : laws_markStringS.f k ns a1 = some (a2, zn)) :
    Calls Try.prog 67 #[X1, .int .i64 a1] W fun e w' => e = .returned (.int .i64 a2) ∧ (St1 w V G r r (fun k => k < p1) (fun k => p4 ≤ k) w' ∧ p1 ≤ p3 ∧ p3 ≤ p4 ∧ RB w' w.heap.size (fun k => p3 ≤ k ∧ k < p4) X2 st) := by
  refine (laws_markStringS.calls k _ X1 ns a1 a2 zn w W h.below h.x1 hm).mono ?_
  rintro e w' ⟨he, hs, hb, hk⟩
  have q1 := h.q1
  have q2 := h.q2
  have q3 := h.q3
  exact ⟨he, ⟨hb, Kd.R_kept h.v hk (fun k h1 h2 => by omega), Kd.R_kept h.g hk (fun k h1 h2 => by omega)⟩, by omega, h.q3, Kd.R_kept h.x2 hk (fun k h1 h2 => by omega)⟩
theorem mark2_at (k : Nat) {w W : World} {p1 p3 p4 : Nat} {V X2 G : Value} {r : List Nat} {st zb : List Bool} (a2 a3 : Int) (h : St1 w V G r r (fun k => k < p1) (fun k => p4 ≤ k) W ∧ p1 ≤ p3 ∧ p3 ≤ p4 ∧ RB W w.heap.size (fun k => p3 ≤ k ∧ k < p4) X2 st) (hm : laws_markBoolS.f k st a2 = some (a3, zb)) :
    Calls Try.prog 68 #[X2, .int .i64 a2] W fun e w' => e = .returned (.int .i64 a3) ∧ p1 ≤ p4 ∧ St1 w V G r r (fun k => k < p1) (fun k => p4 ≤ k) w' := by
  obtain ⟨h0, q1, q2, hx⟩ := h
  refine (laws_markBoolS.calls k _ X2 st a2 a3 zb w W h0.below hx hm).mono ?_
  rintro e w' ⟨he, hs, hb, hk⟩
  exact ⟨he, by omega, hb, Kd.R_kept h0.v hk (fun k h1 h2 => by omega), Kd.R_kept h0.g hk (fun k h1 h2 => by omega)⟩
theorem mark3_at (k : Nat) {w W : World} {p1 p4 : Nat} {V G : Value} {r ms : List Nat} (m : Int) (h : St1 w V G r r (fun k => k < p1) (fun k => p4 ≤ k) W) (hp : p1 ≤ p4) (hm : laws_markFloat32S.f k r 1 = some (m, ms)) :
    Calls Try.prog 26 #[G, .int .i64 1] W fun e w' => e = .returned (.int .i64 m) ∧ St1 w V G r ms (fun k => k < p1) (fun k => True) w' := by
  refine (laws_markFloat32S.calls k _ G r 1 m ms w W h.below h.g hm).mono ?_
  rintro e w' ⟨he, hs, hb, hk⟩
  exact ⟨he, hb, Kd.R_kept h.v hk (fun k h1 h2 => by omega), Kd.R_mono hs (fun _ _ => trivial)⟩
set_option maxHeartbeats 16000000 in
set_option maxRecDepth 100000 in
theorem law_calls (k : Nat) (A0 : Option Addr) (c0 : Nat) (l : List LS) (A1 : Option Addr) (c1 : Nat) (ns : List ByteArray) (A2 : Option Addr) (c2 : Nat) (st : List Bool) (w : World) (hC : Cs w A0 c0 l A1 c1 ns A2 c2 st) (hs : ¬ (st.length : Int) > 1048576)
    (z1 z2 : Int) (h1 : laws_szSoundS.f k l 1048576 = some z1) (hz : ¬ z1 < 0) (h2 : laws_szStringS.f k ns z1 = some z2) (hz2 : ¬ z2 < 0) (L : List SD) (hll : L.length ≤ 1048576) (r : List Nat) (b : Bool) (a1 a2 a3 m : Nat) (zs : List SD) (zn : List ByteArray) (zb : List Bool) (ms : List Nat)
    (t1 : laws_toSoundS.f k l = some L) (t2 : laws_toStringS.f k ns = some ns) (t3 : laws_toBoolS.f k st = some st)
    (s1 : spec_LengthsOf.f k L ns st = some (r, b)) (s2 : impl_LengthsOf.f k L ns st = some (r, b))
    (e1 : laws_eqSoundS.f k L L = some true) (e2 : laws_eqStringS.f k ns ns = some true) (e3 : laws_eqBoolS.f k st st = some true) (e4 : laws_eqFloat32S.f r r = some true)
    (m1 : sd0 k L 1 0 = some ((a1 : Int), zs)) (m2 : laws_markStringS.f k ns (a1 : Int) = some ((a2 : Int), zn)) (m3 : laws_markBoolS.f k st (a2 : Int) = some ((a3 : Int), zb)) (m4 : laws_markFloat32S.f k r 1 = some ((m : Int), ms)) (h4 : laws_heldFloat32S.f k ms 1 = some (m : Int)) :
    Calls Try.prog 12 #[.slice A0 l.length c0, .slice A1 ns.length c1, .slice A2 st.length c2] w fun e w' => e = .returned (.bool true) ∧ Below w.heap.size w w' := by
  have q0 : decide (1048576 < (st.length : Int)) = false := decide_eq_false hs
  have q1 : decide (z1 < 0) = false := decide_eq_false hz
  have q2 : decide (z2 < 0) = false := decide_eq_false hz2
  have q3 : decide ((a3 : Int) < 0) = false := decide_eq_false (by omega)
  have q4 : decide ((m : Int) < 0) = false := decide_eq_false (by omega)
  have q5 : ((m : Int) != m) = false := bne_self_eq_false _
  have q6 : (b != b) = false := bne_self_eq_false _
  have HC := Lib.hid hC
  have H1 := Lib.hid h1
  have H2 := Lib.hid h2
  have HL := Lib.hid hll
  have T1 := Lib.hid t1
  have T2 := Lib.hid t2
  have T3 := Lib.hid t3
  have S1 := Lib.hid s1
  have S2 := Lib.hid s2
  have E1 := Lib.hid e1
  have E2 := Lib.hid e2
  have E3 := Lib.hid e3
  have E4 := Lib.hid e4
  have N1 := Lib.hid m1
  have N2 := Lib.hid m2
  have N3 := Lib.hid m3
  have N4 := Lib.hid m4
  have H4 := Lib.hid h4
  clear hs hz hz2 hC h1 h2 hll t1 t2 t3 s1 s2 e1 e2 e3 e4 m1 m2 m3 m4 h4
  have M1 : True := trivial
  have M2 : True := trivial
  have M3 : True := trivial
  have M4 : True := trivial
  have M5 : True := trivial
  have M6 : True := trivial
  have M7 : True := trivial
  have M8 : True := trivial
  have M9 : True := trivial
  have M10 : True := trivial
  have M11 : True := trivial
  have M12 : True := trivial
  have M13 : True := trivial
  go_enter Try.func12, Try.ntmps12
  go_wp2_with (first
    | (go_at_call 40; (with_reducible refine (laws_szSoundS.calls k A0 c0 l 1048576 z1 _ HC.out.r0 HC.out.c0 H1.out).mono ?_); rintro e w1 ⟨rfl, hb⟩; have HB1 := Lib.hid hb; clear hb)
    | (go_at_call 60; (with_reducible refine (sz2_at k A1 c1 ns z1 z2 _ (HC.out.to HB1.out).r1 HC.out.c1 H2.out).mono ?_); rintro e w2 ⟨rfl, hb⟩; have HB2 := Lib.hid (bl HB1.out hb); clear hb)
    | (go_at_call 42; clear M1; (with_reducible refine (toS_at k A0 c0 l L _ (HC.out.to HB2.out).r0 HC.out.c0 T1.out).mono ?_); rintro e w3 ⟨B0, f0, rfl, hx, hb⟩; have HB3 := Lib.hid (bl HB2.out hb); have HU0 := Lib.hid hx; clear hb hx)
    | (go_at_call 62; clear M2; (with_reducible refine (toT_at k A1 c1 ns ns _ (HC.out.to HB3.out).r1 HC.out.c1 T2.out).mono ?_); rintro e w4 ⟨B1, f1, rfl, hx, hb⟩; have HB4 := Lib.hid (bl HB3.out hb); have HV0 := Lib.hid (Kd.S_below HU0.out hb); have HV1 := Lib.hid hx; clear hb hx)
    | (go_at_call 63; clear M3; (with_reducible refine (toB_at k A2 c2 st st _ (HC.out.to HB4.out).r2 HC.out.c2 T3.out).mono ?_); rintro e w5 ⟨B2, f2, rfl, hx, hb⟩; have HB5 := Lib.hid (bl HB4.out hb); have HX := Lib.hid (show Xs w5 B0 f0 L B1 f1 ns B2 f2 st from ⟨(S_C (Kd.S_below HV0.out hb)).1, (R_C (Kd.R_below HV1.out hb)).1, (R_C hx).1, (S_C HV0.out).2.1, (R_C HV1.out).2.1, (R_C hx).2.1⟩); clear hb hx)
    | (go_at_call 61; (with_reducible refine (spec_at k B0 f0 L B1 f1 ns B2 f2 st r b _ HX.out S1.out).mono ?_); rintro e w6 ⟨AV, cV, rfl, hx, hb⟩; have HB6 := Lib.hid (bl HB5.out hb); have HV := Lib.hid (show RF w6 w.heap.size (fun k => k < w6.heap.size) (.slice AV r.length cV) r from Kd.R_lower (Kd.R_mono (Kd.R_bound hx) (fun _ hk => hk.2.2.1)) HB5.out.size); clear hb hx)
    | (go_at_call 42; clear M4; (with_reducible refine (toS_at k A0 c0 l L _ (HC.out.to HB6.out).r0 HC.out.c0 T1.out).mono ?_); rintro e w7 ⟨X0, d0, rfl, hx, hb⟩; have HB7 := Lib.hid (bl HB6.out hb); have HV7 := Lib.hid (Kd.R_below HV.out hb); have HX0 := Lib.hid (show SS w7 w.heap.size (fun k => w6.heap.size ≤ k ∧ k < w7.heap.size) (.slice X0 L.length d0) L from Kd.S_lower (Kd.S_mono (Kd.S_bound hx) (fun _ hk => ⟨hk.2.1, hk.2.2.1⟩)) HB6.out.size); have Z1 := Lib.hid hb.size; clear hb hx)
    | (go_at_call 62; clear M5; (with_reducible refine (toT_at k A1 c1 ns ns _ (HC.out.to HB7.out).r1 HC.out.c1 T2.out).mono ?_); rintro e w8 ⟨X1, d1, rfl, hx, hb⟩; have HB8 := Lib.hid (bl HB7.out hb); have HV8 := Lib.hid (Kd.R_below HV7.out hb); have HX08 := Lib.hid (Kd.S_below HX0.out hb); have HX1 := Lib.hid (show RS w8 w.heap.size (fun k => w7.heap.size ≤ k ∧ k < w8.heap.size) (.slice X1 ns.length d1) ns from Kd.R_lower (Kd.R_mono (Kd.R_bound hx) (fun _ hk => ⟨hk.2.1, hk.2.2.1⟩)) HB7.out.size); have Z2 := Lib.hid hb.size; clear hb hx)
    | (go_at_call 63; clear M6; (with_reducible refine (toB_at k A2 c2 st st _ (HC.out.to HB8.out).r2 HC.out.c2 T3.out).mono ?_); rintro e w9 ⟨X2, d2, rfl, hx, hb⟩; have HB9 := Lib.hid (bl HB8.out hb); have HV9 := Lib.hid (Kd.R_below HV8.out hb); have HX09 := Lib.hid (Kd.S_below HX08.out hb); have HX19 := Lib.hid (Kd.R_below HX1.out hb); have HX2 := Lib.hid (show RB w9 w.heap.size (fun k => w8.heap.size ≤ k ∧ k < w9.heap.size) (.slice X2 st.length d2) st from Kd.R_lower (Kd.R_mono (Kd.R_bound hx) (fun _ hk => ⟨hk.2.1, hk.2.2.1⟩)) HB8.out.size); have HY := Lib.hid (show Xs w9 X0 d0 L X1 d1 ns X2 d2 st from ⟨(S_C HX09.out).1, (R_C HX19.out).1, (R_C hx).1, (S_C HX09.out).2.1, (R_C HX19.out).2.1, (R_C hx).2.1⟩); have Z3 := Lib.hid hb.size; clear hb hx)
    | (go_at_call 64; clear M7; (with_reducible refine (impl_at k X0 d0 L X1 d1 ns X2 d2 st r b _ HY.out S2.out).mono ?_); rintro e w10 ⟨G, cG, rfl, hx, hb⟩; have HS10 := Lib.hid (show St0 w w6.heap.size w7.heap.size w8.heap.size w9.heap.size (.slice AV r.length cV) (.slice X0 L.length d0) (.slice X1 ns.length d1) (.slice X2 st.length d2) (.slice G r.length cG) r L ns st w10 from ⟨bl HB9.out hb, Kd.R_below HV9.out hb, Kd.S_below HX09.out hb, Kd.R_below HX19.out hb, Kd.R_below HX2.out hb, Kd.R_lower (Kd.R_mono (Kd.R_bound hx) (fun _ hk => hk.2.1)) HB9.out.size, Z1.out, Z2.out, Z3.out⟩); clear hb hx)
    | (go_at_call 23; clear M8; (with_reducible refine (eqF_at G cG AV cV r _ HS10.out.g HS10.out.v E4.out).mono ?_); rintro e w11 ⟨rfl, hb⟩; have HS11 := Lib.hid (HS10.out.to hb); clear hb)
    | (go_at_call 42; clear M9; (with_reducible refine (toS_at k A0 c0 l L _ (HC.out.to HS11.out.below).r0 HC.out.c0 T1.out).mono ?_); rintro e w12 ⟨C0, g0, rfl, hx, hb⟩; have HS12 := Lib.hid (HS11.out.to hb); have HU12 := Lib.hid hx; clear hb hx)
    | (go_at_call 44; (with_reducible refine (eqS_at k X0 d0 C0 g0 L _ HS12.out.x0 HU12.out E1.out).mono ?_); rintro e w13 ⟨rfl, hb⟩; have HS13 := Lib.hid (HS12.out.to hb); clear hb)
    | (go_at_call 62; clear M10; (with_reducible refine (toT_at k A1 c1 ns ns _ (HC.out.to HS13.out.below).r1 HC.out.c1 T2.out).mono ?_); rintro e w14 ⟨C1, g1, rfl, hx, hb⟩; have HS14 := Lib.hid (HS13.out.to hb); have HU14 := Lib.hid hx; clear hb hx)
    | (go_at_call 65; (with_reducible refine (eqT_at k X1 d1 C1 g1 ns _ HS14.out.x1 HU14.out E2.out).mono ?_); rintro e w15 ⟨rfl, hb⟩; have HS15 := Lib.hid (HS14.out.to hb); clear hb)
    | (go_at_call 63; clear M11; (with_reducible refine (toB_at k A2 c2 st st _ (HC.out.to HS15.out.below).r2 HC.out.c2 T3.out).mono ?_); rintro e w16 ⟨C2, g2, rfl, hx, hb⟩; have HS16 := Lib.hid (HS15.out.to hb); have HU16 := Lib.hid hx; clear hb hx)
    | (go_at_call 66; (with_reducible refine (eqB_at k X2 d2 C2 g2 st _ HS16.out.x2 HU16.out E3.out).mono ?_); rintro e w17 ⟨rfl, hb⟩; have HS17 := Lib.hid (HS16.out.to hb); clear hb)
    | (go_at_call 45; (with_reducible refine (mark0_at k (a1 : Int) HS17.out HL.out N1.out).mono ?_); rintro e w18 ⟨rfl, hx⟩; have HS18 := Lib.hid hx; clear hx)
    | (go_at_call 67; (with_reducible refine (mark1_at k (a1 : Int) (a2 : Int) HS18.out N2.out).mono ?_); rintro e w19 ⟨rfl, hx⟩; have HS19 := Lib.hid hx; clear hx)
    | (go_at_call 68; (with_reducible refine (mark2_at k (a2 : Int) (a3 : Int) HS19.out N3.out).mono ?_); rintro e w20 ⟨rfl, hp, hx⟩; have HP := Lib.hid hp; have HS20 := Lib.hid hx; clear hx hp)
    | (go_at_call 23; clear M12; (with_reducible refine (eqF_at G cG AV cV r _ HS20.out.g HS20.out.v E4.out).mono ?_); rintro e w21 ⟨rfl, hb⟩; have HS21 := Lib.hid (HS20.out.to hb); clear hb)
    | (go_at_call 26; (with_reducible refine (mark3_at k (m : Int) HS21.out HP.out N4.out).mono ?_); rintro e w22 ⟨rfl, hx⟩; have HS22 := Lib.hid hx; clear hx)
    | (go_at_call 27; clear M13; (with_reducible refine (held_at k G cG r.length ms 1 m _ HS22.out.g H4.out).mono ?_); rintro e w23 ⟨rfl, hb⟩; have HS23 := Lib.hid (HS22.out.to hb); clear hb)
    | (go_at_call 42; (with_reducible refine (toS_at k A0 c0 l L _ (HC.out.to HS23.out.below).r0 HC.out.c0 T1.out).mono ?_); rintro e w24 ⟨D0, i0, rfl, hx, hb⟩; have HS24 := Lib.hid (HS23.out.to hb); have HU24 := Lib.hid hx; clear hb hx)
    | (go_at_call 62; (with_reducible refine (toT_at k A1 c1 ns ns _ (HC.out.to HS24.out.below).r1 HC.out.c1 T2.out).mono ?_); rintro e w25 ⟨D1, i1, rfl, hx, hb⟩; have HS25 := Lib.hid (HS24.out.to hb); have HU25 := Lib.hid (Kd.S_below HU24.out hb); have HT25 := Lib.hid hx; clear hb hx)
    | (go_at_call 63; (with_reducible refine (toB_at k A2 c2 st st _ (HC.out.to HS25.out.below).r2 HC.out.c2 T3.out).mono ?_); rintro e w26 ⟨D2, i2, rfl, hx, hb⟩; have HS26 := Lib.hid (HS25.out.to hb); have HZ := Lib.hid (show Xs w26 D0 i0 L D1 i1 ns D2 i2 st from ⟨(S_C (Kd.S_below HU25.out hb)).1, (R_C (Kd.R_below HT25.out hb)).1, (R_C hx).1, (S_C HU25.out).2.1, (R_C HT25.out).2.1, (R_C hx).2.1⟩); clear hb hx)
    | (go_at_call 64; (with_reducible refine (impl_at k D0 i0 L D1 i1 ns D2 i2 st r b _ HZ.out S2.out).mono ?_); rintro e w27 ⟨G2, cG2, rfl, hx, hb⟩; have HS27 := Lib.hid (HS26.out.to hb); have HG2 := Lib.hid hx; clear hb hx)
    | (go_at_call 23; (with_reducible refine (eqF_at G2 cG2 AV cV r _ HG2.out HS27.out.v E4.out).mono ?_); rintro e w28 ⟨rfl, hb⟩; have HS28 := Lib.hid (HS27.out.to hb); clear hb)
    | (go_at_call 27; (with_reducible refine (held_at k G cG r.length ms 1 m _ HS28.out.g H4.out).mono ?_); rintro e w29 ⟨rfl, hb⟩; have HS29 := Lib.hid (HS28.out.to hb); clear hb))
  go_ret
  exact ⟨rfl, HS29.out.below⟩
end Go.Proofs.Ytoiaojdkgagblaa.Lol
