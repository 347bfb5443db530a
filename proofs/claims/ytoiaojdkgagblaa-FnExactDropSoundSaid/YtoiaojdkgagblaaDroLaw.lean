import Derived.Test.YtoiaojdkgagblaaDroPure
import Derived.Test.YtoiaojdkgagblaaOf
set_option linter.unusedVariables false
set_option linter.unusedSimpArgs false
namespace Go.Proofs.Ytoiaojdkgagblaa.Drol
open Go.RowKit Go.Proofs.YtoiaojdkgagblaaW.PrintWords Go.Proofs.YtoiaojdkgagblaaW.PrintLast Go.Proofs.YtoiaojdkgagblaaW.PrintMore Go.Proofs.YtoiaojdkgagblaaW.PrintFl Go.Proofs.Ytoiaojdkgagblaa Go.Proofs.Ytoiaojdkgagblaa.PFnExactDropSound Go.Proofs.Ytoiaojdkgagblaa.Lm Go.Proofs.Ytoiaojdkgagblaa.Sdm Go.Proofs.Ytoiaojdkgagblaa.DroPure Go.ChangeShapes Go.WideShapes
theorem bel {B : Nat} {w w1 w2 : World} (h1 : Below B w w1) (h2 : Below w1.heap.size w1 w2) (hB : B ≤ w1.heap.size) : Below B w w2 := h1.trans (h2.mono hB)
theorem bl {w w1 w2 : World} (h1 : Below w.heap.size w w1) (h2 : Below w1.heap.size w1 w2) : Below w.heap.size w w2 := bel h1 h2 h1.size
theorem S_C {α : Type} {d : Kd α} {e : Nat} {w : World} {base : Nat} {ok : Nat → Prop} {A : Option Addr} {n c : Nat} {xs : List α} (h : Kd.S d e w base ok (.slice A n c) xs) : Kd.C d w A n xs ∧ n ≤ c ∧ n = xs.length := by
  obtain ⟨h1, h2, h3⟩ := Kd.S_reads' h
  subst h1
  exact ⟨h3, h2, rfl⟩
theorem V_C {α : Type} {d : Kd α} {e : Nat} {w : World} {base : Nat} {ok : Nat → Prop} {A : Option Addr} {n c : Nat} {xs : List α} (h : Kd.V d e w base ok (.slice A n c) xs) : Kd.C d w A n xs ∧ n ≤ c ∧ n = xs.length := by
  obtain ⟨h1, h2, h3⟩ := Kd.V_reads' h
  subst h1
  exact ⟨h3, h2, rfl⟩
abbrev kS : Kd SD := k138
abbrev SS (W : World) (b : Nat) (ok : Nat → Prop) (v : Value) (xs : List SD) : Prop := Kd.S kS 138 W b ok v xs
abbrev VS (W : World) (b : Nat) (ok : Nat → Prop) (v : Value) (xs : List SD) : Prop := Kd.V kS 138 W b ok v xs
structure St0 (w : World) (p1 p2 : Nat) (V X0 G : Value) (r L : List SD) (W : World) : Prop where
  below : Below w.heap.size w W
  v : VS W w.heap.size (fun k => k < p1) V r
  x0 : SS W w.heap.size (fun k => p1 ≤ k ∧ k < p2) X0 L
  g : SS W w.heap.size (fun k => p2 ≤ k) G r
  q1 : p1 ≤ p2
structure St1 (w : World) (p1 p2 : Nat) (V G : Value) (r g : List SD) (W : World) : Prop where
  below : Below w.heap.size w W
  v : VS W w.heap.size (fun k => k < p1) V r
  g : SS W w.heap.size (fun k => p2 ≤ k) G g
  q1 : p1 ≤ p2
theorem St0.to {w W W' : World} {p1 p2 : Nat} {V X0 G : Value} {r L : List SD} (h : St0 w p1 p2 V X0 G r L W) (hb : Below W.heap.size W W') : St0 w p1 p2 V X0 G r L W' :=
  ⟨bl h.below hb, Kd.V_below h.v hb, Kd.S_below h.x0 hb, Kd.S_below h.g hb, h.q1⟩
theorem St1.to {w W W' : World} {p1 p2 : Nat} {V G : Value} {r g : List SD} (h : St1 w p1 p2 V G r g W) (hb : Below W.heap.size W W') : St1 w p1 p2 V G r g W' :=
  ⟨bl h.below hb, Kd.V_below h.v hb, Kd.S_below h.g hb, h.q1⟩
theorem eqVS_at (k : Nat) (A0 : Option Addr) (c0 : Nat) (A1 : Option Addr) (c1 : Nat) (l : List SD) (w : World) {b0 b1 : Nat} {o0 o1 : Nat → Prop} (h0 : SS w b0 o0 (.slice A0 l.length c0) l) (h1 : VS w b1 o1 (.slice A1 l.length c1) l) (h : laws_eqSoundS.f k l l = some true) :
    Calls Try.prog 44 #[.slice A0 l.length c0, .slice A1 l.length c1] w fun e w' => e = .returned (.bool true) ∧ Below w.heap.size w w' :=
  laws_eqSoundS.calls k A0 c0 l A1 c1 l true w (S_C h0).1 (S_C h0).2.1 (V_C h1).1 (V_C h1).2.1 h
theorem eqSS_at (k : Nat) (A0 : Option Addr) (c0 : Nat) (A1 : Option Addr) (c1 : Nat) (l : List SD) (w : World) {b0 b1 : Nat} {o0 o1 : Nat → Prop} (h0 : SS w b0 o0 (.slice A0 l.length c0) l) (h1 : SS w b1 o1 (.slice A1 l.length c1) l) (h : laws_eqSoundS.f k l l = some true) :
    Calls Try.prog 44 #[.slice A0 l.length c0, .slice A1 l.length c1] w fun e w' => e = .returned (.bool true) ∧ Below w.heap.size w w' :=
  laws_eqSoundS.calls k A0 c0 l A1 c1 l true w (S_C h0).1 (S_C h0).2.1 (S_C h1).1 (S_C h1).2.1 h
theorem heldS_at (k : Nat) (A : Option Addr) (c n : Nat) (ms : List SD) (m : Int) (W : World) {b0 : Nat} {o0 : Nat → Prop} (h0 : SS W b0 o0 (.slice A n c) ms) (h : laws_heldSoundS.f k ms 1 = some m) :
    Calls Try.prog 46 #[.slice A n c, .int .i64 1] W fun e w' => e = .returned (.int .i64 m) ∧ Below W.heap.size W w' := by
  obtain ⟨hC, hc, rfl⟩ := S_C h0
  exact laws_heldSoundS.calls k A c ms 1 m W hC hc h
theorem toS_at (k : Nat) (A0 : Option Addr) (c0 : Nat) (l : List LS) (L : List SD) (w : World) (hr : Kd.C k135 w A0 l.length l) (hc : l.length ≤ c0) (h : laws_toSoundS.f k l = some L) :
    Calls Try.prog 42 #[.slice A0 l.length c0] w fun e w' => ∃ (A : Option Addr) (c : Nat), e = .returned (.slice A L.length c) ∧ SS w' w.heap.size (fun _ => True) (.slice A L.length c) L ∧ Below w.heap.size w w' := by
  refine (laws_toSoundS.calls k A0 c0 l L w hr hc h).mono ?_
  rintro e w' ⟨v, rfl, hs, hb⟩
  obtain ⟨A, c, rfl⟩ := Kd.S_slice hs
  exact ⟨A, c, rfl, hs, hb⟩
theorem mark0_at (k : Nat) {w W : World} {p1 p2 : Nat} {V X0 G : Value} {r L zs : List SD} (a1 : Int) (h : St0 w p1 p2 V X0 G r L W) (hl : L.length ≤ 1048576) (hm : sd0 k L 1 0 = some (a1, zs)) :
    Calls Try.prog 45 #[X0, .int .i64 1] W fun e w' => e = .returned (.int .i64 a1) ∧ St1 w p1 p2 V G r r w' := by
  refine (sd_mark k _ X0 L 1 a1 zs w W h.below h.x0 (by omega) hm).mono ?_
  rintro e w' ⟨he, hs, hb, hk⟩
  exact ⟨he, hb, Kd.V_kept h.v hk (fun k h1 h2 => by omega), Kd.S_kept h.g hk (fun k h1 h2 => by omega), h.q1⟩
theorem mark1_at (k : Nat) {w W : World} {p1 p2 : Nat} {V G : Value} {r ms : List SD} (m : Int) (h : St1 w p1 p2 V G r r W) (hl : r.length ≤ 1048576) (hm : sd0 k r 1 0 = some (m, ms)) :
    Calls Try.prog 45 #[G, .int .i64 1] W fun e w' => e = .returned (.int .i64 m) ∧ St1 w p1 p2 V G r ms w' := by
  refine (sd_mark k _ G r 1 m ms w W h.below h.g (by omega) hm).mono ?_
  rintro e w' ⟨he, hs, hb, hk⟩
  have hq := h.q1
  exact ⟨he, hb, Kd.V_kept h.v hk (fun k h1 h2 => by omega), hs, h.q1⟩
set_option maxHeartbeats 8000000 in
set_option maxRecDepth 100000 in
theorem law_far1 (k : Nat) (A0 : Option Addr) (c0 : Nat) (l : List LS) (a1 : ByteArray) (w : World) (hr0 : Kd.C k135 w A0 l.length l) (hc0 : l.length ≤ c0) (hg : ¬ (a1.size : Int) > 1048576) (z1 : Int) (h1 : laws_szSoundS.f k l 1048576 = some z1) (hz : z1 < 0) : Calls Try.prog 9 #[.slice A0 l.length c0, .string a1] w fun e w' => e = .returned (.bool true) ∧ Below w.heap.size w w' := by
  have q1 : decide (z1 < 0) = true := decide_eq_true hz
  have q0 : decide (1048576 < (a1.size : Int)) = false := decide_eq_false (by omega)
  clear hg
  clear hz
  have H1 := Lib.hid (laws_szSoundS.calls k A0 c0 l 1048576 z1 w hr0 hc0 h1)
  clear h1 hr0
  go_enter Try.func9, Try.ntmps9
  go_wp2_with (first | (go_at_call 40; (with_reducible refine H1.out.mono ?_); rintro e w1 ⟨rfl, hb1⟩; have HB1 := Lib.hid hb1; clear hb1))
  go_ret
  exact ⟨rfl, HB1.out⟩
theorem spec_at (k : Nat) (A : Option Addr) (c : Nat) (L : List SD) (a1 : ByteArray) (r : List SD) (b : Bool) (w : World) {b0 : Nat} {o0 : Nat → Prop} (h0 : SS w b0 o0 (.slice A L.length c) L) (hs : spec_DropSound.f k L a1 = some (r, b)) :
    Calls Try.prog 52 #[.slice A L.length c, .string a1] w fun e w' => ∃ (A' : Option Addr) (c' : Nat), e = .returned (.tuple #[.slice A' r.length c', .bool b]) ∧ VS w' w.heap.size (fun _ => True) (.slice A' r.length c') r ∧ Below w.heap.size w w' := by
  refine (spec_DropSound.calls k A c L a1 r b w (S_C h0).1 (S_C h0).2.1 hs).mono ?_
  rintro e w' ⟨v, rfl, hr, hb⟩
  have hv : VS w' w.heap.size (fun _ => True) v r := Kd.V_mono (Kd.S_V hr) (fun _ _ => trivial)
  obtain ⟨A', c', rfl⟩ := Kd.V_slice hv
  exact ⟨A', c', rfl, hv, hb⟩
theorem impl_at (k : Nat) (A : Option Addr) (c : Nat) (L : List SD) (a1 : ByteArray) (r : List SD) (b : Bool) (w : World) {b0 : Nat} {o0 : Nat → Prop} (h0 : SS w b0 o0 (.slice A L.length c) L) (hs : impl_DropSound.f k L a1 = some (r, b)) :
    Calls Try.prog 53 #[.slice A L.length c, .string a1] w fun e w' => ∃ (A' : Option Addr) (c' : Nat), e = .returned (.tuple #[.slice A' r.length c', .bool b]) ∧ SS w' w.heap.size (fun _ => True) (.slice A' r.length c') r ∧ Below w.heap.size w w' := by
  refine (impl_DropSound.calls k A c L a1 r b w (S_C h0).1 (S_C h0).2.1 hs).mono ?_
  rintro e w' ⟨v, rfl, hr, hb⟩
  obtain ⟨A', c', rfl⟩ := Kd.S_slice hr
  exact ⟨A', c', rfl, hr, hb⟩
set_option maxHeartbeats 16000000 in
set_option maxRecDepth 100000 in
theorem law_calls (k : Nat) (A0 : Option Addr) (c0 : Nat) (l : List LS) (a1 : ByteArray) (w : World) (hr0 : Kd.C k135 w A0 l.length l) (hc0 : l.length ≤ c0) (hg : ¬ (a1.size : Int) > 1048576) (z1 : Int) (h1 : laws_szSoundS.f k l 1048576 = some z1) (hz : ¬ z1 < 0) (L : List SD) (hll : L.length ≤ 1048576) (r : List SD) (hrl : r.length ≤ 1048576) (b : Bool) (x1 m : Nat) (zs ms : List SD)
    (t1 : laws_toSoundS.f k l = some L) (s1 : spec_DropSound.f k L a1 = some (r, b)) (s2 : impl_DropSound.f k L a1 = some (r, b))
    (e1 : laws_eqSoundS.f k L L = some true) (e2 : laws_eqSoundS.f k r r = some true)
    (m1 : sd0 k L 1 0 = some ((x1 : Int), zs)) (m2 : sd0 k r 1 0 = some ((m : Int), ms)) (h4 : laws_heldSoundS.f k ms 1 = some (m : Int)) :
    Calls Try.prog 9 #[.slice A0 l.length c0, .string a1] w fun e w' => e = .returned (.bool true) ∧ Below w.heap.size w w' := by
  have q1 : decide (z1 < 0) = false := decide_eq_false hz
  have q0 : decide (1048576 < (a1.size : Int)) = false := decide_eq_false (by omega)
  clear hg
  have q3 : decide ((x1 : Int) < 0) = false := decide_eq_false (by omega)
  have q4 : decide ((m : Int) < 0) = false := decide_eq_false (by omega)
  have q5 : ((m : Int) != m) = false := bne_self_eq_false _
  have q6 : (b != b) = false := bne_self_eq_false _
  have HC := Lib.hid hr0
  have HC0 := Lib.hid hc0
  have H1 := Lib.hid h1
  have HL := Lib.hid hll
  have HRL := Lib.hid hrl
  have T1 := Lib.hid t1
  have S1 := Lib.hid s1
  have S2 := Lib.hid s2
  have E1 := Lib.hid e1
  have E2 := Lib.hid e2
  have N1 := Lib.hid m1
  have N2 := Lib.hid m2
  have H4 := Lib.hid h4
  clear hz hr0 hc0 h1 hll hrl t1 s1 s2 e1 e2 m1 m2 h4
  have M1 : True := trivial
  have M2 : True := trivial
  have M3 : True := trivial
  have M4 : True := trivial
  have M5 : True := trivial
  have M6 : True := trivial
  have M7 : True := trivial
  have M8 : True := trivial
  have M9 : True := trivial
  go_enter Try.func9, Try.ntmps9
  go_wp2_with (first
    | (go_at_call 40; (with_reducible refine (laws_szSoundS.calls k A0 c0 l 1048576 z1 _ HC.out HC0.out H1.out).mono ?_); rintro e w1 ⟨rfl, hb⟩; have HB1 := Lib.hid hb; clear hb)
    | (go_at_call 42; clear M1; (with_reducible refine (toS_at k A0 c0 l L _ (Kd.C_below HC.out HB1.out) HC0.out T1.out).mono ?_); rintro e w2 ⟨B0, f0, rfl, hx, hb⟩; have HB2 := Lib.hid (bl HB1.out hb); have HU0 := Lib.hid hx; clear hb hx)
    | (go_at_call 52; (with_reducible refine (spec_at k B0 f0 L a1 r b _ HU0.out S1.out).mono ?_); rintro e w3 ⟨AV, cV, rfl, hx, hb⟩; have HB3 := Lib.hid (bl HB2.out hb); have HV := Lib.hid (show VS w3 w.heap.size (fun k => k < w3.heap.size) (.slice AV r.length cV) r from Kd.V_mono (Kd.V_bound hx) (fun _ hk => hk.2)); clear hb hx)
    | (go_at_call 42; clear M2; (with_reducible refine (toS_at k A0 c0 l L _ (Kd.C_below HC.out HB3.out) HC0.out T1.out).mono ?_); rintro e w4 ⟨X0, d0, rfl, hx, hb⟩; have HB4 := Lib.hid (bl HB3.out hb); have HV4 := Lib.hid (Kd.V_below HV.out hb); have HX0 := Lib.hid (show SS w4 w.heap.size (fun k => w3.heap.size ≤ k ∧ k < w4.heap.size) (.slice X0 L.length d0) L from Kd.S_lower (Kd.S_mono (Kd.S_bound hx) (fun _ hk => ⟨hk.2.1, hk.2.2.1⟩)) HB3.out.size); have Z1 := Lib.hid hb.size; clear hb hx)
    | (go_at_call 53; clear M3; (with_reducible refine (impl_at k X0 d0 L a1 r b _ HX0.out S2.out).mono ?_); rintro e w5 ⟨G, cG, rfl, hx, hb⟩; have HS5 := Lib.hid (show St0 w w3.heap.size w4.heap.size (.slice AV r.length cV) (.slice X0 L.length d0) (.slice G r.length cG) r L w5 from ⟨bl HB4.out hb, Kd.V_below HV4.out hb, Kd.S_below HX0.out hb, Kd.S_lower (Kd.S_mono (Kd.S_bound hx) (fun _ hk => hk.2.1)) HB4.out.size, Z1.out⟩); clear hb hx)
    | (go_at_call 44; clear M4; (with_reducible refine (eqVS_at k G cG AV cV r _ HS5.out.g HS5.out.v E2.out).mono ?_); rintro e w6 ⟨rfl, hb⟩; have HS6 := Lib.hid (HS5.out.to hb); clear hb)
    | (go_at_call 42; clear M5; (with_reducible refine (toS_at k A0 c0 l L _ (Kd.C_below HC.out HS6.out.below) HC0.out T1.out).mono ?_); rintro e w7 ⟨C0, g0, rfl, hx, hb⟩; have HS7 := Lib.hid (HS6.out.to hb); have HU7 := Lib.hid hx; clear hb hx)
    | (go_at_call 44; clear M6; (with_reducible refine (eqSS_at k X0 d0 C0 g0 L _ HS7.out.x0 HU7.out E1.out).mono ?_); rintro e w8 ⟨rfl, hb⟩; have HS8 := Lib.hid (HS7.out.to hb); clear hb)
    | (go_at_call 45; clear M7; (with_reducible refine (mark0_at k (x1 : Int) HS8.out HL.out N1.out).mono ?_); rintro e w9 ⟨rfl, hx⟩; have HS9 := Lib.hid hx; clear hx)
    | (go_at_call 44; clear M8; (with_reducible refine (eqVS_at k G cG AV cV r _ HS9.out.g HS9.out.v E2.out).mono ?_); rintro e w10 ⟨rfl, hb⟩; have HS10 := Lib.hid (HS9.out.to hb); clear hb)
    | (go_at_call 45; (with_reducible refine (mark1_at k (m : Int) HS10.out HRL.out N2.out).mono ?_); rintro e w11 ⟨rfl, hx⟩; have HS11 := Lib.hid hx; clear hx)
    | (go_at_call 46; clear M9; (with_reducible refine (heldS_at k G cG r.length ms m _ HS11.out.g H4.out).mono ?_); rintro e w12 ⟨rfl, hb⟩; have HS12 := Lib.hid (HS11.out.to hb); clear hb)
    | (go_at_call 42; (with_reducible refine (toS_at k A0 c0 l L _ (Kd.C_below HC.out HS12.out.below) HC0.out T1.out).mono ?_); rintro e w13 ⟨D0, i0, rfl, hx, hb⟩; have HS13 := Lib.hid (HS12.out.to hb); have HU13 := Lib.hid hx; clear hb hx)
    | (go_at_call 53; (with_reducible refine (impl_at k D0 i0 L a1 r b _ HU13.out S2.out).mono ?_); rintro e w14 ⟨G2, cG2, rfl, hx, hb⟩; have HS14 := Lib.hid (HS13.out.to hb); have HG2 := Lib.hid hx; clear hb hx)
    | (go_at_call 44; (with_reducible refine (eqVS_at k G2 cG2 AV cV r _ HG2.out HS14.out.v E2.out).mono ?_); rintro e w15 ⟨rfl, hb⟩; have HS15 := Lib.hid (HS14.out.to hb); clear hb)
    | (go_at_call 46; (with_reducible refine (heldS_at k G cG r.length ms m _ HS15.out.g H4.out).mono ?_); rintro e w16 ⟨rfl, hb⟩; have HS16 := Lib.hid (HS15.out.to hb); clear hb))
  go_ret
  exact ⟨rfl, HS16.out.below⟩
set_option maxHeartbeats 8000000 in
set_option maxRecDepth 100000 in
theorem law_far0 (A0 : Option Addr) (c0 : Nat) (l : List LS) (a1 : ByteArray) (w : World) (hg : (a1.size : Int) > 1048576) : Calls Try.prog 9 #[.slice A0 l.length c0, .string a1] w fun e w' => e = .returned (.bool true) ∧ Below w.heap.size w w' := by
  have q0 : decide (1048576 < (a1.size : Int)) = true := decide_eq_true hg
  clear hg
  go_enter Try.func9, Try.ntmps9
  go_wp2
  go_ret
  exact ⟨rfl, Below.refl _ _⟩
theorem law_all (A0 : Option Addr) (c0 : Nat) (l : List LS) (a1 : ByteArray) (w : World) (hr0 : Kd.C k135 w A0 l.length l) (hc0 : l.length ≤ c0) (hl : l.length ≤ 9223372036854775807) (hx : ∀ x ∈ l, okS x) :
    Calls Try.prog 9 #[.slice A0 l.length c0, .string a1] w fun e w' => e = .returned (.bool true) ∧ Below w.heap.size w w' := by
  by_cases hg : (a1.size : Int) > 1048576
  · exact law_far0 A0 c0 l a1 w hg
  obtain ⟨z1, h1, h2⟩ := szL_some l hl hx 6000000 (by decide)
  by_cases c1 : z1 < 0
  · exact law_far1 6000000 A0 c0 l a1 w hr0 hc0 hg z1 h1 c1
  · obtain ⟨hzz, hll, hz⟩ := h2.resolve_left c1
    have hL : (l.map cv1).length ≤ 1048576 := by rw [List.length_map]; exact hll
    have hI : ∀ x ∈ l.map cv1, okI x := by
      intro x hx2
      obtain ⟨y, hy, rfl⟩ := List.mem_map.1 hx2
      exact okI_cv y (hx y hy) (hz y hy)
    obtain ⟨r, b, hb, hf⟩ := both (l.map cv1) hL hI a1
    obtain ⟨x1, zs, m1, -, -⟩ := sd_some (l.map cv1).length hL (l.map cv1).length 0 6000000 (l.map cv1) 1 (by omega) rfl (fun j _ hj => by rw [rdI_at hj]; exact (hI _ (List.getElem_mem _)).2.1) (by omega) (by omega)
    obtain ⟨m, ms, m2, -, -, h4⟩ := sdh_some r.length hf.len r.length 0 6000000 r 1 (by omega) rfl (fun j _ hj => hf.areas j hj) (by have := hf.len; omega) (by have := hf.len; omega)
    have hrl : r.length ≤ 1048576 := by have := hf.len; omega
    exact law_calls 6000000 A0 c0 l a1 w hr0 hc0 hg z1 h1 c1 _ hL r hrl b x1 m zs ms (toS_some l hll (fun x hx2 => (hz x hx2).2) _ (by decide)) (hb _ (by decide)).1 (hb _ (by decide)).2 (eqS_some _ hL hI _ (by decide)) (eqS_some r hrl hf.ok _ (by decide)) m1 m2 (h4 6000000 (by have := hf.len; omega))
theorem opens_soundS : Opens Try.prog 135 k135 okS :=
  opens_imp (opens_struct (P := Try.prog) (fun x : S135 => (x.f0, x.f1, x.f2, x.f3, x.f4, x.f5)) (fun x => ⟨x.1, x.2.1, x.2.2.1, x.2.2.2.1, x.2.2.2.2.1, x.2.2.2.2.2⟩) (fun _ => rfl) Try.underlying135 rfl (N := 6) (by kernel_rfl)
    (opensF_cons rfl (off' := 1) (by kernel_rfl) (opens_str Try.underlying9) (opensF_cons rfl (off' := 2) (by kernel_rfl) (opens_slice (B := 4) _ Try.underlying26 (by kernel_rfl) (by kernel_rfl) (opens_raw Try.underlying36))
      (opensF_cons rfl (off' := 3) (by kernel_rfl) (opens_raw Try.underlying36) (opensF_cons rfl (off' := 4) (by kernel_rfl) (opens_raw Try.underlying36) (opensF_cons rfl (off' := 5) (by kernel_rfl) (opens_raw Try.underlying36) (opensF_last rfl (by kernel_rfl) (opens_raw Try.underlying36))))))))
    (fun x h => ⟨h.1, ⟨h.2.1.1, h.2.1.2.2⟩, h.2.2.1, h.2.2.2.1, h.2.2.2.2.1, h.2.2.2.2.2⟩)
theorem opens_sounds : Opens Try.prog 62 (Kd.slice 135 k135) (fun l => l.length ≤ 9223372036854775807 ∧ l.length * 56 ≤ 140737488351232 ∧ ∀ x ∈ l, okS x) :=
  opens_slice _ Try.underlying62 (by kernel_rfl) (by kernel_rfl) opens_soundS
theorem walk (A0 : Option Addr) (c0 : Nat) (l : List LS) (a1 : ByteArray) (w : World) (hr0 : Kd.C k135 w A0 l.length l) (hc0 : l.length ≤ c0) (z0 : l.length ≤ 9223372036854775807 ∧ l.length * 56 ≤ 140737488351232 ∧ ∀ x ∈ l, okS x) (_ : a1.size ≤ 140737488351232) :
    Calls Try.prog 9 #[.slice A0 l.length c0, .string a1] w fun e w' => e = .returned (.bool true) ∧ Below w.heap.size w w' := law_all A0 c0 l a1 w hr0 hc0 z0.1 z0.2.2
end Go.Proofs.Ytoiaojdkgagblaa.Drol
