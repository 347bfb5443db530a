import Derived.Test.YtoiaojdkgagblaaLoMk
set_option linter.unusedVariables false
set_option linter.unusedSimpArgs false
namespace Go.Proofs.Ytoiaojdkgagblaa.Lol
open Go.RowKit Go.Proofs.YtoiaojdkgagblaaW.PrintWords Go.Proofs.YtoiaojdkgagblaaW.PrintLast Go.Proofs.YtoiaojdkgagblaaW.PrintMore Go.Proofs.YtoiaojdkgagblaaW.PrintFl Go.Proofs.Ytoiaojdkgagblaa Go.Proofs.Ytoiaojdkgagblaa.PFnExactLengthsOf Go.Proofs.Ytoiaojdkgagblaa.Sdm Go.Proofs.Ytoiaojdkgagblaa.LoPure
theorem bel {B : Nat} {w w1 w2 : World} (h1 : Below B w w1) (h2 : Below w1.heap.size w1 w2) (hB : B ≤ w1.heap.size) : Below B w w2 := h1.trans (h2.mono hB)
theorem bl {w w1 w2 : World} (h1 : Below w.heap.size w w1) (h2 : Below w1.heap.size w1 w2) : Below w.heap.size w w2 := bel h1 h2 h1.size
theorem bn {w w1 : World} (h1 : Below w.heap.size w w1) (n : Nat) : Below w.heap.size w (w1.drewN n) := pw_below_drewN h1 n
theorem S_C {α : Type} {d : Kd α} {e : Nat} {w : World} {base : Nat} {ok : Nat → Prop} {A : Option Addr} {n c : Nat} {xs : List α} (h : Kd.S d e w base ok (.slice A n c) xs) : Kd.C d w A n xs ∧ n ≤ c ∧ n = xs.length := by
  obtain ⟨h1, h2, h3⟩ := Kd.S_reads' h
  subst h1
  exact ⟨h3, h2, rfl⟩
theorem R_C {α : Type} {d : Kd α} {e : Nat} {w : World} {base : Nat} {ok : Nat → Prop} {A : Option Addr} {n c : Nat} {xs : List α} (h : d.R e w base ok (.slice A n c) xs) : Kd.C d w A n xs ∧ n ≤ c ∧ n = xs.length := by
  obtain ⟨h1, h2, h3⟩ := Kd.R_reads' h
  subst h1
  exact ⟨h3, h2, rfl⟩
set_option maxHeartbeats 8000000 in
set_option maxRecDepth 100000 in
theorem law_far (A0 : Option Addr) (c0 : Nat) (l : List LS) (A1 : Option Addr) (c1 : Nat) (ns : List ByteArray) (A2 : Option Addr) (c2 : Nat) (st : List Bool) (w : World) (hs : (st.length : Int) > 1048576) : Calls Try.prog 12 #[.slice A0 l.length c0, .slice A1 ns.length c1, .slice A2 st.length c2] w fun e w' => e = .returned (.bool true) ∧ Below w.heap.size w w' := by
  have q0 : decide (1048576 < (st.length : Int)) = true := decide_eq_true hs
  clear hs
  go_enter Try.func12, Try.ntmps12
  go_wp2
  go_ret
  exact ⟨rfl, Below.refl _ _⟩
set_option maxHeartbeats 8000000 in
set_option maxRecDepth 100000 in
theorem law_far1 (k : Nat) (A0 : Option Addr) (c0 : Nat) (l : List LS) (A1 : Option Addr) (c1 : Nat) (ns : List ByteArray) (A2 : Option Addr) (c2 : Nat) (st : List Bool) (w : World) (hr0 : Kd.C k135 w A0 l.length l) (hc0 : l.length ≤ c0) (hs : ¬ (st.length : Int) > 1048576) (z1 : Int) (h1 : laws_szSoundS.f k l 1048576 = some z1) (hz : z1 < 0) : Calls Try.prog 12 #[.slice A0 l.length c0, .slice A1 ns.length c1, .slice A2 st.length c2] w fun e w' => e = .returned (.bool true) ∧ Below w.heap.size w w' := by
  have q0 : decide (1048576 < (st.length : Int)) = false := decide_eq_false hs
  have q1 : decide (z1 < 0) = true := decide_eq_true hz
  clear hs hz
  have H1 := Lib.hid (laws_szSoundS.calls k A0 c0 l 1048576 z1 w hr0 hc0 h1)
  clear h1 hr0
  go_enter Try.func12, Try.ntmps12
  go_wp2_with (first | (go_at_call 40; (with_reducible refine H1.out.mono ?_); rintro e w1 ⟨rfl, hb1⟩; have HB1 := Lib.hid hb1; clear hb1))
  go_ret
  exact ⟨rfl, HB1.out⟩
set_option maxHeartbeats 8000000 in
set_option maxRecDepth 100000 in
theorem law_far2 (k : Nat) (A0 : Option Addr) (c0 : Nat) (l : List LS) (A1 : Option Addr) (c1 : Nat) (ns : List ByteArray) (A2 : Option Addr) (c2 : Nat) (st : List Bool) (w : World) (hr0 : Kd.C k135 w A0 l.length l) (hc0 : l.length ≤ c0) (hr1 : Kd.C Kd.string w A1 ns.length ns) (hc1 : ns.length ≤ c1) (hs : ¬ (st.length : Int) > 1048576) (z1 z2 : Int) (h1 : laws_szSoundS.f k l 1048576 = some z1) (hz : ¬ z1 < 0) (h2 : laws_szStringS.f k ns z1 = some z2) (hz2 : z2 < 0) : Calls Try.prog 12 #[.slice A0 l.length c0, .slice A1 ns.length c1, .slice A2 st.length c2] w fun e w' => e = .returned (.bool true) ∧ Below w.heap.size w w' := by
  have q0 : decide (1048576 < (st.length : Int)) = false := decide_eq_false hs
  have q1 : decide (z1 < 0) = false := decide_eq_false hz
  have q2 : decide (z2 < 0) = true := decide_eq_true hz2
  clear hs hz hz2
  have H1 := Lib.hid (laws_szSoundS.calls k A0 c0 l 1048576 z1 w hr0 hc0 h1)
  have H2 := Lib.hid (fun W (hb : Below w.heap.size w W) => laws_szStringS.calls k A1 c1 ns z1 z2 W (Kd.C_below hr1 hb) hc1 h2)
  clear h1 h2 hr0 hr1
  go_enter Try.func12, Try.ntmps12
  go_wp2_with (first
    | (go_at_call 40; (with_reducible refine H1.out.mono ?_); rintro e w1 ⟨rfl, hb1⟩; have HB1 := Lib.hid hb1; clear hb1)
    | (go_at_call 60; (with_reducible refine (H2.out _ HB1.out).mono ?_); rintro e w2 ⟨rfl, ⟨n2, rfl⟩⟩))
  go_ret
  exact ⟨rfl, bn HB1.out _⟩
structure Cs (w : World) (A0 : Option Addr) (c0 : Nat) (l : List LS) (A1 : Option Addr) (c1 : Nat) (ns : List ByteArray) (A2 : Option Addr) (c2 : Nat) (st : List Bool) : Prop where
  r0 : Kd.C k135 w A0 l.length l
  r1 : Kd.C Kd.string w A1 ns.length ns
  r2 : Kd.C Kd.bool w A2 st.length st
  c0 : l.length ≤ c0
  c1 : ns.length ≤ c1
  c2 : st.length ≤ c2
theorem Cs.to {w w1 : World} {A0 A1 A2 : Option Addr} {c0 c1 c2 : Nat} {l : List LS} {ns : List ByteArray} {st : List Bool} (h : Cs w A0 c0 l A1 c1 ns A2 c2 st) (hb : Below w.heap.size w w1) : Cs w1 A0 c0 l A1 c1 ns A2 c2 st := ⟨Kd.C_below h.r0 hb, Kd.C_below h.r1 hb, Kd.C_below h.r2 hb, h.c0, h.c1, h.c2⟩
structure Xs (w : World) (X0 : Option Addr) (d0 : Nat) (L : List SD) (X1 : Option Addr) (d1 : Nat) (ns : List ByteArray) (X2 : Option Addr) (d2 : Nat) (st : List Bool) : Prop where
  r0 : Kd.C k138 w X0 L.length L
  r1 : Kd.C Kd.string w X1 ns.length ns
  r2 : Kd.C Kd.bool w X2 st.length st
  c0 : L.length ≤ d0
  c1 : ns.length ≤ d1
  c2 : st.length ≤ d2
theorem spec_at (k : Nat) (X0 : Option Addr) (d0 : Nat) (L : List SD) (X1 : Option Addr) (d1 : Nat) (ns : List ByteArray) (X2 : Option Addr) (d2 : Nat) (st : List Bool) (r : List Nat) (b : Bool) (w : World) (h : Xs w X0 d0 L X1 d1 ns X2 d2 st) (hs : spec_LengthsOf.f k L ns st = some (r, b)) :
    Calls Try.prog 61 #[.slice X0 L.length d0, .slice X1 ns.length d1, .slice X2 st.length d2] w fun e w' => ∃ (A : Option Addr) (c : Nat), e = .returned (.tuple #[.slice A r.length c, .bool b]) ∧ Kd.R (Kd.float .f32) 36 w' w.heap.size (fun _ => True) (.slice A r.length c) r ∧ Below w.heap.size w w' := by
  refine (spec_LengthsOf.calls k X0 d0 L X1 d1 ns X2 d2 st r b w h.r0 h.c0 h.r1 h.c1 h.r2 h.c2 hs).mono ?_
  rintro e w' ⟨v, rfl, hr, hb⟩
  obtain ⟨A, c, rfl⟩ := Kd.R_slice hr
  exact ⟨A, c, rfl, hr, hb⟩
theorem impl_at (k : Nat) (X0 : Option Addr) (d0 : Nat) (L : List SD) (X1 : Option Addr) (d1 : Nat) (ns : List ByteArray) (X2 : Option Addr) (d2 : Nat) (st : List Bool) (r : List Nat) (b : Bool) (w : World) (h : Xs w X0 d0 L X1 d1 ns X2 d2 st) (hs : impl_LengthsOf.f k L ns st = some (r, b)) :
    Calls Try.prog 64 #[.slice X0 L.length d0, .slice X1 ns.length d1, .slice X2 st.length d2] w fun e w' => ∃ (A : Option Addr) (c : Nat), e = .returned (.tuple #[.slice A r.length c, .bool b]) ∧ Kd.R (Kd.float .f32) 36 w' w.heap.size (fun _ => True) (.slice A r.length c) r ∧ Below w.heap.size w w' := by
  refine (impl_LengthsOf.calls k X0 d0 L X1 d1 ns X2 d2 st r b w h.r0 h.c0 h.r1 h.c1 h.r2 h.c2 hs).mono ?_
  rintro e w' ⟨v, rfl, hr, hb⟩
  obtain ⟨A, c, rfl⟩ := Kd.R_slice hr
  exact ⟨A, c, rfl, hr, hb⟩
theorem toS_at (k : Nat) (A0 : Option Addr) (c0 : Nat) (l : List LS) (L : List SD) (w : World) (hr : Kd.C k135 w A0 l.length l) (hc : l.length ≤ c0) (h : laws_toSoundS.f k l = some L) :
    Calls Try.prog 42 #[.slice A0 l.length c0] w fun e w' => ∃ (A : Option Addr) (c : Nat), e = .returned (.slice A L.length c) ∧ Kd.S k138 138 w' w.heap.size (fun _ => True) (.slice A L.length c) L ∧ Below w.heap.size w w' := by
  refine (laws_toSoundS.calls k A0 c0 l L w hr hc h).mono ?_
  rintro e w' ⟨v, rfl, hs, hb⟩
  obtain ⟨A, c, rfl⟩ := Kd.S_slice hs
  exact ⟨A, c, rfl, hs, hb⟩
theorem toT_at (k : Nat) (A0 : Option Addr) (c0 : Nat) (l L : List ByteArray) (w : World) (hr : Kd.C Kd.string w A0 l.length l) (hc : l.length ≤ c0) (h : laws_toStringS.f k l = some L) :
    Calls Try.prog 62 #[.slice A0 l.length c0] w fun e w' => ∃ (A : Option Addr) (c : Nat), e = .returned (.slice A L.length c) ∧ Kd.R Kd.string 9 w' w.heap.size (fun _ => True) (.slice A L.length c) L ∧ Below w.heap.size w w' := by
  refine (laws_toStringS.calls k A0 c0 l L w hr hc h).mono ?_
  rintro e w' ⟨v, rfl, hs, hb⟩
  obtain ⟨A, c, rfl⟩ := Kd.R_slice hs
  exact ⟨A, c, rfl, hs, hb⟩
theorem toB_at (k : Nat) (A0 : Option Addr) (c0 : Nat) (l L : List Bool) (w : World) (hr : Kd.C Kd.bool w A0 l.length l) (hc : l.length ≤ c0) (h : laws_toBoolS.f k l = some L) :
    Calls Try.prog 63 #[.slice A0 l.length c0] w fun e w' => ∃ (A : Option Addr) (c : Nat), e = .returned (.slice A L.length c) ∧ Kd.R Kd.bool 4 w' w.heap.size (fun _ => True) (.slice A L.length c) L ∧ Below w.heap.size w w' := by
  refine (laws_toBoolS.calls k A0 c0 l L w hr hc h).mono ?_
  rintro e w' ⟨v, rfl, hs, hb⟩
  obtain ⟨A, c, rfl⟩ := Kd.R_slice hs
  exact ⟨A, c, rfl, hs, hb⟩
end Go.Proofs.Ytoiaojdkgagblaa.Lol
