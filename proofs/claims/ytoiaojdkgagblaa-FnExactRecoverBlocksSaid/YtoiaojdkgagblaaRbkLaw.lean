/- RecoverBlocks: the walk of the law, out of its callees' contracts. -/
import Derived.Test.YtoiaojdkgagblaaRbm
import Derived.Test.YtoiaojdkgagblaaRbkPure
set_option linter.unusedVariables false
set_option linter.unusedSimpArgs false
namespace Go.Proofs.Ytoiaojdkgagblaa.Rbm
open Go.RowKit Go.Proofs.YtoiaojdkgagblaaW.PrintWords Go.Proofs.YtoiaojdkgagblaaW.PrintLast Go.Proofs.YtoiaojdkgagblaaW.PrintMore Go.Proofs.YtoiaojdkgagblaaW.PrintFl Go.Proofs.Ytoiaojdkgagblaa Go.Proofs.Ytoiaojdkgagblaa.PFnExactRecoverBlocks
theorem bel {B : Nat} {w w1 w2 : World} (h1 : Below B w w1) (h2 : Below w1.heap.size w1 w2) (hB : B ≤ w1.heap.size) : Below B w w2 := h1.trans (h2.mono hB)
set_option maxHeartbeats 8000000 in
set_option maxRecDepth 100000 in
theorem law_far (s : ByteArray) (w : World) (hs : (s.size : Int) > 1048576) : Calls Try.prog 6 #[.string s] w fun e w' => e = .returned (.bool true) ∧ Below w.heap.size w w' := by
  have c0 : decide (1048576 < (s.size : Int)) = true := decide_eq_true hs
  clear hs
  go_enter Try.func6, Try.ntmps6
  go_wp2
  go_ret
  exact ⟨rfl, Below.refl _ _⟩
theorem S_C {α : Type} {d : Kd α} {e : Nat} {w : World} {base : Nat} {ok : Nat → Prop} {A : Option Addr} {n c : Nat} {xs : List α} (h : Kd.S d e w base ok (.slice A n c) xs) : Kd.C d w A n xs ∧ n ≤ c ∧ n = xs.length := by
  obtain ⟨h1, h2, h3⟩ := Kd.S_reads' h
  subst h1
  exact ⟨h3, h2, rfl⟩
theorem held_n (k : Nat) (A : Option Addr) (c n : Nat) (ms : List BL) (a m : Int) (W : World) (hn : n = ms.length) (hC : Kd.C k28 W A n ms) (hc : n ≤ c) (h : laws_heldBlockS.f k ms a = some m) :
    Calls Try.prog 39 #[.slice A n c, .int .i64 a] W fun e w' => e = .returned (.int .i64 m) ∧ Drawn0 W w' := by
  subst hn
  exact laws_heldBlockS.calls k A c ms a m W hC hc h
set_option maxHeartbeats 8000000 in
set_option maxRecDepth 100000 in
theorem law_calls (k : Nat) (s : ByteArray) (l : List BL) (n : Int) (ok : Bool) (m : Nat) (ms : List BL) (w : World) (hs : ¬ (s.size : Int) > 1048576) (hll : l.length ≤ 1000000)
    (h1 : spec_RecoverBlocks.f k s = some (l, n, ok)) (h2 : impl_RecoverBlocks.f k s = some (l, n, ok)) (h3 : laws_eqBlockS.f k l l = some true) (h4 : mb0 k l 1 0 = some ((m : Int), ms)) (h5 : laws_heldBlockS.f k ms 1 = some (m : Int)) :
    Calls Try.prog 6 #[.string s] w fun e w' => e = .returned (.bool true) ∧ Below w.heap.size w w' := by
  have c0 : decide (1048576 < (s.size : Int)) = false := decide_eq_false hs
  have H1 := Lib.hid (fun W => spec_RecoverBlocks.calls k s l n ok W h1)
  have H2 := Lib.hid (fun W => impl_RecoverBlocks.calls k s l n ok W h2)
  have H3 := Lib.hid h3
  have H4 := Lib.hid h4
  have H5 := Lib.hid h5
  have c1 : decide ((m : Int) < 0) = false := decide_eq_false (by omega)
  have c2 : ((n : Int) != n) = false := bne_self_eq_false _
  have c3 : (ok != ok) = false := bne_self_eq_false _
  clear hs h1 h2 h3 h4 h5
  go_enter Try.func6, Try.ntmps6
  have M1 : True := trivial
  have M2 : True := trivial
  have M3 : True := trivial
  go_wp2_with (first
    | (go_at_call 36; (with_reducible refine (H1.out _).mono ?_); rintro e w1 ⟨v1, rfl, hs1, hb1⟩; obtain ⟨A1, cc1, rfl⟩ := Kd.S_slice hs1; have HS1 := Lib.hid hs1; have HB1 := Lib.hid hb1; clear hs1 hb1)
    | (go_at_call 18; clear M1; (with_reducible refine (H2.out _).mono ?_); rintro e w2 ⟨v2, rfl, hs2, hb2⟩; obtain ⟨A2, cc2, rfl⟩ := Kd.S_slice hs2; have HS2 := Lib.hid hs2; have HB2 := Lib.hid hb2; clear hs2 hb2)
    | (go_at_call 18; (with_reducible refine (H2.out _).mono ?_); rintro e w6 ⟨v6, rfl, hs6, hb6⟩; obtain ⟨A6, cc6, rfl⟩ := Kd.S_slice hs6; have HS6 := Lib.hid hs6; have HB6 := Lib.hid hb6; clear hs6 hb6)
    | (go_at_call 37; clear M2; (with_reducible refine (laws_eqBlockS.calls k A2 cc2 l A1 cc1 l true _ (S_C HS2.out).1 (S_C HS2.out).2.1 (Kd.C_below (S_C HS1.out).1 HB2.out) (S_C HS1.out).2.1 H3.out).mono ?_); rintro e w3 ⟨rfl, hb3⟩; have HB3 := Lib.hid hb3; clear hb3)
    | (go_at_call 37; (with_reducible refine (laws_eqBlockS.calls k A6 cc6 l A1 cc1 l true _ (S_C HS6.out).1 (S_C HS6.out).2.1 (Kd.C_below (Kd.C_drewN (Kd.C_below (S_C HS1.out).1 HB4.out) _) HB6.out) (S_C HS1.out).2.1 H3.out).mono ?_); rintro e w7 ⟨rfl, hb7⟩; have HB7 := Lib.hid hb7; clear hb7)
    | (go_at_call 38; (with_reducible refine (mark_calls k (fun _ => True) (.slice A2 l.length cc2) l 1 (m : Int) ms w1 _ (bel HB2.out HB3.out HB2.out.size) (Kd.S_below HS2.out HB3.out) hll H4.out).mono ?_); rintro e w4 ⟨rfl, hs4, hb4⟩; have HS4 := Lib.hid hs4; have HB4 := Lib.hid hb4; clear hs4 hb4)
    | (go_at_call 39; clear M3; (with_reducible refine (held_n k A2 cc2 l.length ms 1 m _ (S_C HS4.out).2.2 (S_C HS4.out).1 (S_C HS4.out).2.1 H5.out).mono ?_); rintro e w5 ⟨rfl, ⟨nd, rfl⟩⟩)
    | (go_at_call 39; (with_reducible refine (held_n k A2 cc2 l.length ms 1 m _ (S_C HS4.out).2.2 (Kd.C_below (Kd.C_below (Kd.C_drewN (S_C HS4.out).1 _) HB6.out) HB7.out) (S_C HS4.out).2.1 H5.out).mono ?_); rintro e w8 ⟨rfl, ⟨nd2, rfl⟩⟩))
  go_ret
  exact ⟨rfl, pw_below_drewN (bel (bel (pw_below_drewN (bel HB1.out HB4.out HB1.out.size) _) HB6.out (pw_below_drewN (bel HB1.out HB4.out HB1.out.size) _).size) HB7.out (bel (pw_below_drewN (bel HB1.out HB4.out HB1.out.size) _) HB6.out (pw_below_drewN (bel HB1.out HB4.out HB1.out.size) _).size).size) _⟩
/-- the law, at every text -/
theorem recoverBlocks_w (s : ByteArray) (w : World) (w0 : s.size ≤ 140737488351232) : Calls Try.prog 6 #[.string s] w fun e w' => e = .returned (.bool true) ∧ Below w.heap.size w w' := by
  by_cases hs : (s.size : Int) > 1048576
  · exact law_far s w hs
  · obtain ⟨k, l, n, ok, m, ms, h8, h1, h2, h3, h4, h5⟩ := RbkPure.all_some s (by omega)
    exact law_calls k s l n ok m ms w hs (by omega) h1 h2 h3 h4 h5
end Go.Proofs.Ytoiaojdkgagblaa.Rbm
