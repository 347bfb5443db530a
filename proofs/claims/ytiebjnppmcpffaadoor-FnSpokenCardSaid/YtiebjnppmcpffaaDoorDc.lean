/- impl.Decimal and impl.ReadDecimal by hand, over the shelf's contracts of strconv. -/
import Derived.Test.YtiebjnppmcpffaaDoorGb
import Derived.Test.YtiebjnppmcpffaaDoorWMore
import Derived.Test.YtiebjnppmcpffaaDoorWLast
import Derived.Test.YtiebjnppmcpffaaDoorProg
import Derived.Deep.QuietTactic
import Derived.BigQuiet
import Derived.WalkKit
import Derived.Lib.Hide
set_option linter.unusedVariables false
set_option linter.unusedSimpArgs false
namespace Go.Proofs.YtiebjnppmcpffaaDoor
open Go.RowKit Go.Proofs.YtiebjnppmcpffaaDoorW.PrintWords Go.Proofs.YtiebjnppmcpffaaDoorW.PrintLast Go.Proofs.YtiebjnppmcpffaaDoorW.PrintMore
set_option maxHeartbeats 800000 in
set_option maxRecDepth 100000 in
theorem decimal_calls (n : Int) (w : World) (hT : decTab w) (h0 : -9223372036854775808 ≤ n) (h1 : n ≤ 9223372036854775807) :
    Calls Tryd.prog 40 #[.int .i64 n] w fun e w' => e = .returned (.string ⟨(Lib.itoa n).toArray⟩) ∧ Below w.heap.size w w' := by
  have HC := Lib.hid (Tryd.strconv_FormatInt_10 n h0 h1 w hT)
  clear h0 h1 hT
  go_enter Tryd.func40, Tryd.ntmps40
  go_wp2_with (first | (go_at_call 52; (with_reducible refine HC.out.mono ?_); rintro e w1 ⟨rfl, k, os, rfl⟩))
  go_ret
  exact ⟨rfl, below_grow (pw_below_drewN (Below.refl _ _) k) (Nat.le_refl _) os⟩
set_option maxHeartbeats 800000 in
set_option maxRecDepth 100000 in
theorem within_calls (n lo hi : Int) (w : World) : Calls Tryd.prog 18 #[.int .i64 n, .int .i64 lo, .int .i64 hi] w fun e w' => e = .returned (.bool (decide (lo ≤ n) && decide (n ≤ hi))) ∧ Drawn0 w w' := by
  by_cases h1 : n ≥ lo
  · have c1 : decide (lo ≤ n) = true := decide_eq_true h1
    rw [c1, Bool.true_and]
    clear h1
    go_enter Tryd.func18, Tryd.ntmps18
    go_wp2
    go_ret
    exact ⟨rfl, Drawn0.refl w⟩
  · have c1 : decide (lo ≤ n) = false := decide_eq_false h1
    rw [c1, Bool.false_and]
    clear h1
    go_enter Tryd.func18, Tryd.ntmps18
    go_wp2
    go_ret
    exact ⟨rfl, Drawn0.refl w⟩
/-- a text that is no number of 64 bits -/
theorem readDec_bad (s : ByteArray) (w : World) (v : Int) (t : Nat) (hP : Calls Tryd.prog 39 #[.string s, .int .i64 10, .int .i64 64] w fun e w' => ∃ N, e = .returned (.tuple #[.int .i64 v, .iface t (.pointer (some ⟨N, 0, none⟩))]) ∧ Below w.heap.size w w') :
    Calls Tryd.prog 27 #[.string s] w fun e w' => e = .returned (.tuple #[.int .i64 0, .bool false]) ∧ Below w.heap.size w w' := by
  have HP := Lib.hid hP
  clear hP
  go_enter Tryd.func27, Tryd.ntmps27
  go_wp2_with (first | (go_at_call 39; (with_reducible refine HP.out.mono ?_); rintro e w1 ⟨N, rfl, hb⟩; have HB := Lib.hid hb; clear hb))
  go_ret2
  exact ⟨rfl, HB.out⟩
theorem below_drawn {w w1 : World} (h : Below w.heap.size w w1) (n : Nat) : Below w.heap.size w (w1.drewN n) := pw_below_drewN h n
/-- a number out of bounds -/
theorem readDec_far (s : ByteArray) (w : World) (v lo hi : Int) (hlo : lo = -1000000000000000) (hhi : hi = 1000000000000000) (hP : Calls Tryd.prog 39 #[.string s, .int .i64 10, .int .i64 64] w fun e w' => e = .returned (.tuple #[.int .i64 v, .nilIface]) ∧ Below w.heap.size w w')
    (hw : (decide (lo ≤ v) && decide (v ≤ hi)) = false) :
    Calls Tryd.prog 27 #[.string s] w fun e w' => e = .returned (.tuple #[.int .i64 0, .bool false]) ∧ Below w.heap.size w w' := by
  have HP := Lib.hid hP
  have HW := Lib.hid (within_calls v lo hi)
  rw [hw] at HW
  subst hlo hhi
  clear hP hw
  go_enter Tryd.func27, Tryd.ntmps27
  go_wp2_with (first | (go_at_call 39; (with_reducible refine HP.out.mono ?_); rintro e w1 ⟨rfl, hb⟩; have HB := Lib.hid hb; clear hb) | (go_at_call 18; (with_reducible refine (HW.out _).mono ?_); rintro e w2 ⟨rfl, ⟨nd, rfl⟩⟩))
  go_ret2
  exact ⟨rfl, below_drawn HB.out _⟩
/-- a number whose text is another one -/
theorem readDec_other (s : ByteArray) (w : World) (v lo hi : Int) (hT : decTab w) (hlo : lo = -1000000000000000) (hhi : hi = 1000000000000000) (hP : Calls Tryd.prog 39 #[.string s, .int .i64 10, .int .i64 64] w fun e w' => e = .returned (.tuple #[.int .i64 v, .nilIface]) ∧ Below w.heap.size w w')
    (hw : (decide (lo ≤ v) && decide (v ≤ hi)) = true) (hv : -9223372036854775808 ≤ v ∧ v ≤ 9223372036854775807) (d : ByteArray) (hd : (⟨(Lib.itoa v).toArray⟩ : ByteArray) = d) (e0 : (d.toList == s.toList) = false) (e1 : (d.toList != s.toList) = true) :
    Calls Tryd.prog 27 #[.string s] w fun e w' => e = .returned (.tuple #[.int .i64 0, .bool false]) ∧ Below w.heap.size w w' := by
  have HP := Lib.hid hP
  have HW := Lib.hid (within_calls v lo hi)
  have HD := Lib.hid (fun W hW => decimal_calls v W hW hv.1 hv.2)
  have HT := Lib.hid hT
  rw [hw] at HW
  rw [hd] at HD
  subst hlo hhi
  clear hP hw hT hd hv
  go_enter Tryd.func27, Tryd.ntmps27
  go_wp2_with (first | (go_at_call 39; (with_reducible refine HP.out.mono ?_); rintro e w1 ⟨rfl, hb⟩; have HB := Lib.hid hb; clear hb) | (go_at_call 18; (with_reducible refine (HW.out _).mono ?_); rintro e w2 ⟨rfl, ⟨nd, rfl⟩⟩) | (go_at_call 40; (with_reducible refine (HD.out _ (decTab_below HT.out (below_drawn HB.out _))).mono ?_); rintro e w3 ⟨rfl, hb3⟩; have HB3 := Lib.hid hb3; clear hb3))
  go_ret2
  exact ⟨rfl, (below_drawn HB.out _).trans (HB3.out.mono (below_drawn HB.out _).size)⟩
/-- a number -/
theorem readDec_good (s : ByteArray) (w : World) (v lo hi : Int) (hT : decTab w) (hlo : lo = -1000000000000000) (hhi : hi = 1000000000000000) (hP : Calls Tryd.prog 39 #[.string s, .int .i64 10, .int .i64 64] w fun e w' => e = .returned (.tuple #[.int .i64 v, .nilIface]) ∧ Below w.heap.size w w')
    (hw : (decide (lo ≤ v) && decide (v ≤ hi)) = true) (hv : -9223372036854775808 ≤ v ∧ v ≤ 9223372036854775807) (d : ByteArray) (hd : (⟨(Lib.itoa v).toArray⟩ : ByteArray) = d) (e0 : (d.toList == s.toList) = true) (e1 : (d.toList != s.toList) = false) :
    Calls Tryd.prog 27 #[.string s] w fun e w' => e = .returned (.tuple #[.int .i64 v, .bool true]) ∧ Below w.heap.size w w' := by
  have HP := Lib.hid hP
  have HW := Lib.hid (within_calls v lo hi)
  have HD := Lib.hid (fun W hW => decimal_calls v W hW hv.1 hv.2)
  have HT := Lib.hid hT
  rw [hw] at HW
  rw [hd] at HD
  subst hlo hhi
  clear hP hw hT hd hv
  go_enter Tryd.func27, Tryd.ntmps27
  go_wp2_with (first | (go_at_call 39; (with_reducible refine HP.out.mono ?_); rintro e w1 ⟨rfl, hb⟩; have HB := Lib.hid hb; clear hb) | (go_at_call 18; (with_reducible refine (HW.out _).mono ?_); rintro e w2 ⟨rfl, ⟨nd, rfl⟩⟩) | (go_at_call 40; (with_reducible refine (HD.out _ (decTab_below HT.out (below_drawn HB.out _))).mono ?_); rintro e w3 ⟨rfl, hb3⟩; have HB3 := Lib.hid hb3; clear hb3))
  go_ret2
  exact ⟨rfl, (below_drawn HB.out _).trans (HB3.out.mono (below_drawn HB.out _).size)⟩
/-- what a text is read as: a number that it is the text of, within the bounds -/
def readDec (s : ByteArray) : Int × Bool := match Lib.parseIntB 64 s.data.toList with
  | .ok v => if -1000000000000000 ≤ v ∧ v ≤ 1000000000000000 ∧ Lib.itoa v = s.data.toList then (v, true) else (0, false)
  | _ => (0, false)
theorem parse_below {w w' : World} (s : ByteArray) (h : w' = w ∨ ∃ t, w' = Lib.bytesWorld w 5 t) : Below w.heap.size w w' := by
  rcases h with rfl | ⟨t, rfl⟩
  · exact Below.refl _ _
  · exact bytes_below (Below.refl _ _) (Nat.le_refl _) _ t
theorem readDecimal_calls (s : ByteArray) (w : World) (hT : decTab w) (hE : errAt "strconv.ErrSyntax" w) (hR : errAt "strconv.ErrRange" w) (hs : s.size ≤ 281474976710656) :
    Calls Tryd.prog 27 #[.string s] w fun e w' => e = .returned (.tuple #[.int .i64 (readDec s).1, .bool (readDec s).2]) ∧ Below w.heap.size w w' := by
  unfold readDec
  cases hp : Lib.parseIntB 64 s.data.toList with
  | «syntax» =>
    obtain ⟨tp, p, hv⟩ := hE
    exact readDec_bad s w _ _ ((Tryd.strconv_ParseInt_10_at64_syntax_var s hs hp tp p w hv).mono fun e w' ⟨N, h1, _, _, h2⟩ => ⟨N, h1, h2⟩)
  | range =>
    obtain ⟨tp, p, hv⟩ := hR
    exact readDec_bad s w _ _ ((Tryd.strconv_ParseInt_10_at64_range_var s hs hp tp p w hv).mono fun e w' ⟨N, h1, _, _, h2⟩ => ⟨N, h1, h2⟩)
  | ok v =>
    have hP := (Tryd.strconv_ParseInt_10_at64_ok s (by omega) v hp w).mono fun e w' (h : _ ∧ _) => (⟨h.1, parse_below s h.2⟩ : e = .returned (.tuple #[.int .i64 v, .nilIface]) ∧ Below w.heap.size w w')
    show Calls _ _ _ _ fun e w' => e = .returned (.tuple #[.int .i64 (if -1000000000000000 ≤ v ∧ v ≤ 1000000000000000 ∧ Lib.itoa v = s.data.toList then (v, true) else (0, false)).1, .bool (if -1000000000000000 ≤ v ∧ v ≤ 1000000000000000 ∧ Lib.itoa v = s.data.toList then (v, true) else (0, false)).2]) ∧ Below w.heap.size w w'
    by_cases h1 : -1000000000000000 ≤ v ∧ v ≤ 1000000000000000
    · have hw : (decide (-1000000000000000 ≤ v) && decide (v ≤ 1000000000000000)) = true := by rw [decide_eq_true h1.1, decide_eq_true h1.2]; rfl
      by_cases h2 : Lib.itoa v = s.data.toList
      · have he : (⟨(Lib.itoa v).toArray⟩ : ByteArray).toList = s.toList := by rw [ByteArray.toList_eq, ByteArray.toList_eq]; exact h2
        rw [if_pos ⟨h1.1, h1.2, h2⟩]
        exact readDec_good s w v _ _ hT rfl rfl hP hw (by omega) _ rfl (beq_iff_eq.mpr he) (bne_eq_false_iff_eq.mpr he)
      · have he : ¬ (⟨(Lib.itoa v).toArray⟩ : ByteArray).toList = s.toList := by rw [ByteArray.toList_eq, ByteArray.toList_eq]; exact h2
        rw [if_neg (fun h => h2 h.2.2)]
        exact readDec_other s w v _ _ hT rfl rfl hP hw (by omega) _ rfl (beq_eq_false_iff_ne.mpr he) (bne_iff_ne.mpr he)
    · have hw : (decide (-1000000000000000 ≤ v) && decide (v ≤ 1000000000000000)) = false := by
        rcases Int.lt_or_le v (-1000000000000000) with h | h
        · rw [decide_eq_false (by omega : ¬ -1000000000000000 ≤ v)]; rfl
        · rw [decide_eq_false (by omega : ¬ v ≤ 1000000000000000), Bool.and_false]
      rw [if_neg (fun h => h1 ⟨h.1, h.2.1⟩)]
      exact readDec_far s w v _ _ rfl rfl hP hw
end Go.Proofs.YtiebjnppmcpffaaDoor
