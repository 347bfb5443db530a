/- impl.numberWords by hand: what it comes to, with the tables where they are laid. -/
import Derived.Test.YtiebjnppmcpffaaDoorGl
import Derived.Test.YtiebjnppmcpffaaDoorWMore
import Derived.Test.YtiebjnppmcpffaaDoorWLast
import Derived.Test.YtiebjnppmcpffaaDoorProg
import Derived.Deep.QuietTactic
import Derived.BigQuiet
import Derived.WalkKit
import Derived.Lib.Hide
set_option linter.unusedVariables false
set_option linter.unusedSimpArgs false
namespace Go.Proofs.YtiebjnppmcpffaaDoor
open Go.RowKit Go.Proofs.YtiebjnppmcpffaaDoorW.PrintWords Go.Proofs.YtiebjnppmcpffaaDoorW.PrintLast Go.Proofs.YtiebjnppmcpffaaDoorW.PrintMore
set_option maxHeartbeats 8000000 in
set_option maxRecDepth 100000 in
theorem nw_first (n : Int) (w : World) (hg : GL w) (h0 : 0 ≤ n) (h1 : n < 20) :
    Calls Tryd.prog 19 #[.int .i64 n] w fun e w' => e = .returned (.string (rdOf ByteArray.empty smallL n)) ∧ Drawn0 w w' := by
  have c1 : decide (n < 20) = true := decide_eq_true h1
  have c0 : decide (0 ≤ n) = true := decide_eq_true h0
  have hl : (smallL.length : Int) = 20 := rfl
  have hx := tab_rd hg.1 n h0 (by omega)
  clear hl hg
  have p1 := eq_true h1
  have p0 := eq_true h0
  go_enter Tryd.func19, Tryd.ntmps19
  go_wp2
  go_ret
  exact ⟨rfl, Drawn0.refl w⟩
theorem w64 {x : Int} (h0 : -9223372036854775808 ≤ x) (h1 : x ≤ 9223372036854775807) : wrap64 x = x := by
  unfold wrap64; omega
/-- a word and what is more behind it -/
def wordMore (s : ByteArray) (r : Int) (t : ByteArray) : ByteArray := if 0 < r then s ++ (⟨#[32]⟩ ++ t) else s
def sHundred : ByteArray := ⟨#[32, 104, 117, 110, 100, 114, 101, 100]⟩
def sThousand : ByteArray := ⟨#[32, 116, 104, 111, 117, 115, 97, 110, 100]⟩
set_option maxHeartbeats 800000 in
set_option maxRecDepth 100000 in
theorem nw_ten (n q r : Int) (t : ByteArray) (w : World) (hg : GL w) (h0 : 20 ≤ n) (h1 : n < 100) (hq : n.tdiv 10 = q) (hr : n.tmod 10 = r) (ht : t.size ≤ 100) (hz : (rdOf ByteArray.empty tenL q).size ≤ 100)
    (ih : 0 < r → ∀ W, GL W → Calls Tryd.prog 19 #[.int .i64 r] W fun e w' => e = .returned (.string t) ∧ Drawn0 W w') :
    Calls Tryd.prog 19 #[.int .i64 n] w fun e w' => e = .returned (.string (wordMore (rdOf ByteArray.empty tenL q) r t)) ∧ Drawn0 w w' := by
  have c1 : decide (n < 20) = false := decide_eq_false (by omega)
  have hl : (tenL.length : Int) = 10 := rfl
  have q0 : 0 ≤ q := by rw [← hq, Int.tdiv_eq_ediv_of_nonneg (by omega)]; omega
  have q1 : q < 10 := by rw [← hq, Int.tdiv_eq_ediv_of_nonneg (by omega)]; omega
  have r0 : 0 ≤ r := by rw [← hr, Int.tmod_eq_emod_of_nonneg (by omega)]; omega
  have r1 : r < 10 := by rw [← hr, Int.tmod_eq_emod_of_nonneg (by omega)]; omega
  have p2 : (n < 20) = False := eq_false (by omega)
  have hx := tab_rd hg.2 q q0 (by omega)
  have c2 : decide (n < 100) = true := decide_eq_true h1
  have p3 : (n < 100) = True := eq_true h1
  have hqw : wrap64 (n.tdiv 10) = q := by rw [hq, w64 (by omega) (by omega)]
  have HG := Lib.hid hg
  have HI := Lib.hid ih
  clear hl hg hq ih
  have p0 : (0 ≤ q) = True := eq_true q0
  have p1 : (q < 10) = True := eq_true q1
  clear h0 h1
  by_cases hp : 0 < r
  · have hd : decide (0 < r) = true := decide_eq_true hp
    have hm : wordMore (rdOf ByteArray.empty tenL q) r t = (rdOf ByteArray.empty tenL q) ++ (⟨#[32]⟩ ++ t) := if_pos hp
    rw [hm]
    clear hm
    go_enter Tryd.func19, Tryd.ntmps19
    go_wp2_with (first | ((with_reducible refine gate_callee (f := 19) rfl ?_); refine goesL_ (some 39) rfl rfl Tryd.func19 (by kernel_rfl) rfl #[.int .i64 r] rfl (by (try simp only [List.map_toArray, List.map_cons, List.map_nil]); first | done | rfl) ?_; (with_reducible refine (HI.out hp _ HG.out).mono ?_); rintro e w1 ⟨rfl, ⟨nd, rfl⟩⟩; refine ⟨_, rfl, ?_⟩))
    go_ret
    exact ⟨rfl, ⟨_, rfl⟩⟩
  · have hd : decide (0 < r) = false := decide_eq_false hp
    have p4 : (0 < r) = False := eq_false hp
    have hm : wordMore (rdOf ByteArray.empty tenL q) r t = (rdOf ByteArray.empty tenL q) := if_neg hp
    rw [hm]
    clear hm hp
    go_enter Tryd.func19, Tryd.ntmps19
    go_wp2
    go_ret
    exact ⟨rfl, Drawn0.refl w⟩
set_option maxHeartbeats 800000 in
set_option maxRecDepth 100000 in
theorem nw_hun (n q r : Int) (t : ByteArray) (w : World) (hg : GL w) (h0 : 100 ≤ n) (h1 : n < 1000) (hq : n.tdiv 100 = q) (hr : n.tmod 100 = r) (ht : t.size ≤ 100) (hz : (rdOf ByteArray.empty smallL q).size ≤ 100)
    (ih : 0 < r → ∀ W, GL W → Calls Tryd.prog 19 #[.int .i64 r] W fun e w' => e = .returned (.string t) ∧ Drawn0 W w') :
    Calls Tryd.prog 19 #[.int .i64 n] w fun e w' => e = .returned (.string (wordMore (rdOf ByteArray.empty smallL q ++ (⟨#[32, 104, 117, 110, 100, 114, 101, 100]⟩ : ByteArray)) r t)) ∧ Drawn0 w w' := by
  have c1 : decide (n < 20) = false := decide_eq_false (by omega)
  have hl : (smallL.length : Int) = 20 := rfl
  have q0 : 0 ≤ q := by rw [← hq, Int.tdiv_eq_ediv_of_nonneg (by omega)]; omega
  have q1 : q < 20 := by rw [← hq, Int.tdiv_eq_ediv_of_nonneg (by omega)]; omega
  have r0 : 0 ≤ r := by rw [← hr, Int.tmod_eq_emod_of_nonneg (by omega)]; omega
  have r1 : r < 100 := by rw [← hr, Int.tmod_eq_emod_of_nonneg (by omega)]; omega
  have p2 : (n < 20) = False := eq_false (by omega)
  have hx := tab_rd hg.1 q q0 (by omega)
  have c2 : decide (n < 100) = false := decide_eq_false (by omega)
  have p3 : (n < 100) = False := eq_false (by omega)
  have c3 : decide (n < 1000) = true := decide_eq_true h1
  have p5 : (n < 1000) = True := eq_true h1
  have hqw : wrap64 (n.tdiv 100) = q := by rw [hq, w64 (by omega) (by omega)]
  have HG := Lib.hid hg
  have HI := Lib.hid ih
  clear hl hg hq ih
  have p0 : (0 ≤ q) = True := eq_true q0
  have p1 : (q < 20) = True := eq_true q1
  clear h0 h1
  by_cases hp : 0 < r
  · have hd : decide (0 < r) = true := decide_eq_true hp
    have hm : wordMore (rdOf ByteArray.empty smallL q ++ (⟨#[32, 104, 117, 110, 100, 114, 101, 100]⟩ : ByteArray)) r t = (rdOf ByteArray.empty smallL q ++ (⟨#[32, 104, 117, 110, 100, 114, 101, 100]⟩ : ByteArray)) ++ (⟨#[32]⟩ ++ t) := if_pos hp
    rw [hm]
    clear hm
    go_enter Tryd.func19, Tryd.ntmps19
    go_wp2_with (first | ((with_reducible refine gate_callee (f := 19) rfl ?_); refine goesL_ (some 39) rfl rfl Tryd.func19 (by kernel_rfl) rfl #[.int .i64 r] rfl (by (try simp only [List.map_toArray, List.map_cons, List.map_nil]); first | done | rfl) ?_; (with_reducible refine (HI.out hp _ HG.out).mono ?_); rintro e w1 ⟨rfl, ⟨nd, rfl⟩⟩; refine ⟨_, rfl, ?_⟩))
    go_ret
    exact ⟨rfl, ⟨_, rfl⟩⟩
  · have hd : decide (0 < r) = false := decide_eq_false hp
    have p4 : (0 < r) = False := eq_false hp
    have hm : wordMore (rdOf ByteArray.empty smallL q ++ (⟨#[32, 104, 117, 110, 100, 114, 101, 100]⟩ : ByteArray)) r t = (rdOf ByteArray.empty smallL q ++ (⟨#[32, 104, 117, 110, 100, 114, 101, 100]⟩ : ByteArray)) := if_neg hp
    rw [hm]
    clear hm hp
    go_enter Tryd.func19, Tryd.ntmps19
    go_wp2
    go_ret
    exact ⟨rfl, Drawn0.refl w⟩
set_option maxHeartbeats 800000 in
set_option maxRecDepth 100000 in
theorem nw_tho (n q r : Int) (s t : ByteArray) (w : World) (hg : GL w) (h0 : 1000 ≤ n) (h1 : n < 1000000) (hq : n.tdiv 1000 = q) (hr : n.tmod 1000 = r) (ht : t.size ≤ 100) (hz : s.size ≤ 100)
    (ihq : ∀ W, GL W → Calls Tryd.prog 19 #[.int .i64 q] W fun e w' => e = .returned (.string s) ∧ Drawn0 W w')
    (ih : 0 < r → ∀ W, GL W → Calls Tryd.prog 19 #[.int .i64 r] W fun e w' => e = .returned (.string t) ∧ Drawn0 W w') :
    Calls Tryd.prog 19 #[.int .i64 n] w fun e w' => e = .returned (.string (wordMore (s ++ (⟨#[32, 116, 104, 111, 117, 115, 97, 110, 100]⟩ : ByteArray)) r t)) ∧ Drawn0 w w' := by
  have c1 : decide (n < 20) = false := decide_eq_false (by omega)
  have q0 : 0 ≤ q := by rw [← hq, Int.tdiv_eq_ediv_of_nonneg (by omega)]; omega
  have q1 : q < 1000 := by rw [← hq, Int.tdiv_eq_ediv_of_nonneg (by omega)]; omega
  have r0 : 0 ≤ r := by rw [← hr, Int.tmod_eq_emod_of_nonneg (by omega)]; omega
  have r1 : r < 1000 := by rw [← hr, Int.tmod_eq_emod_of_nonneg (by omega)]; omega
  have p2 : (n < 20) = False := eq_false (by omega)
  have c2 : decide (n < 100) = false := decide_eq_false (by omega)
  have p3 : (n < 100) = False := eq_false (by omega)
  have c3 : decide (n < 1000) = false := decide_eq_false (by omega)
  have p5 : (n < 1000) = False := eq_false (by omega)
  have hqw : wrap64 (n.tdiv 1000) = q := by rw [hq, w64 (by omega) (by omega)]
  have HG := Lib.hid hg
  have HI := Lib.hid ih
  have HQ := Lib.hid ihq
  clear hg hq ih ihq
  clear h0 h1
  by_cases hp : 0 < r
  · have hd : decide (0 < r) = true := decide_eq_true hp
    have hm : wordMore (s ++ (⟨#[32, 116, 104, 111, 117, 115, 97, 110, 100]⟩ : ByteArray)) r t = (s ++ (⟨#[32, 116, 104, 111, 117, 115, 97, 110, 100]⟩ : ByteArray)) ++ (⟨#[32]⟩ ++ t) := if_pos hp
    rw [hm]
    clear hm
    go_enter Tryd.func19, Tryd.ntmps19
    go_wp2_with (first | ((with_reducible refine gate_callee (f := 19) rfl ?_); refine goesL_ (some 6) rfl rfl Tryd.func19 (by kernel_rfl) rfl #[.int .i64 q] rfl (by (try simp only [List.map_toArray, List.map_cons, List.map_nil]); first | done | rfl | (rw [← hqw]; rfl)) ?_; (with_reducible refine (HQ.out _ HG.out).mono ?_); rintro e w1 ⟨rfl, ⟨nd, rfl⟩⟩; refine ⟨_, rfl, ?_⟩) | ((with_reducible refine gate_callee (f := 19) rfl ?_); refine goesL_ (some 39) rfl rfl Tryd.func19 (by kernel_rfl) rfl #[.int .i64 r] rfl (by (try simp only [List.map_toArray, List.map_cons, List.map_nil]); first | done | rfl) ?_; (with_reducible refine (HI.out hp _ (GL_drewN HG.out _)).mono ?_); rintro e w1 ⟨rfl, ⟨nd, rfl⟩⟩; refine ⟨_, rfl, ?_⟩))
    go_ret
    exact ⟨rfl, ⟨_, rfl⟩⟩
  · have hd : decide (0 < r) = false := decide_eq_false hp
    have p4 : (0 < r) = False := eq_false hp
    have hm : wordMore (s ++ (⟨#[32, 116, 104, 111, 117, 115, 97, 110, 100]⟩ : ByteArray)) r t = (s ++ (⟨#[32, 116, 104, 111, 117, 115, 97, 110, 100]⟩ : ByteArray)) := if_neg hp
    rw [hm]
    clear hm hp
    go_enter Tryd.func19, Tryd.ntmps19
    go_wp2_with (first | ((with_reducible refine gate_callee (f := 19) rfl ?_); refine goesL_ (some 6) rfl rfl Tryd.func19 (by kernel_rfl) rfl #[.int .i64 q] rfl (by (try simp only [List.map_toArray, List.map_cons, List.map_nil]); first | done | rfl | (rw [← hqw]; rfl)) ?_; (with_reducible refine (HQ.out _ HG.out).mono ?_); rintro e w1 ⟨rfl, ⟨nd, rfl⟩⟩; refine ⟨_, rfl, ?_⟩))
    go_ret
    exact ⟨rfl, ⟨_, rfl⟩⟩
/-- the words of the numbers less than 100, 1000, 1000000 -/
def nwA (n : Int) : ByteArray := rdOf ByteArray.empty smallL n
def nwB (n : Int) : ByteArray := if n < 20 then nwA n else wordMore (rdOf ByteArray.empty tenL (n.tdiv 10)) (n.tmod 10) (nwA (n.tmod 10))
def nwC (n : Int) : ByteArray := if n < 100 then nwB n else wordMore (rdOf ByteArray.empty smallL (n.tdiv 100) ++ (⟨#[32, 104, 117, 110, 100, 114, 101, 100]⟩ : ByteArray)) (n.tmod 100) (nwB (n.tmod 100))
def nwD (n : Int) : ByteArray := if n < 1000 then nwC n else wordMore (nwC (n.tdiv 1000) ++ (⟨#[32, 116, 104, 111, 117, 115, 97, 110, 100]⟩ : ByteArray)) (n.tmod 1000) (nwC (n.tmod 1000))
theorem rdOf_size {ss : List ByteArray} {k : Nat} (h : ss.all (fun s => s.size ≤ k) = true) (n : Int) : (rdOf ByteArray.empty ss n).size ≤ k := by
  unfold rdOf
  rw [List.getD_eq_getElem?_getD]
  cases e : ss[n.toNat]? with
  | none => exact Nat.zero_le _
  | some s => have := List.all_eq_true.1 h s (List.mem_of_getElem? e); simpa using this
theorem wordMore_size (s t : ByteArray) (r : Int) : (wordMore s r t).size ≤ s.size + 1 + t.size := by
  unfold wordMore
  split
  · rw [ByteArray.size_append, ByteArray.size_append]; show s.size + (1 + t.size) ≤ _; omega
  · omega
theorem nwA_size (n : Int) : (nwA n).size ≤ 9 := rdOf_size (by decide) n
theorem ten_size (n : Int) : (rdOf ByteArray.empty tenL n).size ≤ 7 := rdOf_size (by decide) n
theorem nwB_size (n : Int) : (nwB n).size ≤ 17 := by
  unfold nwB; split
  · have := nwA_size n; omega
  · have := wordMore_size (rdOf ByteArray.empty tenL (n.tdiv 10)) (nwA (n.tmod 10)) (n.tmod 10); have := nwA_size (n.tmod 10); have := ten_size (n.tdiv 10); omega
theorem nwC_size (n : Int) : (nwC n).size ≤ 35 := by
  unfold nwC; split
  · have := nwB_size n; omega
  · have := wordMore_size (rdOf ByteArray.empty smallL (n.tdiv 100) ++ (⟨#[32, 104, 117, 110, 100, 114, 101, 100]⟩ : ByteArray)) (nwB (n.tmod 100)) (n.tmod 100); have h1 := nwB_size (n.tmod 100); have h2 := nwA_size (n.tdiv 100)
    have h3 : (rdOf ByteArray.empty smallL (n.tdiv 100) ++ (⟨#[32, 104, 117, 110, 100, 114, 101, 100]⟩ : ByteArray)).size = (rdOf ByteArray.empty smallL (n.tdiv 100)).size + 8 := by rw [ByteArray.size_append]; rfl
    unfold nwA at h2; omega
theorem nwD_size (n : Int) : (nwD n).size ≤ 80 := by
  unfold nwD; split
  · have := nwC_size n; omega
  · have := wordMore_size (nwC (n.tdiv 1000) ++ (⟨#[32, 116, 104, 111, 117, 115, 97, 110, 100]⟩ : ByteArray)) (nwC (n.tmod 1000)) (n.tmod 1000); have h1 := nwC_size (n.tmod 1000); have h2 := nwC_size (n.tdiv 1000)
    have h3 : (nwC (n.tdiv 1000) ++ (⟨#[32, 116, 104, 111, 117, 115, 97, 110, 100]⟩ : ByteArray)).size = (nwC (n.tdiv 1000)).size + 9 := by rw [ByteArray.size_append]; rfl
    omega
theorem div_mod (n d : Int) (h : 0 ≤ n) (hd : 0 < d) : 0 ≤ n.tdiv d ∧ d * n.tdiv d + n.tmod d = n ∧ 0 ≤ n.tmod d ∧ n.tmod d < d := by
  rw [Int.tdiv_eq_ediv_of_nonneg h, Int.tmod_eq_emod_of_nonneg h]
  exact ⟨Int.ediv_nonneg h (by omega), Int.mul_ediv_add_emod n d, Int.emod_nonneg n (by omega), Int.emod_lt_of_pos n hd⟩
theorem nwB_calls (n : Int) (w : World) (hg : GL w) (h0 : 0 ≤ n) (h1 : n < 100) : Calls Tryd.prog 19 #[.int .i64 n] w fun e w' => e = .returned (.string (nwB n)) ∧ Drawn0 w w' := by
  unfold nwB
  by_cases h : n < 20
  · rw [if_pos h]; exact nw_first n w hg h0 h
  · rw [if_neg h]
    obtain ⟨a, b, c, d⟩ := div_mod n 10 h0 (by omega)
    exact nw_ten n _ _ _ w hg (by omega) h1 rfl rfl (by have := nwA_size (n.tmod 10); omega) (by have := ten_size (n.tdiv 10); omega) (fun _ W hW => nw_first _ W hW c (by omega))
theorem nwC_calls (n : Int) (w : World) (hg : GL w) (h0 : 0 ≤ n) (h1 : n < 1000) : Calls Tryd.prog 19 #[.int .i64 n] w fun e w' => e = .returned (.string (nwC n)) ∧ Drawn0 w w' := by
  unfold nwC
  by_cases h : n < 100
  · rw [if_pos h]; exact nwB_calls n w hg h0 h
  · rw [if_neg h]
    obtain ⟨a, b, c, d⟩ := div_mod n 100 h0 (by omega)
    exact nw_hun n _ _ _ w hg (by omega) h1 rfl rfl (by have := nwB_size (n.tmod 100); omega) (by have := nwA_size (n.tdiv 100); unfold nwA at this; omega) (fun _ W hW => nwB_calls _ W hW c (by omega))
theorem nwD_calls (n : Int) (w : World) (hg : GL w) (h0 : 0 ≤ n) (h1 : n < 1000000) : Calls Tryd.prog 19 #[.int .i64 n] w fun e w' => e = .returned (.string (nwD n)) ∧ Drawn0 w w' := by
  unfold nwD
  by_cases h : n < 1000
  · rw [if_pos h]; exact nwC_calls n w hg h0 h
  · rw [if_neg h]
    obtain ⟨a, b, c, d⟩ := div_mod n 1000 h0 (by omega)
    exact nw_tho n _ _ _ _ w hg (by omega) h1 rfl rfl (by have := nwC_size (n.tmod 1000); omega) (by have := nwC_size (n.tdiv 1000); omega) (fun W hW => nwC_calls _ W hW a (by omega)) (fun _ W hW => nwC_calls _ W hW c (by omega))
end Go.Proofs.YtiebjnppmcpffaaDoor
