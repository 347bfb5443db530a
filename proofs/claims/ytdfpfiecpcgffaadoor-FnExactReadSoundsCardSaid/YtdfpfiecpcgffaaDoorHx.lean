import Derived.Test.YtdfpfiecpcgffaaDoorGb
import Derived.Test.YtdfpfiecpcgffaaDoorFp
import Derived.Test.YtdfpfiecpcgffaaDoorWMore
import Derived.Test.YtdfpfiecpcgffaaDoorWLast
import Derived.Test.YtdfpfiecpcgffaaDoorProg
import Derived.Deep.QuietTactic
import Derived.BigQuiet
import Derived.WalkKit
import Derived.Lib.Hide
set_option linter.unusedVariables false
set_option linter.unusedSimpArgs false
namespace Go.Proofs.YtdfpfiecpcgffaaDoor
open Go.RowKit Go.Proofs.YtdfpfiecpcgffaaDoorW.PrintWords Go.Proofs.YtdfpfiecpcgffaaDoorW.PrintLast Go.Proofs.YtdfpfiecpcgffaaDoorW.PrintMore
set_option maxHeartbeats 800000 in
set_option maxRecDepth 100000 in
theorem pow2_calls (w : World) : Calls Tryd.prog 141 #[.int .i64 16] w fun e w' => e = .returned (.bool true) ∧ Drawn0 w w' := by
  go_enter Tryd.func141, Tryd.ntmps141
  go_wp2
  go_ret
  exact ⟨rfl, Drawn0.refl w⟩
def dbAt (w : World) : Prop := w.cell? ⟨8, 15, none⟩ = some (.int .u8 4)
theorem dbAt_below {w w' : World} (h : dbAt w) (hb : Below w.heap.size w w') : dbAt w' := (hb.cell (World.block_lt_of_cell? w _ h)).trans h
set_option maxHeartbeats 800000 in
set_option maxRecDepth 100000 in
theorem tz64_calls (w : World) (h : dbAt w) : Calls Tryd.prog 145 #[.int .u64 16] w fun e w' => e = .returned (.int .i64 4) ∧ Drawn0 w w' := by
  have hx : w.cell? ⟨8, 15, none⟩ = some (.int .u8 4) := h
  clear h
  have hi : IntKind.u64.wrap (bits BinOp.and IntKind.u64 16 (IntKind.u64.wrap (-16)) * 285870213051353865) / 288230376151711744 = 15 := by decide +kernel
  go_enter Tryd.func145, Tryd.ntmps145
  go_wp2
  go_ret
  exact ⟨rfl, Drawn0.refl w⟩
set_option maxHeartbeats 800000 in
set_option maxRecDepth 100000 in
theorem tz_calls (w : World) (h : dbAt w) : Calls Tryd.prog 142 #[.int .u64 16] w fun e w' => e = .returned (.int .i64 4) ∧ Drawn0 w w' := by
  have H := Lib.hid h
  clear h
  go_enter Tryd.func142, Tryd.ntmps142
  go_wp2_with (first | (go_at_call 145; (with_reducible refine (tz64_calls _ H.out).mono ?_); rintro e w1 ⟨rfl, ⟨nd, rfl⟩⟩))
  go_ret
  exact ⟨rfl, ⟨_, rfl⟩⟩
def hexd (n : Nat) : Int := ((if n < 10 then 48 + n else 87 + n : Nat) : Int)
def dgs (u : Nat) : Nat → List Int
  | 0 => []
  | j + 1 => hexd (u / 16 ^ j % 16) :: dgs u j
def hxCells (u j : Nat) : List Value := List.replicate (65 - j) (.int .u8 0) ++ (dgs u j).map (Value.int .u8)
structure HxRel (u : Nat) (w wr : World) (j : Nat) : Prop where
  row : wr.heap[w.heap.size]? = some (.cells (hxCells u j).toArray 160 (0, 0))
  below : Below w.heap.size w wr
theorem hx_ge (u j : Nat) (h0 : 4294967296 ≤ u) (hj : j < 8) : 16 ≤ u / 16 ^ j := by
  have h : j = 0 ∨ j = 1 ∨ j = 2 ∨ j = 3 ∨ j = 4 ∨ j = 5 ∨ j = 6 ∨ j = 7 := by omega
  rcases h with rfl | rfl | rfl | rfl | rfl | rfl | rfl | rfl <;> (simp only [Nat.reducePow]; omega)
theorem hx_next (u j : Nat) : u / 16 ^ (j + 1) = u / 16 ^ j / 16 := by rw [Nat.pow_succ, Nat.div_div_eq_div_mul]
theorem hx_len (u : Nat) : ∀ j, (dgs u j).length = j
  | 0 => rfl
  | j + 1 => by rw [dgs, List.length_cons, hx_len u j]
theorem hx_set (u j i : Nat) (hi : 65 - j = i + 1) : (hxCells u j).set i (.int .u8 (hexd (u / 16 ^ j % 16))) = hxCells u (j + 1) := by
  unfold hxCells
  rw [hi, show 65 - (j + 1) = i by omega, dgs, List.replicate_succ', List.append_assoc, List.set_append_right _ _ (by rw [List.length_replicate]; exact Nat.le_refl _), List.length_replicate, Nat.sub_self]
  rfl
theorem hx_at (u j i : Nat) (hi : 65 - j = i + 1) : (hxCells u j).toArray[i]? = some (.int .u8 0) := by
  unfold hxCells
  rw [hi, List.getElem?_toArray, List.getElem?_append_left (by rw [List.length_replicate]; omega), List.getElem?_replicate, if_pos (by omega)]
theorem hx_zero (u : Nat) : (hxCells u 0).toArray = Tryd.zeroCells160 := by kernel_rfl
def hexS : ByteArray := ⟨#[48, 49, 50, 51, 52, 53, 54, 55, 56, 57, 97, 98, 99, 100, 101, 102, 103, 104, 105, 106, 107, 108, 109, 110, 111, 112, 113, 114, 115, 116, 117, 118, 119, 120, 121, 122]⟩
theorem hexd_lit : ∀ m : Fin 16, ((hexS[m.1]'(Nat.lt_of_lt_of_le m.2 (by decide))).toNat : Int) = hexd m.1 := by decide
theorem hexd_at (m : Nat) (hm : m < 16) (h : m < hexS.size) : ((hexS[m]'h).toNat : Int) = hexd m := hexd_lit ⟨m, hm⟩
theorem hx_cells9 (u : Nat) (j : Nat) (hj : j < 9) : (hxCells u 9).toArray[56 + j]? = some (.int .u8 ((dgs u 9).getD j 0)) := by
  unfold hxCells
  rw [List.getElem?_toArray, List.getElem?_append_right (by rw [List.length_replicate]; omega), List.length_replicate, show 56 + j - (65 - 9) = j by omega, List.getElem?_map, List.getD_eq_getElem?_getD, List.getElem?_eq_getElem (by rw [hx_len]; exact hj)]
  rfl
theorem hx_reads (u : Nat) (w wr : World) (h : HxRel u w wr 8) (hu : u / 16 ^ 8 = 1) : ReadsInt (wr.setCell ⟨w.heap.size, 56, none⟩ (.int .u8 49)) .u8 (some ⟨w.heap.size, 56, none⟩) 9 (dgs u 9) := by
  have hr2 := blk_set h.row 56 (.int .u8 49)
  rw [List.setIfInBounds_toArray, show (49 : Int) = hexd (u / 16 ^ 8 % 16) by rw [hu]; rfl, hx_set u 8 56 rfl] at hr2
  rw [show (49 : Int) = hexd (u / 16 ^ 8 % 16) by rw [hu]; rfl]
  refine ⟨hx_len u 9, by decide, fun _ => ⟨_, rfl, fun j hj => ?_⟩⟩
  have h2 := (blk_cell hr2 (56 + j)).trans (hx_cells9 u j hj)
  have ha : (Addr.add ⟨w.heap.size, 56, none⟩ j) = ⟨w.heap.size, 56 + j, none⟩ := by
    unfold Addr.add
    rcases Nat.eq_zero_or_pos j with h0 | h0
    · subst h0; rfl
    · rw [if_neg (by omega)]
  rw [ha]; exact h2
set_option maxRecDepth 100000 in
theorem hx_conv (u : Nat) (w wr : World) (hh) (h : HxRel u w wr 8) (hu : u / 16 ^ 8 = 1) : (convert 96 9 (.slice (some ⟨w.heap.size, 56, none⟩) 9 9)).run Tryd.prog (wr.setCell ⟨w.heap.size, 56, none⟩ (.int .u8 (((⟨#[48, 49, 50, 51, 52, 53, 54, 55, 56, 57, 97, 98, 99, 100, 101, 102, 103, 104, 105, 106, 107, 108, 109, 110, 111, 112, 113, 114, 115, 116, 117, 118, 119, 120, 121, 122]⟩ : ByteArray)[1]'hh).toNat : Int))) = .ok (.string (strOfNums (dgs u 9))) (wr.setCell ⟨w.heap.size, 56, none⟩ (.int .u8 49)) :=
  string_of_reads (e := 5) (by kernel_rfl) (by kernel_rfl) (by kernel_rfl) (hx_reads u w wr h hu)
theorem wraps_u64' (n : Int) (h₀ : 0 ≤ n) (h₁ : n < 2 ^ 64) : IntKind.u64.wrap n = n := by rw [IntKind.wrap_u64]; omega
set_option maxHeartbeats 800000 in
set_option maxRecDepth 100000 in
theorem bits16 (u : Nat) (h0 : 4294967296 ≤ u) (h1 : u < 8589934592) (w : World) (hT : dbAt w) : Calls Tryd.prog 134 #[.slice none 0 0, .int .u64 u, .int .i64 16, .bool false, .bool false] w fun e w' => e = .returned (.tuple #[.slice none 0 0, .string (strOfNums (dgs u 9))]) ∧ Below w.heap.size w w' := by
  have HT := Lib.hid hT
  clear hT
  go_enter Tryd.func134, Tryd.ntmps134
  go_wp2_with (first | (go_at_call 141; (with_reducible refine (pow2_calls _).mono ?_); rintro e w1 ⟨rfl, ⟨nd, rfl⟩⟩) | (go_at_call 142; (with_reducible refine (tz_calls _ (dbAt_below HT.out (pw_below_drewN (Below.alloc (Below.refl _ _) (Nat.le_refl _) _) _))).mono ?_); rintro e w1 ⟨rfl, ⟨nd2, rfl⟩⟩))
  go_loopw [1, 13] (fun v1 v13 wr => ∃ j : Nat, j ≤ 8 ∧ v1 = .int .u64 ((u / 16 ^ j : Nat) : Int) ∧ v13 = .int .i64 ((65 - j : Nat) : Int) ∧ HxRel u w wr j) (fun v1 _ _ => (intOf v1).toNat)
  case atStart => exact ⟨0, Nat.zero_le _, by simp, rfl, ⟨by rw [hx_zero]; exact blk_drewN (blk_new w _) _, pw_below_drewN (Below.alloc (Below.refl _ _) (Nat.le_refl _) _) _⟩⟩
  case round =>
    obtain ⟨j, hj, rfl, rfl, hrl⟩ := hrel
    have HL := Lib.hid hrl
    clear hrl
    by_cases hlt : j < 8
    · obtain ⟨v, hv⟩ : ∃ v, u / 16 ^ j = v := ⟨_, rfl⟩
      have HV := Lib.hid hv
      have hv16 : 16 ≤ v := by rw [← hv]; exact hx_ge u j h0 hlt
      have hvb : v < 8589934592 := by rw [← hv]; exact Nat.lt_of_le_of_lt (Nat.div_le_self _ _) h1
      rw [hv]
      clear hv
      obtain ⟨i, hi⟩ : ∃ i, 65 - j = i + 1 := ⟨64 - j, by omega⟩
      have HI := Lib.hid hi
      rw [hi]
      have hi64 : i < 65 := by omega
      clear hi
      obtain ⟨m, hm⟩ : ∃ m, v % 16 = m := ⟨_, rfl⟩
      have hm16 : m < 16 := by omega
      have hb15 : bits BinOp.and IntKind.u64 (v : Int) 15 = (m : Int) := by
        have h := bits_mask .u64 64 (by decide) wraps_u64' 4 (by decide) (v : Int) (by omega) (by omega)
        rw [show ((2 : Int) ^ 4 - 1) = 15 from rfl, show ((2 : Int) ^ 4) = 16 from rfl] at h
        rw [h]; omega
      have HM := Lib.hid hm
      clear hm
      have pm : ((m : Int) < 36) = True := eq_true (by clear hb15; omega)
      have hxc : wr.cell? ⟨w.heap.size, i, none⟩ = some (.int .u8 0) := (blk_cell HL.out.row i).trans (hx_at u j i HI.out)
      have hxf : wr.frozen? ⟨w.heap.size, i, none⟩ = false := blk_frozen HL.out.row i
      have c1 : decide ((v : Int) ≥ 16) = true := decide_eq_true (by clear hb15; omega)
      have c2 : decide (16 ≤ v) = true := decide_eq_true hv16
      go_wp2
      have hw2 : u / 16 ^ (j + 1) = v / 16 := by rw [hx_next, HV.out]
      have hr2 := blk_set HL.out.row i (.int .u8 (hexd m))
      rw [List.setIfInBounds_toArray, ← HM.out, ← HV.out, hx_set u j i HI.out, HV.out, HM.out] at hr2
      refine ⟨⟨j + 1, hlt, by rw [hw2]; simp, by rw [show 65 - (j + 1) = i by have := HI.out; omega], ⟨?_, ?_⟩⟩, by simp [intOf]; omega⟩
      · have hd : ∀ hh, ((hexS[m]'hh).toNat : Int) = hexd m := fun hh => hexd_at m hm16 hh
        refine Eq.trans ?_ hr2
        congr 2
        exact congrArg (fun z => wr.setCell ⟨w.heap.size, i, none⟩ (Value.int .u8 z)) (hd _)
      · exact Below.setCell HL.out.below (p := ⟨w.heap.size, i, none⟩) (Nat.le_refl _) _
    · obtain rfl : j = 8 := by omega
      have hu1 : u / 16 ^ 8 = 1 := by simp only [Nat.reducePow]; omega
      rw [hu1]
      have hxc : wr.cell? ⟨w.heap.size, 56, none⟩ = some (.int .u8 0) := (blk_cell HL.out.row 56).trans (hx_at u 8 56 rfl)
      have hxf : wr.frozen? ⟨w.heap.size, 56, none⟩ = false := blk_frozen HL.out.row 56
      have HU := Lib.hid hu1
      clear hu1 hlt hj
      go_wp2
      rw [hx_conv u w wr _ HL.out HU.out]
      go_wp2
      go_ret2
      exact ⟨rfl, Below.setCell HL.out.below (p := ⟨w.heap.size, 56, none⟩) (Nat.le_refl _) _⟩
set_option maxHeartbeats 800000 in
set_option maxRecDepth 100000 in
theorem fmt16' (u : Nat) (h0 : 4294967296 ≤ u) (h1 : u < 8589934592) (w : World) (hT : dbAt w) : Calls Tryd.prog 119 #[.int .i64 u, .int .i64 16] w fun e w' => e = .returned (.string (strOfNums (dgs u 9))) ∧ Below w.heap.size w w' := by
  have HT := Lib.hid hT
  clear hT
  have c0 : decide ((u : Int) < 0) = false := decide_eq_false (by omega)
  have c1 : IntKind.u64.wrap (u : Int) = u := wraps_u64' _ (by omega) (by omega)
  go_enter Tryd.func119, Tryd.ntmps119
  go_wp2_with (first | (go_at_call 134; (with_reducible refine (bits16 u h0 h1 _ HT.out).mono ?_); rintro e w1 ⟨rfl, hb⟩))
  go_ret
  exact ⟨rfl, hb⟩
set_option maxHeartbeats 800000 in
set_option maxRecDepth 100000 in
theorem fmt16 (u : Nat) (h0 : 4294967296 ≤ u) (h1 : u < 8589934592) (w : World) (hT : dbAt w) : Calls Tryd.prog 102 #[.int .i64 u, .int .i64 16] w fun e w' => e = .returned (.string (strOfNums (dgs u 9))) ∧ Below w.heap.size w w' := by
  have HT := Lib.hid hT
  clear hT
  go_enter Tryd.func102, Tryd.ntmps102
  go_wp2_with (first | (go_at_call 119; (with_reducible refine (fmt16' u h0 h1 _ HT.out).mono ?_); rintro e w1 ⟨rfl, hb⟩))
  go_ret
  exact ⟨rfl, hb⟩
end Go.Proofs.YtdfpfiecpcgffaaDoor
