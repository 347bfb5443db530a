/- impl.SpeakNumbers by hand: its loop stores into the row that it ranges over. -/
import Derived.Test.YtiebjnppmcpffaaDoorGls
import Derived.Test.YtiebjnppmcpffaaDoorDc
import Derived.Test.YtiebjnppmcpffaaDoorJn
import Derived.Test.YtiebjnppmcpffaaDoorNw
set_option linter.unusedVariables false
set_option linter.unusedSimpArgs false
namespace Go.Proofs.YtiebjnppmcpffaaDoor
open Go.RowKit Go.Proofs.YtiebjnppmcpffaaDoorW.PrintWords Go.Proofs.YtiebjnppmcpffaaDoorW.PrintLast Go.Proofs.YtiebjnppmcpffaaDoorW.PrintMore
/-- a word as it is spoken -/
def sp1 (x : ByteArray) : ByteArray := if (readDec x).2 = true ∧ 0 ≤ (readDec x).1 ∧ (readDec x).1 ≤ 999999 then nwD (readDec x).1 else x
structure SnRel (t : List ByteArray) (g cap : Nat) (w wr : World) (j : Nat) : Prop where
  row : Kd.R Kd.string 9 wr w.heap.size (fun _ => True) (.slice (some ⟨g, 0, none⟩) t.length cap) ((t.take j).map sp1 ++ t.drop j)
  below : Below w.heap.size w wr
theorem sn_at (t : List ByteArray) (j : Nat) (h : j < t.length) : rdOf ByteArray.empty ((t.take j).map sp1 ++ t.drop j) (j : Int) = t[j] := by
  unfold rdOf
  have h1 : ((t.take j).map sp1).length = j := by rw [List.length_map, List.length_take]; omega
  rw [Int.toNat_natCast, List.getD_eq_getElem?_getD, List.getElem?_append_right (by omega), h1, Nat.sub_self, List.getElem?_drop, Nat.add_zero, List.getElem?_eq_getElem h]; rfl
theorem sn_set (t : List ByteArray) (j : Nat) (h : j < t.length) : ((t.take j).map sp1 ++ t.drop j).set j (sp1 t[j]) = (t.take (j + 1)).map sp1 ++ t.drop (j + 1) := by
  have h1 : ((t.take j).map sp1).length = j := by rw [List.length_map, List.length_take]; omega
  rw [List.set_append_right _ _ (by omega), h1, Nat.sub_self, List.drop_eq_getElem_cons h, List.set_cons_zero, List.take_succ_eq_append_getElem h, List.map_append, List.append_assoc]; rfl
theorem sn_same (t : List ByteArray) (j : Nat) (h : j < t.length) (e : sp1 t[j] = t[j]) : ((t.take j).map sp1 ++ t.drop j) = (t.take (j + 1)).map sp1 ++ t.drop (j + 1) := by
  rw [List.drop_eq_getElem_cons h, List.take_succ_eq_append_getElem h, List.map_append, List.append_assoc, List.map_singleton, e]; rfl
theorem sp1_size (x : ByteArray) (h : x.size ≤ 1000) : (sp1 x).size ≤ 1000 := by
  unfold sp1
  split
  · have := nwD_size (readDec x).1; omega
  · exact h
theorem join_le (sep : List UInt8) (hs : sep.length ≤ 1) : ∀ l : List (List UInt8), (∀ x ∈ l, x.length ≤ 1000) → (Lib.join l sep).length ≤ 1001 * l.length
  | [], _ => by simp [Lib.join]
  | [x], h => by have := h x (by simp); simp [Lib.join]; omega
  | x :: y :: l, h => by
    have h1 := h x (by simp)
    have h2 := join_le sep hs (y :: l) (fun z hz => h z (by simp only [List.mem_cons] at hz ⊢; exact .inr hz))
    have h3 : Lib.join (x :: y :: l) sep = x ++ (sep ++ Lib.join (y :: l) sep) := by unfold Lib.join; rw [List.intercalate_cons_cons]; simp
    rw [h3]
    simp only [List.length_append, List.length_cons] at h2 ⊢
    omega
theorem sp_join (t : List ByteArray) (hm : t.length ≤ 1000) (hz : ∀ x ∈ t, x.size ≤ 1000) : (Lib.join ((t.map sp1).map (·.data.toList)) [32]).length ≤ 140737488355328 := by
  have := join_le [32] (by simp) ((t.map sp1).map (·.data.toList)) (fun x hx => by
    obtain ⟨y, hy, rfl⟩ := List.mem_map.1 hx
    obtain ⟨z, hz', rfl⟩ := List.mem_map.1 hy
    exact sp1_size z (hz z hz'))
  rw [List.length_map, List.length_map] at this
  omega
set_option maxHeartbeats 8000000 in
set_option maxRecDepth 100000 in
theorem sp_long (t : List ByteArray) (g cap : Nat) (w : World) (hT_ : GLs w) (hl : 0 < t.length) (hm : t.length ≤ 1000) (hz : ∀ x ∈ t, x.size ≤ 1000) (a0 : ByteArray) (ha : ¬ (a0.size : Int) > 256)
    (hS : ∀ W : World, Calls Tryd.prog 26 #[.string a0, .string ⟨#[32]⟩] W fun e w' => ∃ v0_ : Value, e = .returned v0_ ∧ Kd.R Kd.string 9 w' W.heap.size (fun _ => True) v0_ t ∧ Below W.heap.size W w') :
    Calls Tryd.prog 13 #[.string a0] w fun e w' => e = .returned (.tuple #[.string ⟨(Lib.join ((t.map sp1).map (·.data.toList)) [32]).toArray⟩, .bool true]) ∧ Below w.heap.size w w' := by
  have HS := Lib.hid hS
  have HZ := Lib.hid hz
  have HJ := Lib.hid (sp_join t hm hz)
  have HT := Lib.hid hT_
  have c0 : decide (256 < (a0.size : Int)) = false := decide_eq_false ha
  clear hS hz hT_ ha
  go_enter Tryd.func13, Tryd.ntmps13
  go_wp2_with (first | ((with_reducible refine gate_callee (f := 26) rfl ?_); refine goesL_ (some 13) rfl rfl Tryd.func26 (by kernel_rfl) rfl #[.string a0, .string ⟨#[32]⟩] rfl (by (try simp only [List.map_toArray, List.map_cons, List.map_nil]); first | done | rfl) ?_; (with_reducible refine (HS.out _).mono ?_); rintro e w1 ⟨v, rfl, hr, hb⟩; obtain ⟨A0, c0, rfl⟩ := Kd.R_slice hr; have HR := Lib.hid hr; have HB := Lib.hid hb; clear hr hb; refine ⟨_, rfl, ?_⟩))
  obtain ⟨g, rfl, hg⟩ := own_addr HR.out hl
  have HG := Lib.hid hg
  clear hg
  go_loopw [16] (fun v16 wr => ∃ j : Nat, j ≤ t.length ∧ v16 = .int .i64 j ∧ SnRel t g c0 w wr j) (fun v16 _ => t.length - (intOf v16).toNat)
  case atStart => exact ⟨0, Nat.zero_le _, rfl, ⟨HR.out, HB.out⟩⟩
  case round =>
    obtain ⟨j, hj, rfl, hrl⟩ := hrel
    have HL := Lib.hid hrl
    clear hrl
    by_cases hlt : j < t.length
    · have hjs := sn_at t j hlt
      obtain ⟨x, hxe⟩ : ∃ x, t[j] = x := ⟨_, rfl⟩
      have hx := (Kd.R_celln (enc := Value.string) (h1 := fun _ => rfl) ByteArray.empty HL.out.row (j : Int) (by omega) (by omega)).1
      rw [Int.toNat_natCast, hjs, hxe] at hx
      have hzx : x.size ≤ 1000 := by rw [← hxe]; exact HZ.out _ (List.getElem_mem _)
      have HX := Lib.hid hxe
      clear hjs hxe
      have hgt : GLs wr := GLs_below HT.out HL.out.below
      have HD := Lib.hid (readDecimal_calls x wr (GLs_dec hgt) (GLs_es hgt) (GLs_er hgt) (by omega))
      have HGT := Lib.hid hgt
      clear hgt
      obtain ⟨r1, r2, hr⟩ : ∃ r1 r2, readDec x = (r1, r2) := ⟨_, _, rfl⟩
      rw [hr] at HD
      have HR2 := Lib.hid hr
      clear hr
      cases r2 with
      | false =>
        go_wp2_with (first | (go_at_call 27; (with_reducible refine HD.out.mono ?_); rintro e w2 ⟨rfl, hb2⟩; have HB2 := Lib.hid hb2; clear hb2))
        have e1 : sp1 t[j] = t[j] := by rw [HX.out]; unfold sp1; rw [HR2.out, if_neg (fun h => by cases h.1)]
        exact ⟨⟨j + 1, hlt, by go_num, ⟨by rw [← sn_same t j hlt e1]; exact Kd.R_below HL.out.row HB2.out, below_step HL.out.below HB2.out⟩⟩, by simp [intOf]; omega⟩
      | true =>
        cases hwb : (decide (0 ≤ r1) && decide (r1 ≤ 999999)) with
        | false =>
          have HW := Lib.hid (within_calls r1 0 999999)
          rw [hwb] at HW
          have e1 : sp1 t[j] = t[j] := by
            rw [HX.out]; unfold sp1; rw [HR2.out]
            refine if_neg (fun h => ?_)
            rw [decide_eq_true h.2.1, decide_eq_true h.2.2] at hwb; cases hwb
          have E1 := Lib.hid e1
          clear hwb e1
          go_wp2_with (first | (go_at_call 27; (with_reducible refine HD.out.mono ?_); rintro e w2 ⟨rfl, hb2⟩; have HB2 := Lib.hid hb2; clear hb2) | (go_at_call 18; (with_reducible refine (HW.out _).mono ?_); rintro e w3 ⟨rfl, ⟨nd, rfl⟩⟩))
          exact ⟨⟨j + 1, hlt, by go_num, ⟨by rw [← sn_same t j hlt E1.out]; exact Kd.R_drewN (Kd.R_below HL.out.row HB2.out) _, pw_below_drewN (below_step HL.out.below HB2.out) _⟩⟩, by simp [intOf]; omega⟩
        | true =>
          have HW := Lib.hid (within_calls r1 0 999999)
          rw [hwb] at HW
          have hb12 : 0 ≤ r1 ∧ r1 ≤ 999999 := by
            rw [Bool.and_eq_true] at hwb
            exact ⟨of_decide_eq_true hwb.1, of_decide_eq_true hwb.2⟩
          have e1 : sp1 t[j] = nwD r1 := by rw [HX.out]; unfold sp1; rw [HR2.out]; exact if_pos ⟨rfl, hb12.1, hb12.2⟩
          have E1 := Lib.hid e1
          have HN := Lib.hid (fun W hW => nwD_calls r1 W hW hb12.1 (by omega))
          clear hwb e1 hb12
          go_wp2_with (first | (go_at_call 27; (with_reducible refine HD.out.mono ?_); rintro e w2 ⟨rfl, hb2⟩; have HB2 := Lib.hid hb2; clear hb2; obtain ⟨hx4, hf4⟩ := (Kd.R_celln (enc := Value.string) (h1 := fun _ => rfl) ByteArray.empty (Kd.R_below HL.out.row HB2.out) (j : Int) (by omega) (by omega)); rw [Int.toNat_natCast] at hx4 hf4) | (go_at_call 18; (with_reducible refine (HW.out _).mono ?_); rintro e w3 ⟨rfl, ⟨nd, rfl⟩⟩) | (go_at_call 19; (with_reducible refine (HN.out _ (GLs_nw (GLs_drewN (GLs_below HGT.out HB2.out) _))).mono ?_); rintro e w4 ⟨rfl, ⟨nd2, rfl⟩⟩))
          have hp := Kd.R_putn (enc := Value.string) (h1 := fun _ => rfl) (Kd.R_drewN (Kd.R_below HL.out.row HB2.out) (nd + nd2)) (j : Int) (nwD r1)
          rw [Int.toNat_natCast, ← E1.out, sn_set t j hlt] at hp
          rw [← E1.out]
          exact ⟨⟨j + 1, hlt, by go_num, ⟨hp, Below.setCell (pw_below_drewN (below_step HL.out.below HB2.out) _) (p := ⟨g, j, none⟩) HG.out _⟩⟩, by simp [intOf]; omega⟩
    · have hje : j = t.length := by omega
      have hrow := HL.out.row
      rw [hje] at hrow
      rw [List.take_length, List.drop_length, List.append_nil] at hrow
      obtain ⟨-, hc1, hC⟩ := Kd.R_reads' hrow
      have hpl := own_plain hrow
      have hsum : (Lib.join ((t.map sp1).map (·.data.toList)) [32]).length ≤ 140737488355328 := HJ.out
      have hln : (t.map sp1).length = t.length := List.length_map _
      rw [hln] at hC
      have HJn := Lib.hid (giv_Join (some ⟨g, 0, none⟩) c0 (t.map sp1) ⟨#[32]⟩ wr (by rw [hln]; exact hC) (by rw [hln]; exact hc1) hpl (by rw [hln]; omega) hsum)
      rw [hln] at HJn
      clear hrow hC hpl hsum hln hc1 hje
      go_wp2_with (first | (go_at_call 28; (with_reducible refine HJn.out.mono ?_); rintro e w2 ⟨rfl, hb2⟩; have HB2 := Lib.hid hb2; clear hb2))

      go_ret2
      exact ⟨by rw [List.map_map]; rfl, below_step HL.out.below HB2.out⟩
set_option maxHeartbeats 8000000 in
set_option maxRecDepth 100000 in
theorem sp_short (a0 : ByteArray) (w : World) (h : (a0.size : Int) > 256) : Calls Tryd.prog 13 #[.string a0] w fun e w' => e = .returned (.tuple #[.string ⟨#[]⟩, .bool false]) ∧ Below w.heap.size w w' := by
  have c0 : decide (256 < (a0.size : Int)) = true := decide_eq_true h
  clear h
  go_enter Tryd.func13, Tryd.ntmps13
  go_wp2
  go_ret2
  exact ⟨rfl, Below.refl _ _⟩
end Go.Proofs.YtiebjnppmcpffaaDoor
