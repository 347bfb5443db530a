import Derived.Test.YtdfpfiecpcgffaaDoorGt
import Derived.Test.YtdfpfiecpcgffaaDoorPu
import Derived.Test.YtdfpfiecpcgffaaDoorJn
import Derived.Test.YtdfpfiecpcgffaaDoorFp
set_option linter.unusedVariables false
set_option linter.unusedSimpArgs false
namespace Go.Proofs.YtdfpfiecpcgffaaDoor
open Go.RowKit Go.Proofs.YtdfpfiecpcgffaaDoorW.PrintWords Go.Proofs.YtdfpfiecpcgffaaDoorW.PrintLast Go.Proofs.YtdfpfiecpcgffaaDoorW.PrintMore Go.Proofs.YtdfpfiecpcgffaaDoorW.PrintFl
attribute [local go_sem] run_stf run_stc ext_f32frombits
def rdW (hx : Nat → Option ByteArray) : List ByteArray → List Nat → Option (List Nat × Bool)
  | [], acc => some (acc, true)
  | x :: r, acc => if x.size = 8 then (if acc.length = 256 then some ([], false) else match hexL 0 x.data.toList with
      | none => some ([], false)
      | some v => (hx v).bind fun h => if h.toList = x.toList then rdW hx r (acc ++ [v]) else some ([], false)) else some ([], false)
theorem genw {Pw : World → Prop} {G : Act → World → Prop} {a : Act} {w : World} (h : Pw w) (k : ∀ w, Pw w → G a w) : G a w := k w h
structure RnRel (b : Nat) (w1 : World) (acc : List Nat) (u : Value) (wr : World) : Prop where
  row : Kd.R (Kd.float .f32) 30 wr b (fun _ => True) u acc
  below : Below b w1 wr
  room : acc.length ≤ 256
theorem infoF : (Tryd.prog.info? 30).map (fun i => (i.zero, i.size, i.bytes)) = some (some (.float .f32 0), 1, 4) := by kernel_rfl
theorem rn_below {B : Nat} {w w1 wr : World} (h1 : Below B w w1) (h2 : Below w1.heap.size w1 wr) (hB : B ≤ w1.heap.size) : Below B w wr := h1.trans (h2.mono hB)
set_option maxHeartbeats 8000000 in
set_option maxRecDepth 100000 in
theorem rn_none (w : World) (s : ByteArray) (hs : s = ⟨#[110, 111, 110, 101]⟩) : Calls Tryd.prog 62 #[.string s, .int .i64 1] w fun e w' => e = .returned (.tuple #[.slice none 0 0, .bool true]) ∧ Below w.heap.size w w' := by
  have c0 : ((s.toList : List UInt8) == (⟨#[110, 111, 110, 101]⟩ : ByteArray).toList) = true := by rw [hs]; exact beq_self_eq_true _
  go_enter Tryd.func62, Tryd.ntmps62
  subst hs
  go_wp2
  go_ret2
  exact ⟨rfl, Below.refl _ _⟩
set_option maxHeartbeats 8000000 in
set_option maxRecDepth 100000 in
theorem rn_far (w : World) (s : ByteArray) (hn : s.toList ≠ [110, 111, 110, 101]) (hs : (s.size : Int) > 2304) : Calls Tryd.prog 62 #[.string s, .int .i64 1] w fun e w' => e = .returned (.tuple #[.slice none 0 0, .bool false]) ∧ Below w.heap.size w w' := by
  have c0 : ((s.toList : List UInt8) == [110, 111, 110, 101]) = false := beq_eq_false_iff_ne.mpr hn
  have c1 : decide (2304 < (s.size : Int)) = true := decide_eq_true hs
  clear hn hs
  go_enter Tryd.func62, Tryd.ntmps62
  go_wp2
  go_ret2
  exact ⟨rfl, Below.refl _ _⟩
set_option maxHeartbeats 8000000 in
set_option maxRecDepth 100000 in
theorem rn_long (hx : Nat → Option ByteArray) (t : List ByteArray) (w : World) (hT_ : GLt w) (a0 : ByteArray) (hn : a0.toList ≠ [110, 111, 110, 101]) (ha : ¬ (a0.size : Int) > 2304) (htl : t.length ≤ 1000000) (r1 : List Nat) (r2 : Bool) (hr : rdW hx t [] = some (r1, r2))
    (hS : ∀ W : World, Calls Tryd.prog 50 #[.string a0, .string ⟨#[44]⟩] W fun e w' => ∃ v0_ : Value, e = .returned v0_ ∧ Kd.R Kd.string 9 w' W.heap.size (fun _ => True) v0_ t ∧ Below W.heap.size W w')
    (hX : ∀ (v : Nat) (h : ByteArray) (W : World), GLt W → hx v = some h → Calls Tryd.prog 82 #[.float .f32 v] W fun e w' => e = .returned (.string h) ∧ Below W.heap.size W w') :
    Calls Tryd.prog 62 #[.string a0, .int .i64 1] w fun e w' => ∃ v0_ : Value, e = .returned (.tuple #[v0_, .bool r2]) ∧ Kd.R (Kd.float .f32) 30 w' w.heap.size (fun _ => True) v0_ r1 ∧ Below w.heap.size w w' := by
  have HS := Lib.hid hS
  have HX := Lib.hid hX
  have HT := Lib.hid hT_
  have HR0 := Lib.hid hr
  have c0 : ((a0.toList : List UInt8) == [110, 111, 110, 101]) = false := beq_eq_false_iff_ne.mpr hn
  have c1 : decide (2304 < (a0.size : Int)) = false := decide_eq_false ha
  clear hS hX hT_ hn ha hr
  go_enter Tryd.func62, Tryd.ntmps62
  go_wp2_with (first | ((with_reducible refine gate_callee (f := 50) rfl ?_); refine goesL_ (some 22) rfl rfl Tryd.func50 (by kernel_rfl) rfl #[.string a0, .string ⟨#[44]⟩] rfl (by (try simp only [List.map_toArray, List.map_cons, List.map_nil]); first | done | rfl) ?_; (with_reducible refine (HS.out _).mono ?_); rintro e w1 ⟨v, rfl, hr, hb⟩; obtain ⟨A0, c0, rfl⟩ := Kd.R_slice hr; have HR := Lib.hid hr; have HB := Lib.hid hb; clear hr hb; refine ⟨_, rfl, ?_⟩))
  go_loopw [6, 24] (fun v6 v24 wr => ∃ (j : Nat) (acc : List Nat), j ≤ t.length ∧ v24 = .int .i64 j ∧ Hid (rdW hx (t.drop j) acc = some (r1, r2)) ∧ RnRel w1.heap.size w1 acc v6 wr) (fun _ v24 _ => t.length - (intOf v24).toNat)
  case atStart => exact ⟨0, [], Nat.zero_le _, rfl, HR0, ⟨Kd.R_nil _ _ _ _ _, Below.refl _ _, by simp⟩⟩
  case round =>
    obtain ⟨j, acc, hj, rfl, HD, hrl⟩ := hrel
    have HL := Lib.hid hrl
    clear hrl
    obtain ⟨Ao, co, eo⟩ := Kd.R_slice HL.out.row
    subst eo
    by_cases hlt : j < t.length
    · obtain ⟨g, rfl, hg⟩ := own_addr HR.out (by omega)
      have hx := (Kd.R_celln (enc := Value.string) (h1 := fun _ => rfl) ByteArray.empty (Kd.R_below HR.out HL.out.below) (j : Int) (by omega) (by omega)).1
      have hjs : rdOf ByteArray.empty t (j : Int) = t[j] := by
        unfold rdOf
        rw [Int.toNat_natCast, List.getD_eq_getElem?_getD, List.getElem?_eq_getElem hlt]; rfl
      have hD := HD.out
      rw [List.drop_eq_getElem_cons hlt] at hD
      rw [Int.toNat_natCast, hjs] at hx
      generalize t[j] = x at hx hD hjs
      clear hjs HD
      rw [rdW] at hD
      by_cases h8 : x.size = 8
      · rw [if_pos h8] at hD
        have d8 : ((x.size : Int) != 8) = false := bne_eq_false_iff_eq.mpr (by omega)
        by_cases hm : acc.length = 256
        · rw [if_pos hm] at hD
          have dm : ((acc.length : Int) == 256) = true := beq_iff_eq.mpr (by omega)
          injection hD with hD
          injection hD with h1 h2
          subst h1 h2
          clear hm h8
          go_wp2
          go_ret2
          exact ⟨_, rfl, Kd.R_nil _ _ _ _ _, rn_below HB.out HL.out.below HB.out.size⟩
        · rw [if_neg hm] at hD
          have dm : ((acc.length : Int) == 256) = false := beq_eq_false_iff_ne.mpr (by omega)
          have hemp : x.toList.isEmpty = false := by
            rw [← decide_eq_emptyBytes]
            exact decide_eq_false (fun h => by rw [h] at h8; exact absurd h8 (by decide))
          have hex : x.extract 0 8 = x := by rw [← h8]; exact ByteArray.extract_zero_size
          cases hv : hexL 0 x.data.toList with
          | none =>
            rw [hv] at hD
            injection hD with hD
            injection hD with h1 h2
            subst h1 h2
            have HP := Lib.hid (fun W hE => pu16_bad (x.extract 0 8) (by rw [hex]; exact h8) (by rw [hex]; exact hv) W hE)
            clear hm hv hex
            go_wp2
            go_loopw [6, 8] (fun v6 v8 wr2 => v6 = .slice Ao acc.length co ∧ v8 = .string x ∧ wr2 = wr) (fun _ _ _ => 0)
            case atStart => exact ⟨rfl, rfl, rfl⟩
            case round =>
              obtain ⟨rfl, rfl, rfl⟩ := hrel
              go_wp2_with (first | (go_at_call 88; (with_reducible refine (HP.out _ (GLt_es (GLt_below (GLt_below HT.out HB.out) HL.out.below))).mono ?_); rintro e w2 ⟨N, rfl, hb2⟩; have HB2 := Lib.hid hb2; clear hb2))
              go_quiet (fail)
              all_goals
                go_wp2
                go_ret2
                exact ⟨_, rfl, Kd.R_nil _ _ _ _ _, rn_below HB.out (rn_below HL.out.below (pw_below_drewN HB2.out _) HL.out.below.size) HB.out.size⟩
          | some v =>
            rw [hv] at hD
            obtain ⟨h, hh, hD⟩ := Option.bind_eq_some_iff.mp hD
            have H8 := Lib.hid h8
            have hlt32 : v < 4294967296 := hex_lt x h8 v hv
            have hw32 : IntKind.u32.wrap (v : Int) = (v : Int) := by rw [IntKind.wrap_u32]; omega
            have HP := Lib.hid (fun W => pu16_ok (x.extract 0 8) (by rw [hex]; exact h8) v (by rw [hex]; exact hv) W)
            have HH := Lib.hid (fun W hW => HX.out v h W hW hh)
            by_cases he : h.toList = x.toList
            · rw [if_pos he] at hD
              have HD := Lib.hid hD
              have e0 : (h.toList != (x.extract 0 8).toList) = false := by rw [hex]; exact bne_eq_false_iff_eq.mpr he
              have e1 : (h.toList == (x.extract 0 8).toList) = true := by rw [hex]; exact beq_iff_eq.mpr he
              clear hm hv hex hD hh he hlt32
              go_wp2
              go_loopw [6, 8] (fun v6 v8 wr2 => ∃ b : Bool, v8 = .string (bif b then ByteArray.empty else x) ∧ RnRel w1.heap.size w1 (bif b then acc ++ [v] else acc) v6 wr2) (fun _ v8 _ => match v8 with | .string z => z.size | _ => 0)
              case atStart => exact ⟨false, rfl, HL.out⟩
              case round =>
                obtain ⟨b, rfl, hrl2⟩ := hrel
                cases b with
                | false =>
                  have HL2 := Lib.hid hrl2
                  clear hrl2
                  go_wp2_with (first | (go_at_call 88; (with_reducible refine (HP.out _).mono ?_); rintro e w2 ⟨rfl, hb2⟩; have HB2 := Lib.hid hb2; clear hb2))
                  go_region_with (first | (go_at_call 82; (with_reducible refine (HH.out _ (by first | exact (GLt_below (GLt_below (GLt_below HT.out HB.out) HL2.out.below) HB2.out) | exact GLt_drew (GLt_below (GLt_below (GLt_below HT.out HB.out) HL2.out.below) HB2.out) | exact GLt_drewN (GLt_below (GLt_below (GLt_below HT.out HB.out) HL2.out.below) HB2.out) _)).mono ?_); rintro e w3 ⟨rfl, hb3⟩; have HB3 := Lib.hid (show Below w2.heap.size w2 w3 by first | exact hb3 | exact ((Below.drew (Below.refl _ _)).trans hb3) | exact (pw_below_drewN (Below.refl _ _) _).trans hb3); clear hb3))
                  all_goals
                    have hmx : (acc.length + 1) * 4 ≤ 140737488355328 := by have := HL2.out.room; simp at this; omega
                    have HMX := Lib.hid hmx
                    have hrm : (acc ++ [v]).length ≤ 256 := by have := HL2.out.room; have h256 := beq_eq_false_iff_ne.mp dm; simp at this ⊢; omega
                    have HRM := Lib.hid hrm
                    clear hmx hrm
                    go_wp2_with (first | ((with_reducible refine gate_builtin (b := .append) (xs := #[.tmp 62, .tmp 64]) rfl ?_); (try (refine gate_guard (by rfl) ?_; dsimp only)); at_builtin; refine Kd.R_append (Kd.float .f32) (w0 := w1) w1.heap.size rfl (.tmp 62) (.tmp 64) 37 30 (.float .f32 0) 4 rfl Tryd.underlying37 infoF rfl (by decide) (by omega) u6 acc v [.float .f32 v] (fun _ => True) (fun _ => False) rfl rfl ?aP (fun _ hk => hk.elim) ?aF ?aO ?aB ?aS ?aL ?_; (case aP => exact rfl); (case aB => exact rn_below HL2.out.below (rn_below HB2.out HB3.out HB2.out.size) HL2.out.below.size); (case aF => exact (fun _ _ => trivial)); (case aO => exact Kd.R_below (Kd.R_below HL2.out.row HB2.out) HB3.out); (case aS => exact (rn_below HL2.out.below (rn_below HB2.out HB3.out HB2.out.size) HL2.out.below.size).size); (case aL => exact HMX.out); intro v1 w14 ho hb hg hat; have HO := Lib.hid ho; have HBB := Lib.hid hb; clear ho hb hg hat))
                    exact ⟨⟨true, rfl, ⟨HO.out, HBB.out, HRM.out⟩⟩, by show (0 : Nat) < x.size; have := H8.out; omega⟩
                | true =>
                  have HL2 := Lib.hid hrl2
                  clear hrl2
                  go_wp2
                  exact ⟨⟨j + 1, acc ++ [v], hlt, by go_num, HD, HL2.out⟩, by simp [intOf]; omega⟩
            · rw [if_neg he] at hD
              injection hD with hD
              injection hD with h1 h2
              subst h1 h2
              have e0 : (h.toList != (x.extract 0 8).toList) = true := by rw [hex]; exact bne_iff_ne.mpr he
              have e1 : (h.toList == (x.extract 0 8).toList) = false := by rw [hex]; exact beq_eq_false_iff_ne.mpr he
              clear hm hv hex hh he hlt32
              go_wp2
              go_loopw [6, 8] (fun v6 v8 wr2 => v6 = .slice Ao acc.length co ∧ v8 = .string x ∧ wr2 = wr) (fun _ _ _ => 0)
              case atStart => exact ⟨rfl, rfl, rfl⟩
              case round =>
                obtain ⟨rfl, rfl, rfl⟩ := hrel
                go_wp2_with (first | (go_at_call 88; (with_reducible refine (HP.out _).mono ?_); rintro e w2 ⟨rfl, hb2⟩; have HB2 := Lib.hid hb2; clear hb2))
                go_region_with (first | (go_at_call 82; (with_reducible refine (HH.out _ (by first | exact (GLt_below (GLt_below (GLt_below HT.out HB.out) HL.out.below) HB2.out) | exact GLt_drew (GLt_below (GLt_below (GLt_below HT.out HB.out) HL.out.below) HB2.out) | exact GLt_drewN (GLt_below (GLt_below (GLt_below HT.out HB.out) HL.out.below) HB2.out) _)).mono ?_); rintro e w3 ⟨rfl, hb3⟩; have HB3 := Lib.hid (show Below w2.heap.size w2 w3 by first | exact hb3 | exact ((Below.drew (Below.refl _ _)).trans hb3) | exact (pw_below_drewN (Below.refl _ _) _).trans hb3); clear hb3))
                all_goals
                  go_wp2
                  go_ret2
                  exact ⟨_, rfl, Kd.R_nil _ _ _ _ _, rn_below HB.out (rn_below HL.out.below (rn_below HB2.out HB3.out HB2.out.size) HL.out.below.size) HB.out.size⟩
      · rw [if_neg h8] at hD
        have d8 : ((x.size : Int) != 8) = true := bne_iff_ne.mpr (by omega)
        injection hD with hD
        injection hD with h1 h2
        subst h1 h2
        clear h8
        go_wp2
        go_ret2
        exact ⟨_, rfl, Kd.R_nil _ _ _ _ _, rn_below HB.out HL.out.below HB.out.size⟩
    · have hD := HD.out
      rw [List.drop_eq_nil_of_le (by omega), rdW] at hD
      injection hD with hD
      injection hD with h1 h2
      subst h1 h2
      go_wp2
      go_ret2
      exact ⟨_, rfl, Kd.R_lower HL.out.row HB.out.size, rn_below HB.out HL.out.below HB.out.size⟩
end Go.Proofs.YtdfpfiecpcgffaaDoor
