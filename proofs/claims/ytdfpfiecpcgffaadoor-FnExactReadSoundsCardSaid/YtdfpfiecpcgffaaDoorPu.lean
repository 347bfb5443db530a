import Derived.Test.YtdfpfiecpcgffaaDoorGb
import Derived.Test.YtdfpfiecpcgffaaDoorWMore
import Derived.Test.YtdfpfiecpcgffaaDoorWLast
import Derived.Test.YtdfpfiecpcgffaaDoorProg
import Derived.Deep.QuietTactic
import Derived.BigQuiet
import Derived.WalkKit
import Derived.BigCall
import Derived.BigGuard
import Derived.Laws.Closers25
import Derived.Laws.Closers25b
import Derived.Lib.Strings
import Derived.Lib.ConvBytes
import Derived.Lib.IfaceEq
import Derived.Lib.Hide
set_option linter.unusedVariables false
set_option linter.unusedSimpArgs false
namespace Go.Proofs.YtdfpfiecpcgffaaDoor
open Go.RowKit Go.Proofs.YtdfpfiecpcgffaaDoorW.PrintWords Go.Proofs.YtdfpfiecpcgffaaDoorW.PrintLast Go.Proofs.YtdfpfiecpcgffaaDoorW.PrintMore
def lo8 (n : Nat) : Nat := if n / 32 % 2 = 1 then n else n + 32
theorem lo8_all : ∀ c : Fin 256, bits .or .u8 ((c.1 : Nat) : Int) 32 = ((lo8 c.1 : Nat) : Int) := by decide +kernel
theorem lo8_bits (n : Nat) (h : n < 256) : bits .or .u8 (n : Int) 32 = ((lo8 n : Nat) : Int) := lo8_all ⟨n, h⟩
def hexv (n : Nat) : Nat := if 48 ≤ n ∧ n ≤ 57 then n - 48 else if 97 ≤ lo8 n ∧ lo8 n ≤ 102 then lo8 n - 87 else 99
def hexL : Nat → List UInt8 → Option Nat
  | acc, [] => some acc
  | acc, c :: r => if hexv c.toNat < 16 then hexL (acc * 16 + hexv c.toNat) r else none
def hexTup : Option Nat → Value
  | some v => .tuple #[.int .u64 v, .nilIface]
  | none => .tuple #[.int .u64 0, .iface 138 (.int .i64 2)]
theorem hex_room (k acc : Nat) (hk : k < 8) (h : acc < 16 ^ k) : acc ≤ 268435455 := by
  have h1 : 16 ^ k ≤ 16 ^ 7 := Nat.pow_le_pow_right (by decide) (by omega)
  have h2 : (16 : Nat) ^ 7 = 268435456 := by decide
  omega
theorem hex_pow (k acc d : Nat) (h : acc < 16 ^ k) (hd : d < 16) : acc * 16 + d < 16 ^ (k + 1) := by
  rw [Nat.pow_succ]; omega
theorem lower_calls (n : Nat) (h : n < 256) (w : World) : Calls Tryd.prog 122 #[.int .u8 n] w fun e w' => e = .returned (.int .u8 ((lo8 n : Nat) : Int)) ∧ w' = w := by
  have hb := lo8_bits n h
  clear h
  go_enter Tryd.func122, Tryd.ntmps122
  go_wp2
  go_ret
  exact ⟨rfl, rfl⟩
set_option maxHeartbeats 32000000 in
set_option maxRecDepth 100000 in
theorem pu16_in (t : ByteArray) (h8 : t.size = 8) (w : World) :
    Calls Tryd.prog 107 #[.string t, .int .i64 16, .int .i64 32] w fun e w' => e = .returned (hexTup (hexL 0 t.data.toList)) ∧ w' = Lib.bytesWorld w 5 t := by
  have hemp : t.toList.isEmpty = false := by
    rw [← decide_eq_emptyBytes]
    exact decide_eq_false (fun h => by rw [h] at h8; exact absurd h8 (by decide))
  have hcv := Lib.run_convert_string_bytes (P := Tryd.prog) w 9 96 5 t (u := .string) (by kernel_rfl) (by kernel_rfl) (by kernel_rfl)
  have hB : ∀ j, j < t.size → (Lib.bytesWorld w 5 t).cell? ⟨w.heap.size, j, none⟩ = some (.int .u8 (t.data.toList.getD j 0).toNat) := fun j hj => Lib.bytesWorld_cell w 5 t j hj
  obtain ⟨W1, hW1⟩ : ∃ W1, W1 = Lib.bytesWorld w 5 t := ⟨_, rfl⟩
  rw [← hW1] at hcv hB ⊢
  clear hW1
  obtain ⟨bs, hL⟩ : ∃ bs, bs = t.data.toList := ⟨_, rfl⟩
  have hLn : bs.length = t.size := by rw [hL, Lib.size_eq]
  rw [← hL] at hB ⊢
  clear hL
  have hmv : IntKind.u64.wrap (IntKind.u64.wrap 4294967296 - 1) = 4294967295 := by
    rw [IntKind.wrap_u64, IntKind.wrap_u64]
    decide
  go_enter Tryd.func107, Tryd.ntmps107
  go_wp2
  go_loop [12, 13, 101] (fun vu vn vi => ∃ (k acc : Nat) (a : Int), vu = .bool false ∧ vn = .int .u64 a ∧ vi = .int .i64 k ∧ k ≤ t.size ∧ Hid (a = (acc : Int) ∧ acc < 16 ^ k ∧ hexL 0 bs = hexL acc (bs.drop k)))
    (fun _ _ vi => t.size - (intOf vi).toNat)
  case atStart => exact ⟨0, 0, 0, rfl, rfl, rfl, by omega, rfl, by decide, rfl⟩
  case round =>
    obtain ⟨k, acc, a, rfl, rfl, rfl, hk, hh⟩ := hrel
    obtain ⟨ha, hacc, hdec⟩ := hh.out
    clear hh
    by_cases hkn : k < t.size
    · have hroom := hex_room k acc (by omega) hacc
      have a0 : 0 ≤ a := by omega
      have a1 : a ≤ 268435455 := by omega
      have hc := hB k hkn
      have hdrop : bs.drop k = bs[k]'(by omega) :: bs.drop (k + 1) := List.drop_eq_getElem_cons (by omega)
      have hget : bs.getD k 0 = bs[k]'(by omega) := by simp [List.getD, List.getElem?_eq_getElem (show k < bs.length by omega)]
      rw [hdrop] at hdec
      rw [hget] at hc
      generalize bs[k]'(by omega) = c at hc hdec
      have hc256 : c.toNat < 256 := c.toNat_lt
      clear hB hdrop hget
      have HLo := Lib.hid (fun W => lower_calls c.toNat hc256 W)
      by_cases hdig : 48 ≤ c.toNat ∧ c.toNat ≤ 57
      · obtain ⟨hd0, hd1⟩ := hdig
        have hv : hexv c.toNat = c.toNat - 48 := by unfold hexv; rw [if_pos ⟨hd0, hd1⟩]
        have hF : hexL acc (c :: bs.drop (k + 1)) = hexL (acc * 16 + (c.toNat - 48)) (bs.drop (k + 1)) := by rw [hexL, hv, if_pos (by omega)]
        have HN : Hid (a * 16 + ((c.toNat : Int) - 48) = ((acc * 16 + (c.toNat - 48) : Nat) : Int) ∧ acc * 16 + (c.toNat - 48) < 16 ^ (k + 1) ∧ hexL 0 bs = hexL (acc * 16 + (c.toNat - 48)) (bs.drop (k + 1))) := Lib.hid ⟨by omega, hex_pow k acc _ hacc (by omega), hdec.trans hF⟩
        clear hacc hF hv hdec ha hroom
        go_wp2
        exact ⟨⟨k + 1, acc * 16 + (c.toNat - 48), a * 16 + ((c.toNat : Int) - 48), rfl, (by first | rfl | (congr 1; omega)), (by first | rfl | (congr 1; omega)), by omega, HN⟩, by simp [intOf]; omega⟩
      · by_cases hlet : 97 ≤ lo8 c.toNat ∧ lo8 c.toNat ≤ 102
        · obtain ⟨l0, l1⟩ := hlet
          have hv : hexv c.toNat = lo8 c.toNat - 87 := by unfold hexv; rw [if_neg hdig, if_pos ⟨l0, l1⟩]
          have hF : hexL acc (c :: bs.drop (k + 1)) = hexL (acc * 16 + (lo8 c.toNat - 87)) (bs.drop (k + 1)) := by rw [hexL, hv, if_pos (by omega)]
          have HN : Hid (a * 16 + ((lo8 c.toNat : Int) - 87) = ((acc * 16 + (lo8 c.toNat - 87) : Nat) : Int) ∧ acc * 16 + (lo8 c.toNat - 87) < 16 ^ (k + 1) ∧ hexL 0 bs = hexL (acc * 16 + (lo8 c.toNat - 87)) (bs.drop (k + 1))) := Lib.hid ⟨by omega, hex_pow k acc _ hacc (by omega), hdec.trans hF⟩
          clear hacc hF hv hdec ha hroom
          have hn95 : ((c.toNat : Int) = 95) = False := eq_false (fun h => by
            have h9 : c.toNat = 95 := by omega
            rw [h9] at l1; exact absurd l1 (by decide))
          generalize hl : lo8 c.toNat = l at *
          go_wp2_with (go_at_call 122; (with_reducible refine (HLo.out _).mono ?_); rintro e w' ⟨rfl, rfl⟩)
          all_goals exact ⟨⟨k + 1, acc * 16 + (l - 87), a * 16 + ((l : Int) - 87), rfl, (by first | rfl | (congr 1; omega)), (by first | rfl | (congr 1; omega)), by omega, HN⟩, by simp [intOf]; omega⟩
        · have hF : hexL acc (c :: bs.drop (k + 1)) = none := by
            have hv : hexv c.toNat = 99 := by unfold hexv; rw [if_neg hdig, if_neg hlet]
            rw [hexL, hv, if_neg (by omega)]
          rw [hF] at hdec
          clear hacc hF ha hroom
          have hl256 : lo8 c.toNat ≤ 255 := by unfold lo8; split <;> omega
          have HLo95 : Hid (∀ W, Calls Tryd.prog 122 #[.int .u8 95] W fun e w' => e = .returned (.int .u8 127) ∧ w' = W) := Lib.hid (fun W => lower_calls 95 (by decide) W)
          generalize hl : lo8 c.toNat = l at *
          clear hl
          go_wp2_with (first | (go_at_call 122; (with_reducible refine (HLo.out _).mono ?_); rintro e w' ⟨rfl, rfl⟩) | (go_at_call 122; (with_reducible refine (HLo95.out _).mono ?_); rintro e w' ⟨rfl, rfl⟩))
          all_goals go_ret2
          all_goals first | exact ⟨rfl, rfl⟩ | exact ⟨by rw [hdec]; rfl, rfl⟩
    · have hkk : k = t.size := by omega
      subst hkk
      have hF : hexL acc (bs.drop t.size) = some acc := by rw [List.drop_eq_nil_of_le (by omega)]; rfl
      rw [hF] at hdec
      subst ha
      clear hacc hF
      go_wp2
      go_ret2
      first | exact ⟨rfl, rfl⟩ | exact ⟨by rw [hdec]; rfl, rfl⟩
theorem hexL_lt : ∀ (l : List UInt8) (acc k v : Nat), acc < 16 ^ k → hexL acc l = some v → v < 16 ^ (k + l.length)
  | [], acc, k, v, h, e => by
    rw [hexL] at e
    obtain rfl := Option.some.inj e
    exact h
  | c :: r, acc, k, v, h, e => by
    rw [hexL] at e
    split at e
    · rename_i hd
      have := hexL_lt r _ (k + 1) v (hex_pow k acc _ h hd) e
      rw [List.length_cons, show k + (r.length + 1) = k + 1 + r.length by omega]; exact this
    · cases e
theorem hex_lt (t : ByteArray) (h8 : t.size = 8) (v : Nat) (h : hexL 0 t.data.toList = some v) : v < 4294967296 := by
  have := hexL_lt _ 0 0 v (by decide) h
  rw [show t.data.toList.length = 8 by rw [Array.length_toList]; exact h8] at this
  exact this
set_option maxHeartbeats 800000 in
set_option maxRecDepth 100000 in
theorem pu16_ok (t : ByteArray) (h8 : t.size = 8) (v : Nat) (hv : hexL 0 t.data.toList = some v) (w : World) :
    Calls Tryd.prog 88 #[.string t, .int .i64 16, .int .i64 32] w fun e w' => e = .returned (.tuple #[.int .u64 v, .nilIface]) ∧ Below w.heap.size w w' := by
  have HP := Lib.hid (fun W => pu16_in t h8 W)
  rw [hv] at HP
  have HB := Lib.hid (fun W => (bytes_below (Below.refl W.heap.size W) (Nat.le_refl _) 5 t))
  clear hv h8
  go_enter Tryd.func88, Tryd.ntmps88
  go_wp2_with (first | (go_at_call 107; (with_reducible refine (HP.out _).mono ?_); rintro e w1 ⟨rfl, rfl⟩; unfold hexTup))
  go_ret2
  exact ⟨rfl, HB.out _⟩
set_option maxHeartbeats 800000 in
set_option maxRecDepth 100000 in
theorem pu16_bad (t : ByteArray) (h8 : t.size = 8) (hv : hexL 0 t.data.toList = none) (w : World) (hE : errAt "strconv.ErrSyntax" w) :
    Calls Tryd.prog 88 #[.string t, .int .i64 16, .int .i64 32] w fun e w' => ∃ N, e = .returned (.tuple #[.int .u64 0, .iface 140 (.pointer (some ⟨N, 0, none⟩))]) ∧ Below w.heap.size w w' := by
  have HP := Lib.hid (fun W => pu16_in t h8 W)
  rw [hv] at HP
  have HB := Lib.hid (fun W => (bytes_below (Below.refl W.heap.size W) (Nat.le_refl _) 5 t))
  have HE := Lib.hid (errAt_below hE (HB.out w))
  have hs : t.size ≤ 281474976710656 := by omega
  have HS := Lib.hid hs
  clear hv h8 hE hs
  go_enter Tryd.func88, Tryd.ntmps88
  go_wp2_with (first | (go_at_call 107; (with_reducible refine (HP.out _).mono ?_); rintro e w1 ⟨rfl, rfl⟩; unfold hexTup) | (go_at_call 108; obtain ⟨tp, p, hv⟩ := HE.out; refine (Tryd.strconv_toError_syntax _ t 16 32 (.iface tp p) _ HS.out (by have h0 := World.var?_cell (g := 2) (by kernel_rfl) hv 0; simpa using h0) (Or.inr ⟨tp, p, rfl⟩)).mono ?_; rintro e w2 ⟨N, rfl, _, _, hb2⟩; have HB2 := Lib.hid hb2; clear hb2))
  go_ret2
  exact ⟨N, rfl, (HB.out w).trans (HB2.out.mono (HB.out w).size)⟩
end Go.Proofs.YtdfpfiecpcgffaaDoor
