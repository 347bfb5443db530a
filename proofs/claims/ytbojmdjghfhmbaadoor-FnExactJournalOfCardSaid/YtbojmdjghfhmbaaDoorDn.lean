/- Decimal texts as plain lists of bytes: they are read back. -/
import Derived.Test.YtbojmdjghfhmbaaDoorDc
import Derived.Test.YtbojmdjghfhmbaaDoorLm
set_option linter.unusedVariables false
set_option linter.unusedSimpArgs false
namespace Go.Proofs.YtbojmdjghfhmbaaDoor.Dn
open Go.RowKit Go.Proofs.YtbojmdjghfhmbaaDoorW.PrintWords Go.Proofs.YtbojmdjghfhmbaaDoor Go.Proofs.YtbojmdjghfhmbaaDoor.Lm Go.Lib
/-- the digits' value -/
def dval (acc : Nat) (l : List UInt8) : Nat := l.foldl (fun a c => if 48 ≤ c.toNat ∧ c.toNat ≤ 57 then 10 * a + (c.toNat - 48) else a) acc
def sval (l : List UInt8) : Int := if l.head? = some 45 then -(dval 0 l : Int) else (dval 0 l : Int)
theorem dig_nat (d : Nat) (h : d < 10) : (UInt8.ofNat (48 + d)).toNat = 48 + d := by
  rw [UInt8.toNat_ofNat']; omega
theorem dval_dec (u : Nat) : dval 0 (decDigits u) = u := by
  induction u using Nat.strongRecOn with
  | _ u ih =>
    rw [decDigits]
    split
    · rename_i h
      unfold dval
      rw [List.foldl_cons, List.foldl_nil, dig_nat u h, if_pos ⟨by omega, by omega⟩]; omega
    · rename_i h
      have := ih (u / 10) (by omega)
      unfold dval at this ⊢
      rw [List.foldl_append, this, List.foldl_cons, List.foldl_nil, dig_nat _ (by omega), if_pos ⟨by omega, by omega⟩]; omega
theorem dec_ne (u : Nat) : decDigits u ≠ [] := by
  rw [decDigits]; split <;> simp
theorem dec_head (u : Nat) : ∀ c, (decDigits u).head? = some c → 48 ≤ c.toNat ∧ c.toNat ≤ 57 := by
  induction u using Nat.strongRecOn with
  | _ u ih =>
    intro c hc
    rw [decDigits] at hc
    split at hc
    · rename_i h
      rw [List.head?_cons] at hc
      rw [← Option.some.inj hc, dig_nat u h]; omega
    · rename_i h
      rw [List.head?_append] at hc
      cases hq : (decDigits (u / 10)).head? with
      | none => exact absurd (List.head?_eq_none_iff.1 hq) (dec_ne _)
      | some q =>
      rw [hq] at hc
      rw [Option.some_or] at hc
      rw [hc] at hq
      replace hc := hq
      exact ih (u / 10) (by omega) c hc
theorem sval_itoa (n : Int) : sval (itoa n) = n := by
  unfold sval itoa
  by_cases h : n < 0
  · rw [if_pos h, List.head?_cons, if_pos rfl]
    have : dval 0 (45 :: decDigits n.natAbs) = n.natAbs := by
      have := dval_dec n.natAbs
      unfold dval at this ⊢
      rw [List.foldl_cons, if_neg (by decide)]; exact this
    rw [this]; omega
  · rw [if_neg h, if_neg, dval_dec]
    · omega
    · intro e
      have := dec_head _ _ e
      revert this; decide
theorem itoa_inj {a b : Int} (h : itoa a = itoa b) : a = b := by rw [← sval_itoa a, h, sval_itoa]
theorem dec_len (d : Nat) : ∀ u, u < 10 ^ (d + 1) → (decDigits u).length ≤ d + 1 := by
  induction d with
  | zero => intro u h; rw [decDigits, dif_pos (by simpa using h)]; simp
  | succ d ih =>
    intro u h
    rw [decDigits]
    split
    · simp
    · have := ih (u / 10) (by rw [Nat.pow_succ] at h; omega)
      rw [List.length_append, List.length_singleton]; omega
theorem itoa_len (n : Int) (h0 : -1000000000000000 ≤ n) (h1 : n ≤ 1000000000000000) : 1 ≤ (itoa n).length ∧ (itoa n).length ≤ 17 := by
  unfold itoa
  have hp : ∀ u : Nat, 1 ≤ (decDigits u).length := fun u => List.length_pos_iff.2 (dec_ne u)
  split
  · have := dec_len 15 n.natAbs (by show n.natAbs < 10000000000000000; omega)
    rw [List.length_cons]; omega
  · have := dec_len 15 n.toNat (by show n.toNat < 10000000000000000; omega)
    have := hp n.toNat; omega
theorem parse_snoc (M : Nat) (c : UInt8) : ∀ (l : List UInt8) (acc : Nat), parseUintM M acc (l ++ [c]) = match parseUintM M acc l with | .ok a => parseUintM M a [c] | .range => .range | .«syntax» => .«syntax»
  | [], acc => rfl
  | b :: l, acc => by
    rw [List.cons_append, parseUintM, parseUintM]
    split
    · split
      · rfl
      · split
        · rfl
        · exact parse_snoc M c l _
    · rfl
theorem parse_dec (M : Nat) (hM : 10000000000000000 ≤ M) (u : Nat) (hu : u < 10000000000000000) : parseUintM M 0 (decDigits u) = .ok u := by
  induction u using Nat.strongRecOn with
  | _ u ih =>
    rw [decDigits]
    split
    · rename_i h
      rw [parseUintM, dig_nat u h, if_pos ⟨by omega, by omega⟩, if_neg (by omega), if_neg (by omega), parseUintM]
      congr 1; omega
    · rename_i h
      rw [parse_snoc, ih (u / 10) (by omega) (by omega)]
      show parseUintM M (u / 10) [UInt8.ofNat (48 + u % 10)] = _
      rw [parseUintM, dig_nat _ (by omega), if_pos ⟨by omega, by omega⟩, if_neg (by omega), if_neg (by omega), parseUintM]
      congr 1; omega
theorem parse_itoa (n : Int) (h0 : -1000000000000000 ≤ n) (h1 : n ≤ 1000000000000000) : parseIntB 64 (itoa n) = .ok n := by
  unfold itoa
  by_cases h : n < 0
  · rw [if_pos h]
    unfold parseIntB parseUintB
    have e : (45 : UInt8).toNat = 45 := rfl
    simp only [e, or_true, if_true, if_neg (dec_ne _)]
    rw [parse_dec _ (by decide) _ (by omega)]
    simp only [not_true, false_and, if_false, true_and]
    rw [if_neg (by have : (2 : Nat) ^ (64 - 1) = 9223372036854775808 := rfl; omega)]
    congr 1; omega
  · rw [if_neg h]
    have hd := dec_head n.toNat
    have hp := parse_dec (2 ^ 64 - 1) (by decide) n.toNat (by omega)
    cases hl : decDigits n.toNat with
    | nil => exact absurd hl (dec_ne _)
    | cons c r =>
      rw [hl] at hd hp
      have hc := hd c rfl
      have a1 : ¬ c.toNat = 45 := by omega
      have a2 : ¬ (c.toNat = 43 ∨ c.toNat = 45) := by omega
      unfold parseIntB parseUintB
      have a3 : ¬ c.toNat = 43 := by omega
      simp only [a1, a3, or_self, if_false, hp, reduceCtorEq, not_false_eq_true, true_and, false_and]
      have h2 : (2 : Nat) ^ (64 - 1) = 9223372036854775808 := rfl
      rw [if_neg (by omega)]
      congr 1; omega
/-- what is told of a text that may be a number -/
def Is (l : List UInt8) (r : Int × Bool) : Prop := (r = (0, false) ∧ ∀ n : Int, -1000000000000000 ≤ n → n ≤ 1000000000000000 → itoa n ≠ l) ∨ ∃ n : Int, (-1000000000000000 ≤ n ∧ n ≤ 1000000000000000) ∧ itoa n = l ∧ r = (n, true)
theorem is_unique {l : List UInt8} {r s : Int × Bool} (h1 : Is l r) (h2 : Is l s) : r = s := by
  rcases h1 with ⟨rfl, h1⟩ | ⟨n, hn, en, rfl⟩
  · rcases h2 with ⟨rfl, _⟩ | ⟨m, hm, em, _⟩
    · rfl
    · exact absurd em (h1 m hm.1 hm.2)
  · rcases h2 with ⟨_, h2⟩ | ⟨m, hm, em, rfl⟩
    · exact absurd en (h2 n hn.1 hn.2)
    · rw [itoa_inj (en.trans em.symm)]
end Go.Proofs.YtbojmdjghfhmbaaDoor.Dn
