/- The words of numbers as plain lists of bytes: they are read back; where 'thousand' stands. -/
import Derived.Test.YtiebjnppmcpffaaDoorNw
import Derived.Test.YtiebjnppmcpffaaDoorLm
import Derived.Lib.Index
set_option linter.unusedVariables false
set_option linter.unusedSimpArgs false
namespace Go.Proofs.YtiebjnppmcpffaaDoor.Nk
open Go.RowKit Go.Proofs.YtiebjnppmcpffaaDoorW.PrintWords Go.Proofs.YtiebjnppmcpffaaDoor Go.Proofs.YtiebjnppmcpffaaDoor.Lm
def sL : List (List UInt8) := smallL.map fun s => s.data.toList
def tL : List (List UInt8) := tenL.map fun s => s.data.toList
def hunW : List UInt8 := [104, 117, 110, 100, 114, 101, 100]
def thoW : List UInt8 := [116, 104, 111, 117, 115, 97, 110, 100]
def lmore (s : List UInt8) (r : Nat) (t : List UInt8) : List UInt8 := if r = 0 then s else s ++ 32 :: t
def lA (n : Nat) : List UInt8 := sL.getD n []
def lB (n : Nat) : List UInt8 := if n < 20 then lA n else lmore (tL.getD (n / 10) []) (n % 10) (lA (n % 10))
def lC (n : Nat) : List UInt8 := if n < 100 then lB n else lmore (sL.getD (n / 100) [] ++ 32 :: hunW) (n % 100) (lB (n % 100))
def lD (n : Nat) : List UInt8 := if n < 1000 then lC n else lmore (lC (n / 1000) ++ 32 :: thoW) (n % 1000) (lC (n % 1000))
def valL (w : List UInt8) : Option Nat := match sL.findIdx? (· == w) with | some k => some k | none => match (tL.drop 2).findIdx? (· == w) with | some k => some (10 * (2 + k)) | none => none
def step2 (now : Nat) (w : List UInt8) : Option Nat :=
  if w = hunW then if 1000000 < now * 100 then none else some (now * 100) else if w = thoW then none
  else match valL w with | some v => if 1000000 < now + v then none else some (now + v) | none => none
def step (p : Nat × Nat) (w : List UInt8) : Option (Nat × Nat) :=
  if w = hunW then if 1000000 < p.2 * 100 then none else some (p.1, p.2 * 100) else if w = thoW then some (p.2 * 1000, 0)
  else match valL w with | some v => if 1000000 < p.2 + v then none else some (p.1, p.2 + v) | none => none
def fidx (sub : List UInt8) : List UInt8 → Option Nat
  | [] => if sub.isEmpty then some 0 else none
  | b :: l => if sub.isPrefixOf (b :: l) then some 0 else (fidx sub l).map (· + 1)
set_option maxRecDepth 1000000 in
theorem k1 : ∀ b : Fin 1000, (cut 32 (lC b.1)).foldlM step2 0 = some b.1 := by decide +kernel
set_option maxRecDepth 1000000 in
theorem k2 : ∀ a : Fin 1000, fidx thoW (lC a.1 ++ 32 :: thoW) = some ((lC a.1).length + 1) ∧ fidx thoW (lC a.1) = none ∧ (lC a.1).head? ≠ some 32 ∧ lC a.1 ≠ [] := by decide +kernel
theorem k3 : ∀ b : Fin 1000, (lC b.1).count 32 ≤ 4 := by decide +kernel
theorem toList_lit {a : ByteArray} {l : List UInt8} : a.toList = l ↔ a.data.toList = l := by rw [ByteArray.toList_eq]
theorem cut_app (c : UInt8) : ∀ (xs ys : List UInt8), cut c (xs ++ c :: ys) = cut c xs ++ cut c ys
  | [], ys => by
    show cut c (c :: ys) = [] :: cut c ys
    rw [cut, if_pos rfl]
  | b :: xs, ys => by
    rw [List.cons_append, cut, cut, cut_app c xs ys]
    split
    · rfl
    · cases hq : cut c xs with
      | nil => exact absurd hq (cut_ne c xs)
      | cons q qs => rfl
theorem fold_step2 : ∀ (ws : List (List UInt8)) (th now x : Nat), ws.foldlM step2 now = some x → ws.foldlM step (th, now) = some (th, x)
  | [], th, now, x, h => by
    rw [List.foldlM_nil] at h ⊢
    rw [Option.some.inj h]; rfl
  | w :: ws, th, now, x, h => by
    rw [List.foldlM_cons] at h ⊢
    obtain ⟨y, hy, h⟩ := Option.bind_eq_some_iff.1 h
    refine Option.bind_eq_some_iff.2 ⟨(th, y), ?_, fold_step2 ws th y x h⟩
    unfold step2 at hy
    unfold step
    split at hy
    · rename_i h1
      rw [if_pos h1]
      split at hy
      · cases hy
      · rename_i h2
        rw [if_neg h2, ← Option.some.inj hy]
    · rename_i h1
      rw [if_neg h1]
      split at hy
      · cases hy
      · rename_i h2
        rw [if_neg h2]
        split at hy
        · split at hy
          · cases hy
          · rename_i h3
            rw [if_neg h3, ← Option.some.inj hy]
        · cases hy
theorem parse_lt {b : Nat} (hb : b < 1000) (th : Nat) : (cut 32 (lC b)).foldlM step (th, 0) = some (th, b) := fold_step2 _ _ _ _ (k1 ⟨b, hb⟩)
theorem cut_tho : cut 32 thoW = [thoW] := by decide
theorem parse (n : Nat) (hn : n < 1000000) : ∃ th now, (cut 32 (lD n)).foldlM step (0, 0) = some (th, now) ∧ th + now = n ∧ now < 1000 ∧ th < 1000000 := by
  unfold lD
  by_cases h : n < 1000
  · rw [if_pos h]; exact ⟨0, n, parse_lt h 0, by omega, h, by omega⟩
  · rw [if_neg h]
    have ha : n / 1000 < 1000 := by omega
    have hb : n % 1000 < 1000 := by omega
    have hd : n / 1000 * 1000 + n % 1000 = n := by omega
    have h1 : (cut 32 (lC (n / 1000) ++ 32 :: thoW)).foldlM step (0, 0) = some (n / 1000 * 1000, 0) := by
      rw [cut_app, cut_tho, List.foldlM_append, parse_lt ha 0]; rfl
    refine ⟨n / 1000 * 1000, n % 1000, ?_, hd, hb, by omega⟩
    unfold lmore
    by_cases hz : n % 1000 = 0
    · rw [if_pos hz, h1, hz]
    · rw [if_neg hz, cut_app, List.foldlM_append, h1]
      exact parse_lt hb _
theorem inj {n m : Nat} (hn : n < 1000000) (hm : m < 1000000) (h : lD n = lD m) : n = m := by
  obtain ⟨a, b, h1, h2, _⟩ := parse n hn
  obtain ⟨c, d, h3, h4, _⟩ := parse m hm
  rw [h, h3] at h1
  have := Option.some.inj h1
  have e1 := congrArg Prod.fst this
  have e2 := congrArg Prod.snd this
  simp only at e1 e2
  omega
theorem words_le (n : Nat) (hn : n < 1000000) : (cut 32 (lD n)).length ≤ 12 := by
  rw [cut_len]
  unfold lD
  by_cases h : n < 1000
  · rw [if_pos h]; have := k3 ⟨n, h⟩; simp only at this; omega
  · rw [if_neg h]
    have h1 := k3 ⟨n / 1000, by omega⟩
    have h2 := k3 ⟨n % 1000, by omega⟩
    simp only at h1 h2
    have h3 : thoW.count 32 = 0 := by decide
    unfold lmore
    by_cases hz : n % 1000 = 0
    · rw [if_pos hz, List.count_append, List.count_cons_self, h3]; omega
    · rw [if_neg hz, List.count_append, List.count_cons_self, List.count_append, List.count_cons_self, h3]; omega
-- where a text is sought
theorem fidx_index (sub : List UInt8) : ∀ l, Lib.index l sub = (match fidx sub l with | some i => (i : Int) | none => -1)
  | [] => by
    rw [Lib.index, fidx]
    split <;> rfl
  | b :: l => by
    rw [Lib.index, fidx]
    split
    · rfl
    · rw [fidx_index sub l]
      cases fidx sub l with
      | none => rfl
      | some i =>
        rw [if_neg (by simp <;> omega)]; simp
theorem fidx_app (sub R : List UInt8) : ∀ (l : List UInt8) (i : Nat), fidx sub l = some i → i + sub.length ≤ l.length ∧ fidx sub (l ++ R) = some i
  | [], i, h => by
    rw [fidx] at h
    split at h
    · rename_i hs
      obtain rfl : sub = [] := List.isEmpty_iff.1 hs
      obtain rfl := Option.some.inj h
      refine ⟨Nat.le_refl _, ?_⟩
      cases R with
      | nil => rfl
      | cons r R => rfl
    · cases h
  | b :: l, i, h => by
    rw [fidx] at h
    rw [List.cons_append, fidx]
    split at h
    · rename_i hp
      obtain rfl := Option.some.inj h
      have hp' := List.isPrefixOf_iff_prefix.1 hp
      refine ⟨by have := hp'.length_le; omega, ?_⟩
      rw [if_pos (List.isPrefixOf_iff_prefix.2 (hp'.trans (by rw [← List.cons_append]; exact List.prefix_append _ _)))]
    · rename_i hp
      obtain ⟨j, hj, rfl⟩ := Option.map_eq_some_iff.1 h
      obtain ⟨h1, h2⟩ := fidx_app sub R l j hj
      refine ⟨by simp only [List.length_cons]; omega, ?_⟩
      rw [if_neg, h2]
      · rfl
      · intro hq
        apply hp
        have hq' := List.isPrefixOf_iff_prefix.1 hq
        rw [← List.cons_append] at hq'
        exact List.isPrefixOf_iff_prefix.2 (List.prefix_of_prefix_length_le hq' (List.prefix_append _ _) (by simp only [List.length_cons]; omega))
theorem cut_none' {n : Nat} (hn : n < 1000) : Lib.index (lC n) thoW = -1 := by
  rw [fidx_index, (k2 ⟨n, hn⟩).2.1]
theorem cut_some {a : Nat} (ha : a < 1000) (R : List UInt8) : Lib.index (lC a ++ 32 :: thoW ++ R) thoW = (((lC a).length + 1 : Nat) : Int) := by
  rw [fidx_index, (fidx_app thoW R _ _ (k2 ⟨a, ha⟩).1).2]
-- the words as the walk tells them
theorem tdiv_nat (n d : Nat) : ((n : Int)).tdiv (d : Int) = ((n / d : Nat) : Int) := by rw [Int.tdiv_eq_ediv_of_nonneg (Int.natCast_nonneg n)]; exact Int.natCast_ediv n d |>.symm
theorem tmod_nat (n d : Nat) : ((n : Int)).tmod (d : Int) = ((n % d : Nat) : Int) := by rw [Int.tmod_eq_emod_of_nonneg (Int.natCast_nonneg n)]; exact Int.natCast_emod n d |>.symm
theorem rd_list (ss : List ByteArray) (n : Nat) : (rdOf ByteArray.empty ss (n : Int)).data.toList = (ss.map fun s => s.data.toList).getD n [] := by
  unfold rdOf
  rw [Int.toNat_natCast, List.getD_eq_getElem?_getD, List.getD_eq_getElem?_getD, List.getElem?_map]
  cases ss[n]? <;> rfl
theorem ba_append (a b : ByteArray) : (a ++ b).data.toList = a.data.toList ++ b.data.toList := by
  rw [ByteArray.data_append, Array.toList_append]
theorem more_list (s t : ByteArray) (r : Nat) : (wordMore s (r : Int) t).data.toList = lmore s.data.toList r t.data.toList := by
  unfold wordMore lmore
  by_cases h : r = 0
  · rw [if_neg (by omega), if_pos h]
  · rw [if_pos (by omega), if_neg h, ba_append, ba_append]; rfl
theorem nwA_list (n : Nat) : (nwA (n : Int)).data.toList = lA n := rd_list _ _
theorem nwB_list (n : Nat) : (nwB (n : Int)).data.toList = lB n := by
  unfold nwB lB
  by_cases h : n < 20
  · rw [if_pos (by omega), if_pos h]; exact nwA_list n
  · rw [if_neg (by omega), if_neg h, show (10 : Int) = ((10 : Nat) : Int) from rfl, tdiv_nat, tmod_nat, more_list, nwA_list, rd_list]; rfl
theorem nwC_list (n : Nat) : (nwC (n : Int)).data.toList = lC n := by
  unfold nwC lC
  by_cases h : n < 100
  · rw [if_pos (by omega), if_pos h]; exact nwB_list n
  · rw [if_neg (by omega), if_neg h, show (100 : Int) = ((100 : Nat) : Int) from rfl, tdiv_nat, tmod_nat, more_list, nwB_list, ba_append, rd_list]; rfl
theorem nwD_list (n : Nat) : (nwD (n : Int)).data.toList = lD n := by
  unfold nwD lD
  by_cases h : n < 1000
  · rw [if_pos (by omega), if_pos h]; exact nwC_list n
  · rw [if_neg (by omega), if_neg h, show (1000 : Int) = ((1000 : Nat) : Int) from rfl, tdiv_nat, tmod_nat, more_list, nwC_list, ba_append, nwC_list]; rfl
theorem nwD_eq {n : Nat} {s : ByteArray} : nwD (n : Int) = s ↔ lD n = s.data.toList := by
  rw [← nwD_list]
  exact ⟨fun h => by rw [h], fun h => ByteArray.ext (Array.toList_inj.1 h)⟩
end Go.Proofs.YtiebjnppmcpffaaDoor.Nk
