import Derived.Test.YtmmcdpijpdjnoaaDoorWWords
import Derived.Lib.Bytealg
import Derived.Lib.Strings
set_option linter.unusedVariables false
set_option linter.unusedSimpArgs false
namespace Go.Proofs.YtmmcdpijpdjnoaaDoor.Lm
open Go.RowKit Go.Proofs.YtmmcdpijpdjnoaaDoorW.PrintWords
theorem w64 {x : Int} (h0 : -9223372036854775808 ≤ x) (h1 : x ≤ 9223372036854775807) : wrap64 x = x := by
  unfold wrap64; omega
def cut (c : UInt8) : List UInt8 → List (List UInt8)
  | [] => [[]]
  | b :: l => if b = c then [] :: cut c l else match cut c l with | p :: ps => (b :: p) :: ps | [] => [[b]]
theorem cut_none {c : UInt8} : ∀ {l : List UInt8}, c ∉ l → cut c l = [l]
  | [], _ => rfl
  | b :: l, h => by
    have h1 : b ≠ c := fun e => h (by rw [e]; exact List.mem_cons_self)
    have h2 : c ∉ l := fun e => h (List.mem_cons_of_mem _ e)
    rw [cut, if_neg h1, cut_none h2]
theorem cut_hit {c : UInt8} (r : List UInt8) : ∀ {p : List UInt8}, c ∉ p → cut c (p ++ c :: r) = p :: cut c r
  | [], _ => by rw [List.nil_append, cut, if_pos rfl]
  | b :: p, h => by
    have h1 : b ≠ c := fun e => h (by rw [e]; exact List.mem_cons_self)
    have h2 : c ∉ p := fun e => h (List.mem_cons_of_mem _ e)
    rw [List.cons_append, cut, if_neg h1, cut_hit r h2]
theorem cut_ne (c : UInt8) (l : List UInt8) : cut c l ≠ [] := by
  cases l with
  | nil => simp [cut]
  | cons b l =>
    rw [cut]
    split
    · simp
    · split <;> simp
def ba (l : List UInt8) : ByteArray := ⟨⟨l⟩⟩
theorem ba_list (s : ByteArray) : ba s.data.toList = s := rfl
theorem list_ba (l : List UInt8) : (ba l).data.toList = l := rfl
theorem size_ba (l : List UInt8) : (ba l).size = l.length := rfl
theorem size_list (s : ByteArray) : s.data.toList.length = s.size := rfl
def cutB (c : UInt8) (s : ByteArray) : List ByteArray := (cut c s.data.toList).map ba
theorem cut_piece {c : UInt8} : ∀ {l : List UInt8} {p : List UInt8}, p ∈ cut c l → p.length ≤ l.length
  | [], p, h => by rw [cut, List.mem_singleton] at h; rw [h]; exact Nat.le_refl _
  | b :: l, p, h => by
    rw [cut] at h
    split at h
    · rcases List.mem_cons.1 h with h | h
      · rw [h]; simp
      · have := cut_piece h; simp only [List.length_cons]; omega
    · split at h
      · rename_i q qs hq
        rcases List.mem_cons.1 h with h | h
        · have : q.length ≤ l.length := cut_piece (by rw [hq]; exact List.mem_cons_self)
          rw [h]; simp only [List.length_cons]; omega
        · have : p.length ≤ l.length := cut_piece (by rw [hq]; exact List.mem_cons_of_mem _ h)
          simp only [List.length_cons]; omega
      · rw [List.mem_singleton] at h; rw [h]; simp
theorem cut_len {c : UInt8} : ∀ (l : List UInt8), (cut c l).length = l.count c + 1
  | [] => rfl
  | b :: l => by
    rw [cut]
    by_cases h : b = c
    · subst h; rw [if_pos rfl, List.length_cons, cut_len l, List.count_cons_self]
    · rw [if_neg h, List.count_cons_of_ne h]
      have := cut_len (c := c) l
      split
      · rename_i q qs hq
        rw [hq] at this; exact this
      · rename_i hq
        exact absurd hq (cut_ne c l)
theorem index_spec (c : UInt8) : ∀ (l : List UInt8), (Lib.indexByte l c = -1 ∧ c ∉ l) ∨ ∃ p r : List UInt8, l = p ++ c :: r ∧ c ∉ p ∧ Lib.indexByte l c = (p.length : Int)
  | [] => .inl ⟨rfl, fun h => by cases h⟩
  | b :: l => by
    by_cases h : b = c
    · subst h
      refine .inr ⟨[], l, rfl, (fun h => by cases h), ?_⟩
      rw [Lib.indexByte, if_pos (by simp)]; rfl
    · have hb : (b == c) = false := by simpa using h
      rcases index_spec c l with ⟨h1, h2⟩ | ⟨p, r, h1, h2, h3⟩
      · refine .inl ⟨?_, ?_⟩
        · rw [Lib.indexByte, if_neg (by rw [hb]; simp), h1]; rfl
        · intro hm
          rcases List.mem_cons.1 hm with e | e
          · exact h e.symm
          · exact h2 e
      · refine .inr ⟨b :: p, r, by rw [h1]; rfl, ?_, ?_⟩
        · intro hm
          rcases List.mem_cons.1 hm with e | e
          · exact h e.symm
          · exact h2 e
        · rw [Lib.indexByte, if_neg (by rw [hb]; simp), h3, if_neg (by simp), List.length_cons]
          omega
theorem count_hit {c : UInt8} {p r : List UInt8} (h : c ∉ p) : (p ++ c :: r).count c = r.count c + 1 := by
  rw [List.count_append, List.count_eq_zero_of_not_mem h, List.count_cons_self, Nat.zero_add]
theorem extract_ba (s : ByteArray) (a b : Nat) : s.extract a b = ba ((s.data.toList.drop a).take (b - a)) := by
  apply ByteArray.ext
  apply Array.toList_inj.1
  rw [Go.Lib.extract_data]; rfl
theorem bt_nat (s : ByteArray) (i : Nat) (h : i < s.size) : bt s (i : Int) = ((s.data.toList[i]'h).toNat : Int) := by
  unfold bt
  rw [dif_pos (show ((i : Int)).toNat < s.size from h)]
  rfl
theorem u8_eq {a b : UInt8} (h : (a.toNat : Int) = (b.toNat : Int)) : a = b := UInt8.toNat_inj.1 (by omega)
theorem list_inj {a b : ByteArray} (h : a.toList = b.toList) : a = b := by
  rw [ByteArray.toList_eq, ByteArray.toList_eq] at h
  exact ByteArray.ext (Array.toList_inj.1 h)
theorem list_eq_iff {a b : ByteArray} : a.toList = b.toList ↔ a = b := ⟨list_inj, fun h => by rw [h]⟩
theorem take_set_snoc {α : Type} {l : List α} {i : Nat} (h : i < l.length) (x : α) : (l.set i x).take (i + 1) = l.take i ++ [x] := by
  rw [List.take_succ_eq_append_getElem (by rw [List.length_set]; exact h), List.getElem_set_self]
  congr 1
  exact List.take_set_of_le (Nat.le_refl _)
theorem take_hit {s : ByteArray} {p r : List UInt8} {c : UInt8} (h : s.data.toList = p ++ c :: r) : s.extract 0 p.length = ba p ∧ s.extract (p.length + 1) s.size = ba r ∧ s.size = p.length + 1 + r.length := by
  have hs : s.size = p.length + 1 + r.length := by
    rw [← size_list, h, List.length_append, List.length_cons]; omega
  refine ⟨?_, ?_, hs⟩
  · rw [extract_ba, h, List.drop_zero, Nat.sub_zero, List.take_left' rfl]
  · rw [extract_ba, h, hs]
    have : (p ++ c :: r).drop (p.length + 1) = r := by
      rw [← List.drop_drop, List.drop_left' rfl]; rfl
    rw [this, List.take_of_length_le (by omega)]
theorem nil_iff {a : ByteArray} : a.toList = ([] : List UInt8) ↔ a.size = 0 := by
  rw [ByteArray.toList_eq]
  constructor
  · intro h; rw [← size_list, h]; rfl
  · intro h; exact List.eq_nil_of_length_eq_zero h
theorem idx_none {c : UInt8} {l : List UInt8} (h : c ∉ l) : Lib.indexByte l c = -1 := by
  rcases index_spec c l with ⟨h1, _⟩ | ⟨p, r, h1, _, _⟩
  · exact h1
  · exact absurd (by rw [h1]; simp) h
theorem cut_unique {c : UInt8} : ∀ {x x' y y' : List UInt8}, c ∉ x → c ∉ x' → x ++ c :: y = x' ++ c :: y' → x = x' ∧ y = y'
  | [], [], y, y', _, _, h => ⟨rfl, (List.cons.inj h).2⟩
  | [], b :: x', y, y', _, h2, h => by
    have := (List.cons.inj h).1
    exact absurd (by rw [this]; exact List.mem_cons_self) h2
  | b :: x, [], y, y', h1, _, h => by
    have := (List.cons.inj h).1
    exact absurd (by rw [this]; exact List.mem_cons_self) h1
  | b :: x, b' :: x', y, y', h1, h2, h => by
    obtain ⟨e1, e2⟩ := List.cons.inj h
    obtain ⟨e3, e4⟩ := cut_unique (fun m => h1 (List.mem_cons_of_mem _ m)) (fun m => h2 (List.mem_cons_of_mem _ m)) e2
    exact ⟨by rw [e1, e3], e4⟩
theorem idx_hit {c : UInt8} {p r : List UInt8} (h : c ∉ p) : Lib.indexByte (p ++ c :: r) c = (p.length : Int) := by
  rcases index_spec c (p ++ c :: r) with ⟨_, h2⟩ | ⟨p', r', h1, h2, h3⟩
  · exact absurd (by simp) h2
  · rw [h3, (cut_unique h h2 h1).1]
theorem nn (n : Nat) : (0 : Int) ≤ (n : Int) := Int.natCast_nonneg n
theorem lt' {a b : Nat} (h : a < b) : (a : Int) < (b : Int) := Int.ofNat_lt.2 h
theorem le' {a b : Nat} (h : a ≤ b) : (a : Int) ≤ (b : Int) := Int.ofNat_le.2 h
theorem nlt {a b : Nat} (h : b ≤ a) : ¬ ((a : Int) < (b : Int)) := by omega
theorem nge {a b : Nat} (h : a < b) : ¬ ((a : Int) ≥ (b : Int)) := by omega
theorem ne' {a b : Nat} (h : a ≠ b) : ¬ ((a : Int) = (b : Int)) := by omega
theorem up {i n : Nat} (h : i < n) (hn : n ≤ 4194304) : wrap64 ((i : Int) + 1) = ((i + 1 : Nat) : Int) := by rw [w64 (by omega) (by omega)]; omega
theorem dn {j : Nat} (h : j ≤ 4194304) : wrap64 ((j : Int) - 1) = (j : Int) - 1 := w64 (by omega) (by omega)
theorem dn1 {j : Nat} (h : j ≤ 4194304) : wrap64 (((j + 1 : Nat) : Int) - 1) = (j : Int) := by rw [w64 (by omega) (by omega)]; omega
theorem nlt1 {e : Nat} (h : e ≠ 0) : ¬ ((e : Int) - 1 < 0) := by omega
theorem sub1 (j : Nat) : ((j + 1 : Nat) : Int) - 1 = (j : Int) := by omega
theorem sum {a b n : Nat} (h : a + b ≤ n) (hn : n ≤ 4611686018427387904) : wrap64 ((a : Int) + (b : Int)) = ((a + b : Nat) : Int) := by rw [w64 (by omega) (by omega)]; omega
theorem take_pos {α : Type} {l : List α} {e : Nat} (h : e ≠ 0) (h2 : e ≤ l.length) : (l.take e).reverse.isEmpty = false := by
  rw [List.isEmpty_reverse]
  cases l with
  | nil => exact absurd (Nat.le_zero.1 h2) h
  | cons x y =>
    cases e with
    | zero => exact absurd rfl h
    | succ e => rfl
end Go.Proofs.YtmmcdpijpdjnoaaDoor.Lm
