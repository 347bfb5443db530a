/- ReadPredictor: what is left of the law beside the walk, and the law's row. -/
import Derived.Test.YtdfpfiecpcgffaaDoorRows
import Derived.Test.YtdfpfiecpcgffaaDoorTie
import Derived.Test.YtdfpfiecpcgffaaDoorCards
import Derived.Test.YtdfpfiecpcgffaaDoorWr
import Derived.Test.YtdfpfiecpcgffaaDoorGh
import Derived.Lay
import Derived.LaidOnce
import Derived.SevenTiedAt
import Derived.LaidMore
import Derived.Handed
import Derived.WalkKit
import Derived.ProofKit
import Derived.OpenShut
import Derived.ShutString
import Derived.ChangeOld
import Derived.Below
import Derived.SizedLaws
import Derived.Carry
import Derived.Test.YtdfpfiecpcgffaaDoorPFnExactReadPredictorx0
import Derived.Test.YtdfpfiecpcgffaaDoorPFnExactReadPredictorx1
import Derived.Test.YtdfpfiecpcgffaaDoorPFnExactReadPredictorx2
import Derived.Test.YtdfpfiecpcgffaaDoorPFnExactReadPredictorx3
import Derived.Test.YtdfpfiecpcgffaaDoorPFnExactReadPredictorx4
import Derived.Test.YtdfpfiecpcgffaaDoorPFnExactReadPredictorx5
import Derived.Test.YtdfpfiecpcgffaaDoorPFnExactReadPredictorx6
import Derived.Test.YtdfpfiecpcgffaaDoorLm
import Derived.Test.YtdfpfiecpcgffaaDoorOf
set_option linter.unusedVariables false
set_option linter.unusedSimpArgs false
namespace Go.Proofs.YtdfpfiecpcgffaaDoor.RtpPure
open Go.RowKit Go.Proofs.YtdfpfiecpcgffaaDoorW.PrintWords Go.Proofs.YtdfpfiecpcgffaaDoorW.PrintMore Go.Proofs.YtdfpfiecpcgffaaDoorW.PrintFl Go.Proofs.YtdfpfiecpcgffaaDoor Go.Proofs.YtdfpfiecpcgffaaDoor.PFnExactReadPredictor Go.Proofs.YtdfpfiecpcgffaaDoor.Lm
theorem rdN_at {l : List Nat} {i : Nat} (h : i < l.length) : rdOf (0 : Nat) l (i : Int) = l[i]'h := by
  unfold rdOf
  rw [Int.toNat_natCast, List.getD_eq_getElem?_getD, List.getElem?_eq_getElem h]; rfl
theorem cutl (s : ByteArray) (hs : s.size ≤ 4194304) (c : UInt8) : ∀ (d k : Nat) (out : List ByteArray) (a i : Nat), i + d = s.size → a ≤ i → c ∉ (s.data.toList.drop a).take (i - a) → out.length ≤ i → d + 1 < k →
    spec_l01Cut.l0 k s ((c.toNat : Nat) : Int) out (a : Int) (i : Int) = some (out ++ (cut c (s.data.toList.drop a)).map ba)
  | d, 0, out, a, i, h1, ha, hc, ho, hk => by omega
  | 0, k + 1, out, a, i, h1, ha, hc, ho, hk => by
    obtain ⟨k, rfl⟩ : ∃ m, k = m + 1 := ⟨k - 1, by omega⟩
    have hi : i = s.size := h1
    subst hi
    have hd : (s.data.toList.drop a).take (s.size - a) = s.data.toList.drop a := List.take_of_length_le (by rw [List.length_drop, size_list]; exact Nat.le_refl _)
    rw [hd] at hc
    rw [spec_l01Cut.l0, if_pos (Int.le_refl _), if_pos rfl, if_pos (by omega), if_pos (by omega), if_pos (by omega), Int.toNat_natCast, Int.toNat_natCast, w64 (by omega) (by omega), spec_l01Cut.l0, if_neg (by omega), cut_none hc, extract_ba, hd]
    rfl
  | d + 1, k + 1, out, a, i, h1, ha, hc, ho, hk => by
    have hi : i < s.size := by omega
    have e1 : wrap64 ((i : Int) + 1) = ((i + 1 : Nat) : Int) := by rw [w64 (by omega) (by omega)]; omega
    have hx : s.data.toList.drop a = (s.data.toList.drop a).take (i - a) ++ (s.data.toList[i]'hi) :: s.data.toList.drop (i + 1) := by
      have h2 : (s.data.toList.drop a).drop (i - a) = (s.data.toList[i]'hi) :: s.data.toList.drop (i + 1) := by
        rw [List.drop_drop, show a + (i - a) = i by omega]; exact List.drop_eq_getElem_cons hi
      rw [← h2, List.take_append_drop]
    have hb := bt_nat s i hi
    rw [spec_l01Cut.l0, if_pos (by omega), if_neg (by omega), if_pos (by omega), if_pos (by omega), hb]
    by_cases c1 : (((s.data.toList[i]'hi).toNat : Nat) : Int) = ((c.toNat : Nat) : Int)
    · have hc1 := u8_eq c1
      rw [if_pos c1, if_pos (by omega), if_pos (by omega), if_pos (by omega), e1, Int.toNat_natCast, Int.toNat_natCast]
      rw [cutl s hs c d k _ (i + 1) (i + 1) (by omega) (Nat.le_refl _) (by rw [Nat.sub_self, List.take_zero]; exact fun h => by cases h) (by rw [List.length_append, List.length_singleton]; omega) (by omega)]
      rw [hx, hc1, cut_hit _ hc, extract_ba, List.append_assoc]
      rfl
    · rw [if_neg c1, e1]
      refine cutl s hs c d k out a (i + 1) (by omega) (by omega) ?_ (by omega) (by omega)
      have h3 : (s.data.toList.drop a).take (i + 1 - a) = (s.data.toList.drop a).take (i - a) ++ [s.data.toList[i]'hi] := by
        rw [show i + 1 - a = (i - a) + 1 by omega, List.take_succ_eq_append_getElem (by rw [List.length_drop, size_list]; omega)]
        congr 2
        rw [List.getElem_drop]
        congr 1
        omega
      rw [h3]
      intro hm
      rcases List.mem_append.1 hm with e | e
      · exact hc e
      · rw [List.mem_singleton] at e
        exact c1 (by rw [e])
theorem cut_spec (s : ByteArray) (hs : s.size ≤ 4194304) (c : UInt8) (k : Nat) (hk : s.size + 1 < k) : spec_l01Cut.f k s ((c.toNat : Nat) : Int) = some (cutB c s) :=
  cutl s hs c s.size k [] 0 0 (by omega) (by omega) (by simp) (by simp) hk
theorem gs0 (c : UInt8) (k : Nat) (x : ByteArray) (l : List ByteArray) (n : Nat) (hc : x.data.toList.count c = 0) (hl : l.length = n + 1) (hn : n ≤ 4194304) : strings_genSplit.l0 (k + 1) x (ba [c]) 0 (n : Int) l (n : Int) = some (l.take n ++ cutB c x) := by
  have hn0 : c ∉ x.data.toList := fun h => by
    have := List.count_pos_iff.2 h
    omega
  have e1 : wrap64 ((n : Int) + 1) = ((n + 1 : Nat) : Int) := by rw [w64 (by omega) (by omega)]; omega
  have f1 : ¬ ((n : Int) < (n : Int)) := by omega
  have f2 : (0 : Int) ≤ (n : Int) := by omega
  have f3 : (n : Int) < (l.length : Int) := by omega
  have f4 : (0 : Int) ≤ ((n + 1 : Nat) : Int) := by omega
  have f5 : ((n + 1 : Nat) : Int) ≤ (l.length : Int) := by omega
  have f6 : n < l.length := by omega
  rw [strings_genSplit.l0, if_neg f1, if_pos f2, if_pos f3, e1, if_pos f4, if_pos f5, Int.toNat_natCast, Int.toNat_natCast]
  unfold cutB
  rw [cut_none hn0, take_set_snoc f6]
  rfl
theorem gs1 (c : UInt8) (k : Nat) (x : ByteArray) (l : List ByteArray) (i n : Nat) (p r : List UInt8) (hin : i < n) (hl : l.length = n + 1) (hn : n ≤ 4194304) (hx : x.size ≤ 4194304) (h2 : x.data.toList = p ++ c :: r) (h4 : Lib.indexByte x.data.toList c = (p.length : Int)) :
    strings_genSplit.l0 (k + 1) x (ba [c]) 0 (n : Int) l (i : Int) = strings_genSplit.l0 k (ba r) (ba [c]) 0 (n : Int) (l.set i (ba p)) ((i + 1 : Nat) : Int) := by
  obtain ⟨g1, g2, g3⟩ := take_hit h2
  have hI : strings_Index.f x (ba [c]) = some ((p.length : Nat) : Int) := by
    unfold strings_Index.f
    rw [if_pos (show (ba [c]).size = 1 from rfl), ← h4]; rfl
  clear h4 h2
  have f1 : (i : Int) < (n : Int) := by omega
  have f2 : ¬ (((p.length : Nat) : Int) < 0) := by omega
  have f3 : (0 : Int) ≤ ((p.length : Nat) : Int) := by omega
  have f4 : ((p.length : Nat) : Int) ≤ (x.size : Int) := by omega
  have f5 : (0 : Int) ≤ (i : Int) := by omega
  have f6 : (i : Int) < (l.length : Int) := by omega
  have f7 : (0 : Int) ≤ ((p.length + 1 : Nat) : Int) := by omega
  have f8 : ((p.length + 1 : Nat) : Int) ≤ (x.size : Int) := by omega
  have e1 : wrap64 ((i : Int) + 1) = ((i + 1 : Nat) : Int) := by rw [w64 (by omega) (by omega)]; omega
  have e2 : wrap64 (((p.length : Nat) : Int) + 0) = ((p.length : Nat) : Int) := by rw [w64 (by omega) (by omega)]; omega
  have e3 : wrap64 (((p.length : Nat) : Int) + (((ba [c]).size : Nat) : Int)) = ((p.length + 1 : Nat) : Int) := by
    rw [show (((ba [c]).size : Nat) : Int) = 1 from rfl, w64 (by omega) (by omega)]; omega
  rw [strings_genSplit.l0, if_pos f1, hI, Option.bind_some, if_neg f2, e2, if_pos f3, if_pos f4, if_pos f5, if_pos f6, e3, if_pos f7, if_pos f8, e1, Int.toNat_natCast, Int.toNat_natCast, Int.toNat_natCast, g1, g2]
theorem gsl (c : UInt8) (n : Nat) (hn : n ≤ 4194304) (d : Nat) : ∀ (k : Nat) (x : ByteArray) (l : List ByteArray) (i : Nat), i + d = n → x.data.toList.count c = d → l.length = n + 1 → x.size ≤ 4194304 → d < k →
    strings_genSplit.l0 k x (ba [c]) 0 (n : Int) l (i : Int) = some (l.take i ++ cutB c x) := by
  induction d with
  | zero =>
    intro k x l i h1 hc hl hx hk
    obtain ⟨k, rfl⟩ : ∃ m, k = m + 1 := ⟨k - 1, by omega⟩
    obtain rfl : i = n := by omega
    exact gs0 c k x l i hc hl hn
  | succ d ih =>
    intro k x l i h1 hc hl hx hk
    obtain ⟨k, rfl⟩ : ∃ m, k = m + 1 := ⟨k - 1, by omega⟩
    rcases index_spec c x.data.toList with ⟨_, h⟩ | ⟨p, r, h2, h3, h4⟩
    · rw [List.count_eq_zero_of_not_mem h] at hc
      omega
    · obtain ⟨g1, g2, g3⟩ := take_hit h2
      have hcr : (ba r).data.toList.count c = d := by
        rw [h2, count_hit h3] at hc
        rw [list_ba]; omega
      rw [gs1 c k x l i n p r (by omega) hl hn hx h2 h4, ih k (ba r) _ (i + 1) (by omega) hcr (by rw [List.length_set]; exact hl) (by rw [size_ba]; omega) (by omega), take_set_snoc (by omega)]
      unfold cutB
      rw [h2, cut_hit r h3, List.append_assoc]
      rfl
theorem split_some (s : ByteArray) (hs : s.size ≤ 4194303) (c : UInt8) (k : Nat) (hk : s.size + 1 < k) : strings_Split.f k s (ba [c]) = some (cutB c s) := by
  obtain ⟨k, rfl⟩ : ∃ m, k = m + 1 := ⟨k - 1, by omega⟩
  have hle : s.data.toList.count c ≤ s.size := List.count_le_length
  have hC : strings_Count.f s (ba [c]) = some ((s.data.toList.count c : Nat) : Int) := by
    unfold strings_Count.f
    rw [if_pos (show (ba [c]).size = 1 from rfl)]; rfl
  have e1 : wrap64 (((s.data.toList.count c : Nat) : Int) + 1) = ((s.data.toList.count c + 1 : Nat) : Int) := by rw [w64 (by omega) (by omega)]; omega
  have e2 : mn ((s.data.toList.count c + 1 : Nat) : Int) (wrap64 ((s.size : Int) + 1)) = ((s.data.toList.count c + 1 : Nat) : Int) := by
    rw [w64 (by omega) (by omega)]; unfold mn; split <;> omega
  have e3 : wrap64 (((s.data.toList.count c + 1 : Nat) : Int) - 1) = ((s.data.toList.count c : Nat) : Int) := by rw [w64 (by omega) (by omega)]; omega
  have hne : ¬ ((ba [c]).toList = ([] : List UInt8)) := by
    intro h
    have := nil_iff.1 h
    cases this
  unfold strings_Split.f strings_genSplit.f
  rw [if_neg (by decide), if_neg hne, if_pos (by decide), hC, Option.bind_some, e1, strings_genSplit.j0, e2, if_pos (by omega), if_pos (by omega), e3, Int.toNat_natCast]
  have hg := gsl c (s.data.toList.count c) (by omega) (s.data.toList.count c) k s (List.replicate (s.data.toList.count c + 1) (⟨#[]⟩ : ByteArray)) 0 (by omega) rfl (by rw [List.length_replicate]) (by omega) (by omega)
  rw [show (((0 : Nat) : Int)) = 0 from rfl] at hg
  rw [hg]
  rfl
def bitsN (a : Nat) : Nat := if fne .f32 a a = true then 2143289344 else a
theorem bitsN_lt {a : Nat} (h : a < 4294967296) : bitsN a < 4294967296 := by unfold bitsN; split <;> omega
def txL (a : Nat) : List UInt8 := (strOfNums (dgs (bitsN a) 8)).data.toList
theorem txL_len (a : Nat) : (txL a).length = 8 := by
  unfold txL strOfNums
  rw [List.toList_toArray, List.length_map, hx_len]
theorem txL_eq (a : Nat) : strOfNums (dgs (bitsN a) 8) = ⟨(txL a).toArray⟩ := by unfold txL; rfl
theorem dgs_hi (n : Nat) : ∀ j, j ≤ 8 → dgs (n + 4294967296) j = dgs n j
  | 0, _ => rfl
  | j + 1, h => by
    rw [dgs, dgs, dgs_hi n j (by omega)]
    have h2 : (n + 4294967296) / 16 ^ j % 16 = n / 16 ^ j % 16 := by
      have h3 : j = 0 ∨ j = 1 ∨ j = 2 ∨ j = 3 ∨ j = 4 ∨ j = 5 ∨ j = 6 ∨ j = 7 := by omega
      rcases h3 with rfl | rfl | rfl | rfl | rfl | rfl | rfl | rfl <;> (simp only [Nat.reducePow]; omega)
    rw [h2]
theorem str_tail (x : Int) (l : List Int) (n : Nat) (hn : n = (strOfNums (x :: l)).size) : (strOfNums (x :: l)).extract 1 n = strOfNums l := by
  have hs : (strOfNums (x :: l)).size = l.length + 1 := by unfold strOfNums; show (List.toArray _).size = _; simp
  apply ByteArray.ext
  apply Array.toList_inj.1
  rw [ByteArray.data_extract, Array.toList_extract]
  unfold strOfNums
  rw [List.toList_toArray, List.toList_toArray, List.map_cons, hn, hs]
  simp [List.extract]
  exact List.take_of_length_le (by rw [List.length_map]; exact Nat.le_refl _)
/-! a text of eight digits is read as the number that it tells -/
def lcv (n : Nat) : Nat := if 48 ≤ n ∧ n ≤ 57 then n - 48 else if 97 ≤ n ∧ n ≤ 102 then n - 87 else 99
def lcL : Nat → List UInt8 → Option Nat
  | acc, [] => some acc
  | acc, c :: r => if lcv c.toNat < 16 then lcL (acc * 16 + lcv c.toNat) r else none
def bys (l : List Int) : List UInt8 := (strOfNums l).data.toList
theorem bys_cons (x : Int) (l : List Int) : bys (x :: l) = UInt8.ofNat x.toNat :: bys l := by unfold bys strOfNums; simp
theorem bys_nil : bys [] = [] := rfl
theorem txL_bys (a : Nat) : txL a = bys (dgs (bitsN a) 8) := rfl
theorem lcv_hexv : ∀ c : Fin 256, lcv c.1 < 16 → hexv c.1 = lcv c.1 := by decide +kernel
theorem lcv_hexd : ∀ d : Fin 16, lcv (UInt8.ofNat (hexd d.1).toNat).toNat = d.1 := by decide +kernel
theorem hexd_lcv : ∀ c : Fin 256, lcv c.1 < 16 → (hexd (lcv c.1)).toNat = c.1 := by decide +kernel
theorem lc_hex : ∀ (l : List UInt8) (a n : Nat), lcL a l = some n → Go.Proofs.YtdfpfiecpcgffaaDoor.hexL a l = some n
  | [], a, n, h => h
  | c :: r, a, n, h => by
    rw [lcL] at h
    split at h
    · rename_i hc
      have e := lcv_hexv ⟨c.toNat, c.toNat_lt⟩ hc
      rw [Go.Proofs.YtdfpfiecpcgffaaDoor.hexL, e, if_pos hc]
      exact lc_hex r _ n h
    · cases h
theorem lc_text (n : Nat) : ∀ (j a : Nat), lcL a (bys (dgs n j)) = some (a * 16 ^ j + n % 16 ^ j)
  | 0, a => by rw [dgs, bys_nil, lcL, Nat.pow_zero, Nat.mod_one]; simp
  | j + 1, a => by
    have hd : n / 16 ^ j % 16 < 16 := Nat.mod_lt _ (by decide)
    have e := lcv_hexd ⟨n / 16 ^ j % 16, hd⟩
    replace e : lcv (UInt8.ofNat (hexd (n / 16 ^ j % 16)).toNat).toNat = n / 16 ^ j % 16 := e
    rw [dgs, bys_cons, lcL, e, if_pos hd, lc_text n j, Nat.pow_succ, Nat.mod_mul]
    congr 1
    rw [Nat.add_mul, Nat.mul_assoc, Nat.mul_comm 16 (16 ^ j), Nat.mul_comm (n / 16 ^ j % 16) (16 ^ j)]
    omega
theorem lc_back : ∀ (l : List UInt8) (a n : Nat), lcL a l = some n → bys (dgs n l.length) = l ∧ n / 16 ^ l.length = a
  | [], a, n, h => by
    rw [lcL] at h
    obtain rfl := Option.some.inj h
    exact ⟨rfl, by simp⟩
  | c :: r, a, n, h => by
    rw [lcL] at h
    split at h
    · rename_i hc
      obtain ⟨h1, h2⟩ := lc_back r _ n h
      have e := hexd_lcv ⟨c.toNat, c.toNat_lt⟩ hc
      replace e : (hexd (lcv c.toNat)).toNat = c.toNat := e
      have hm : n / 16 ^ r.length % 16 = lcv c.toNat := by rw [h2]; omega
      refine ⟨?_, ?_⟩
      · rw [List.length_cons, dgs, bys_cons, hm, e, h1, UInt8.ofNat_toNat]
      · rw [List.length_cons, Nat.pow_succ, ← Nat.div_div_eq_div_mul, h2]; omega
    · cases h
/-- a word, as the program reads it -/
def wordV (x : ByteArray) : Option Nat := if x.size = 8 then (Go.Proofs.YtdfpfiecpcgffaaDoor.hexL 0 x.data.toList).bind fun v => if txL v = x.data.toList then some v else none else none
/-- a word, as the reference reads it -/
def specV (x : ByteArray) : Option Nat := if x.size = 8 then (lcL 0 x.data.toList).bind fun n => if bitsN n = n then some n else none else none
theorem word_same (x : ByteArray) : wordV x = specV x := by
  unfold wordV specV
  by_cases h8 : x.size = 8
  · rw [if_pos h8, if_pos h8]
    have h8' : x.data.toList.length = 8 := h8
    refine Option.ext fun n => ?_
    constructor
    · intro h
      obtain ⟨v, hv, h⟩ := Option.bind_eq_some_iff.mp h
      split at h
      · rename_i ht
        obtain rfl := Option.some.inj h
        have hb : lcL 0 x.data.toList = some (bitsN v) := by
          have hlt := Go.Proofs.YtdfpfiecpcgffaaDoor.hex_lt x h8 v hv
          have hbl := bitsN_lt hlt
          have h3 := lc_text (bitsN v) 8 0
          rw [← txL_bys, ht] at h3
          rw [h3]; congr 1
          have : (16 : Nat) ^ 8 = 4294967296 := by decide
          omega
        have hv2 := lc_hex _ _ _ hb
        rw [hv] at hv2
        have hvb : v = bitsN v := Option.some.inj hv2
        rw [hb, Option.bind_some, ← hvb, if_pos hvb.symm]
      · cases h
    · intro h
      obtain ⟨v, hv, h⟩ := Option.bind_eq_some_iff.mp h
      split at h
      · rename_i hb
        obtain rfl := Option.some.inj h
        have hh := lc_hex _ _ _ hv
        obtain ⟨h1, _⟩ := lc_back _ _ _ hv
        rw [h8'] at h1
        rw [hh, Option.bind_some, txL_bys, hb, if_pos h1]
      · cases h
  · rw [if_neg h8, if_neg h8]
/-- all words -/
def allV (f : ByteArray → Option Nat) : List ByteArray → Option (List Nat)
  | [] => some []
  | x :: r => (f x).bind fun v => (allV f r).bind fun l => some (v :: l)
theorem allV_len (f : ByteArray → Option Nat) : ∀ (t : List ByteArray) (l : List Nat), allV f t = some l → l.length = t.length
  | [], l, h => by obtain rfl := Option.some.inj h; rfl
  | x :: r, l, h => by
    rw [allV] at h
    obtain ⟨v, _, h⟩ := Option.bind_eq_some_iff.mp h
    obtain ⟨l2, h2, h⟩ := Option.bind_eq_some_iff.mp h
    obtain rfl := Option.some.inj h
    rw [List.length_cons, List.length_cons, allV_len f r l2 h2]
def finV (acc : List Nat) : Option (List Nat) → List Nat × Bool
  | some l => (acc ++ l, true)
  | none => ([], false)
theorem rdW_some (hx : Nat → Option ByteArray) (hh : ∀ v, v < 4294967296 → hx v = some ⟨(txL v).toArray⟩) : ∀ (t : List ByteArray) (acc : List Nat), rdW hx t acc = some (if acc.length + t.length ≤ 256 then finV acc (allV wordV t) else ([], false)) ∨ (acc.length > 256)
  | [], acc => by
    by_cases c : acc.length ≤ 256
    · left
      rw [rdW, if_pos (by simp only [List.length_nil]; omega), allV, finV, List.append_nil]
    · right; omega
  | x :: r, acc => by
    by_cases c : acc.length ≤ 256
    · left
      rw [rdW]
      have hw : wordV x = if x.size = 8 then (Go.Proofs.YtdfpfiecpcgffaaDoor.hexL 0 x.data.toList).bind fun v => if txL v = x.data.toList then some v else none else none := rfl
      by_cases h8 : x.size = 8
      · rw [if_pos h8] at hw ⊢
        by_cases hm : acc.length = 256
        · rw [if_pos hm, if_neg (by simp only [List.length_cons]; omega)]
        · rw [if_neg hm, allV, hw]
          cases hv : Go.Proofs.YtdfpfiecpcgffaaDoor.hexL 0 x.data.toList with
          | none =>
            dsimp only
            simp only [Option.bind_none, finV, ite_self]
          | some v =>
            have hlt := Go.Proofs.YtdfpfiecpcgffaaDoor.hex_lt x h8 v hv
            dsimp only
            rw [hh v hlt, Option.bind_some, Option.bind_some]
            have hte : (⟨(txL v).toArray⟩ : ByteArray).toList = txL v := by rw [ByteArray.toList_eq]
            by_cases ht : txL v = x.data.toList
            · have ht2 : (⟨(txL v).toArray⟩ : ByteArray).toList = x.toList := by rw [hte, ht, ByteArray.toList_eq]
              rw [if_pos ht2, if_pos ht, Option.bind_some]
              rcases rdW_some hx hh r (acc ++ [v]) with ih | ih
              · rw [ih, List.length_append, List.length_singleton, List.length_cons]
                cases allV wordV r with
                | none => simp only [Option.bind_none, finV, ite_self]
                | some l =>
                  simp only [Option.bind_some, finV, List.append_assoc, List.singleton_append]
                  by_cases c3 : acc.length + 1 + r.length ≤ 256
                  · rw [if_pos c3, if_pos (by omega)]
                  · rw [if_neg c3, if_neg (by omega)]
              · rw [List.length_append, List.length_singleton] at ih
                omega
            · have ht2 : ¬ (⟨(txL v).toArray⟩ : ByteArray).toList = x.toList := by rw [hte, ByteArray.toList_eq]; exact ht
              rw [if_neg ht2, if_neg ht]
              simp only [Option.bind_none, finV, ite_self]
      · rw [if_neg h8] at hw ⊢
        rw [allV, hw]
        simp only [Option.bind_none, finV, ite_self]
    · right; omega
theorem hex_impl (a : Nat) (ha : a < 4294967296) : impl_hexText.f a = some ⟨(txL a).toArray⟩ := by
  have hb : impl_BitsOf.f a = some ((bitsN a : Nat) : Int) := by
    unfold impl_BitsOf.f bitsN
    split
    · rfl
    · rw [w64 (by omega) (by omega)]
  have hl := bitsN_lt ha
  unfold impl_hexText.f strconv_FormatInt.f
  rw [hb, Option.bind_some, w64 (by omega) (by omega), if_pos ⟨by omega, by omega, rfl⟩, Option.bind_some]
  have e : (((bitsN a : Nat) : Int) + 4294967296).toNat = bitsN a + 4294967296 := by omega
  have hs : (strOfNums (dgs (bitsN a + 4294967296) 9)).size = 9 := by
    unfold strOfNums; show (List.toArray _).size = _; rw [List.size_toArray, List.length_map, hx_len]
  rw [e, if_pos (by rw [hs]; decide), dgs, dgs_hi _ 8 (Nat.le_refl _), str_tail _ _ _ rfl, txL_eq]
theorem rdS_at {l : List ByteArray} {i : Nat} (h : i < l.length) : rdOf ByteArray.empty l (i : Int) = l[i]'h := by
  unfold rdOf
  rw [Int.toNat_natCast, List.getD_eq_getElem?_getD, List.getElem?_eq_getElem h]; rfl
theorem bits_spec (n : Nat) (h : n < 4294967296) : spec_l01Bits.f n = some ((bitsN n : Nat) : Int) := by
  unfold spec_l01Bits.f bitsN
  split
  · rfl
  · rw [w64 (by omega) (by omega)]
/-- one digit of the reference -/
theorem nr_digit (t : List ByteArray) (acc : List Nat) (j : Nat) (hj : j < t.length) (i n X c : Nat) (h8 : (t[j]'hj).size = 8) (hi : i < 8) (hn7 : n ≤ 268435455) (hc256 : c < 256) (hb : bt (t[j]'hj) (i : Int) = (c : Int)) :
    spec_l01NRead.l1 (X + 4) acc t (j : Int) (n : Int) (i : Int) = if lcv c < 16 then spec_l01NRead.l1 X acc t (j : Int) (((n * 16 + lcv c : Nat) : Nat) : Int) ((i + 1 : Nat) : Int) else some ([], false) := by
  have hr := rdS_at hj
  have e1 : wrap64 ((i : Int) + 1) = ((i + 1 : Nat) : Int) := by rw [w64 (by omega) (by omega)]; omega
  have e16 : wrap64 (16 * (n : Int)) = 16 * (n : Int) := w64 (by omega) (by omega)
  have hi8 : (i : Int) < ((t[j]'hj).size : Int) := by omega
  have hi0 : (i : Int) < 8 := by omega
  have hjj : (j : Int) < (t.length : Int) := by omega
  rw [spec_l01NRead.l1, if_pos hi0, if_pos (Int.natCast_nonneg j), if_pos hjj, if_pos (Int.natCast_nonneg i), hr, if_pos hi8, hb]
  clear hr hb hi8 hi0 hjj h8
  have j4t : ∀ x10, 97 ≤ c → c ≤ 102 → spec_l01NRead.j4 (X + 1) acc t (j : Int) (n : Int) (i : Int) (c : Int) x10 true = spec_l01NRead.l1 X acc t (j : Int) (((n * 16 + (c - 87) : Nat) : Nat) : Int) ((i + 1 : Nat) : Int) := by
    intro x10 h1 h2
    have e : wrap64 (16 * (n : Int) + (((c : Int) - 97) % 256 + 10)) = ((n * 16 + (c - 87) : Nat) : Int) := by rw [w64 (by omega) (by omega)]; omega
    rw [spec_l01NRead.j4, if_pos rfl, if_neg (by omega), e16, e1, e]
  have j2f : spec_l01NRead.j2 (X + 1 + 1 + 1) acc t (j : Int) (n : Int) (i : Int) (c : Int) (-1) false = spec_l01NRead.j3 (X + 1 + 1) acc t (j : Int) (n : Int) (i : Int) (c : Int) (-1) := by
    rw [spec_l01NRead.j2, if_neg (by decide)]
  by_cases c1 : 48 ≤ c ∧ c ≤ 57
  · have hv : lcv c = c - 48 := by unfold lcv; rw [if_pos c1]
    have e : wrap64 (16 * (n : Int) + ((c : Int) - 48) % 256) = ((n * 16 + (c - 48) : Nat) : Int) := by rw [w64 (by omega) (by omega)]; omega
    have j4n : spec_l01NRead.j4 (X + 1) acc t (j : Int) (n : Int) (i : Int) (c : Int) (((c : Int) - 48) % 256) false = spec_l01NRead.l1 X acc t (j : Int) (((n * 16 + (c - 48) : Nat) : Nat) : Int) ((i + 1 : Nat) : Int) := by
      rw [spec_l01NRead.j4, if_neg (by decide), if_neg (by omega), e16, e1, e]
    have j2t : spec_l01NRead.j2 (X + 1 + 1 + 1) acc t (j : Int) (n : Int) (i : Int) (c : Int) (-1) true = spec_l01NRead.l1 X acc t (j : Int) (((n * 16 + (c - 48) : Nat) : Nat) : Int) ((i + 1 : Nat) : Int) := by
      rw [spec_l01NRead.j2, if_pos rfl, spec_l01NRead.j3, if_neg (by omega), j4n]
    rw [if_pos (by omega), decide_eq_true (by omega : (c : Int) ≤ 57), hv, if_pos (by omega)]
    exact j2t
  · have step : (if (c : Int) ≥ 48 then (spec_l01NRead.j2 (X + 1 + 1 + 1) acc t (j : Int) (n : Int) (i : Int) (c : Int) (-1) (decide ((c : Int) ≤ 57))) else (spec_l01NRead.j2 (X + 1 + 1 + 1) acc t (j : Int) (n : Int) (i : Int) (c : Int) (-1) false)) = spec_l01NRead.j3 (X + 1 + 1) acc t (j : Int) (n : Int) (i : Int) (c : Int) (-1) := by
      by_cases c0 : 48 ≤ c
      · rw [if_pos (by omega), decide_eq_false (by omega), j2f]
      · rw [if_neg (by omega), j2f]
    refine step.trans ?_
    rw [spec_l01NRead.j3]
    by_cases c2 : 97 ≤ c ∧ c ≤ 102
    · have hv : lcv c = c - 87 := by unfold lcv; rw [if_neg c1, if_pos c2]
      rw [if_pos (by omega), decide_eq_true (by omega : (c : Int) ≤ 102), j4t _ c2.1 c2.2, hv, if_pos (by omega)]
    · have hv : lcv c = 99 := by unfold lcv; rw [if_neg c1, if_neg c2]
      have j4f : spec_l01NRead.j4 (X + 1) acc t (j : Int) (n : Int) (i : Int) (c : Int) (-1) false = some ([], false) := by
        rw [spec_l01NRead.j4, if_neg (by decide), if_pos (by decide)]
      rw [hv, if_neg (by decide : ¬ 99 < 16)]
      by_cases c3 : 97 ≤ c
      · rw [if_pos (by omega), decide_eq_false (by omega : ¬ (c : Int) ≤ 102), j4f]
      · rw [if_neg (by omega), j4f]
theorem nr_end (t : List ByteArray) (acc : List Nat) (j n k : Nat) (hn : n < 4294967296) (ha : acc.length < 35184372088832) :
    spec_l01NRead.l1 (k + 1) acc t (j : Int) (n : Int) ((8 : Nat) : Int) = if bitsN n = n then spec_l01NRead.l0 k (acc ++ [n]) t (wrap64 ((j : Int) + 1)) else some ([], false) := by
  have hf : spec_l01From.f (n : Int) = some n := by unfold spec_l01From.f; congr 1; omega
  rw [spec_l01NRead.l1, if_neg (by omega), hf, Option.bind_some, bits_spec n hn, Option.bind_some, if_pos ha]
  by_cases c : bitsN n = n
  · rw [if_pos c, if_pos (by rw [c])]
  · rw [if_neg c, if_neg (by omega)]
/-- the word's loop of the reference -/
theorem nr_word (t : List ByteArray) (acc : List Nat) (j : Nat) (hj : j < t.length) (h8 : (t[j]'hj).size = 8) (ha : acc.length < 35184372088832) (k d : Nat) :
    ∀ (i n : Nat), i + d = 8 → n < 16 ^ i → spec_l01NRead.l1 (k + 4 * d + 1) acc t (j : Int) (n : Int) (i : Int) = (match lcL n ((t[j]'hj).data.toList.drop i) with | none => some ([], false) | some m => if bitsN m = m then spec_l01NRead.l0 k (acc ++ [m]) t (wrap64 ((j : Int) + 1)) else some ([], false)) := by
  induction d with
  | zero =>
    intro i n hi hn
    obtain rfl : i = 8 := by omega
    have hl : ((t[j]'hj).data.toList.drop 8) = [] := List.drop_eq_nil_of_le (by rw [size_list]; omega)
    rw [hl, lcL]
    exact nr_end t acc j n k hn ha
  | succ d ih =>
    intro i n hi hn
    have hi8 : i < (t[j]'hj).size := by omega
    have hdr : (t[j]'hj).data.toList.drop i = (t[j]'hj).data.toList[i]'hi8 :: (t[j]'hj).data.toList.drop (i + 1) := List.drop_eq_getElem_cons hi8
    have hn7 : n ≤ 268435455 := hex_room i n (by omega) hn
    have hs := nr_digit t acc j hj i n (k + 4 * d + 1) _ h8 (by omega) hn7 ((t[j]'hj).data.toList[i]'hi8).toNat_lt (bt_nat (t[j]'hj) i hi8)
    rw [show k + 4 * (d + 1) + 1 = k + 4 * d + 1 + 4 by omega, hs, hdr, lcL]
    by_cases c : lcv ((t[j]'hj).data.toList[i]'hi8).toNat < 16
    · rw [if_pos c, if_pos c]
      exact ih (i + 1) _ (by omega) (by rw [Nat.pow_succ]; omega)
    · rw [if_neg c, if_neg c]
theorem nr_step (t : List ByteArray) (ht : t.length ≤ 256) (j : Nat) (acc : List Nat) (k : Nat) (hjl : j < t.length) (ha : acc.length = j) :
    spec_l01NRead.l0 (k + 34) acc t (j : Int) = (match specV (t[j]'hjl) with | none => some ([], false) | some m => spec_l01NRead.l0 k (acc ++ [m]) t ((j + 1 : Nat) : Int)) := by
  have hr := rdS_at hjl
  have e1 : wrap64 ((j : Int) + 1) = ((j + 1 : Nat) : Int) := by rw [w64 (by omega) (by omega)]; omega
  have hjj : (j : Int) < (t.length : Int) := by omega
  have ha' : acc.length < 35184372088832 := by omega
  rw [spec_l01NRead.l0, if_pos hjj, if_pos (Int.natCast_nonneg j), hr]
  unfold specV
  by_cases h8 : (t[j]'hjl).size = 8
  · have h := nr_word t acc j hjl h8 ha' k 8 0 0 rfl (by decide)
    have h8' : ((t[j]'hjl).size : Int) = 8 := by omega
    rw [if_pos h8', if_pos h8]
    refine h.trans ?_
    rw [List.drop_zero, e1]
    cases lcL 0 (t[j]'hjl).data.toList with
    | none => rfl
    | some m =>
      rw [Option.bind_some]
      dsimp only
      by_cases c : bitsN m = m
      · rw [if_pos c, if_pos c]
      · rw [if_neg c, if_neg c]
  · have h8' : ¬ ((t[j]'hjl).size : Int) = 8 := by omega
    rw [if_neg h8', if_neg h8]
/-- the words' loop of the reference -/
theorem nr_words (t : List ByteArray) (ht : t.length ≤ 256) (d : Nat) : ∀ (j : Nat) (acc : List Nat) (k : Nat), j + d = t.length → acc.length = j → 34 * d + 1 ≤ k → spec_l01NRead.l0 k acc t (j : Int) = some (finV acc (allV specV (t.drop j))) := by
  induction d with
  | zero =>
    intro j acc k hj ha hk
    obtain ⟨k, rfl⟩ : ∃ m, k = m + 1 := ⟨k - 1, by omega⟩
    obtain rfl : j = t.length := by omega
    rw [spec_l01NRead.l0, if_neg (by omega), List.drop_length, allV, finV, List.append_nil]
  | succ d ih =>
    intro j acc k hj ha hk
    obtain ⟨k, rfl⟩ : ∃ m, k = m + 34 := ⟨k - 34, by omega⟩
    have hjl : j < t.length := by omega
    rw [nr_step t ht j acc k hjl ha, List.drop_eq_getElem_cons hjl, allV]
    cases hs : specV (t[j]'hjl) with
    | none => rfl
    | some m =>
      dsimp only
      rw [ih (j + 1) (acc ++ [m]) k (by omega) (by rw [List.length_append, List.length_singleton]; omega) (by omega), Option.bind_some]
      cases allV specV (t.drop (j + 1)) with
      | none => rfl
      | some l =>
        rw [Option.bind_some]
        show some (acc ++ [m] ++ l, true) = some (acc ++ (m :: l), true)
        rw [List.append_assoc]; rfl
def lens (L : List (List UInt8)) : Nat := (L.map fun p => p.length + 1).foldr (· + ·) 0
theorem lens_cons (p : List UInt8) (L : List (List UInt8)) : lens (p :: L) = p.length + 1 + lens L := rfl
theorem cut_size (c : UInt8) : ∀ l : List UInt8, lens (cut c l) = l.length + 1
  | [] => rfl
  | b :: l => by
    have ih := cut_size c l
    rw [cut]
    split
    · rw [lens_cons, ih, List.length_cons, List.length_nil]; omega
    · split
      · rename_i p ps h
        rw [h, lens_cons] at ih
        rw [lens_cons, List.length_cons, List.length_cons]
        omega
      · rename_i h
        exact absurd h (cut_ne c l)
theorem lens_8 : ∀ L : List (List UInt8), (∀ p ∈ L, p.length = 8) → lens L = 9 * L.length
  | [], _ => rfl
  | p :: L, h => by
    have h1 := h p List.mem_cons_self
    have h2 := lens_8 L (fun q hq => h q (List.mem_cons_of_mem _ hq))
    rw [lens_cons, h1, h2, List.length_cons]; omega
theorem allV_8 : ∀ (t : List ByteArray) (l : List Nat), allV specV t = some l → ∀ x ∈ t, x.size = 8
  | [], _, _ => by simp
  | x :: r, l, h => by
    rw [allV] at h
    obtain ⟨v, h1, h⟩ := Option.bind_eq_some_iff.mp h
    obtain ⟨l2, h2, h⟩ := Option.bind_eq_some_iff.mp h
    intro y hy
    rcases List.mem_cons.1 hy with rfl | hy
    · unfold specV at h1
      split at h1
      · assumption
      · cases h1
    · exact allV_8 r l2 h2 y hy
theorem specV_lt (x : ByteArray) (v : Nat) (h : specV x = some v) : v < 4294967296 := by
  rw [← word_same] at h
  unfold wordV at h
  split at h
  · rename_i h8
    obtain ⟨u, hu, h⟩ := Option.bind_eq_some_iff.mp h
    split at h
    · obtain rfl := Option.some.inj h
      exact Go.Proofs.YtdfpfiecpcgffaaDoor.hex_lt x h8 u hu
    · cases h
  · cases h
theorem allV_lt : ∀ (t : List ByteArray) (l : List Nat), allV specV t = some l → ∀ v ∈ l, v < 4294967296
  | [], l, h => by obtain rfl := Option.some.inj h; simp
  | x :: r, l, h => by
    rw [allV] at h
    obtain ⟨v, h1, h⟩ := Option.bind_eq_some_iff.mp h
    obtain ⟨l2, h2, h⟩ := Option.bind_eq_some_iff.mp h
    obtain rfl := Option.some.inj h
    intro y hy
    rcases List.mem_cons.1 hy with rfl | hy
    · exact specV_lt x y h1
    · exact allV_lt r l2 h2 y hy
/-- the numbers with a text -/
def rdNums (s : ByteArray) : List Nat × Bool := if s.toList = [110, 111, 110, 101] then ([], true) else if (cutB 44 s).length > 256 then ([], false) else finV [] (allV specV (cutB 44 s))
theorem rdNums_ok (s : ByteArray) : (rdNums s).1.length ≤ 256 ∧ ∀ v ∈ (rdNums s).1, v < 4294967296 := by
  unfold rdNums
  split
  · simp
  · split
    · simp
    · rename_i hl
      cases h : allV specV (cutB 44 s) with
      | none => simp [finV]
      | some l =>
        have h1 := allV_len specV _ _ h
        have h2 := allV_lt _ _ h
        show ([] ++ l).length ≤ 256 ∧ ∀ v ∈ [] ++ l, v < 4294967296
        rw [List.nil_append]
        exact ⟨by omega, h2⟩
theorem cutB_len (s : ByteArray) : (cutB 44 s).length ≤ s.size + 1 := by
  unfold cutB
  rw [List.length_map, cut_len]
  have := List.count_le_length (a := (44 : UInt8)) (l := s.data.toList)
  rw [size_list] at this
  omega
theorem nread_spec (s : ByteArray) (hs : s.size ≤ 1048576) (k : Nat) (hk : 4194304 ≤ k) : spec_l01NRead.f k s = some (rdNums s) := by
  have hc : spec_l01Cut.f k s 44 = some (cutB 44 s) := cut_spec s (by omega) 44 k (by omega)
  unfold spec_l01NRead.f rdNums
  rw [Option.bind_some]
  by_cases hn : s.toList = [110, 111, 110, 101]
  · rw [if_pos hn, if_pos hn]
  · rw [if_neg hn, if_neg hn, hc, Option.bind_some]
    by_cases hl : (cutB 44 s).length > 256
    · rw [if_pos (by omega), if_pos hl]
    · rw [if_neg (by omega), if_neg hl]
      have h := nr_words (cutB 44 s) (by omega) (cutB 44 s).length 0 [] k (by omega) rfl (by omega)
      rw [List.drop_zero] at h
      exact h
theorem allV_congr (f g : ByteArray → Option Nat) (h : ∀ x, f x = g x) (t : List ByteArray) : allV f t = allV g t := by
  rw [show f = g from funext h]
theorem nread_impl (s : ByteArray) (hs : s.size ≤ 1048576) (k : Nat) (hk : 4194304 ≤ k) : impl_ReadNumbers.f k s = some (rdNums s) := by
  have hc : strings_Split.f k s ⟨#[44]⟩ = some (cutB 44 s) := split_some s (by omega) 44 k (by omega)
  have hlen := cutB_len s
  unfold impl_ReadNumbers.f impl_readNumbers.f rdNums
  rw [if_pos rfl]
  by_cases hn : s.toList = [110, 111, 110, 101]
  · rw [if_pos hn, if_pos hn]; rfl
  · rw [if_neg hn, if_neg hn]
    by_cases hb : (s.size : Int) > 2304
    · rw [if_pos hb, Option.bind_some]
      by_cases hl : (cutB 44 s).length > 256
      · rw [if_pos hl]
      · rw [if_neg hl]
        cases h : allV specV (cutB 44 s) with
        | none => rfl
        | some l =>
          exfalso
          have h8 := allV_8 _ _ h
          have hcs := cut_size 44 s.data.toList
          have hl8 := lens_8 (cut 44 s.data.toList) (fun p hp => by
            have := h8 (ba p) (List.mem_map_of_mem hp)
            exact this)
          have hln : (cutB 44 s).length = (cut 44 s.data.toList).length := List.length_map _
          rw [size_list] at hcs
          omega
    · rw [if_neg hb, hc, Option.bind_some, if_pos (by omega)]
      rcases rdW_some (fun v => impl_hexText.f v) (fun v hv => hex_impl v hv) (cutB 44 s) [] with h | h
      · rw [h, Option.bind_some, allV_congr _ _ word_same]
        simp only [List.length_nil, Nat.zero_add]
        by_cases hl : (cutB 44 s).length > 256
        · rw [if_pos hl, if_neg (by omega)]
        · rw [if_neg hl, if_pos (by omega)]
      · simp at h
theorem fin_spec_l (l : List Nat) (hl : l.length ≤ 1048576) : ∀ (d i k : Nat), i + d = l.length → d < k → spec_l02Finite.l0 k l (i : Int) = some ((l.drop i).all finB)
  | _, _, 0, _, h => by omega
  | 0, i, k + 1, h1, h2 => by
    obtain rfl : i = l.length := by omega
    rw [spec_l02Finite.l0, if_neg (by omega), List.drop_length]; rfl
  | d + 1, i, k + 1, h1, h2 => by
    have hi : i < l.length := by omega
    have e : ((i : Int) + 1) = ((i + 1 : Nat) : Int) := by omega
    rw [spec_l02Finite.l0, if_pos (by omega), if_pos (by omega), rdN_at hi, spec_l01Finite.f, Option.bind_some, w64 (by omega) (by omega), e, fin_spec_l l hl d (i + 1) k (by omega) (by omega), List.drop_eq_getElem_cons hi, List.all_cons]
    cases finB l[i] <;> rfl
theorem fin_impl_l (l : List Nat) (hl : l.length ≤ 1048576) : ∀ (d i k : Nat), i + d = l.length → d < k → impl_areFinite.l0 k l (l.length : Int) (i : Int) = some ((l.drop i).all finB)
  | _, _, 0, _, h => by omega
  | 0, i, k + 1, h1, h2 => by
    obtain rfl : i = l.length := by omega
    rw [impl_areFinite.l0, if_neg (by omega), List.drop_length]; rfl
  | d + 1, i, k + 1, h1, h2 => by
    have hi : i < l.length := by omega
    have e : ((i : Int) + 1) = ((i + 1 : Nat) : Int) := by omega
    rw [impl_areFinite.l0, if_pos (by omega), if_pos (by omega), if_pos (by omega), rdN_at hi, impl_IsFinite.f, Option.bind_some, w64 (by omega) (by omega), e, fin_impl_l l hl d (i + 1) k (by omega) (by omega), List.drop_eq_getElem_cons hi, List.all_cons]
    cases finB l[i] <;> rfl
theorem valid_both (l : List Nat) (g : Nat) (hl : l.length ≤ 1048576) (k : Nat) (hk : 1048600 ≤ k) : ∃ b, spec_l04Is.f k [(⟨l, g⟩ : S39)] = some b ∧ impl_ValidPredictor.f k l g = some b := by
  have h1 : spec_l02Finite.f k l = some (l.all finB) := fin_spec_l l hl l.length 0 k (by omega) (by omega)
  have h2 : impl_areFinite.f k l = some (l.all finB) := fin_impl_l l hl l.length 0 k (by omega) (by omega)
  have hr : rd_T39 [(⟨l, g⟩ : S39)] 0 = ⟨l, g⟩ := rfl
  have h3 : spec_l02Least.f g = some (finB g && fge .f32 g 0) := by
    unfold spec_l02Least.f spec_l01Finite.f
    rw [Option.bind_some]
    cases finB g <;> rfl
  unfold spec_l04Is.f impl_ValidPredictor.f impl_within.f impl_IsFinite.f
  rw [if_pos (show (0 : Int) < (([(⟨l, g⟩ : S39)] : List S39).length : Int) by show (0 : Int) < 1; decide), hr]
  dsimp only
  rw [h1, h2, h3]
  by_cases c : (l.length : Int) ≥ 1
  · rw [if_pos c, if_pos c]
    by_cases d : (l.length : Int) ≤ 16
    · rw [if_pos d, Option.bind_some, Option.bind_some]
      simp only [d, decide_true, if_true, Option.bind_some]
      cases l.all finB
      · exact ⟨false, rfl, rfl⟩
      · simp only [if_true]
        cases finB g
        · exact ⟨false, rfl, rfl⟩
        · exact ⟨_, rfl, rfl⟩
    · rw [if_neg d, Option.bind_some, if_neg (by simpa using d)]
      exact ⟨false, rfl, rfl⟩
  · rw [if_neg c, if_neg c]
    exact ⟨false, rfl, rfl⟩
theorem cutB_piece (c : UInt8) (s p : ByteArray) (h : p ∈ cutB c s) : p.size ≤ s.size := by
  unfold cutB at h
  obtain ⟨l, hl, rfl⟩ := List.mem_map.1 h
  have := cut_piece hl
  rw [size_list] at this
  rw [size_ba]; exact this
abbrev TR := List Nat × Nat × Bool
def zT : TR := ([], 0, false)
def okT (r : TR) : Prop := r.1.length ≤ 256 ∧ (∀ v ∈ r.1, v < 4294967296) ∧ r.2.1 < 4294967296
theorem zT_ok : okT zT := ⟨by decide, by simp [zT], by decide⟩
/-- what the two lists come to, in the model -/
def numL (b : List Nat × Bool) : Option (Nat × Bool) := if b.2 = true then (if (b.1.length : Int) = 1 then (if 0 < (b.1.length : Int) then (some (rdOf (0 : Nat) b.1 0, true)) else (none)) else (some (0, false))) else (some (0, false))
def specL (k : Nat) (a b : List Nat × Bool) : Option TR := (numL b).bind fun q => if a.2 = true then (if q.2 = true then ((spec_l04Give.f k a.1 q.1).bind fun t => (some (t.1, t.2.1, t.2.2))) else some zT) else some zT
def implL (k : Nat) (a b : List Nat × Bool) : Option TR := if a.2 = true then (if b.2 = true then (if b.1.length = 1 then impl_checkedPredictor.f k a.1 (rdOf (0 : Nat) b.1 0) else some zT) else some zT) else some zT
theorem both_L (k : Nat) (hk : 1048600 ≤ k) (a b : List Nat × Bool) (ha : a.1.length ≤ 256 ∧ ∀ v ∈ a.1, v < 4294967296) (hb : b.1.length ≤ 256 ∧ ∀ v ∈ b.1, v < 4294967296) : ∃ r, okT r ∧ specL k a b = some r ∧ implL k a b = some r := by
  obtain ⟨la, ba⟩ := a
  obtain ⟨lb, bb⟩ := b
  unfold specL implL numL
  cases bb with
  | false =>
    cases ba with
    | false => exact ⟨zT, zT_ok, rfl, rfl⟩
    | true => exact ⟨zT, zT_ok, rfl, rfl⟩
  | true =>
    dsimp only
    by_cases h1 : lb.length = 1
    · obtain ⟨x, rfl⟩ : ∃ x, lb = [x] := by
        match lb, h1 with
        | [p], _ => exact ⟨p, rfl⟩
      have hx := hb.2 x (by simp)
      have e0 : rdOf (0 : Nat) [x] 0 = x := rfl
      have hl : (([x] : List Nat).length : Int) = 1 := rfl
      rw [hl, if_pos rfl, if_pos rfl, if_pos (by decide), Option.bind_some, e0]
      cases ba with
      | false => exact ⟨zT, zT_ok, rfl, rfl⟩
      | true =>
        obtain ⟨r, v1, v2⟩ := valid_both la x (by have := ha.1; dsimp only at this; omega) k hk
        dsimp only
        rw [if_pos rfl, if_pos rfl, if_pos rfl, if_pos rfl, if_pos h1]
        unfold spec_l04Give.f impl_checkedPredictor.f
        rw [v1, v2]
        simp only [Option.bind_some]
        cases r with
        | false => exact ⟨zT, zT_ok, rfl, rfl⟩
        | true => exact ⟨(la, x, true), ⟨ha.1, ha.2, hx⟩, rfl, rfl⟩
    · rw [if_pos rfl, if_neg (by omega), Option.bind_some, if_pos rfl, if_neg h1]
      cases ba with
      | false => exact ⟨zT, zT_ok, rfl, rfl⟩
      | true => exact ⟨zT, zT_ok, rfl, rfl⟩
theorem lists_impl (k : Nat) (p q : ByteArray) (hp : p.size ≤ 1048576) (hq : q.size ≤ 1048576) (hk : 4194305 ≤ k) : impl_readLists.l0 (k + 3) [[], []] [p, q] 2 0 = some (if (rdNums p).2 = true then (if (rdNums q).2 = true then ([(rdNums p).1, (rdNums q).1], true) else ([], false)) else ([], false)) := by
  have hl : ((([p, q] : List ByteArray).length : Nat) : Int) = 2 := rfl
  have r0 : rdOf ByteArray.empty [p, q] 0 = p := rfl
  have r1 : rdOf ByteArray.empty [p, q] 1 = q := rfl
  have w0 : wrap64 (0 + 1) = 1 := by unfold wrap64; omega
  have w1 : wrap64 (1 + 1) = 2 := by unfold wrap64; omega
  rw [impl_readLists.l0, if_pos (by decide), if_pos (by decide), if_pos (by rw [hl]; decide), r0, nread_impl p hp _ (by omega), Option.bind_some]
  cases hb : (rdNums p).2 with
  | false => rw [if_neg (by decide), if_neg (by decide)]
  | true =>
    rw [if_pos rfl, if_pos rfl, if_pos (by simp), w0, impl_readLists.l0, if_pos (by decide), if_pos (by decide), if_pos (by rw [hl]; decide), r1, nread_impl q hq _ (by omega), Option.bind_some]
    cases hb2 : (rdNums q).2 with
    | false => rw [if_neg (by decide), if_neg (by decide)]
    | true =>
      rw [if_pos rfl, if_pos rfl, if_pos (by simp), w1, impl_readLists.l0, if_neg (by decide)]
      rfl
theorem both_read (s : ByteArray) (hs : s.size ≤ 1048576) : ∃ r, okT r ∧ ∀ k, 4194320 ≤ k → spec_ReadPredictor.f k s = some r ∧ impl_ReadPredictor.f k s = some r := by
  have key : ∃ r, okT r ∧ spec_ReadPredictor.f 4194320 s = some r ∧ impl_ReadPredictor.f 4194320 s = some r := by
    obtain ⟨K, hK⟩ : ∃ K, K = 4194317 := ⟨_, rfl⟩
    rw [show (4194320 : Nat) = K + 3 by omega]
    have hc := cut_spec s (by omega) 59 (K + 3) (by omega)
    rw [show ((((59 : UInt8).toNat : Nat)) : Int) = 59 from rfl] at hc
    have hp := split_some s (by omega) 59 (K + 3) (by omega)
    rw [show ba [59] = (⟨#[59]⟩ : ByteArray) from rfl] at hp
    unfold spec_ReadPredictor.f spec_l08ReadPredictor.f impl_ReadPredictor.f impl_readLists.f
    rw [hc, hp, Option.bind_some, Option.bind_some]
    by_cases h2 : (cutB 59 s).length = 2
    · obtain ⟨p, q, hpq⟩ : ∃ p q, cutB 59 s = [p, q] := by
        match cutB 59 s, h2 with
        | [p, q], _ => exact ⟨p, q, rfl⟩
      have sp : p.size ≤ s.size := cutB_piece 59 s p (by rw [hpq]; simp)
      have sq : q.size ≤ s.size := cutB_piece 59 s q (by rw [hpq]; simp)
      have hl : ((([p, q] : List ByteArray).length : Nat) : Int) = 2 := rfl
      have r0 : rdOf ByteArray.empty [p, q] 0 = p := rfl
      have r1 : rdOf ByteArray.empty [p, q] 1 = q := rfl
      have hrep : List.replicate (2 : Int).toNat ([] : List Nat) = [[], []] := rfl
      obtain ⟨r, ho, e1, e2⟩ := both_L (K + 3) (by omega) (rdNums p) (rdNums q) (rdNums_ok p) (rdNums_ok q)
      refine ⟨r, ho, ?_, ?_⟩
      · rw [hpq, hl, if_pos rfl, if_pos (by decide), r0, nread_spec p (by omega) _ (by omega), Option.bind_some, if_pos (by decide), r1]
        unfold spec_l08Number.f
        rw [nread_spec q (by omega) _ (by omega), Option.bind_some]
        refine (congrArg (fun o => Option.bind o _) (show _ = some r from e1)).trans ?_
        rfl
      · rw [hpq, hl, if_pos rfl, if_pos (by decide), if_pos (by decide), hrep, lists_impl K p q (by omega) (by omega) (by omega), Option.bind_some]
        unfold implL at e2
        cases hb : (rdNums p).2 with
        | false =>
          rw [hb, if_neg (by decide)] at e2
          rw [if_neg (show ¬ (false = true) by decide)]
          exact e2
        | true =>
          rw [hb, if_pos rfl] at e2
          cases hb2 : (rdNums q).2 with
          | false =>
            rw [hb2, if_neg (by decide)] at e2
            rw [if_pos (show true = true from rfl), if_neg (show ¬ (false = true) by decide)]
            exact e2
          | true =>
            rw [hb2, if_pos rfl] at e2
            rw [if_pos (show true = true from rfl), if_pos (show true = true from rfl)]
            exact e2
    · refine ⟨zT, zT_ok, ?_, ?_⟩
      · rw [if_neg (by omega)]; rfl
      · rw [if_neg (by omega)]; rfl
  obtain ⟨r, ho, h1, h2⟩ := key
  exact ⟨r, ho, fun k hk => ⟨at_rounds (g := fun k => spec_ReadPredictor.f k s) (spec_ReadPredictor.mono s) hk h1, at_rounds (g := fun k => impl_ReadPredictor.f k s) (impl_ReadPredictor.mono s) hk h2⟩⟩
theorem mk_ok : ∀ n, n < 300 → fne .f32 (floatOfInt .f32 (n : Nat)) (floatOfInt .f32 (n : Nat)) = false := by
  have h : (List.range 300).all (fun n => !fne .f32 (floatOfInt .f32 (n : Nat)) (floatOfInt .f32 (n : Nat))) = true := by kernel_rfl
  intro n hn
  have := List.all_eq_true.1 h n (List.mem_range.2 hn)
  simpa using this
def marks (n : Nat) : List Nat := (List.range n).map fun j => floatOfInt .f32 ((1 + j : Nat) : Int)
theorem marks_len (n : Nat) : (marks n).length = n := by unfold marks; rw [List.length_map, List.length_range]
theorem marks_at {n i : Nat} (h : i < n) : (marks n)[i]? = some (floatOfInt .f32 ((1 + i : Nat) : Int)) := by
  unfold marks
  rw [List.getElem?_map, List.getElem?_range h]; rfl
theorem markl (n : Nat) (hn : n ≤ 1048576) : ∀ (d k : Nat) (xs : List Nat) (i : Nat), i + d = n → xs.length = n → xs.take i = (marks n).take i → d < k →
    laws_markFloat32S.l0 k xs ((1 + i : Nat) : Int) (i : Int) = some (((1 + n : Nat) : Int), marks n)
  | d, 0, xs, i, h1, hl, ht, hk => by omega
  | 0, k + 1, xs, i, h1, hl, ht, hk => by
    unfold laws_markFloat32S.l0
    obtain rfl : i = n := by omega
    rw [if_neg (by omega), List.take_of_length_le (by omega), List.take_of_length_le (by rw [marks_len]; omega)] at *
    rw [ht]
  | d + 1, k + 1, xs, i, h1, hl, ht, hk => by
    unfold laws_markFloat32S.l0
    have e1 : wrap64 ((i : Int) + 1) = ((i + 1 : Nat) : Int) := by rw [w64 (by omega) (by omega)]; omega
    have e2 : wrap64 (((1 + i : Nat) : Int) + 1) = ((1 + (i + 1) : Nat) : Int) := by rw [w64 (by omega) (by omega)]; omega
    rw [if_pos (by omega), if_pos (by omega), e1, e2]
    refine markl n hn d k _ (i + 1) (by omega) (by rw [List.length_set]; exact hl) ?_ (by omega)
    rw [Int.toNat_natCast]
    exact take_set_succ (by rw [marks_len]; omega) (by rw [marks_len]; exact hl) ht (marks_at (by omega))
theorem mark_some (l : List Nat) (hl : l.length ≤ 1048576) (k : Nat) (hk : l.length < k) : laws_markFloat32S.f k l 1 = some (((1 + l.length : Nat) : Int), marks l.length) :=
  markl l.length hl l.length k l 0 (by omega) rfl rfl hk
theorem heldl (n : Nat) (hn : n ≤ 256) : ∀ (d k : Nat) (i : Nat), i + d = n → d < k →
    laws_heldFloat32S.l0 k (marks n) ((1 + i : Nat) : Int) (i : Int) = some ((1 + n : Nat) : Int)
  | d, 0, i, h1, hk => by omega
  | 0, k + 1, i, h1, hk => by
    unfold laws_heldFloat32S.l0
    obtain rfl : i = n := by omega
    rw [if_neg (by rw [marks_len]; omega)]
  | d + 1, k + 1, i, h1, hk => by
    unfold laws_heldFloat32S.l0
    have e1 : wrap64 ((i : Int) + 1) = ((i + 1 : Nat) : Int) := by rw [w64 (by omega) (by omega)]; omega
    have e2 : wrap64 (((1 + i : Nat) : Int) + 1) = ((1 + (i + 1) : Nat) : Int) := by rw [w64 (by omega) (by omega)]; omega
    have e3 : rdOf (0 : Nat) (marks n) (i : Int) = floatOfInt .f32 ((1 + i : Nat) : Int) := by
      unfold rdOf
      rw [Int.toNat_natCast, List.getD_eq_getElem?_getD, marks_at (by omega)]; rfl
    rw [if_pos (by rw [marks_len]; omega), if_pos (by omega), e3, mk_ok (1 + i) (by omega), if_neg (by simp), e1, e2]
    exact heldl n hn d k (i + 1) (by omega) (by omega)
theorem held_some (n : Nat) (hn : n ≤ 256) (k : Nat) (hk : n < k) : laws_heldFloat32S.f k (marks n) 1 = some ((1 + n : Nat) : Int) :=
  heldl n hn n k 0 (by omega) hk
theorem pure : laws_FnExactReadPredictor.Pure := by
  intro s _
  refine ⟨4194330, ?_⟩
  unfold laws_FnExactReadPredictor.f
  by_cases c : (s.size : Int) > 1048576
  · rw [if_pos c]
  · obtain ⟨⟨l, x, b⟩, ho, hr⟩ := both_read s (by omega)
    obtain ⟨o1, o2, o3⟩ := ho
    dsimp only at o1 o2 o3
    obtain ⟨K, hK⟩ : ∃ K, K = 4194328 := ⟨_, rfl⟩
    rw [show (4194330 : Nat) = K + 2 by omega]
    have he : laws_eqPredictor.f l x l x = some true := by
      unfold laws_eqPredictor.f
      rw [if_pos ⟨rfl, rfl, by omega, o2, o3⟩]
    have hm : laws_markPredictor.f (K + 1) l x 1 = some (((1 + l.length : Nat) : Int), marks l.length) := by
      unfold laws_markPredictor.f
      rw [mark_some l (by omega) _ (by omega), Option.bind_some]
    have hh : ∀ k, 1000 ≤ k → laws_heldPredictor.f k (marks l.length) x 1 = some ((1 + l.length : Nat) : Int) := by
      intro k hk
      unfold laws_heldPredictor.f
      rw [held_some l.length o1 _ (by omega), Option.bind_some, if_neg (by omega)]
    rw [if_neg c, (hr (K + 2) (by omega)).1, (hr (K + 2) (by omega)).2, Option.bind_some, Option.bind_some]
    dsimp only
    rw [he, Option.bind_some, if_pos rfl, bne_self_eq_false, laws_FnExactReadPredictor.j0, if_neg (by decide), hm, Option.bind_some]
    dsimp only
    rw [hh _ (by omega), Option.bind_some, if_neg (by omega), if_pos rfl, (hr (K + 1) (by omega)).2, Option.bind_some]
    dsimp only
    rw [he, Option.bind_some, if_pos rfl, bne_self_eq_false, laws_FnExactReadPredictor.j1, if_neg (by decide), hh _ (by omega), Option.bind_some, if_neg (by omega), if_pos rfl]
end Go.Proofs.YtdfpfiecpcgffaaDoor.RtpPure
namespace Go.Proofs.YtdfpfiecpcgffaaDoor
theorem readPredictor_w (a0 : ByteArray) (w : World) (hT : GLt w) (w0 : a0.size ≤ 140737488351232) :
    Calls Tryd.prog 5 #[.string a0] w fun e w' => e = .returned (.bool true) ∧ Go.RowKit.Below w.heap.size w w' := PFnExactReadPredictor.laws_FnExactReadPredictor.walk RtpPure.pure a0 w w0 hT
end Go.Proofs.YtdfpfiecpcgffaaDoor
namespace Go.Proofs.YtdfpfiecpcgffaaDoor.fnExactReadPredictor
open Go.ChangeShapes Go.WideShapes Go.ChangeAt Go.RowKit
open Go.ChangeMaps (open_string shut_string)
set_option linter.unusedVariables false
theorem own : ownKnob Tryd.prog.godebug = none := by kernel_rfl
theorem laidOut : laidOutB Tryd.prog = true := by kernel_rfl
def laid : List (String × DataW Unit) := [("math/bits.deBruijn32tab", Rows.laid_math_bits_deBruijn32tab), ("math/bits.deBruijn64tab", Rows.laid_math_bits_deBruijn64tab), ("internal/strconv.uint64pow10", Rows.laid_internal_strconv_uint64pow10), ("unicode/utf8.acceptRanges", Rows.laid_unicode_utf8_acceptRanges), ("strconv.ErrRange", Rows.laid_strconv_ErrRange), ("strconv.ErrSyntax", Rows.laid_strconv_ErrSyntax), ("unicode/utf8.first", Rows.laid_unicode_utf8_first)]
set_option maxRecDepth 100000 in
theorem lifted (os : Os) (started : os.Started) (H : Type) (enc : TypeId × Value → H) :
    ReturnsInHanded {} Tryd.checked os 5 .any (fun w args => (Rows.fnExactReadPredictorSpec.pre enc Tryd.prog Tryd.f5 [] false w args ∧ laidMetH Tryd.prog laid w) ∧ sizedMet enc Tryd.prog Tryd.f5 (OpenSpec.ofChange Rows.fnExactReadPredictorSpec) false w args) (Rows.fnExactReadPredictorSpec.post enc Tryd.prog Tryd.f5 false true false false) := by
  refine wrap_shaped_and (C := Tryd.checked) (X := fun w _ => laidMetH Tryd.prog laid w) (fun _ _ _ hh h => h.of_heap hh) own started (by kernel_rfl) Tryd.func5
    (ChangeSpec.witness_shaped (enc := enc) (C := Tryd.checked) (os := os) (X := fun w _ => laidMetH Tryd.prog laid w) false (World.laidAll Tryd.prog os laid) #[.string ByteArray.empty] 8 (World.laidAll_os _ _ _)
      (World.shaped_of_ZipB (by kernel_rfl) (by kernel_rfl)) (by kernel_rfl) (by kernel_rfl) (by kernel_rfl)
      (by rw [MakeChecks.laidMetH_plain _ _ _ (by kernel_rfl)]; exact laidMet_laidAll _ (by kernel_rfl) (by kernel_rfl))) ?_
  intro W base args ds gs before hval0 hW hcnd hsz0 hX hsh
  have hL : laidMet Tryd.prog laid W := by rw [← MakeChecks.laidMetH_plain _ _ _ (by kernel_rfl)]; exact hX
  have hTab := tabIs_of_reads (zs := db64) (k := .u8) (g := 8) (by kernel_rfl) (by kernel_rfl) Tryd.underlying168 Tryd.underlying5 (by kernel_rfl) (by kernel_rfl) (Lib.laidMet.reads hL (show ("math/bits.deBruijn64tab", _) ∈ laid from by unfold laid; simp [List.mem_cons]; rfl))
  have hES : errAt "strconv.ErrSyntax" W := iface_of_reads (g := 2) (by kernel_rfl) (by kernel_rfl) Tryd.underlying104 (Lib.laidMet.reads hL (show ("strconv.ErrSyntax", Rows.laid_strconv_ErrSyntax) ∈ laid from by unfold laid; simp [List.mem_cons]))
  have hGL : GLt W := ⟨dbAt_of_tab hTab, hES⟩
  have hsz : (DataW.weightsEach Tryd.prog (Tryd.f5.params.toList ++ Rows.fnExactReadPredictorSpec.plain.varTypes Tryd.prog) (ds ++ gs)).all (· ≤ reachBytes) = true := hsz0
  have hval : ∀ (j : Nat) t v, Tryd.f5.params[j]? = some t → args[j]? = some v → Value.okWide Tryd.prog W .any base t v := hval0
  have hW' := hW
  obtain ⟨p, q, hA0, hV, rfl, hfz, hnd⟩ := hW
  have hA : DataW.TrodAll enc Tryd.prog W 0 (fun _ => true) true Tryd.f5.params.toList args.toList ds p := hA0
  rw [Tryd.params5] at hA hval hsz
  obtain ⟨v0, vs0, d0, ds0, p0, q0, hargs, rfl, rfl, h0, r0⟩ := trodAll_cons hA
  obtain ⟨rfl, rfl, rfl⟩ := trodAll_nil r0
  obtain rfl : args = #[v0] := by cases args; simp_all
  obtain ⟨rfl, rfl⟩ := trodVars_none hV
  obtain ⟨a0, rfl, rfl, rfl, y0⟩ := open_string Tryd.underlying9 (hval 0 9 v0 rfl rfl) h0
  have w0 : a0.size ≤ 140737488351232 := by
    have z := sized_string hsz (j := 0) (t := 9) rfl rfl
    rw [Array.length_toList] at z
    exact z
  clear hA0 hval0 hsz0 hsz
  refine (readPredictor_w a0 W hGL w0).mono fun e W' ⟨he, bel⟩ => ?_
  subst he
  exact ⟨_, rfl, _, _, _, [], _, [], hW', trodAll_mk1 (shut_bool Tryd.underlying4 _), (trodAll_cons_mk (shut_string Tryd.underlying9 y0) trodAll_mk0), rfl, bel.frame _, fun h => by cases h⟩
theorem over : Rows.fnExactReadPredictorRow.holds Tryd.pinned (OpenSpec.ofChange Rows.fnExactReadPredictorSpec) :=
  OpenClaim.holds_of_wide 5 Tryd.f5 rfl rfl rfl rfl rfl rfl rfl ⟨rfl, rfl, rfl, rfl, rfl⟩ rfl rfl rfl rfl rfl (by kernel_rfl) Tryd.func5 (by kernel_rfl)
    (of_decide_eq_true (by kernel_rfl)) (by unfold Func.isWrapper; first | (rw [if_pos (by decide +kernel)]; kernel_rfl) | (rw [if_neg (by decide +kernel)]; exact ⟨rfl, rfl⟩))
    (fun os started H enc _ => lifted os started H enc)
theorem proved : Rows.FnExactReadPredictorSaid := over
theorem card : Rows.FnExactReadPredictorCardSaid :=
  Claim7.holds_tied_plain_at .later [] [.data, .data, .data, .data, .sentinel, .sentinel, .pinned] true (true, "8015b0875cdba522df86d1f7b4d5ab8cf1ec17e611c3ce5cf2e28a5ded97aab1") true proved (fun _ h => by cases h) (by kernel_rfl) (fun _ h => by cases h) fnExactReadPredictor_row_tie rfl ⟨rfl, rfl⟩ (by kernel_rfl) rfl
    (fun f fn hf hfn => by
      obtain rfl : f = 5 := Option.some.inj ((show Tryd.prog.funcNamed "loop.example/g01279/laws.FnExactReadPredictor" = some 5 by kernel_rfl).symm.trans hf) |>.symm
      obtain rfl : fn = Tryd.f5 := (Option.some.inj (Tryd.func5.symm.trans hfn)).symm
      exact ⟨by kernel_rfl, fun j t ht => by
        rw [Tryd.params5] at ht
        have hm : t ∈ [9] := by simpa using Array.mem_of_getElem? ht
        have hall : ([9].all fun u => !Tryd.prog.wantsStandIn u) = true := by kernel_rfl
        exact (show Tryd.prog.wantsStandIn t = false by simpa using List.all_eq_true.1 hall t hm)⟩)
    (by kernel_rfl)
end Go.Proofs.YtdfpfiecpcgffaaDoor.fnExactReadPredictor
namespace Go.Proofs.YtdfpfiecpcgffaaDoor
/-- The row, under a short name, for the claim. -/
theorem fnExactReadPredictor_holds : Rows.FnExactReadPredictorCardSaid := fnExactReadPredictor.card
end Go.Proofs.YtdfpfiecpcgffaaDoor
