import Derived.Test.YtdfpfiecpcgffaaDoorRsd
import Derived.Test.YtdfpfiecpcgffaaDoorLm
import Derived.Test.YtdfpfiecpcgffaaDoorOf
set_option linter.unusedVariables false
set_option linter.unusedSimpArgs false
namespace Go.Proofs.YtdfpfiecpcgffaaDoor.RsPure
open Go.RowKit Go.Proofs.YtdfpfiecpcgffaaDoorW.PrintWords Go.Proofs.YtdfpfiecpcgffaaDoorW.PrintMore Go.Proofs.YtdfpfiecpcgffaaDoorW.PrintFl Go.Proofs.YtdfpfiecpcgffaaDoor Go.Proofs.YtdfpfiecpcgffaaDoor.PFnExactReadSounds Go.Proofs.YtdfpfiecpcgffaaDoor.Lm Go.Proofs.YtdfpfiecpcgffaaDoor.Sdm
theorem rdN_at {l : List Nat} {i : Nat} (h : i < l.length) : rdOf (0 : Nat) l (i : Int) = l[i]'h := by
  unfold rdOf
  rw [Int.toNat_natCast, List.getD_eq_getElem?_getD, List.getElem?_eq_getElem h]; rfl
theorem cutl (s : ByteArray) (hs : s.size ≤ 4194304) (c : UInt8) : ∀ (d k : Nat) (out : List ByteArray) (a i : Nat), i + d = s.size → a ≤ i → c ∉ (s.data.toList.drop a).take (i - a) → out.length ≤ i → d + 1 < k →
    spec_l01Cut.l0 k s ((c.toNat : Nat) : Int) out (a : Int) (i : Int) = some (out ++ (cut c (s.data.toList.drop a)).map ba)
  | d, 0, out, a, i, h1, ha, hc, ho, hk => by omega
  | 0, k + 1, out, a, i, h1, ha, hc, ho, hk => by
    obtain ⟨k, rfl⟩ : ∃ m, k = m + 1 := ⟨k - 1, by omega⟩
    have hi : i = s.size := h1
    subst hi
    have hd : (s.data.toList.drop a).take (s.size - a) = s.data.toList.drop a := List.take_of_length_le (by rw [List.length_drop, size_list]; exact Nat.le_refl _)
    rw [hd] at hc
    rw [spec_l01Cut.l0, if_pos (Int.le_refl _), if_pos rfl, if_pos (by omega), if_pos (by omega), if_pos (by omega), Int.toNat_natCast, Int.toNat_natCast, w64 (by omega) (by omega), spec_l01Cut.l0, if_neg (by omega), cut_none hc, extract_ba, hd]
    rfl
  | d + 1, k + 1, out, a, i, h1, ha, hc, ho, hk => by
    have hi : i < s.size := by omega
    have e1 : wrap64 ((i : Int) + 1) = ((i + 1 : Nat) : Int) := by rw [w64 (by omega) (by omega)]; omega
    have hx : s.data.toList.drop a = (s.data.toList.drop a).take (i - a) ++ (s.data.toList[i]'hi) :: s.data.toList.drop (i + 1) := by
      have h2 : (s.data.toList.drop a).drop (i - a) = (s.data.toList[i]'hi) :: s.data.toList.drop (i + 1) := by
        rw [List.drop_drop, show a + (i - a) = i by omega]; exact List.drop_eq_getElem_cons hi
      rw [← h2, List.take_append_drop]
    have hb := bt_nat s i hi
    rw [spec_l01Cut.l0, if_pos (by omega), if_neg (by omega), if_pos (by omega), if_pos (by omega), hb]
    by_cases c1 : (((s.data.toList[i]'hi).toNat : Nat) : Int) = ((c.toNat : Nat) : Int)
    · have hc1 := u8_eq c1
      rw [if_pos c1, if_pos (by omega), if_pos (by omega), if_pos (by omega), e1, Int.toNat_natCast, Int.toNat_natCast]
      rw [cutl s hs c d k _ (i + 1) (i + 1) (by omega) (Nat.le_refl _) (by rw [Nat.sub_self, List.take_zero]; exact fun h => by cases h) (by rw [List.length_append, List.length_singleton]; omega) (by omega)]
      rw [hx, hc1, cut_hit _ hc, extract_ba, List.append_assoc]
      rfl
    · rw [if_neg c1, e1]
      refine cutl s hs c d k out a (i + 1) (by omega) (by omega) ?_ (by omega) (by omega)
      have h3 : (s.data.toList.drop a).take (i + 1 - a) = (s.data.toList.drop a).take (i - a) ++ [s.data.toList[i]'hi] := by
        rw [show i + 1 - a = (i - a) + 1 by omega, List.take_succ_eq_append_getElem (by rw [List.length_drop, size_list]; omega)]
        congr 2
        rw [List.getElem_drop]
        congr 1
        omega
      rw [h3]
      intro hm
      rcases List.mem_append.1 hm with e | e
      · exact hc e
      · rw [List.mem_singleton] at e
        exact c1 (by rw [e])
theorem cut_spec (s : ByteArray) (hs : s.size ≤ 4194304) (c : UInt8) (k : Nat) (hk : s.size + 1 < k) : spec_l01Cut.f k s ((c.toNat : Nat) : Int) = some (cutB c s) :=
  cutl s hs c s.size k [] 0 0 (by omega) (by omega) (by simp) (by simp) hk
theorem gs0 (c : UInt8) (k : Nat) (x : ByteArray) (l : List ByteArray) (n : Nat) (hc : x.data.toList.count c = 0) (hl : l.length = n + 1) (hn : n ≤ 4194304) : strings_genSplit.l0 (k + 1) x (ba [c]) 0 (n : Int) l (n : Int) = some (l.take n ++ cutB c x) := by
  have hn0 : c ∉ x.data.toList := fun h => by
    have := List.count_pos_iff.2 h
    omega
  have e1 : wrap64 ((n : Int) + 1) = ((n + 1 : Nat) : Int) := by rw [w64 (by omega) (by omega)]; omega
  have f1 : ¬ ((n : Int) < (n : Int)) := by omega
  have f2 : (0 : Int) ≤ (n : Int) := by omega
  have f3 : (n : Int) < (l.length : Int) := by omega
  have f4 : (0 : Int) ≤ ((n + 1 : Nat) : Int) := by omega
  have f5 : ((n + 1 : Nat) : Int) ≤ (l.length : Int) := by omega
  have f6 : n < l.length := by omega
  rw [strings_genSplit.l0, if_neg f1, if_pos f2, if_pos f3, e1, if_pos f4, if_pos f5, Int.toNat_natCast, Int.toNat_natCast]
  unfold cutB
  rw [cut_none hn0, take_set_snoc f6]
  rfl
theorem gs1 (c : UInt8) (k : Nat) (x : ByteArray) (l : List ByteArray) (i n : Nat) (p r : List UInt8) (hin : i < n) (hl : l.length = n + 1) (hn : n ≤ 4194304) (hx : x.size ≤ 4194304) (h2 : x.data.toList = p ++ c :: r) (h4 : Lib.indexByte x.data.toList c = (p.length : Int)) :
    strings_genSplit.l0 (k + 1) x (ba [c]) 0 (n : Int) l (i : Int) = strings_genSplit.l0 k (ba r) (ba [c]) 0 (n : Int) (l.set i (ba p)) ((i + 1 : Nat) : Int) := by
  obtain ⟨g1, g2, g3⟩ := take_hit h2
  have hI : strings_Index.f x (ba [c]) = some ((p.length : Nat) : Int) := by
    unfold strings_Index.f
    rw [if_pos (show (ba [c]).size = 1 from rfl), ← h4]; rfl
  clear h4 h2
  have f1 : (i : Int) < (n : Int) := by omega
  have f2 : ¬ (((p.length : Nat) : Int) < 0) := by omega
  have f3 : (0 : Int) ≤ ((p.length : Nat) : Int) := by omega
  have f4 : ((p.length : Nat) : Int) ≤ (x.size : Int) := by omega
  have f5 : (0 : Int) ≤ (i : Int) := by omega
  have f6 : (i : Int) < (l.length : Int) := by omega
  have f7 : (0 : Int) ≤ ((p.length + 1 : Nat) : Int) := by omega
  have f8 : ((p.length + 1 : Nat) : Int) ≤ (x.size : Int) := by omega
  have e1 : wrap64 ((i : Int) + 1) = ((i + 1 : Nat) : Int) := by rw [w64 (by omega) (by omega)]; omega
  have e2 : wrap64 (((p.length : Nat) : Int) + 0) = ((p.length : Nat) : Int) := by rw [w64 (by omega) (by omega)]; omega
  have e3 : wrap64 (((p.length : Nat) : Int) + (((ba [c]).size : Nat) : Int)) = ((p.length + 1 : Nat) : Int) := by
    rw [show (((ba [c]).size : Nat) : Int) = 1 from rfl, w64 (by omega) (by omega)]; omega
  rw [strings_genSplit.l0, if_pos f1, hI, Option.bind_some, if_neg f2, e2, if_pos f3, if_pos f4, if_pos f5, if_pos f6, e3, if_pos f7, if_pos f8, e1, Int.toNat_natCast, Int.toNat_natCast, Int.toNat_natCast, g1, g2]
theorem gsl (c : UInt8) (n : Nat) (hn : n ≤ 4194304) (d : Nat) : ∀ (k : Nat) (x : ByteArray) (l : List ByteArray) (i : Nat), i + d = n → x.data.toList.count c = d → l.length = n + 1 → x.size ≤ 4194304 → d < k →
    strings_genSplit.l0 k x (ba [c]) 0 (n : Int) l (i : Int) = some (l.take i ++ cutB c x) := by
  induction d with
  | zero =>
    intro k x l i h1 hc hl hx hk
    obtain ⟨k, rfl⟩ : ∃ m, k = m + 1 := ⟨k - 1, by omega⟩
    obtain rfl : i = n := by omega
    exact gs0 c k x l i hc hl hn
  | succ d ih =>
    intro k x l i h1 hc hl hx hk
    obtain ⟨k, rfl⟩ : ∃ m, k = m + 1 := ⟨k - 1, by omega⟩
    rcases index_spec c x.data.toList with ⟨_, h⟩ | ⟨p, r, h2, h3, h4⟩
    · rw [List.count_eq_zero_of_not_mem h] at hc
      omega
    · obtain ⟨g1, g2, g3⟩ := take_hit h2
      have hcr : (ba r).data.toList.count c = d := by
        rw [h2, count_hit h3] at hc
        rw [list_ba]; omega
      rw [gs1 c k x l i n p r (by omega) hl hn hx h2 h4, ih k (ba r) _ (i + 1) (by omega) hcr (by rw [List.length_set]; exact hl) (by rw [size_ba]; omega) (by omega), take_set_snoc (by omega)]
      unfold cutB
      rw [h2, cut_hit r h3, List.append_assoc]
      rfl
theorem split_some (s : ByteArray) (hs : s.size ≤ 4194303) (c : UInt8) (k : Nat) (hk : s.size + 1 < k) : strings_Split.f k s (ba [c]) = some (cutB c s) := by
  obtain ⟨k, rfl⟩ : ∃ m, k = m + 1 := ⟨k - 1, by omega⟩
  have hle : s.data.toList.count c ≤ s.size := List.count_le_length
  have hC : strings_Count.f s (ba [c]) = some ((s.data.toList.count c : Nat) : Int) := by
    unfold strings_Count.f
    rw [if_pos (show (ba [c]).size = 1 from rfl)]; rfl
  have e1 : wrap64 (((s.data.toList.count c : Nat) : Int) + 1) = ((s.data.toList.count c + 1 : Nat) : Int) := by rw [w64 (by omega) (by omega)]; omega
  have e2 : mn ((s.data.toList.count c + 1 : Nat) : Int) (wrap64 ((s.size : Int) + 1)) = ((s.data.toList.count c + 1 : Nat) : Int) := by
    rw [w64 (by omega) (by omega)]; unfold mn; split <;> omega
  have e3 : wrap64 (((s.data.toList.count c + 1 : Nat) : Int) - 1) = ((s.data.toList.count c : Nat) : Int) := by rw [w64 (by omega) (by omega)]; omega
  have hne : ¬ ((ba [c]).toList = ([] : List UInt8)) := by
    intro h
    have := nil_iff.1 h
    cases this
  unfold strings_Split.f strings_genSplit.f
  rw [if_neg (by decide), if_neg hne, if_pos (by decide), hC, Option.bind_some, e1, strings_genSplit.j0, e2, if_pos (by omega), if_pos (by omega), e3, Int.toNat_natCast]
  have hg := gsl c (s.data.toList.count c) (by omega) (s.data.toList.count c) k s (List.replicate (s.data.toList.count c + 1) (⟨#[]⟩ : ByteArray)) 0 (by omega) rfl (by rw [List.length_replicate]) (by omega) (by omega)
  rw [show (((0 : Nat) : Int)) = 0 from rfl] at hg
  rw [hg]
  rfl
theorem cutF_none (s : ByteArray) (c : UInt8) (h : c ∉ s.data.toList) : strings_Cut.f s (ba [c]) = some (s, ⟨#[]⟩, false) := by
  have hI : stringslite_Index.f s (ba [c]) = some (-1) := by
    unfold stringslite_Index.f
    rw [if_pos (show (ba [c]).size = 1 from rfl), ← idx_none h]; rfl
  unfold strings_Cut.f stringslite_Cut.f
  rw [hI, Option.bind_some, if_neg (by decide), Option.bind_some]
theorem cutF_hit (s : ByteArray) (hs : s.size ≤ 4194303) (c : UInt8) (p r : List UInt8) (h : s.data.toList = p ++ c :: r) (hp : c ∉ p) : strings_Cut.f s (ba [c]) = some (ba p, ba r, true) := by
  obtain ⟨g1, g2, g3⟩ := take_hit h
  have hI : stringslite_Index.f s (ba [c]) = some ((p.length : Nat) : Int) := by
    unfold stringslite_Index.f
    rw [if_pos (show (ba [c]).size = 1 from rfl), ← idx_hit (r := r) hp, ← h]; rfl
  clear h
  have f1 : ((p.length : Nat) : Int) ≥ 0 := by omega
  have f2 : (0 : Int) ≤ ((p.length : Nat) : Int) := by omega
  have f3 : ((p.length : Nat) : Int) ≤ (s.size : Int) := by omega
  have f4 : (0 : Int) ≤ ((p.length + 1 : Nat) : Int) := by omega
  have f5 : ((p.length + 1 : Nat) : Int) ≤ (s.size : Int) := by omega
  have e3 : wrap64 (((p.length : Nat) : Int) + (((ba [c]).size : Nat) : Int)) = ((p.length + 1 : Nat) : Int) := by
    rw [show (((ba [c]).size : Nat) : Int) = 1 from rfl, w64 (by omega) (by omega)]; omega
  unfold strings_Cut.f stringslite_Cut.f
  rw [hI, Option.bind_some, if_pos f1, if_pos f2, if_pos f3, e3, if_pos f4, if_pos f5, Int.toNat_natCast, Int.toNat_natCast, g1, g2, Option.bind_some]
def bitsN (a : Nat) : Nat := if fne .f32 a a = true then 2143289344 else a
theorem bitsN_lt {a : Nat} (h : a < 4294967296) : bitsN a < 4294967296 := by unfold bitsN; split <;> omega
def txL (a : Nat) : List UInt8 := (strOfNums (dgs (bitsN a) 8)).data.toList
theorem txL_len (a : Nat) : (txL a).length = 8 := by
  unfold txL strOfNums
  rw [List.toList_toArray, List.length_map, hx_len]
theorem txL_eq (a : Nat) : strOfNums (dgs (bitsN a) 8) = ⟨(txL a).toArray⟩ := by unfold txL; rfl
theorem dgs_hi (n : Nat) : ∀ j, j ≤ 8 → dgs (n + 4294967296) j = dgs n j
  | 0, _ => rfl
  | j + 1, h => by
    rw [dgs, dgs, dgs_hi n j (by omega)]
    have h2 : (n + 4294967296) / 16 ^ j % 16 = n / 16 ^ j % 16 := by
      have h3 : j = 0 ∨ j = 1 ∨ j = 2 ∨ j = 3 ∨ j = 4 ∨ j = 5 ∨ j = 6 ∨ j = 7 := by omega
      rcases h3 with rfl | rfl | rfl | rfl | rfl | rfl | rfl | rfl <;> (simp only [Nat.reducePow]; omega)
    rw [h2]
theorem str_tail (x : Int) (l : List Int) (n : Nat) (hn : n = (strOfNums (x :: l)).size) : (strOfNums (x :: l)).extract 1 n = strOfNums l := by
  have hs : (strOfNums (x :: l)).size = l.length + 1 := by unfold strOfNums; show (List.toArray _).size = _; simp
  apply ByteArray.ext
  apply Array.toList_inj.1
  rw [ByteArray.data_extract, Array.toList_extract]
  unfold strOfNums
  rw [List.toList_toArray, List.toList_toArray, List.map_cons, hn, hs]
  simp [List.extract]
  exact List.take_of_length_le (by rw [List.length_map]; exact Nat.le_refl _)
def lcv (n : Nat) : Nat := if 48 ≤ n ∧ n ≤ 57 then n - 48 else if 97 ≤ n ∧ n ≤ 102 then n - 87 else 99
def lcL : Nat → List UInt8 → Option Nat
  | acc, [] => some acc
  | acc, c :: r => if lcv c.toNat < 16 then lcL (acc * 16 + lcv c.toNat) r else none
def bys (l : List Int) : List UInt8 := (strOfNums l).data.toList
theorem bys_cons (x : Int) (l : List Int) : bys (x :: l) = UInt8.ofNat x.toNat :: bys l := by unfold bys strOfNums; simp
theorem bys_nil : bys [] = [] := rfl
theorem txL_bys (a : Nat) : txL a = bys (dgs (bitsN a) 8) := rfl
theorem lcv_hexv : ∀ c : Fin 256, lcv c.1 < 16 → hexv c.1 = lcv c.1 := by decide +kernel
theorem lcv_hexd : ∀ d : Fin 16, lcv (UInt8.ofNat (hexd d.1).toNat).toNat = d.1 := by decide +kernel
theorem hexd_lcv : ∀ c : Fin 256, lcv c.1 < 16 → (hexd (lcv c.1)).toNat = c.1 := by decide +kernel
theorem lc_hex : ∀ (l : List UInt8) (a n : Nat), lcL a l = some n → Go.Proofs.YtdfpfiecpcgffaaDoor.hexL a l = some n
  | [], a, n, h => h
  | c :: r, a, n, h => by
    rw [lcL] at h
    split at h
    · rename_i hc
      have e := lcv_hexv ⟨c.toNat, c.toNat_lt⟩ hc
      rw [Go.Proofs.YtdfpfiecpcgffaaDoor.hexL, e, if_pos hc]
      exact lc_hex r _ n h
    · cases h
theorem lc_text (n : Nat) : ∀ (j a : Nat), lcL a (bys (dgs n j)) = some (a * 16 ^ j + n % 16 ^ j)
  | 0, a => by rw [dgs, bys_nil, lcL, Nat.pow_zero, Nat.mod_one]; simp
  | j + 1, a => by
    have hd : n / 16 ^ j % 16 < 16 := Nat.mod_lt _ (by decide)
    have e := lcv_hexd ⟨n / 16 ^ j % 16, hd⟩
    replace e : lcv (UInt8.ofNat (hexd (n / 16 ^ j % 16)).toNat).toNat = n / 16 ^ j % 16 := e
    rw [dgs, bys_cons, lcL, e, if_pos hd, lc_text n j, Nat.pow_succ, Nat.mod_mul]
    congr 1
    rw [Nat.add_mul, Nat.mul_assoc, Nat.mul_comm 16 (16 ^ j), Nat.mul_comm (n / 16 ^ j % 16) (16 ^ j)]
    omega
theorem lc_back : ∀ (l : List UInt8) (a n : Nat), lcL a l = some n → bys (dgs n l.length) = l ∧ n / 16 ^ l.length = a
  | [], a, n, h => by
    rw [lcL] at h
    obtain rfl := Option.some.inj h
    exact ⟨rfl, by simp⟩
  | c :: r, a, n, h => by
    rw [lcL] at h
    split at h
    · rename_i hc
      obtain ⟨h1, h2⟩ := lc_back r _ n h
      have e := hexd_lcv ⟨c.toNat, c.toNat_lt⟩ hc
      replace e : (hexd (lcv c.toNat)).toNat = c.toNat := e
      have hm : n / 16 ^ r.length % 16 = lcv c.toNat := by rw [h2]; omega
      refine ⟨?_, ?_⟩
      · rw [List.length_cons, dgs, bys_cons, hm, e, h1, UInt8.ofNat_toNat]
      · rw [List.length_cons, Nat.pow_succ, ← Nat.div_div_eq_div_mul, h2]; omega
    · cases h
def wordV (x : ByteArray) : Option Nat := if x.size = 8 then (Go.Proofs.YtdfpfiecpcgffaaDoor.hexL 0 x.data.toList).bind fun v => if txL v = x.data.toList then some v else none else none
def specV (x : ByteArray) : Option Nat := if x.size = 8 then (lcL 0 x.data.toList).bind fun n => if bitsN n = n then some n else none else none
theorem word_same (x : ByteArray) : wordV x = specV x := by
  unfold wordV specV
  by_cases h8 : x.size = 8
  · rw [if_pos h8, if_pos h8]
    have h8' : x.data.toList.length = 8 := h8
    refine Option.ext fun n => ?_
    constructor
    · intro h
      obtain ⟨v, hv, h⟩ := Option.bind_eq_some_iff.mp h
      split at h
      · rename_i ht
        obtain rfl := Option.some.inj h
        have hb : lcL 0 x.data.toList = some (bitsN v) := by
          have hlt := Go.Proofs.YtdfpfiecpcgffaaDoor.hex_lt x h8 v hv
          have hbl := bitsN_lt hlt
          have h3 := lc_text (bitsN v) 8 0
          rw [← txL_bys, ht] at h3
          rw [h3]; congr 1
          have : (16 : Nat) ^ 8 = 4294967296 := by decide
          omega
        have hv2 := lc_hex _ _ _ hb
        rw [hv] at hv2
        have hvb : v = bitsN v := Option.some.inj hv2
        rw [hb, Option.bind_some, ← hvb, if_pos hvb.symm]
      · cases h
    · intro h
      obtain ⟨v, hv, h⟩ := Option.bind_eq_some_iff.mp h
      split at h
      · rename_i hb
        obtain rfl := Option.some.inj h
        have hh := lc_hex _ _ _ hv
        obtain ⟨h1, _⟩ := lc_back _ _ _ hv
        rw [h8'] at h1
        rw [hh, Option.bind_some, txL_bys, hb, if_pos h1]
      · cases h
  · rw [if_neg h8, if_neg h8]
def allV (f : ByteArray → Option Nat) : List ByteArray → Option (List Nat)
  | [] => some []
  | x :: r => (f x).bind fun v => (allV f r).bind fun l => some (v :: l)
theorem allV_len (f : ByteArray → Option Nat) : ∀ (t : List ByteArray) (l : List Nat), allV f t = some l → l.length = t.length
  | [], l, h => by obtain rfl := Option.some.inj h; rfl
  | x :: r, l, h => by
    rw [allV] at h
    obtain ⟨v, _, h⟩ := Option.bind_eq_some_iff.mp h
    obtain ⟨l2, h2, h⟩ := Option.bind_eq_some_iff.mp h
    obtain rfl := Option.some.inj h
    rw [List.length_cons, List.length_cons, allV_len f r l2 h2]
def finV (acc : List Nat) : Option (List Nat) → List Nat × Bool
  | some l => (acc ++ l, true)
  | none => ([], false)
theorem rdW_some (hx : Nat → Option ByteArray) (hh : ∀ v, v < 4294967296 → hx v = some ⟨(txL v).toArray⟩) : ∀ (t : List ByteArray) (acc : List Nat), rdW hx t acc = some (if acc.length + t.length ≤ 256 then finV acc (allV wordV t) else ([], false)) ∨ (acc.length > 256)
  | [], acc => by
    by_cases c : acc.length ≤ 256
    · left
      rw [rdW, if_pos (by simp only [List.length_nil]; omega), allV, finV, List.append_nil]
    · right; omega
  | x :: r, acc => by
    by_cases c : acc.length ≤ 256
    · left
      rw [rdW]
      have hw : wordV x = if x.size = 8 then (Go.Proofs.YtdfpfiecpcgffaaDoor.hexL 0 x.data.toList).bind fun v => if txL v = x.data.toList then some v else none else none := rfl
      by_cases h8 : x.size = 8
      · rw [if_pos h8] at hw ⊢
        by_cases hm : acc.length = 256
        · rw [if_pos hm, if_neg (by simp only [List.length_cons]; omega)]
        · rw [if_neg hm, allV, hw]
          cases hv : Go.Proofs.YtdfpfiecpcgffaaDoor.hexL 0 x.data.toList with
          | none =>
            dsimp only
            simp only [Option.bind_none, finV, ite_self]
          | some v =>
            have hlt := Go.Proofs.YtdfpfiecpcgffaaDoor.hex_lt x h8 v hv
            dsimp only
            rw [hh v hlt, Option.bind_some, Option.bind_some]
            have hte : (⟨(txL v).toArray⟩ : ByteArray).toList = txL v := by rw [ByteArray.toList_eq]
            by_cases ht : txL v = x.data.toList
            · have ht2 : (⟨(txL v).toArray⟩ : ByteArray).toList = x.toList := by rw [hte, ht, ByteArray.toList_eq]
              rw [if_pos ht2, if_pos ht, Option.bind_some]
              rcases rdW_some hx hh r (acc ++ [v]) with ih | ih
              · rw [ih, List.length_append, List.length_singleton, List.length_cons]
                cases allV wordV r with
                | none => simp only [Option.bind_none, finV, ite_self]
                | some l =>
                  simp only [Option.bind_some, finV, List.append_assoc, List.singleton_append]
                  by_cases c3 : acc.length + 1 + r.length ≤ 256
                  · rw [if_pos c3, if_pos (by omega)]
                  · rw [if_neg c3, if_neg (by omega)]
              · rw [List.length_append, List.length_singleton] at ih
                omega
            · have ht2 : ¬ (⟨(txL v).toArray⟩ : ByteArray).toList = x.toList := by rw [hte, ByteArray.toList_eq]; exact ht
              rw [if_neg ht2, if_neg ht]
              simp only [Option.bind_none, finV, ite_self]
      · rw [if_neg h8] at hw ⊢
        rw [allV, hw]
        simp only [Option.bind_none, finV, ite_self]
    · right; omega
theorem hex_impl (a : Nat) (ha : a < 4294967296) : impl_hexText.f a = some ⟨(txL a).toArray⟩ := by
  have hb : impl_BitsOf.f a = some ((bitsN a : Nat) : Int) := by
    unfold impl_BitsOf.f bitsN
    split
    · rfl
    · rw [w64 (by omega) (by omega)]
  have hl := bitsN_lt ha
  unfold impl_hexText.f strconv_FormatInt.f
  rw [hb, Option.bind_some, w64 (by omega) (by omega), if_pos ⟨by omega, by omega, rfl⟩, Option.bind_some]
  have e : (((bitsN a : Nat) : Int) + 4294967296).toNat = bitsN a + 4294967296 := by omega
  have hs : (strOfNums (dgs (bitsN a + 4294967296) 9)).size = 9 := by
    unfold strOfNums; show (List.toArray _).size = _; rw [List.size_toArray, List.length_map, hx_len]
  rw [e, if_pos (by rw [hs]; decide), dgs, dgs_hi _ 8 (Nat.le_refl _), str_tail _ _ _ rfl, txL_eq]
theorem rdS_at {l : List ByteArray} {i : Nat} (h : i < l.length) : rdOf ByteArray.empty l (i : Int) = l[i]'h := by
  unfold rdOf
  rw [Int.toNat_natCast, List.getD_eq_getElem?_getD, List.getElem?_eq_getElem h]; rfl
theorem bits_spec (n : Nat) (h : n < 4294967296) : spec_l01Bits.f n = some ((bitsN n : Nat) : Int) := by
  unfold spec_l01Bits.f bitsN
  split
  · rfl
  · rw [w64 (by omega) (by omega)]
theorem nr_digit (t : List ByteArray) (acc : List Nat) (j : Nat) (hj : j < t.length) (i n X c : Nat) (h8 : (t[j]'hj).size = 8) (hi : i < 8) (hn7 : n ≤ 268435455) (hc256 : c < 256) (hb : bt (t[j]'hj) (i : Int) = (c : Int)) :
    spec_l01NRead.l1 (X + 4) acc t (j : Int) (n : Int) (i : Int) = if lcv c < 16 then spec_l01NRead.l1 X acc t (j : Int) (((n * 16 + lcv c : Nat) : Nat) : Int) ((i + 1 : Nat) : Int) else some ([], false) := by
  have hr := rdS_at hj
  have e1 : wrap64 ((i : Int) + 1) = ((i + 1 : Nat) : Int) := by rw [w64 (by omega) (by omega)]; omega
  have e16 : wrap64 (16 * (n : Int)) = 16 * (n : Int) := w64 (by omega) (by omega)
  have hi8 : (i : Int) < ((t[j]'hj).size : Int) := by omega
  have hi0 : (i : Int) < 8 := by omega
  have hjj : (j : Int) < (t.length : Int) := by omega
  rw [spec_l01NRead.l1, if_pos hi0, if_pos (Int.natCast_nonneg j), if_pos hjj, if_pos (Int.natCast_nonneg i), hr, if_pos hi8, hb]
  clear hr hb hi8 hi0 hjj h8
  have j4t : ∀ x10, 97 ≤ c → c ≤ 102 → spec_l01NRead.j4 (X + 1) acc t (j : Int) (n : Int) (i : Int) (c : Int) x10 true = spec_l01NRead.l1 X acc t (j : Int) (((n * 16 + (c - 87) : Nat) : Nat) : Int) ((i + 1 : Nat) : Int) := by
    intro x10 h1 h2
    have e : wrap64 (16 * (n : Int) + (((c : Int) - 97) % 256 + 10)) = ((n * 16 + (c - 87) : Nat) : Int) := by rw [w64 (by omega) (by omega)]; omega
    rw [spec_l01NRead.j4, if_pos rfl, if_neg (by omega), e16, e1, e]
  have j2f : spec_l01NRead.j2 (X + 1 + 1 + 1) acc t (j : Int) (n : Int) (i : Int) (c : Int) (-1) false = spec_l01NRead.j3 (X + 1 + 1) acc t (j : Int) (n : Int) (i : Int) (c : Int) (-1) := by
    rw [spec_l01NRead.j2, if_neg (by decide)]
  by_cases c1 : 48 ≤ c ∧ c ≤ 57
  · have hv : lcv c = c - 48 := by unfold lcv; rw [if_pos c1]
    have e : wrap64 (16 * (n : Int) + ((c : Int) - 48) % 256) = ((n * 16 + (c - 48) : Nat) : Int) := by rw [w64 (by omega) (by omega)]; omega
    have j4n : spec_l01NRead.j4 (X + 1) acc t (j : Int) (n : Int) (i : Int) (c : Int) (((c : Int) - 48) % 256) false = spec_l01NRead.l1 X acc t (j : Int) (((n * 16 + (c - 48) : Nat) : Nat) : Int) ((i + 1 : Nat) : Int) := by
      rw [spec_l01NRead.j4, if_neg (by decide), if_neg (by omega), e16, e1, e]
    have j2t : spec_l01NRead.j2 (X + 1 + 1 + 1) acc t (j : Int) (n : Int) (i : Int) (c : Int) (-1) true = spec_l01NRead.l1 X acc t (j : Int) (((n * 16 + (c - 48) : Nat) : Nat) : Int) ((i + 1 : Nat) : Int) := by
      rw [spec_l01NRead.j2, if_pos rfl, spec_l01NRead.j3, if_neg (by omega), j4n]
    rw [if_pos (by omega), decide_eq_true (by omega : (c : Int) ≤ 57), hv, if_pos (by omega)]
    exact j2t
  · have step : (if (c : Int) ≥ 48 then (spec_l01NRead.j2 (X + 1 + 1 + 1) acc t (j : Int) (n : Int) (i : Int) (c : Int) (-1) (decide ((c : Int) ≤ 57))) else (spec_l01NRead.j2 (X + 1 + 1 + 1) acc t (j : Int) (n : Int) (i : Int) (c : Int) (-1) false)) = spec_l01NRead.j3 (X + 1 + 1) acc t (j : Int) (n : Int) (i : Int) (c : Int) (-1) := by
      by_cases c0 : 48 ≤ c
      · rw [if_pos (by omega), decide_eq_false (by omega), j2f]
      · rw [if_neg (by omega), j2f]
    refine step.trans ?_
    rw [spec_l01NRead.j3]
    by_cases c2 : 97 ≤ c ∧ c ≤ 102
    · have hv : lcv c = c - 87 := by unfold lcv; rw [if_neg c1, if_pos c2]
      rw [if_pos (by omega), decide_eq_true (by omega : (c : Int) ≤ 102), j4t _ c2.1 c2.2, hv, if_pos (by omega)]
    · have hv : lcv c = 99 := by unfold lcv; rw [if_neg c1, if_neg c2]
      have j4f : spec_l01NRead.j4 (X + 1) acc t (j : Int) (n : Int) (i : Int) (c : Int) (-1) false = some ([], false) := by
        rw [spec_l01NRead.j4, if_neg (by decide), if_pos (by decide)]
      rw [hv, if_neg (by decide : ¬ 99 < 16)]
      by_cases c3 : 97 ≤ c
      · rw [if_pos (by omega), decide_eq_false (by omega : ¬ (c : Int) ≤ 102), j4f]
      · rw [if_neg (by omega), j4f]
theorem nr_end (t : List ByteArray) (acc : List Nat) (j n k : Nat) (hn : n < 4294967296) (ha : acc.length < 35184372088832) :
    spec_l01NRead.l1 (k + 1) acc t (j : Int) (n : Int) ((8 : Nat) : Int) = if bitsN n = n then spec_l01NRead.l0 k (acc ++ [n]) t (wrap64 ((j : Int) + 1)) else some ([], false) := by
  have hf : spec_l01From.f (n : Int) = some n := by unfold spec_l01From.f; congr 1; omega
  rw [spec_l01NRead.l1, if_neg (by omega), hf, Option.bind_some, bits_spec n hn, Option.bind_some, if_pos ha]
  by_cases c : bitsN n = n
  · rw [if_pos c, if_pos (by rw [c])]
  · rw [if_neg c, if_neg (by omega)]
theorem nr_word (t : List ByteArray) (acc : List Nat) (j : Nat) (hj : j < t.length) (h8 : (t[j]'hj).size = 8) (ha : acc.length < 35184372088832) (k d : Nat) :
    ∀ (i n : Nat), i + d = 8 → n < 16 ^ i → spec_l01NRead.l1 (k + 4 * d + 1) acc t (j : Int) (n : Int) (i : Int) = (match lcL n ((t[j]'hj).data.toList.drop i) with | none => some ([], false) | some m => if bitsN m = m then spec_l01NRead.l0 k (acc ++ [m]) t (wrap64 ((j : Int) + 1)) else some ([], false)) := by
  induction d with
  | zero =>
    intro i n hi hn
    obtain rfl : i = 8 := by omega
    have hl : ((t[j]'hj).data.toList.drop 8) = [] := List.drop_eq_nil_of_le (by rw [size_list]; omega)
    rw [hl, lcL]
    exact nr_end t acc j n k hn ha
  | succ d ih =>
    intro i n hi hn
    have hi8 : i < (t[j]'hj).size := by omega
    have hdr : (t[j]'hj).data.toList.drop i = (t[j]'hj).data.toList[i]'hi8 :: (t[j]'hj).data.toList.drop (i + 1) := List.drop_eq_getElem_cons hi8
    have hn7 : n ≤ 268435455 := hex_room i n (by omega) hn
    have hs := nr_digit t acc j hj i n (k + 4 * d + 1) _ h8 (by omega) hn7 ((t[j]'hj).data.toList[i]'hi8).toNat_lt (bt_nat (t[j]'hj) i hi8)
    rw [show k + 4 * (d + 1) + 1 = k + 4 * d + 1 + 4 by omega, hs, hdr, lcL]
    by_cases c : lcv ((t[j]'hj).data.toList[i]'hi8).toNat < 16
    · rw [if_pos c, if_pos c]
      exact ih (i + 1) _ (by omega) (by rw [Nat.pow_succ]; omega)
    · rw [if_neg c, if_neg c]
theorem nr_step (t : List ByteArray) (ht : t.length ≤ 256) (j : Nat) (acc : List Nat) (k : Nat) (hjl : j < t.length) (ha : acc.length = j) :
    spec_l01NRead.l0 (k + 34) acc t (j : Int) = (match specV (t[j]'hjl) with | none => some ([], false) | some m => spec_l01NRead.l0 k (acc ++ [m]) t ((j + 1 : Nat) : Int)) := by
  have hr := rdS_at hjl
  have e1 : wrap64 ((j : Int) + 1) = ((j + 1 : Nat) : Int) := by rw [w64 (by omega) (by omega)]; omega
  have hjj : (j : Int) < (t.length : Int) := by omega
  have ha' : acc.length < 35184372088832 := by omega
  rw [spec_l01NRead.l0, if_pos hjj, if_pos (Int.natCast_nonneg j), hr]
  unfold specV
  by_cases h8 : (t[j]'hjl).size = 8
  · have h := nr_word t acc j hjl h8 ha' k 8 0 0 rfl (by decide)
    have h8' : ((t[j]'hjl).size : Int) = 8 := by omega
    rw [if_pos h8', if_pos h8]
    refine h.trans ?_
    rw [List.drop_zero, e1]
    cases lcL 0 (t[j]'hjl).data.toList with
    | none => rfl
    | some m =>
      rw [Option.bind_some]
      dsimp only
      by_cases c : bitsN m = m
      · rw [if_pos c, if_pos c]
      · rw [if_neg c, if_neg c]
  · have h8' : ¬ ((t[j]'hjl).size : Int) = 8 := by omega
    rw [if_neg h8', if_neg h8]
theorem nr_words (t : List ByteArray) (ht : t.length ≤ 256) (d : Nat) : ∀ (j : Nat) (acc : List Nat) (k : Nat), j + d = t.length → acc.length = j → 34 * d + 1 ≤ k → spec_l01NRead.l0 k acc t (j : Int) = some (finV acc (allV specV (t.drop j))) := by
  induction d with
  | zero =>
    intro j acc k hj ha hk
    obtain ⟨k, rfl⟩ : ∃ m, k = m + 1 := ⟨k - 1, by omega⟩
    obtain rfl : j = t.length := by omega
    rw [spec_l01NRead.l0, if_neg (by omega), List.drop_length, allV, finV, List.append_nil]
  | succ d ih =>
    intro j acc k hj ha hk
    obtain ⟨k, rfl⟩ : ∃ m, k = m + 34 := ⟨k - 34, by omega⟩
    have hjl : j < t.length := by omega
    rw [nr_step t ht j acc k hjl ha, List.drop_eq_getElem_cons hjl, allV]
    cases hs : specV (t[j]'hjl) with
    | none => rfl
    | some m =>
      dsimp only
      rw [ih (j + 1) (acc ++ [m]) k (by omega) (by rw [List.length_append, List.length_singleton]; omega) (by omega), Option.bind_some]
      cases allV specV (t.drop (j + 1)) with
      | none => rfl
      | some l =>
        rw [Option.bind_some]
        show some (acc ++ [m] ++ l, true) = some (acc ++ (m :: l), true)
        rw [List.append_assoc]; rfl
def lens (L : List (List UInt8)) : Nat := (L.map fun p => p.length + 1).foldr (· + ·) 0
theorem lens_cons (p : List UInt8) (L : List (List UInt8)) : lens (p :: L) = p.length + 1 + lens L := rfl
theorem cut_size (c : UInt8) : ∀ l : List UInt8, lens (cut c l) = l.length + 1
  | [] => rfl
  | b :: l => by
    have ih := cut_size c l
    rw [cut]
    split
    · rw [lens_cons, ih, List.length_cons, List.length_nil]; omega
    · split
      · rename_i p ps h
        rw [h, lens_cons] at ih
        rw [lens_cons, List.length_cons, List.length_cons]
        omega
      · rename_i h
        exact absurd h (cut_ne c l)
theorem lens_8 : ∀ L : List (List UInt8), (∀ p ∈ L, p.length = 8) → lens L = 9 * L.length
  | [], _ => rfl
  | p :: L, h => by
    have h1 := h p List.mem_cons_self
    have h2 := lens_8 L (fun q hq => h q (List.mem_cons_of_mem _ hq))
    rw [lens_cons, h1, h2, List.length_cons]; omega
theorem allV_8 : ∀ (t : List ByteArray) (l : List Nat), allV specV t = some l → ∀ x ∈ t, x.size = 8
  | [], _, _ => by simp
  | x :: r, l, h => by
    rw [allV] at h
    obtain ⟨v, h1, h⟩ := Option.bind_eq_some_iff.mp h
    obtain ⟨l2, h2, h⟩ := Option.bind_eq_some_iff.mp h
    intro y hy
    rcases List.mem_cons.1 hy with rfl | hy
    · unfold specV at h1
      split at h1
      · assumption
      · cases h1
    · exact allV_8 r l2 h2 y hy
theorem specV_lt (x : ByteArray) (v : Nat) (h : specV x = some v) : v < 4294967296 := by
  rw [← word_same] at h
  unfold wordV at h
  split at h
  · rename_i h8
    obtain ⟨u, hu, h⟩ := Option.bind_eq_some_iff.mp h
    split at h
    · obtain rfl := Option.some.inj h
      exact Go.Proofs.YtdfpfiecpcgffaaDoor.hex_lt x h8 u hu
    · cases h
  · cases h
theorem allV_lt : ∀ (t : List ByteArray) (l : List Nat), allV specV t = some l → ∀ v ∈ l, v < 4294967296
  | [], l, h => by obtain rfl := Option.some.inj h; simp
  | x :: r, l, h => by
    rw [allV] at h
    obtain ⟨v, h1, h⟩ := Option.bind_eq_some_iff.mp h
    obtain ⟨l2, h2, h⟩ := Option.bind_eq_some_iff.mp h
    obtain rfl := Option.some.inj h
    intro y hy
    rcases List.mem_cons.1 hy with rfl | hy
    · exact specV_lt x y h1
    · exact allV_lt r l2 h2 y hy
def rdNums (s : ByteArray) : List Nat × Bool := if s.toList = [110, 111, 110, 101] then ([], true) else if (cutB 44 s).length > 256 then ([], false) else finV [] (allV specV (cutB 44 s))
theorem rdNums_ok (s : ByteArray) : (rdNums s).1.length ≤ 256 ∧ ∀ v ∈ (rdNums s).1, v < 4294967296 := by
  unfold rdNums
  split
  · simp
  · split
    · simp
    · rename_i hl
      cases h : allV specV (cutB 44 s) with
      | none => simp [finV]
      | some l =>
        have h1 := allV_len specV _ _ h
        have h2 := allV_lt _ _ h
        show ([] ++ l).length ≤ 256 ∧ ∀ v ∈ [] ++ l, v < 4294967296
        rw [List.nil_append]
        exact ⟨by omega, h2⟩
theorem cutB_len (s : ByteArray) : (cutB 44 s).length ≤ s.size + 1 := by
  unfold cutB
  rw [List.length_map, cut_len]
  have := List.count_le_length (a := (44 : UInt8)) (l := s.data.toList)
  rw [size_list] at this
  omega
theorem nread_spec (s : ByteArray) (hs : s.size ≤ 1048576) (k : Nat) (hk : 4194304 ≤ k) : spec_l01NRead.f k s = some (rdNums s) := by
  have hc : spec_l01Cut.f k s 44 = some (cutB 44 s) := cut_spec s (by omega) 44 k (by omega)
  unfold spec_l01NRead.f rdNums
  rw [Option.bind_some]
  by_cases hn : s.toList = [110, 111, 110, 101]
  · rw [if_pos hn, if_pos hn]
  · rw [if_neg hn, if_neg hn, hc, Option.bind_some]
    by_cases hl : (cutB 44 s).length > 256
    · rw [if_pos (by omega), if_pos hl]
    · rw [if_neg (by omega), if_neg hl]
      have h := nr_words (cutB 44 s) (by omega) (cutB 44 s).length 0 [] k (by omega) rfl (by omega)
      rw [List.drop_zero] at h
      exact h
theorem allV_congr (f g : ByteArray → Option Nat) (h : ∀ x, f x = g x) (t : List ByteArray) : allV f t = allV g t := by
  rw [show f = g from funext h]
theorem nread_impl (s : ByteArray) (hs : s.size ≤ 1048576) (k : Nat) (hk : 4194304 ≤ k) : impl_ReadNumbers.f k s = some (rdNums s) := by
  have hc : strings_Split.f k s ⟨#[44]⟩ = some (cutB 44 s) := split_some s (by omega) 44 k (by omega)
  have hlen := cutB_len s
  unfold impl_ReadNumbers.f impl_readNumbers.f rdNums
  rw [if_pos rfl]
  by_cases hn : s.toList = [110, 111, 110, 101]
  · rw [if_pos hn, if_pos hn]; rfl
  · rw [if_neg hn, if_neg hn]
    by_cases hb : (s.size : Int) > 2304
    · rw [if_pos hb, Option.bind_some]
      by_cases hl : (cutB 44 s).length > 256
      · rw [if_pos hl]
      · rw [if_neg hl]
        cases h : allV specV (cutB 44 s) with
        | none => rfl
        | some l =>
          exfalso
          have h8 := allV_8 _ _ h
          have hcs := cut_size 44 s.data.toList
          have hl8 := lens_8 (cut 44 s.data.toList) (fun p hp => by
            have := h8 (ba p) (List.mem_map_of_mem hp)
            exact this)
          have hln : (cutB 44 s).length = (cut 44 s.data.toList).length := List.length_map _
          rw [size_list] at hcs
          omega
    · rw [if_neg hb, hc, Option.bind_some, if_pos (by omega)]
      rcases rdW_some (fun v => impl_hexText.f v) (fun v hv => hex_impl v hv) (cutB 44 s) [] with h | h
      · rw [h, Option.bind_some, allV_congr _ _ word_same]
        simp only [List.length_nil, Nat.zero_add]
        by_cases hl : (cutB 44 s).length > 256
        · rw [if_pos hl, if_neg (by omega)]
        · rw [if_neg hl, if_pos (by omega)]
      · simp at h
theorem fin_nan (x : Nat) (h : finB x = true) : (FloatKind.f32.format.read x).isNaN = false := by
  cases hr : FloatKind.f32.format.read x with
  | number s m e => rfl
  | infinity s => rfl
  | nan s t =>
    exfalso
    have : floatBits .sub .f32 x x = none := by
      simp [floatBits, Ieee.Format.sub, hr, Ieee.Datum.sum, Ieee.Datum.opposite]
    unfold finB foprOk at h
    rw [this] at h
    cases h
theorem gt_le (x : Nat) (h : finB x = true) : fgr .f32 x 0 = !fle .f32 x 0 := by
  have hn := fin_nan x h
  have h0 : FloatKind.f32.format.read 0 = .number false 0 (-149) := by decide +kernel
  unfold fgr fle Ieee.Format.order
  rw [h0]
  cases hr : FloatKind.f32.format.read x with
  | nan s t => rw [hr] at hn; cases hn
  | infinity s => cases s <;> rfl
  | number s m e =>
    have ho : ∃ o, (Ieee.Datum.number s m e).order (Ieee.Datum.number false 0 (-149)) = some o := ⟨_, rfl⟩
    obtain ⟨o, ho⟩ := ho
    rw [ho]
    cases o <;> rfl
def ab (x : Nat) : Bool := finB x && fgr .f32 x 0
theorem ab_spec (x : Nat) : spec_l02Above.f x = some (ab x) := by
  unfold spec_l02Above.f spec_l01Finite.f ab
  rw [Option.bind_some]
  cases finB x <;> rfl
theorem areas_spec (l : List Nat) (hl : l.length ≤ 16) (h1 : 1 ≤ l.length) : ∀ (d i k : Nat), i + d = l.length → 2 * d + 1 < k → spec_l02Areas.l0 k l (i : Int) = some ((l.drop i).all ab)
  | _, _, 0, _, h => by omega
  | _, _, 1, _, h => by omega
  | 0, i, k + 2, h2, h3 => by
    obtain rfl : i = l.length := by omega
    rw [spec_l02Areas.l0, if_neg (by omega), spec_l02Areas.j1, if_neg (by decide), if_pos (by omega), List.drop_length, decide_eq_true (by omega)]
    rfl
  | d + 1, i, k + 2, h2, h3 => by
    have hi : i < l.length := by omega
    have e : ((i : Int) + 1) = ((i + 1 : Nat) : Int) := by omega
    rw [spec_l02Areas.l0, if_pos (by omega), decide_eq_true (by omega), spec_l02Areas.j1, if_pos rfl, if_pos (by omega), if_pos (by omega), rdN_at hi, ab_spec, Option.bind_some, w64 (by omega) (by omega), e, areas_spec l hl h1 d (i + 1) k (by omega) (by omega), List.drop_eq_getElem_cons hi, List.all_cons]
    cases ab l[i] <;> rfl
theorem areas_long (l : List Nat) (hl : ¬ (1 ≤ l.length ∧ l.length ≤ 16)) (k : Nat) (hk : 2 ≤ k) : spec_l02Areas.f k l = some false := by
  obtain ⟨k, rfl⟩ : ∃ m, k = m + 2 := ⟨k - 2, by omega⟩
  unfold spec_l02Areas.f
  rw [spec_l02Areas.l0]
  by_cases c : l.length = 0
  · rw [if_neg (by omega), spec_l02Areas.j1, if_neg (by decide), if_neg (by omega)]
  · rw [if_pos (by omega), decide_eq_false (by omega), spec_l02Areas.j1, if_neg (by decide), if_pos (by omega), decide_eq_false (by omega)]
abbrev IS := S58
theorem rdI_at {l : List IS} {i : Nat} (h : i < l.length) : rd_T58 l (i : Int) = l[i]'h := by
  unfold rd_T58
  rw [Int.toNat_natCast, List.getD_eq_getElem?_getD, List.getElem?_eq_getElem h]; rfl
def okI (x : IS) : Prop := x.f0.size ≤ 1048576 ∧ x.f1.length ≤ 1048576 ∧ (∀ y ∈ x.f1, y < 4294967296) ∧ x.f2 < 4294967296 ∧ x.f3 < 4294967296 ∧ x.f4 < 4294967296 ∧ x.f5 < 4294967296
theorem eqS_loop (l : List IS) (hl : l.length ≤ 1048576) (hx : ∀ x ∈ l, okI x) : ∀ (d i k : Nat), i + d = l.length → d < k → laws_eqSoundS.l0 k l l (i : Int) = some true
  | _, _, 0, _, h => by omega
  | 0, i, k + 1, h1, h2 => by
    obtain rfl : i = l.length := by omega
    rw [laws_eqSoundS.l0, if_neg (by omega)]
  | d + 1, i, k + 1, h1, h2 => by
    have hi : i < l.length := by omega
    have e : ((i : Int) + 1) = ((i + 1 : Nat) : Int) := by omega
    obtain ⟨o1, o2, o3, o4, o5, o6, o7⟩ := hx l[i] (List.getElem_mem _)
    have he : laws_eqSound.f l[i].f0 l[i].f1 l[i].f2 l[i].f3 l[i].f4 l[i].f5 l[i].f0 l[i].f1 l[i].f2 l[i].f3 l[i].f4 l[i].f5 = some true := by
      unfold laws_eqSound.f
      rw [if_pos ⟨rfl, rfl, rfl, rfl, rfl, rfl, o2, o3, o4, o5, o6, o7⟩]
    rw [laws_eqSoundS.l0, if_pos (by omega), if_pos (by omega), if_pos (by omega), rdI_at hi, he, Option.bind_some, if_pos rfl, w64 (by omega) (by omega), e]
    exact eqS_loop l hl hx d (i + 1) k (by omega) (by omega)
theorem eqS_some (l : List IS) (hl : l.length ≤ 1048576) (hx : ∀ x ∈ l, okI x) (k : Nat) (hk : 1048600 ≤ k) : laws_eqSoundS.f k l l = some true := by
  unfold laws_eqSoundS.f
  rw [if_pos rfl]
  exact eqS_loop l hl hx l.length 0 k (by omega) (by omega)
theorem bt_ok (s : ByteArray) (i : Nat) : ∃ b : Bool, (decide (bt s (i : Int) < 97) || decide (bt s (i : Int) > 122)) = !b := ⟨_, (Bool.not_not _).symm⟩
def lt1 (s : ByteArray) (i : Nat) : Bool := !(decide (bt s (i : Int) < 97) || decide (bt s (i : Int) > 122))
def nm (s : ByteArray) : Nat → Nat → Bool
  | 0, _ => true
  | d + 1, i => lt1 s i && nm s d (i + 1)
theorem nm_spec (s : ByteArray) (h4 : s.size ≤ 4) (h1 : 1 ≤ s.size) : ∀ (d i k : Nat), i + d = s.size → 2 * d + 1 < k → spec_l06Name.l0 k s (i : Int) = some (nm s d i)
  | _, _, 0, _, h => by omega
  | _, _, 1, _, h => by omega
  | 0, i, k + 2, h2, h3 => by
    rw [spec_l06Name.l0, if_neg (by omega), spec_l06Name.j1, if_neg (by decide), if_pos (by omega), decide_eq_true (by omega)]
    rfl
  | d + 1, i, k + 2, h2, h3 => by
    have e : ((i : Int) + 1) = ((i + 1 : Nat) : Int) := by omega
    rw [spec_l06Name.l0, if_pos (by omega), decide_eq_true (by omega), spec_l06Name.j1, if_pos rfl, if_pos (by omega), if_pos (by omega), w64 (by omega) (by omega), e, nm_spec s h4 h1 d (i + 1) k (by omega) (by omega), nm]
    unfold lt1
    by_cases c1 : bt s (i : Int) < 97
    · rw [if_pos c1]; simp [c1]
    · rw [if_neg c1]
      by_cases c2 : bt s (i : Int) > 122
      · rw [if_pos c2]; simp [c2]
      · rw [if_neg c2]; simp [c1, c2]
theorem nm_impl (s : ByteArray) (h4 : s.size ≤ 4) : ∀ (d i k : Nat), i + d = s.size → d < k → impl_IsName.l0 k s (i : Int) = some (nm s d i && decide (1 ≤ s.size))
  | _, _, 0, _, h => by omega
  | 0, i, k + 1, h2, h3 => by
    rw [impl_IsName.l0, if_neg (by omega)]
    unfold impl_within.f
    by_cases c : (s.size : Int) ≥ 1
    · rw [if_pos c, decide_eq_true (show (s.size : Int) ≤ 8 by omega), decide_eq_true (show 1 ≤ s.size by omega)]; rfl
    · rw [if_neg c, decide_eq_false (show ¬ 1 ≤ s.size by omega)]; rfl
  | d + 1, i, k + 1, h2, h3 => by
    have e : ((i : Int) + 1) = ((i + 1 : Nat) : Int) := by omega
    rw [impl_IsName.l0, if_pos (by omega), if_pos (by omega), w64 (by omega) (by omega), e, nm_impl s h4 d (i + 1) k (by omega) (by omega), nm]
    unfold lt1
    by_cases c1 : bt s (i : Int) < 97
    · rw [if_pos c1]; simp [c1]
    · rw [if_neg c1]
      by_cases c2 : bt s (i : Int) > 122
      · rw [if_pos c2]; simp [c2]
      · rw [if_neg c2]; simp [c1, c2]
theorem name_both (s : ByteArray) (hs : s.size ≤ 1048576) : ∃ b : Bool, ∀ k, 64 ≤ k → spec_l06Name.f k s = some b ∧ impl_isSoundName.f k s = some b := by
  by_cases h : 1 ≤ s.size ∧ s.size ≤ 4
  · refine ⟨nm s s.size 0, fun k hk => ⟨nm_spec s h.2 h.1 s.size 0 k (by omega) (by omega), ?_⟩⟩
    have h2 : impl_IsName.f k s = some (nm s s.size 0 && decide (1 ≤ s.size)) := nm_impl s h.2 s.size 0 k (by omega) (by omega)
    unfold impl_isSoundName.f
    rw [if_pos (by omega), h2, decide_eq_true h.1, Bool.and_true]; rfl
  · refine ⟨false, fun k hk => ⟨?_, ?_⟩⟩
    · obtain ⟨k, rfl⟩ : ∃ m, k = m + 2 := ⟨k - 2, by omega⟩
      unfold spec_l06Name.f
      rw [spec_l06Name.l0]
      by_cases c : s.size = 0
      · rw [if_neg (by omega), spec_l06Name.j1, if_neg (by decide), if_neg (by omega)]
      · rw [if_pos (by omega), decide_eq_false (by omega), spec_l06Name.j1, if_neg (by decide), if_pos (by omega), decide_eq_false (by omega)]
    · unfold impl_isSoundName.f
      by_cases c : s.size = 0
      · have h2 : impl_IsName.f k s = some (nm s s.size 0 && decide (1 ≤ s.size)) := nm_impl s (by omega) s.size 0 k (by omega) (by omega)
        rw [if_pos (by omega), h2, decide_eq_false (by omega), Bool.and_false]; rfl
      · rw [if_neg (by omega)]
theorem afin_impl (l : List Nat) (hl : l.length ≤ 1048576) : ∀ (d i k : Nat), i + d = l.length → d < k → impl_areFinite.l0 k l (l.length : Int) (i : Int) = some ((l.drop i).all finB)
  | _, _, 0, _, h => by omega
  | 0, i, k + 1, h1, h2 => by
    obtain rfl : i = l.length := by omega
    rw [impl_areFinite.l0, if_neg (by omega), List.drop_length]; rfl
  | d + 1, i, k + 1, h1, h2 => by
    have hi : i < l.length := by omega
    have e : ((i : Int) + 1) = ((i + 1 : Nat) : Int) := by omega
    rw [impl_areFinite.l0, if_pos (by omega), if_pos (by omega), if_pos (by omega), rdN_at hi, impl_IsFinite.f, Option.bind_some, w64 (by omega) (by omega), e, afin_impl l hl d (i + 1) k (by omega) (by omega), List.drop_eq_getElem_cons hi, List.all_cons]
    cases finB l[i] <;> rfl
theorem cont_impl (l : List Nat) (hl : l.length ≤ 1048576) : ∀ (d i k : Nat), i + d = l.length → d < k → ∃ r : Int, slices_IndexFunc_v_impl_areAreas_1.l0 k l (l.length : Int) (i : Int) = some r ∧ decide (r ≥ 0) = (l.drop i).any fun x => fle .f32 x 0
  | _, _, 0, _, h => by omega
  | 0, i, k + 1, h1, h2 => by
    obtain rfl : i = l.length := by omega
    refine ⟨-1, ?_, by rw [List.drop_length]; rfl⟩
    rw [slices_IndexFunc_v_impl_areAreas_1.l0, if_neg (by omega)]
  | d + 1, i, k + 1, h1, h2 => by
    have hi : i < l.length := by omega
    have e : ((i : Int) + 1) = ((i + 1 : Nat) : Int) := by omega
    rw [slices_IndexFunc_v_impl_areAreas_1.l0, if_pos (by omega), if_pos (by omega), if_pos (by omega), rdN_at hi, impl_areAreas_1.f, Option.bind_some, w64 (by omega) (by omega), e, List.drop_eq_getElem_cons hi, List.any_cons]
    by_cases c : fle .f32 l[i] 0 = true
    · rw [if_pos c]
      exact ⟨_, rfl, by rw [c, decide_eq_true (by omega)]; rfl⟩
    · rw [if_neg c]
      obtain ⟨r, h3, h4⟩ := cont_impl l hl d (i + 1) k (by omega) (by omega)
      refine ⟨r, h3, ?_⟩
      rw [Bool.not_eq_true] at c
      rw [h4, c, Bool.false_or]
theorem all_ab (l : List Nat) : (l.all finB && !(l.any fun x => fle .f32 x 0)) = l.all ab := by
  induction l with
  | nil => rfl
  | cons x l ih =>
    rw [List.all_cons, List.any_cons, List.all_cons, ← ih]
    unfold ab
    by_cases f : finB x = true
    · rw [gt_le x f, f]
      cases fle .f32 x 0 <;> simp
    · rw [Bool.not_eq_true] at f
      rw [f]; simp
theorem areas_both (l : List Nat) (hl : l.length ≤ 1048576) : ∃ b : Bool, ∀ k, 64 ≤ k → spec_l02Areas.f k l = some b ∧ impl_areAreas.f k l = some b := by
  by_cases h : 1 ≤ l.length ∧ l.length ≤ 16
  · refine ⟨l.all ab, fun k hk => ⟨areas_spec l h.2 h.1 l.length 0 k (by omega) (by omega), ?_⟩⟩
    have h3 : impl_within.f (l.length : Int) 1 16 = some true := by
      unfold impl_within.f; rw [if_pos (by omega), decide_eq_true (by omega)]
    have h4 : impl_areFinite.f k l = some (l.all finB) := afin_impl l hl l.length 0 k (by omega) (by omega)
    obtain ⟨r, h5, h6⟩ := cont_impl l hl l.length 0 k (by omega) (by omega)
    have h7 : slices_ContainsFunc_v_impl_areAreas_1.f k l = some (l.any fun x => fle .f32 x 0) := by
      unfold slices_ContainsFunc_v_impl_areAreas_1.f slices_IndexFunc_v_impl_areAreas_1.f
      rw [show ((0 : Int)) = ((0 : Nat) : Int) from rfl, h5, Option.bind_some]
      exact congrArg some h6
    unfold impl_areAreas.f
    rw [h3, Option.bind_some, if_pos rfl, h4, Option.bind_some, h7, Option.bind_some, ← all_ab]
    cases l.all finB <;> rfl
  · refine ⟨false, fun k hk => ⟨areas_long l h k (by omega), ?_⟩⟩
    have h3 : impl_within.f (l.length : Int) 1 16 = some false := by
      unfold impl_within.f
      split
      · rw [decide_eq_false (by omega)]
      · rfl
    unfold impl_areAreas.f
    rw [h3]; rfl
set_option maxRecDepth 20000 in
set_option maxHeartbeats 1000000 in
theorem sound_both (x : IS) (hx : okI x) : ∃ b : Bool, ∀ k, 64 ≤ k → spec_l06Sound.f k [x] = some b ∧ impl_ValidSound.f k x.f0 x.f1 x.f2 x.f3 x.f4 x.f5 = some b := by
  obtain ⟨b1, n1⟩ := name_both x.f0 hx.1
  obtain ⟨b2, n2⟩ := areas_both x.f1 hx.2.1
  have s1 : spec_l02Least.f x.f3 = some (finB x.f3 && fge .f32 x.f3 0) := by
    unfold spec_l02Least.f spec_l01Finite.f
    cases finB x.f3 <;> rfl
  have s2 : ∀ y, spec_l02Share.f y = some (fge .f32 y 0 && fle .f32 y 1065353216) := by
    intro y
    unfold spec_l02Share.f
    cases fge .f32 y 0 <;> rfl
  have s3 : ∀ y, impl_isBetween.f y 0 1065353216 = some (fge .f32 y 0 && fle .f32 y 1065353216) := by
    intro y
    unfold impl_isBetween.f
    cases fge .f32 y 0 <;> rfl
  refine ⟨b1 && b2 && (finB x.f2 && fgr .f32 x.f2 0) && (finB x.f3 && fge .f32 x.f3 0) && (fge .f32 x.f4 0 && fle .f32 x.f4 1065353216) && (fge .f32 x.f5 0 && fle .f32 x.f5 1065353216), fun k hk => ⟨?_, ?_⟩⟩
  · have hr : rd_T58 [x] 0 = x := rfl
    unfold spec_l06Sound.f
    rw [if_pos (show (0 : Int) < (([x] : List IS).length : Int) by show (0 : Int) < 1; decide), hr, (n1 k hk).1, (n2 k hk).1, ab_spec, s1, s2, s2]
    simp only [Option.bind_some]
    unfold ab
    cases b1 <;> cases b2 <;> cases finB x.f2 <;> cases fgr .f32 x.f2 0 <;> cases (finB x.f3 && fge .f32 x.f3 0) <;> cases (fge .f32 x.f4 0 && fle .f32 x.f4 1065353216) <;> cases (fge .f32 x.f5 0 && fle .f32 x.f5 1065353216) <;> rfl
  · unfold impl_ValidSound.f impl_IsFinite.f
    rw [(n1 k hk).2, (n2 k hk).2, s3, s3]
    simp only [Option.bind_some]
    cases b1 <;> cases b2 <;> cases finB x.f2 <;> cases fgr .f32 x.f2 0 <;> cases finB x.f3 <;> cases fge .f32 x.f3 0 <;> cases (fge .f32 x.f4 0 && fle .f32 x.f4 1065353216) <;> cases (fge .f32 x.f5 0 && fle .f32 x.f5 1065353216) <;> rfl
def soundB (x : IS) : Bool := (spec_l06Sound.f 64 [x]).getD false
theorem sound_k (x : IS) (hx : okI x) (k : Nat) (hk : 64 ≤ k) : spec_l06Sound.f k [x] = some (soundB x) ∧ impl_ValidSound.f k x.f0 x.f1 x.f2 x.f3 x.f4 x.f5 = some (soundB x) := by
  obtain ⟨b, h⟩ := sound_both x hx
  have hb : soundB x = b := by unfold soundB; rw [(h 64 (by omega)).1]; rfl
  rw [hb]; exact h k hk
def lessP (L : List IS) (i : Nat) : Bool := decide (i = 0) || Op.bytesLess ((rd_T58 L ((i - 1 : Nat) : Int)).f0.toList) ((rd_T58 L (i : Int)).f0.toList)
def cnd (L : List IS) (i : Nat) : Bool := soundB (rd_T58 L (i : Int)) && (decide ((rd_T58 L (i : Int)).f1.length = (rd_T58 L 0).f1.length) && lessP L i)
def allc (L : List IS) : Nat → Nat → Bool
  | 0, _ => true
  | d + 1, i => cnd L i && allc L d (i + 1)
theorem are_step (L : List IS) (i : Nat) (R : Option Bool) (rest : Bool) (hi : i < L.length) (hR : R = some rest) (hl : L.length ≤ 1048577) :
    (if soundB (rd_T58 L (i : Int)) = true then (if 0 < (L.length : Int) then (if (((rd_T58 L (i : Int)).f1).length : Int) = (((rd_T58 L 0).f1).length : Int) then (if (i : Int) > 0 then (if 0 ≤ (wrap64 ((i : Int) - 1)) then (if (wrap64 ((i : Int) - 1)) < (L.length : Int) then (if ((Op.bytesLess (((rd_T58 L (wrap64 ((i : Int) - 1))).f0).toList) (((rd_T58 L (i : Int)).f0).toList)) = true) then R else (some false)) else (none)) else (none)) else R) else (some false)) else (none)) else (some false)) = some (cnd L i && rest) := by
  unfold cnd
  by_cases c1 : soundB (rd_T58 L (i : Int)) = true
  · rw [if_pos c1, c1, if_pos (by omega)]
    by_cases c2 : (rd_T58 L (i : Int)).f1.length = (rd_T58 L 0).f1.length
    · rw [if_pos (by omega), decide_eq_true c2]
      unfold lessP
      by_cases c3 : i = 0
      · rw [if_neg (by omega), decide_eq_true c3, hR]; simp
      · have e : wrap64 ((i : Int) - 1) = ((i - 1 : Nat) : Int) := by rw [w64 (by omega) (by omega)]; omega
        rw [if_pos (by omega), e, if_pos (by omega), if_pos (by omega), decide_eq_false c3]
        by_cases c4 : Op.bytesLess (((rd_T58 L ((i - 1 : Nat) : Int)).f0).toList) (((rd_T58 L (i : Int)).f0).toList) = true
        · rw [if_pos c4, c4, hR]; simp
        · rw [if_neg c4]
          rw [Bool.not_eq_true] at c4
          rw [c4]; simp
    · rw [if_neg (by omega), decide_eq_false c2]; simp
  · rw [if_neg c1]
    rw [Bool.not_eq_true] at c1
    rw [c1]; simp
theorem are_spec (L : List IS) (hl : L.length ≤ 16) (hx : ∀ x ∈ L, okI x) : ∀ (d i k : Nat), i + d = L.length → 2 * d + 80 < k → spec_l06Are.l0 k L (i : Int) = some (allc L d i)
  | _, _, 0, _, h => by omega
  | _, _, 1, _, h => by omega
  | 0, i, k + 2, h2, h3 => by
    rw [spec_l06Are.l0, if_neg (by omega), spec_l06Are.j1, if_neg (by decide), decide_eq_true (by omega)]
    rfl
  | d + 1, i, k + 2, h2, h3 => by
    have hi : i < L.length := by omega
    have e : ((i : Int) + 1) = ((i + 1 : Nat) : Int) := by omega
    have ho : okI (rd_T58 L (i : Int)) := by rw [rdI_at hi]; exact hx _ (List.getElem_mem _)
    rw [spec_l06Are.l0, if_pos (by omega), decide_eq_true (by omega), spec_l06Are.j1, if_pos rfl, if_pos (by omega), if_pos (by omega), (sound_k _ ho k (by omega)).1, Option.bind_some, w64 (x := (i : Int) + 1) (by omega) (by omega), e]
    exact are_step L i _ _ hi (are_spec L hl hx d (i + 1) k (by omega) (by omega)) (by omega)
theorem are_impl (L : List IS) (hl : L.length ≤ 1048577) (hx : ∀ x ∈ L, okI x) : ∀ (d i k : Nat), i + d = L.length → d + 80 < k → impl_AreSounds.l0 k L L (L.length : Int) (i : Int) = some (allc L d i && decide (L.length ≤ 16))
  | _, _, 0, _, h => by omega
  | 0, i, k + 1, h2, h3 => by
    rw [impl_AreSounds.l0, if_neg (by omega)]
    by_cases c : L.length ≤ 16
    · rw [decide_eq_true c, decide_eq_true (by omega)]; rfl
    · rw [decide_eq_false c, decide_eq_false (by omega)]; rfl
  | d + 1, i, k + 1, h2, h3 => by
    have hi : i < L.length := by omega
    have e : ((i : Int) + 1) = ((i + 1 : Nat) : Int) := by omega
    have ho : okI (rd_T58 L (i : Int)) := by rw [rdI_at hi]; exact hx _ (List.getElem_mem _)
    rw [impl_AreSounds.l0, if_pos (by omega), if_pos (by omega), if_pos (by omega), (sound_k _ ho k (by omega)).2, Option.bind_some, w64 (x := (i : Int) + 1) (by omega) (by omega), e]
    refine (are_step L i _ _ hi (are_impl L hl hx d (i + 1) k (by omega) (by omega)) (by omega)).trans ?_
    rw [allc, Bool.and_assoc]
theorem are_both (L : List IS) (hl : L.length ≤ 1048577) (hx : ∀ x ∈ L, okI x) (k : Nat) (hk : 2100000 ≤ k) : ∃ b, spec_l06Are.f k L = some b ∧ impl_AreSounds.f k L = some b := by
  have h2 : impl_AreSounds.f k L = some (allc L L.length 0 && decide (L.length ≤ 16)) := are_impl L hl hx L.length 0 k (by omega) (by omega)
  by_cases c : L.length ≤ 16
  · refine ⟨allc L L.length 0, are_spec L c hx L.length 0 k (by omega) (by omega), ?_⟩
    rw [h2, decide_eq_true c, Bool.and_true]
  · refine ⟨false, ?_, by rw [h2, decide_eq_false c, Bool.and_false]⟩
    obtain ⟨k, rfl⟩ : ∃ m, k = m + 2 := ⟨k - 2, by omega⟩
    unfold spec_l06Are.f
    rw [spec_l06Are.l0, if_pos (by omega), decide_eq_false (by omega), spec_l06Are.j1, if_neg (by decide), decide_eq_false (by omega)]
theorem mtl (m : Nat) : ∀ (k x : Nat) (s : ByteArray), x < 10 ^ m → m < k → s.size + m ≤ 1000 → x ≤ 100000000000000000 → ∃ t, laws_markText.l0 k (x : Int) s = some t := by
  induction m with
  | zero =>
    intro k x s hx hk hs h9
    obtain ⟨k, rfl⟩ : ∃ m, k = m + 1 := ⟨k - 1, by omega⟩
    have hx0 : x = 0 := by simpa using hx
    rw [laws_markText.l0, if_neg (by omega), if_pos (by omega)]
    exact ⟨_, rfl⟩
  | succ m ih =>
    intro k x s hx hk hs h9
    obtain ⟨k, rfl⟩ : ∃ m, k = m + 1 := ⟨k - 1, by omega⟩
    by_cases c : (x : Int) > 0
    · have hd : wrap64 (Int.tdiv (x : Int) 10) = ((x / 10 : Nat) : Int) := by
        rw [Int.tdiv_eq_ediv_of_nonneg (by omega), w64 (by omega) (by omega)]; omega
      have h10 : x / 10 < 10 ^ m := by
        rw [Nat.pow_succ] at hx
        exact Nat.div_lt_of_lt_mul (by rw [Nat.mul_comm]; exact hx)
      rw [laws_markText.l0, if_pos c, Option.bind_some, hd]
      have hsz : ∀ z : Int, (strOfNums [z]).size = 1 := fun z => by simp [strOfNums, ByteArray.size]
      rw [hsz, if_pos (by omega)]
      exact ih k (x / 10) _ h10 (by omega) (by rw [ByteArray.size_append, hsz]; omega) (by omega)
    · rw [laws_markText.l0, if_neg c, if_pos (by omega)]
      exact ⟨_, rfl⟩
theorem mt_some (x : Nat) (hx : x < 10000000000000000) (k : Nat) (hk : 16 < k) : ∃ t, laws_markText.f k (x : Int) = some t := by
  unfold laws_markText.f
  by_cases c : (x : Int) ≤ 0
  · rw [if_pos c]; exact ⟨_, rfl⟩
  · rw [if_neg c]
    exact mtl 16 k x _ (by omega) hk (by decide) (by omega)
theorem mkA_ok : ∀ n, n < 2200 → fne .f32 (floatOfInt .f32 (n : Nat)) (floatOfInt .f32 (n : Nat)) = false := by
  have h : (List.range 2200).all (fun n => !fne .f32 (floatOfInt .f32 (n : Nat)) (floatOfInt .f32 (n : Nat))) = true := by kernel_rfl
  intro n hn
  have := List.all_eq_true.1 h n (List.mem_range.2 hn)
  simpa using this
def marksA (a n : Nat) : List Nat := (List.range n).map fun j => floatOfInt .f32 ((a + j : Nat) : Int)
theorem marksA_len (a n : Nat) : (marksA a n).length = n := by unfold marksA; rw [List.length_map, List.length_range]
theorem marksA_at {a n i : Nat} (h : i < n) : (marksA a n)[i]? = some (floatOfInt .f32 ((a + i : Nat) : Int)) := by
  unfold marksA
  rw [List.getElem?_map, List.getElem?_range h]; rfl
theorem marklA (a n : Nat) (ha : a ≤ 1000000000000000) (hn : n ≤ 1048576) : ∀ (d k : Nat) (xs : List Nat) (i : Nat), i + d = n → xs.length = n → xs.take i = (marksA a n).take i → d < k →
    laws_markFloat32S.l0 k xs ((a + i : Nat) : Int) (i : Int) = some (((a + n : Nat) : Int), marksA a n)
  | d, 0, xs, i, h1, hl, ht, hk => by omega
  | 0, k + 1, xs, i, h1, hl, ht, hk => by
    unfold laws_markFloat32S.l0
    obtain rfl : i = n := by omega
    rw [if_neg (by omega), List.take_of_length_le (by omega), List.take_of_length_le (by rw [marksA_len]; omega)] at *
    rw [ht]
  | d + 1, k + 1, xs, i, h1, hl, ht, hk => by
    unfold laws_markFloat32S.l0
    have e1 : wrap64 ((i : Int) + 1) = ((i + 1 : Nat) : Int) := by rw [w64 (by omega) (by omega)]; omega
    have e2 : wrap64 (((a + i : Nat) : Int) + 1) = ((a + (i + 1) : Nat) : Int) := by rw [w64 (by omega) (by omega)]; omega
    rw [if_pos (by omega), if_pos (by omega), e1, e2]
    refine marklA a n ha hn d k _ (i + 1) (by omega) (by rw [List.length_set]; exact hl) ?_ (by omega)
    rw [Int.toNat_natCast]
    exact take_set_succ (by rw [marksA_len]; omega) (by rw [marksA_len]; exact hl) ht (marksA_at (by omega))
theorem markA_some (a : Nat) (ha : a ≤ 1000000000000000) (l : List Nat) (hl : l.length ≤ 1048576) (k : Nat) (hk : l.length < k) : laws_markFloat32S.f k l (a : Int) = some (((a + l.length : Nat) : Int), marksA a l.length) :=
  marklA a l.length ha hl l.length k l 0 (by omega) rfl rfl hk
theorem heldlA (a n : Nat) (ha : a + n ≤ 2200) : ∀ (d k : Nat) (i : Nat), i + d = n → d < k →
    laws_heldFloat32S.l0 k (marksA a n) ((a + i : Nat) : Int) (i : Int) = some ((a + n : Nat) : Int)
  | d, 0, i, h1, hk => by omega
  | 0, k + 1, i, h1, hk => by
    unfold laws_heldFloat32S.l0
    obtain rfl : i = n := by omega
    rw [if_neg (by rw [marksA_len]; omega)]
  | d + 1, k + 1, i, h1, hk => by
    unfold laws_heldFloat32S.l0
    have e1 : wrap64 ((i : Int) + 1) = ((i + 1 : Nat) : Int) := by rw [w64 (by omega) (by omega)]; omega
    have e2 : wrap64 (((a + i : Nat) : Int) + 1) = ((a + (i + 1) : Nat) : Int) := by rw [w64 (by omega) (by omega)]; omega
    have e3 : rdOf (0 : Nat) (marksA a n) (i : Int) = floatOfInt .f32 ((a + i : Nat) : Int) := by
      unfold rdOf
      rw [Int.toNat_natCast, List.getD_eq_getElem?_getD, marksA_at (by omega)]; rfl
    rw [if_pos (by rw [marksA_len]; omega), if_pos (by omega), e3, mkA_ok (a + i) (by omega), if_neg (by simp), e1, e2]
    exact heldlA a n ha d k (i + 1) (by omega) (by omega)
theorem heldA_some (a n : Nat) (ha : a + n ≤ 2200) (k : Nat) (hk : n < k) : laws_heldFloat32S.f k (marksA a n) (a : Int) = some ((a + n : Nat) : Int) :=
  heldlA a n ha n k 0 (by omega) hk
theorem sdB_facts (x : IS) (hx : okI x) (h : soundB x = true) : x.f1.length ≤ 16 ∧ finB x.f2 = true ∧ finB x.f3 = true := by
  have h1 := (sound_k x hx 64 (by omega)).1
  rw [h] at h1
  have h0 : rd_T58 [x] 0 = x := rfl
  unfold spec_l06Sound.f at h1
  rw [if_pos (by simp), h0] at h1
  obtain ⟨b1, -, h1⟩ := Option.bind_eq_some_iff.mp h1
  cases b1 with
  | false => simp at h1
  | true =>
    rw [if_pos rfl] at h1
    obtain ⟨b2, ha, h1⟩ := Option.bind_eq_some_iff.mp h1
    cases b2 with
    | false => simp at h1
    | true =>
      have hlen : x.f1.length ≤ 16 := by
        rcases Nat.lt_or_ge 16 x.f1.length with c | c
        · have := areas_long x.f1 (by omega) 64 (by omega)
          rw [this] at ha
          cases ha
        · exact c
      rw [if_pos rfl, ab_spec, Option.bind_some] at h1
      cases hf : finB x.f2 with
      | false => unfold ab at h1; rw [hf] at h1; simp at h1
      | true =>
        cases hg : ab x.f2 with
        | false => rw [hg] at h1; simp at h1
        | true =>
          rw [hg, if_pos rfl] at h1
          obtain ⟨b3, hb3, h1⟩ := Option.bind_eq_some_iff.mp h1
          cases b3 with
          | false => simp at h1
          | true =>
            refine ⟨hlen, rfl, ?_⟩
            unfold spec_l02Least.f spec_l01Finite.f at hb3
            cases hf3 : finB x.f3 with
            | true => rfl
            | false => rw [hf3] at hb3; simp at hb3
theorem allc_at (L : List IS) : ∀ d i, allc L d i = true → ∀ j, i ≤ j → j < i + d → soundB (rd_T58 L (j : Int)) = true
  | 0, i, _, j, h1, h2 => by omega
  | d + 1, i, h, j, h1, h2 => by
    rw [allc, Bool.and_eq_true] at h
    by_cases c : j = i
    · subst c
      have := h.1
      unfold cnd at this
      rw [Bool.and_eq_true] at this
      exact this.1
    · exact allc_at L d (i + 1) h.2 j (by omega) (by omega)
def areB (L : List IS) : Bool := allc L L.length 0 && decide (L.length ≤ 16)
theorem areB_impl (L : List IS) (hl : L.length ≤ 1048577) (hx : ∀ x ∈ L, okI x) (k : Nat) (hk : 2100000 ≤ k) : impl_AreSounds.f k L = some (areB L) := are_impl L hl hx L.length 0 k (by omega) (by omega)
theorem areB_spec (L : List IS) (hl : L.length ≤ 1048577) (hx : ∀ x ∈ L, okI x) (k : Nat) (hk : 2100000 ≤ k) : spec_l06Are.f k L = some (areB L) := by
  obtain ⟨b, h1, h2⟩ := are_both L hl hx k hk
  rw [areB_impl L hl hx k hk] at h2
  rw [h1, h2]
theorem areB_facts (L : List IS) (hx : ∀ x ∈ L, okI x) (h : areB L = true) : L.length ≤ 16 ∧ ∀ j : Nat, j < L.length → (rd_T58 L (j : Int)).f1.length ≤ 16 ∧ finB (rd_T58 L (j : Int)).f2 = true ∧ finB (rd_T58 L (j : Int)).f3 = true := by
  unfold areB at h
  rw [Bool.and_eq_true] at h
  refine ⟨of_decide_eq_true h.2, fun j hj => ?_⟩
  exact sdB_facts _ (by rw [rdI_at hj]; exact hx _ (List.getElem_mem _)) (allc_at L L.length 0 h.1 j (by omega) (by omega))
structure Few (r : List IS) : Prop where
  len : r.length ≤ 16
  ok : ∀ x ∈ r, okI x
  areas : ∀ j : Nat, j < r.length → (rd_T58 r (j : Int)).f1.length ≤ 16
theorem few_nil : Few [] := ⟨by decide, fun x hx => (List.not_mem_nil hx).elim, fun j hj => absurd hj (Nat.not_lt_zero j)⟩
theorem few_of (L : List IS) (hx : ∀ x ∈ L, okI x) (h : areB L = true) : Few L := ⟨(areB_facts L hx h).1, hx, fun j hj => ((areB_facts L hx h).2 j hj).1⟩
abbrev col : ByteArray := ⟨#[58]⟩
def cF (x : ByteArray) : ByteArray × ByteArray × Bool := (strings_Cut.f x col).getD (x, ⟨#[]⟩, false)
def rlF (y : ByteArray) : List (List Nat) × Bool := if (cutB 58 y).length = 2 then (if (rdNums ((cutB 58 y).getD 0 ⟨#[]⟩)).2 = true then (if (rdNums ((cutB 58 y).getD 1 ⟨#[]⟩)).2 = true then ([(rdNums ((cutB 58 y).getD 0 ⟨#[]⟩)).1, (rdNums ((cutB 58 y).getD 1 ⟨#[]⟩)).1], true) else ([], false)) else ([], false)) else ([], false)
theorem cutB_piece (c : UInt8) (s p : ByteArray) (h : p ∈ cutB c s) : p.size ≤ s.size := by
  unfold cutB at h
  obtain ⟨l, hl, rfl⟩ := List.mem_map.1 h
  have := cut_piece hl
  rw [size_list] at this
  rw [size_ba]; exact this
theorem cut3 (x : ByteArray) (hx : x.size ≤ 1048576) : strings_Cut.f x col = some (cF x) ∧ (cF x).1.size ≤ 1048576 ∧ (cF x).2.1.size ≤ 1048576 ∧
    ((cutB 58 x).length ≠ 3 ∧ (cutB 58 (cF x).2.1).length ≠ 2 ∨ ∃ p q, cutB 58 x = [(cF x).1, p, q] ∧ cutB 58 (cF x).2.1 = [p, q]) := by
  by_cases h : (58 : UInt8) ∈ x.data.toList
  · rcases index_spec 58 x.data.toList with ⟨-, h0⟩ | ⟨p, r, h2, h3, -⟩
    · exact absurd h h0
    · have hf : strings_Cut.f x col = some (ba p, ba r, true) := cutF_hit x (by omega) 58 p r h2 h3
      have hc : cF x = (ba p, ba r, true) := by unfold cF; rw [hf]; rfl
      have hsz : p.length + r.length + 1 = x.size := by
        have := congrArg List.length h2
        rw [size_list, List.length_append, List.length_cons] at this
        omega
      have hB : cutB 58 x = ba p :: cutB 58 (ba r) := by
        unfold cutB
        rw [h2, cut_hit r h3]
        rfl
      rw [hc]
      refine ⟨hf, by rw [size_ba]; omega, by rw [size_ba]; omega, ?_⟩
      rw [hB]
      by_cases h4 : (cutB 58 (ba r)).length = 2
      · right
        match hm : cutB 58 (ba r), h4 with
        | [a, b], _ => exact ⟨a, b, rfl, rfl⟩
      · left
        exact ⟨by rw [List.length_cons]; omega, h4⟩
  · have hf : strings_Cut.f x col = some (x, ⟨#[]⟩, false) := cutF_none x 58 h
    have hc : cF x = (x, ⟨#[]⟩, false) := by unfold cF; rw [hf]; rfl
    rw [hc]
    refine ⟨hf, hx, by show (0 : Nat) ≤ 1048576; decide, .inl ⟨?_, by show (cutB 58 (⟨#[]⟩ : ByteArray)).length ≠ 2; decide⟩⟩
    unfold cutB
    rw [cut_none h]
    simp
theorem lists_impl (k : Nat) (p q : ByteArray) (hp : p.size ≤ 1048576) (hq : q.size ≤ 1048576) (hk : 4194305 ≤ k) : impl_readLists.l0 (k + 3) [[], []] [p, q] 2 0 = some (if (rdNums p).2 = true then (if (rdNums q).2 = true then ([(rdNums p).1, (rdNums q).1], true) else ([], false)) else ([], false)) := by
  have hl : ((([p, q] : List ByteArray).length : Nat) : Int) = 2 := rfl
  have r0 : rdOf ByteArray.empty [p, q] 0 = p := rfl
  have r1 : rdOf ByteArray.empty [p, q] 1 = q := rfl
  have w0 : wrap64 (0 + 1) = 1 := by unfold wrap64; omega
  have w1 : wrap64 (1 + 1) = 2 := by unfold wrap64; omega
  rw [impl_readLists.l0, if_pos (by decide), if_pos (by decide), if_pos (by rw [hl]; decide), r0, nread_impl p hp _ (by omega), Option.bind_some]
  cases hb : (rdNums p).2 with
  | false => rw [if_neg (by decide), if_neg (by decide)]
  | true =>
    rw [if_pos rfl, if_pos rfl, if_pos (by simp), w0, impl_readLists.l0, if_pos (by decide), if_pos (by decide), if_pos (by rw [hl]; decide), r1, nread_impl q hq _ (by omega), Option.bind_some]
    cases hb2 : (rdNums q).2 with
    | false => rw [if_neg (by decide), if_neg (by decide)]
    | true =>
      rw [if_pos rfl, if_pos rfl, if_pos (by simp), w1, impl_readLists.l0, if_neg (by decide)]
      rfl
theorem rl_impl (y : ByteArray) (hy : y.size ≤ 1048576) (k : Nat) (hk : 4194320 ≤ k) : impl_readLists.f k y col 2 = some (rlF y) := by
  obtain ⟨k, rfl⟩ : ∃ m, k = m + 3 := ⟨k - 3, by omega⟩
  have hp := split_some y (by omega) 58 (k + 3) (by omega)
  rw [show ba [58] = col from rfl] at hp
  unfold impl_readLists.f rlF
  rw [hp, Option.bind_some]
  by_cases h2 : (cutB 58 y).length = 2
  · rw [if_pos h2, if_pos (by omega), if_pos (by decide), if_pos (by decide)]
    obtain ⟨p, q, hpq⟩ : ∃ p q, cutB 58 y = [p, q] := by
      match cutB 58 y, h2 with
      | [p, q], _ => exact ⟨p, q, rfl⟩
    have sp : p.size ≤ y.size := cutB_piece 58 y p (by rw [hpq]; simp)
    have sq : q.size ≤ y.size := cutB_piece 58 y q (by rw [hpq]; simp)
    have hl : ((([p, q] : List ByteArray).length : Nat) : Int) = 2 := rfl
    rw [hpq, hl]
    exact lists_impl k p q (by omega) (by omega) (by omega)
  · rw [if_neg h2, if_neg (by omega)]
theorem rl_two (y : ByteArray) (h : (rlF y).2 = true) : (rlF y).1.length = 2 := by
  unfold rlF at h ⊢
  split at h
  · rw [if_pos (by assumption)]
    split at h
    · rw [if_pos (by assumption)]
      split at h
      · rw [if_pos (by assumption)]; rfl
      · cases h
    · cases h
  · cases h
theorem rl_ok (y : ByteArray) : ∀ l ∈ (rlF y).1, l.length ≤ 256 ∧ ∀ v ∈ l, v < 4294967296 := by
  intro l hl
  unfold rlF at hl
  split at hl
  · split at hl
    · split at hl
      · rcases List.mem_cons.1 hl with rfl | hl
        · exact rdNums_ok _
        · rw [List.mem_singleton.1 hl]; exact rdNums_ok _
      · cases hl
    · cases hl
  · cases hl
theorem snd_ok (x : ByteArray) (hx : x.size ≤ 1048576) (l0 : List Nat) (a b c d : Nat) (h : rlF (cF x).2.1 = ([l0, [a, b, c, d]], true)) : okI ⟨(cF x).1, l0, a, b, c, d⟩ := by
  have h1 := rl_ok (cF x).2.1
  rw [h] at h1
  have h2 := h1 l0 (by simp)
  have h3 := h1 [a, b, c, d] (by simp)
  have hc := (cut3 x hx).2.1
  exact ⟨by show (cF x).1.size ≤ 1048576; omega, by show l0.length ≤ 1048576; omega, h2.2, h3.2 a (by simp), h3.2 b (by simp), h3.2 c (by simp), h3.2 d (by simp)⟩
theorem give_spec (L : List IS) (hl : L.length ≤ 1048577) (hx : ∀ x ∈ L, okI x) (k : Nat) (hk : 2100000 ≤ k) : spec_l06Give.f k L = some (if areB L = true then (L, true) else ([], false)) := by
  unfold spec_l06Give.f
  rw [areB_spec L hl hx k hk, Option.bind_some]
  cases areB L <;> rfl
theorem rdB_at {l : List ByteArray} {i : Nat} (h : i < l.length) : rdOf ByteArray.empty l (i : Int) = l[i]'h := rdS_at h
theorem spec_loop (t : List ByteArray) (ht : t.length ≤ 1048577) (hs : ∀ x ∈ t, x.size ≤ 1048576) (d : Nat) : ∀ (i k : Nat) (acc : List IS), i + d = t.length → acc.length = i → (∀ y ∈ acc, okI y) → d + 4194330 < k →
    spec_l08ReadSounds.l0 k acc t (i : Int) = some (Rsd.rsW cF rlF areB (t.drop i) acc) := by
  induction d with
  | zero =>
    intro i k acc h1 h2 h3 h4
    obtain ⟨k, rfl⟩ : ∃ m, k = m + 1 := ⟨k - 1, by omega⟩
    obtain rfl : i = t.length := by omega
    rw [spec_l08ReadSounds.l0, if_neg (by omega), give_spec acc (by omega) h3 k (by omega), Option.bind_some, List.drop_length, Rsd.rsW]
  | succ d ih =>
    intro i k acc h1 h2 h3 h4
    obtain ⟨k, rfl⟩ : ∃ m, k = m + 1 := ⟨k - 1, by omega⟩
    have hi : i < t.length := by omega
    have hxs := hs _ (List.getElem_mem hi)
    have e : wrap64 ((i : Int) + 1) = ((i + 1 : Nat) : Int) := by rw [w64 (by omega) (by omega)]; omega
    have hcut := cut_spec (t[i]'hi) (by omega) 58 k (by omega)
    rw [show ((((58 : UInt8).toNat : Nat)) : Int) = 58 from rfl] at hcut
    rw [spec_l08ReadSounds.l0, if_pos (by omega), if_pos (by omega), rdB_at hi, hcut, Option.bind_some, e, List.drop_eq_getElem_cons hi, Rsd.rsW]
    generalize t[i]'hi = x at hxs hcut
    obtain ⟨-, c1, c2, c3⟩ := cut3 x hxs
    have hih := fun acc => ih (i + 1) k acc (by omega)
    rcases c3 with ⟨c3, c4⟩ | ⟨p, q, c3, c4⟩
    · have hr : rlF (cF x).2.1 = ([], false) := by unfold rlF; rw [if_neg c4]
      rw [if_neg (by omega), hr, if_neg (by decide)]
    · have sp : p.size ≤ 1048576 := Nat.le_trans (cutB_piece 58 x p (by rw [c3]; simp)) hxs
      have sq : q.size ≤ 1048576 := Nat.le_trans (cutB_piece 58 x q (by rw [c3]; simp)) hxs
      have hl : ((([(cF x).1, p, q] : List ByteArray).length : Nat) : Int) = 3 := rfl
      have r0 : rdOf ByteArray.empty [(cF x).1, p, q] 0 = (cF x).1 := rfl
      have r1 : rdOf ByteArray.empty [(cF x).1, p, q] 1 = p := rfl
      have r2 : rdOf ByteArray.empty [(cF x).1, p, q] 2 = q := rfl
      have hr : rlF (cF x).2.1 = if (rdNums p).2 = true then (if (rdNums q).2 = true then ([(rdNums p).1, (rdNums q).1], true) else ([], false)) else ([], false) := by
        unfold rlF
        rw [c4, if_pos (show ([p, q] : List ByteArray).length = 2 from rfl)]
        rfl
      have hsnd := snd_ok x hxs
      rw [c3, hl, if_pos rfl, if_pos (by decide), r1, nread_spec p sp k (by omega), Option.bind_some, if_pos (by decide), r2, nread_spec q sq k (by omega), Option.bind_some, r0]
      rw [hr] at hsnd ⊢
      cases hb : (rdNums p).2 with
      | false => rfl
      | true =>
        rw [hb] at hsnd
        cases hb2 : (rdNums q).2 with
        | false => rfl
        | true =>
          rw [hb2, if_pos rfl, if_pos rfl] at hsnd
          rw [if_pos rfl, if_pos rfl, if_pos rfl, if_pos rfl, if_pos rfl]
          have hg0 : ([(rdNums p).1, (rdNums q).1] : List (List Nat)).getD 0 [] = (rdNums p).1 := rfl
          have hg1 : ([(rdNums p).1, (rdNums q).1] : List (List Nat)).getD 1 [] = (rdNums q).1 := rfl
          simp only [hg0, hg1]
          by_cases h5 : (rdNums q).1.length = 4
          · obtain ⟨a, b, c, dd, hq4⟩ : ∃ a b c dd, (rdNums q).1 = [a, b, c, dd] := by
              match (rdNums q).1, h5 with
              | [a, b, c, dd], _ => exact ⟨a, b, c, dd, rfl⟩
            have hok := hsnd (rdNums p).1 a b c dd (by rw [hq4])
            have l4 : (([a, b, c, dd] : List Nat).length : Int) = 4 := rfl
            have g0 : rdOf (0 : Nat) [a, b, c, dd] 0 = a := rfl
            have g1 : rdOf (0 : Nat) [a, b, c, dd] 1 = b := rfl
            have g2 : rdOf (0 : Nat) [a, b, c, dd] 2 = c := rfl
            have g3 : rdOf (0 : Nat) [a, b, c, dd] 3 = dd := rfl
            rw [hq4, l4, if_pos rfl, if_pos (by decide), if_pos (by decide), if_pos (by decide), if_pos (by decide), if_pos (by decide), if_pos (by omega), if_pos (show ([a, b, c, dd] : List Nat).length = 4 from rfl), g0, g1, g2, g3]
            refine (hih _ (by rw [List.length_append]; simp only [List.length_cons, List.length_nil]; omega) (fun y hy => ?_) (by omega)).trans rfl
            rcases List.mem_append.1 hy with h_ | h_
            · exact h3 y h_
            · rw [List.mem_singleton.1 h_]; exact hok
          · rw [if_neg (by omega), if_neg h5]
theorem rsW_few (t : List ByteArray) (hs : ∀ x ∈ t, x.size ≤ 1048576) : ∀ (acc : List IS), (∀ y ∈ acc, okI y) → Few (Rsd.rsW cF rlF areB t acc).1 := by
  induction t with
  | nil =>
    intro acc h
    rw [Rsd.rsW]
    cases ha : areB acc with
    | true => exact few_of acc h ha
    | false => exact few_nil
  | cons x r ih =>
    intro acc h
    rw [Rsd.rsW]
    by_cases c1 : (rlF (cF x).2.1).2 = true
    · rw [if_pos c1]
      by_cases c2 : ((rlF (cF x).2.1).1.getD 1 []).length = 4
      · rw [if_pos c2]
        refine ih (fun y hy => hs y (List.mem_cons_of_mem _ hy)) _ (fun y hy => ?_)
        rcases List.mem_append.1 hy with h_ | h_
        · exact h y h_
        · rw [List.mem_singleton.1 h_]
          obtain ⟨l0, l1, h2⟩ : ∃ l0 l1, (rlF (cF x).2.1).1 = [l0, l1] := by
            match (rlF (cF x).2.1).1, rl_two _ c1 with
            | [a, b], _ => exact ⟨a, b, rfl⟩
          rw [h2] at c2 ⊢
          obtain ⟨a, b, c, dd, hq4⟩ : ∃ a b c dd, l1 = [a, b, c, dd] := by
            match l1, c2 with
            | [a, b, c, dd], _ => exact ⟨a, b, c, dd, rfl⟩
          subst hq4
          exact snd_ok x (hs x (List.mem_cons_self ..)) l0 a b c dd (Prod.ext h2 c1)
      · rw [if_neg c2]; exact few_nil
    · rw [if_neg c1]; exact few_nil
def read (s : ByteArray) : List IS × Bool := if s.toList = [110, 111, 110, 101] then ([], true) else Rsd.rsW cF rlF areB (cutB 47 s) []
theorem cut47_len (s : ByteArray) : (cutB 47 s).length ≤ s.size + 1 := by
  unfold cutB
  rw [List.length_map, cut_len]
  have : s.data.toList.count 47 ≤ s.data.toList.length := List.count_le_length
  rw [size_list] at this
  omega
theorem read_spec (s : ByteArray) (hs : s.size ≤ 1048576) (k : Nat) (hk : 6000000 ≤ k) : spec_ReadSounds.f k s = some (read s) := by
  unfold spec_ReadSounds.f spec_l08ReadSounds.f read
  rw [Option.bind_some]
  by_cases c : s.toList = [110, 111, 110, 101]
  · rw [if_pos c, if_pos c]; rfl
  · rw [if_neg c, if_neg c]
    have hcut := cut_spec s (by omega) 47 k (by omega)
    rw [show ((((47 : UInt8).toNat : Nat)) : Int) = 47 from rfl] at hcut
    have hl := cut47_len s
    rw [hcut, Option.bind_some]
    have h := spec_loop (cutB 47 s) (by omega) (fun x hx => Nat.le_trans (cutB_piece 47 s x hx) hs) (cutB 47 s).length 0 k [] (by omega) rfl (fun y hy => (List.not_mem_nil hy).elim) (by omega)
    rw [show ((0 : Nat) : Int) = 0 from rfl] at h
    rw [h]
    rfl
theorem read_few (s : ByteArray) (hs : s.size ≤ 1048576) : Few (read s).1 := by
  unfold read
  by_cases c : s.toList = [110, 111, 110, 101]
  · rw [if_pos c]; exact few_nil
  · rw [if_neg c]
    exact rsW_few _ (fun x hx => Nat.le_trans (cutB_piece 47 s x hx) hs) [] (fun y hy => (List.not_mem_nil hy).elim)
theorem read_impl (s : ByteArray) (hs : s.size ≤ 1048576) (W : World) (hT : GLt W) : Calls Tryd.prog 27 #[.string s] W fun e w' => ∃ v0_ : Value, e = .returned (.tuple #[v0_, .bool (read s).2]) ∧ Kd.S k58 58 w' W.heap.size (fun _ => True) v0_ (read s).1 ∧ Below W.heap.size W w' := by
  unfold read
  by_cases c : s.toList = [110, 111, 110, 101]
  · rw [if_pos c]
    have hs' : s = ⟨#[110, 111, 110, 101]⟩ := by
      have h1 : s.data.toList = [110, 111, 110, 101] := by rw [← ByteArray.toList_eq]; exact c
      have h2 : s = ba s.data.toList := rfl
      rw [h2, h1]; rfl
    refine (Rsd.rs_none W s hs').mono ?_
    rintro e w' ⟨rfl, hb⟩
    exact ⟨_, rfl, Kd.S_nil _ _ _ _ _, hb⟩
  · rw [if_neg c]
    have hl := cut47_len s
    have hp : ∀ x ∈ cutB 47 s, x.size ≤ 1048576 := fun x hx => Nat.le_trans (cutB_piece 47 s x hx) hs
    have hsp := split_some s (by omega) 47 6000000 (by omega)
    rw [show ba [47] = (⟨#[47]⟩ : ByteArray) from rfl] at hsp
    refine Rsd.rs_walk okI cF rlF areB (cutB 47 s) W hT s c (by omega) _ _ rfl ?_ ?_ ?_ ?_ ?_ ?_
    · intro W2
      refine (strings_Split.calls 6000000 s ⟨#[47]⟩ _ W2 hsp).mono ?_
      rintro e w' ⟨v, rfl, hr, hb⟩
      exact ⟨v, rfl, Kd.R_mono hr (fun _ _ => trivial), hb⟩
    · intro x hx W2
      refine (strings_Cut.calls x col (cF x).1 (cF x).2.1 (cF x).2.2 W2 (cut3 x (hp x hx)).1).mono ?_
      rintro e w' ⟨rfl, ⟨n, rfl⟩⟩
      exact ⟨rfl, pw_below_drewN (Below.refl _ _) n⟩
    · intro x hx W2 hW2
      refine (impl_readLists.calls 6000000 (cF x).2.1 col 2 (rlF (cF x).2.1).1 (rlF (cF x).2.1).2 W2 hW2 (rl_impl _ (cut3 x (hp x hx)).2.2.1 _ (by decide))).mono ?_
      rintro e w' ⟨v, rfl, hr, hb⟩
      exact ⟨v, rfl, hr, hb⟩
    · exact fun x _ h => rl_two _ h
    · exact fun x hx l0 a b c d h => snd_ok x (hp x hx) l0 a b c d h
    · intro A c2 l W2 h1 h2 h3 h4
      refine (impl_AreSounds.calls 6000000 A c2 l (areB l) W2 h3 h4 (areB_impl l h1 h2 _ (by decide))).mono ?_
      rintro e w' ⟨rfl, hb⟩
      exact ⟨rfl, hb⟩
end Go.Proofs.YtdfpfiecpcgffaaDoor.RsPure
