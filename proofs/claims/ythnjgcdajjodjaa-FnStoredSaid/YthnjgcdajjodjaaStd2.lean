/- Blocks that are stored: they are loaded again, also out of bytes that are cut or bent. -/
import Derived.Test.YthnjgcdajjodjaaPFnStoredx
import Derived.Test.YthnjgcdajjodjaaFm
import Derived.Test.YthnjgcdajjodjaaStdB2
import Derived.Test.YthnjgcdajjodjaaZg
import Derived.Laws.BitsLemmas
import Derived.Lib.Strings
set_option linter.unusedVariables false
set_option linter.unusedSimpArgs false
namespace Go.Proofs.Ythnjgcdajjodjaa.StdPure2
open Go.RowKit Go.Proofs.YthnjgcdajjodjaaW.PrintWords Go.Proofs.YthnjgcdajjodjaaW.PrintFl Go.Proofs.Ythnjgcdajjodjaa.PFnStored
theorem bits_i (x : Nat) (hx : x < 4294967296) : impl_BitsOf.f x = some ((cn .f32 x : Nat) : Int) := by
  unfold impl_BitsOf.f cn
  rw [fne_self]
  split
  · rfl
  · rw [w64 (by omega) (by omega)]
theorem vb_step_hi {n : Nat} (h : ¬ n < 128) (hn : n < 4294967296) : (wrap64 (Int.tmod (n : Int) 128 + 128)) % 256 = ((n % 128 + 128 : Nat) : Int) ∧ wrap64 (Int.tdiv (n : Int) 128) = ((n / 128 : Nat) : Int) := by
  have h1 : Int.tmod (n : Int) 128 = ((n % 128 : Nat) : Int) := by rw [Int.tmod_eq_emod_of_nonneg (by omega)]; omega
  have h2 : Int.tdiv (n : Int) 128 = ((n / 128 : Nat) : Int) := by rw [Int.tdiv_eq_ediv_of_nonneg (by omega)]; omega
  rw [h1, h2]
  refine ⟨?_, w64 (by omega) (by omega)⟩
  rw [w64 (by omega) (by omega)]
  omega
theorem bytes_i (x4 : Int) (l : List Nat) (a i : Int) (m : Nat) : ∀ (k : Nat) (xs : List Int) (n : Nat), n < 4294967296 → n < 128 ^ (m + 1) → xs.length + m < 140737488355328 →
    impl_packValues.l1 (k + (vb n).length) xs x4 (n : Int) l a i = impl_packValues.l0 k (xs ++ vb n) x4 l a (wrap64 (i + 1)) := by
  induction m with
  | zero =>
    intro k xs n h32 hn hl
    have c : n < 128 := by simpa using hn
    rw [vb_small c]
    show impl_packValues.l1 (k + 1) xs x4 (n : Int) l a i = _
    unfold impl_packValues.l1
    rw [if_neg (by omega), if_pos (by omega)]
    have : (n : Int) % 256 = n := by omega
    rw [this]
  | succ m ih =>
    intro k xs n h32 hn hl
    by_cases c : n < 128
    · rw [vb_small c]
      show impl_packValues.l1 (k + 1) xs x4 (n : Int) l a i = _
      unfold impl_packValues.l1
      rw [if_neg (by omega), if_pos (by omega)]
      have : (n : Int) % 256 = n := by omega
      rw [this]
    · obtain ⟨e1, e2⟩ := vb_step_hi c h32
      have hn2 : n / 128 < 128 ^ (m + 1) := by rw [Nat.div_lt_iff_lt_mul (by decide)]; rw [Nat.pow_succ] at hn; exact hn
      clear hn
      rw [vb_big c, List.length_cons]
      show impl_packValues.l1 ((k + (vb (n / 128)).length) + 1) xs x4 (n : Int) l a i = _
      unfold impl_packValues.l1
      rw [if_pos (by omega), if_pos (by omega), e1, e2, ih k _ (n / 128) (by omega) hn2 (by rw [List.length_append, List.length_singleton]; omega), List.append_assoc]
      rfl
def canons (l : List Nat) : List Nat := l.map (cn .f32)
theorem canons_len (l : List Nat) : (canons l).length = l.length := by unfold canons; rw [List.length_map]
theorem canons_lt {l : List Nat} (hb : ∀ x ∈ l, x < 4294967296) : ∀ x ∈ canons l, x < 4294967296 := by
  intro x hx
  obtain ⟨y, hy, rfl⟩ := List.mem_map.1 hx
  exact cn_lt (hb y hy)
theorem canons_at {l : List Nat} {i : Nat} (hi : i < l.length) : (canons l)[i]'(by rw [canons_len]; exact hi) = cn .f32 (rdOf (0 : Nat) l (i : Int)) := by
  unfold canons rdOf
  rw [List.getElem_map, Int.toNat_natCast, List.getD_eq_getElem?_getD, List.getElem?_eq_getElem hi]
  rfl
theorem rdl_lt {l : List Nat} (h : ∀ x ∈ l, x < 4294967296) (i : Int) : rdOf (0 : Nat) l i < 4294967296 := by
  unfold rdOf
  rw [List.getD_eq_getElem?_getD]
  rcases hh : l[i.toNat]? with _ | x
  · decide
  · exact h x (List.mem_of_getElem? hh)
theorem j1e (k : Nat) (x3 : List Int) (x4 x8 : Int) (x10 : List Nat) (x11 x12 : Int) : impl_packValues.j1 (k + 1) x3 x4 x8 x10 x11 x12 = if x8 < 0 then (impl_packValues.j2 k x3 x4 (wrap64 ((wrap64 ((-2) * x8)) - 1)) x10 x11 x12) else (impl_packValues.j2 k x3 x4 (wrap64 (2 * x8)) x10 x11 x12) := by rw [impl_packValues.j1]
theorem j2e (k : Nat) (x3 : List Int) (x4 x9 : Int) (x10 : List Nat) (x11 x12 : Int) : impl_packValues.j2 (k + 1) x3 x4 x9 x10 x11 x12 = impl_packValues.l1 k x3 x4 x9 x10 x11 x12 := by rw [impl_packValues.j2]
theorem l0e (k : Nat) (x3 : List Int) (x4 : Int) (x10 : List Nat) (x11 x12 : Int) : impl_packValues.l0 (k + 1) x3 x4 x10 x11 x12 = if x12 < x11 then (if 0 ≤ x12 then (if x12 < (x10.length : Int) then ((impl_BitsOf.f (rdOf (0 : Nat) x10 x12)).bind fun t159 => (if (Int.tmod (wrap64 ((wrap64 (t159 - x4)) + 4294967296)) 4294967296) ≥ 2147483648 then (impl_packValues.j1 k x3 t159 (wrap64 ((Int.tmod (wrap64 ((wrap64 (t159 - x4)) + 4294967296)) 4294967296) - 4294967296)) x10 x11 x12) else (impl_packValues.j1 k x3 t159 (Int.tmod (wrap64 ((wrap64 (t159 - x4)) + 4294967296)) 4294967296) x10 x11 x12))) else (none)) else (none)) else (some (strOfNums x3)) := by rw [impl_packValues.l0]
theorem step_i (l : List Nat) (a i : Int) (xs : List Int) (b q : Nat) (hb : b < 4294967296) (hq : q < 4294967296) (hl : xs.length + 4 < 140737488355328) (k : Nat) :
    (if (Int.tmod (wrap64 ((wrap64 ((q : Int) - (b : Int))) + 4294967296)) 4294967296) ≥ 2147483648 then (impl_packValues.j1 (k + (vb (zig b q)).length + 1 + 1) xs (q : Int) (wrap64 ((Int.tmod (wrap64 ((wrap64 ((q : Int) - (b : Int))) + 4294967296)) 4294967296) - 4294967296)) l a i) else (impl_packValues.j1 (k + (vb (zig b q)).length + 1 + 1) xs (q : Int) (Int.tmod (wrap64 ((wrap64 ((q : Int) - (b : Int))) + 4294967296)) 4294967296) l a i)) = impl_packValues.l0 k (xs ++ vb (zig b q)) (q : Int) l a (wrap64 (i + 1)) := by
  have hz := zig_lt b q
  have hz5 := zig_lt5 b q
  have h1 := zig_hi q b hq hb
  have h2 := zig_lo q b hq hb
  have h3 := zig_no2 q b hq hb
  have h4 := zig_no3 q b hq hb
  generalize zig b q = z at *
  generalize Int.tmod (wrap64 ((wrap64 ((q : Int) - (b : Int))) + 4294967296)) 4294967296 = D at *
  have hy := bytes_i (q : Int) l a i 4 k xs z hz hz5 hl
  clear hz hz5 hl
  generalize (vb z).length = L at *
  by_cases c : D ≥ 2147483648
  · rw [if_pos c]
    rw [j1e, if_pos (Int.not_le.1 h3), h1 c]
    rw [j2e]
    exact hy
  · rw [if_neg c]
    rw [j1e, if_neg (fun h => h4 h), h2 (Int.not_le.1 c)]
    rw [j2e]
    exact hy
theorem packl_i (l : List Nat) (hb : ∀ x ∈ l, x < 4294967296) (hl : l.length ≤ 1048576) (d : Nat) : ∀ (k : Nat) (i : Nat), i ≤ l.length → l.length - i ≤ d → 8 * d < k →
    impl_packValues.l0 k (packFrom 0 ((canons l).take i)) ((lastOf 0 ((canons l).take i) : Nat) : Int) l (l.length : Int) (i : Int) = some (strOfNums (packFrom 0 (canons l))) := by
  induction d with
  | zero =>
    intro k i h1 hd hk
    obtain ⟨k1, rfl⟩ : ∃ m, k = m + 1 := ⟨k - 1, by omega⟩
    rw [l0e, if_neg (by omega)]
    have : i = l.length := by omega
    subst this
    rw [← canons_len, List.take_length]
  | succ d ihd =>
    intro k i h1 hd hk
    by_cases c : i < l.length
    · have hx := rdl_lt hb (i : Int)
      have hp := lastOf_lt ((canons l).take i) 4294967296 0 (by decide) (fun x hx => canons_lt hb x (List.mem_of_mem_take hx))
      have hq : cn .f32 (rdOf (0 : Nat) l (i : Int)) < 4294967296 := cn_lt hx
      have hlen := packFrom_len ((canons l).take i) 0
      have hlen2 : ((canons l).take i).length ≤ l.length := by rw [List.length_take, canons_len]; omega
      have hstep : packFrom 0 ((canons l).take i) ++ vb (zig (lastOf 0 ((canons l).take i)) (cn .f32 (rdOf (0 : Nat) l (i : Int)))) = packFrom 0 ((canons l).take (i + 1)) := by
        rw [packFrom_take (by rw [canons_len]; exact c), canons_at c]
      have hlast : lastOf 0 ((canons l).take (i + 1)) = cn .f32 (rdOf (0 : Nat) l (i : Int)) := by
        rw [lastOf_take (by rw [canons_len]; exact c), canons_at c]
      have hv := zig_len (lastOf 0 ((canons l).take i)) (cn .f32 (rdOf (0 : Nat) l (i : Int)))
      have hbits := bits_i _ hx
      have hst := step_i l (l.length : Int) (i : Int) (packFrom 0 ((canons l).take i)) _ _ hp hq (by clear hstep hlast hv hbits hp hq hx; omega)
      clear hp hq hx
      rw [hstep] at hst
      generalize lastOf 0 ((canons l).take i) = b at *
      generalize cn .f32 (rdOf (0 : Nat) l (i : Int)) = q at *
      generalize (vb (zig b q)).length = v at *
      have e : ((i : Int) + 1) = ((i + 1 : Nat) : Int) := by omega
      obtain ⟨k2, rfl⟩ : ∃ m, k = m + v + 1 + 1 + 1 := ⟨k - v - 3, by omega⟩
      have ih := ihd k2 (i + 1) (by omega) (by omega) (by omega)
      rw [hlast] at ih
      rw [l0e, if_pos (by omega), if_pos (by omega), if_pos (by omega), hbits, Option.bind_some, hst k2, w64 (by omega) (by omega), e]
      exact ih
    · obtain ⟨k1, rfl⟩ : ∃ m, k = m + 1 := ⟨k - 1, by omega⟩
      rw [l0e, if_neg (by omega)]
      have : i = l.length := by omega
      subst this
      rw [← canons_len, List.take_length]
theorem pack_i (l : List Nat) (hb : ∀ x ∈ l, x < 4294967296) (hl : l.length ≤ 1048576) (k : Nat) (hk : 8388608 < k) : impl_packValues.f k l = some (strOfNums (packFrom 0 (canons l))) :=
  packl_i l hb hl l.length k 0 (by omega) (by omega) (by omega)
theorem littlee (k : Nat) (x0 : Int) (x5 : List Int) (x6 x7 : Int) : impl_littleBytes.l0 (k + 1) x0 x5 x6 x7 = if x7 < x6 then (if x5.length < 140737488355328 then (impl_littleBytes.l0 k (wrap64 (Int.tdiv x0 256)) (x5 ++ [(Int.tmod x0 256) % 256]) x6 (wrap64 (x7 + 1))) else (none)) else (some (strOfNums x5)) := by rw [impl_littleBytes.l0]
theorem td {n : Nat} (h : n < 1099511627776) : wrap64 (Int.tdiv (n : Int) 256) = ((n / 256 : Nat) : Int) := by
  rw [Int.tdiv_eq_ediv_of_nonneg (by omega), w64 (by omega) (by omega)]; omega
theorem td2 {n : Nat} (h : n < 1099511627776) : wrap64 (Int.tdiv (n : Int) 65536) = ((n / 65536 : Nat) : Int) := by
  rw [Int.tdiv_eq_ediv_of_nonneg (by omega), w64 (by omega) (by omega)]; omega
theorem td3 {n : Nat} (h : n < 1099511627776) : wrap64 (Int.tdiv (n : Int) 16777216) = ((n / 16777216 : Nat) : Int) := by
  rw [Int.tdiv_eq_ediv_of_nonneg (by omega), w64 (by omega) (by omega)]; omega
theorem td0 {n : Nat} (h : n < 1099511627776) : wrap64 ((n : Int) / 256) = ((n / 256 : Nat) : Int) := by
  rw [w64 (by omega) (by omega)]; omega
theorem em (n : Nat) : (n : Int) % 256 = ((n % 256 : Nat) : Int) := by omega
theorem tm (n : Nat) : Int.tmod (n : Int) 256 % 256 = ((n % 256 : Nat) : Int) := by
  rw [Int.tmod_eq_emod_of_nonneg (by omega)]; omega
theorem little4 (n : Nat) (h : n < 1099511627776) (k : Nat) (hk : 5 ≤ k) : impl_littleBytes.f k (n : Int) 4 = some (strOfNums [((n % 256 : Nat) : Int), ((n / 256 % 256 : Nat) : Int), ((n / 65536 % 256 : Nat) : Int), ((n / 16777216 % 256 : Nat) : Int)]) := by
  obtain ⟨k, rfl⟩ : ∃ m, k = m + 1 + 1 + 1 + 1 + 1 := ⟨k - 5, by omega⟩
  unfold impl_littleBytes.f
  have e2 : n / 256 / 256 = n / 65536 := by omega
  have e3 : n / 65536 / 256 = n / 16777216 := by omega
  rw [littlee, if_pos (by decide), if_pos (by decide), tm, td h, w64 (by decide) (by decide)]
  rw [littlee, if_pos (by decide), if_pos (by simp), tm, td (by omega), w64 (by decide) (by decide), e2]
  rw [littlee, if_pos (by decide), if_pos (by simp), tm, td (by omega), w64 (by decide) (by decide), e3]
  rw [littlee, if_pos (by decide), if_pos (by simp), tm, td (by omega), w64 (by decide) (by decide)]
  rw [littlee, if_neg (by decide)]
  rfl
theorem little2 (n : Nat) (h : n < 1099511627776) (k : Nat) (hk : 5 ≤ k) : impl_littleBytes.f k (n : Int) 2 = some (strOfNums [((n % 256 : Nat) : Int), ((n / 256 % 256 : Nat) : Int)]) := by
  obtain ⟨k, rfl⟩ : ∃ m, k = m + 1 + 1 + 1 := ⟨k - 3, by omega⟩
  unfold impl_littleBytes.f
  rw [littlee, if_pos (by decide), if_pos (by decide), tm, td h, w64 (by decide) (by decide)]
  rw [littlee, if_pos (by decide), if_pos (by simp), tm, td (by omega), w64 (by decide) (by decide)]
  rw [littlee, if_neg (by decide)]
  rfl
def stored (n : Nat) (p : ByteArray) (c : Nat) : ByteArray := ((⟨#[86, 79, 88, 49]⟩ : ByteArray) ++ strOfNums [((n % 256 : Nat) : Int), ((n / 256 % 256 : Nat) : Int), ((n / 65536 % 256 : Nat) : Int), ((n / 16777216 % 256 : Nat) : Int), ((p.size % 256 : Nat) : Int), ((p.size / 256 % 256 : Nat) : Int)] ++ p) ++ strOfNums [((c % 256 : Nat) : Int), ((c / 256 % 256 : Nat) : Int)]
theorem size_str (xs : List Int) : (strOfNums xs).size = xs.length := by simp [strOfNums, ByteArray.size]
theorem str_app (xs ys : List Int) : strOfNums (xs ++ ys) = strOfNums xs ++ strOfNums ys := by
  apply ByteArray.ext
  simp [strOfNums]
theorem bt_r (s : ByteArray) (i : Int) : ∃ b : Nat, bt s i = (b : Int) ∧ b < 256 := by
  unfold bt
  split
  · exact ⟨_, rfl, UInt8.toNat_lt _⟩
  · exact ⟨0, rfl, by decide⟩
theorem and127 (b : Nat) (hb : b < 256) : Go.bits .and .u8 (b : Int) 127 = ((b % 128 : Nat) : Int) := by
  have h := bits_mask .u8 8 (by decide) wraps_u8 7 (by decide) (b : Int) (by omega) (by omega)
  have e : ((2 : Int) ^ 7 - 1) = 127 := by decide
  rw [e] at h
  rw [h]
  omega
theorem wraps_i40 (n : Int) (h0 : 0 ≤ n) (h1 : n < 2 ^ 40) : IntKind.i64.wrap n = n := by rw [IntKind.wrap_i64]; omega
theorem p128 (j : Nat) : 128 ^ j = 2 ^ (7 * j) := by rw [Nat.pow_mul]
theorem p128le {j : Nat} (hj : j ≤ 4) : 128 ^ j ≤ 268435456 := Nat.le_trans (Nat.pow_le_pow_right (by decide) hj) (by decide)
theorem or_shl (j : Nat) (hj : j ≤ 4) (n b : Nat) (hn : n < 128 ^ j) (hb : b < 256) :
    Go.bits .or .i64 (n : Int) (shl .i64 (wrap64 (Go.bits .and .u8 (b : Int) 127)) ((7 * j : Nat) : Int)) = ((n + (b % 128) * 128 ^ j : Nat) : Int) := by
  have hp := p128le hj
  rw [and127 b hb, w64 (by omega) (by omega)]
  unfold shl
  have hm : min ((7 * j : Nat) : Int).toNat IntKind.i64.bits = 7 * j := by
    rw [Int.toNat_natCast]; exact Nat.min_eq_left (by show 7 * j ≤ 64; omega)
  rw [hm]
  have hc : (((b % 128 : Nat) : Int) * 2 ^ (7 * j)) = ((2 ^ (7 * j) * (b % 128) : Nat) : Int) := by
    rw [Int.natCast_mul, Int.natCast_pow, Int.mul_comm]; rfl
  have hz : 2 ^ (7 * j) * (b % 128) < 2 ^ 40 := by
    rw [← p128]
    have : 128 ^ j * (b % 128) ≤ 268435456 * 127 := Nat.mul_le_mul hp (by omega)
    omega
  rw [hc, wraps_i40 _ (by omega) (by exact_mod_cast hz)]
  have hn2 : n < 2 ^ 40 := by
    have : n < 268435456 := by omega
    omega
  rw [(bits_nat .i64 40 (by decide) wraps_i40 n _ hn2 hz).2, Nat.or_comm, p128, ← Nat.two_pow_add_eq_or_of_lt (by rw [← p128]; exact hn) (b % 128), Nat.mul_comm, Nat.add_comm]
theorem n_up (j n b : Nat) (hn : n < 128 ^ j) : n + (b % 128) * 128 ^ j < 128 ^ (j + 1) := by
  rw [Nat.pow_succ]
  have : (b % 128) * 128 ^ j ≤ 127 * 128 ^ j := Nat.mul_le_mul_right _ (by omega)
  omega
theorem bef (y : Int) : ∃ v : Nat, Int.tmod (wrap64 ((Int.tmod y 4294967296) + 4294967296)) 4294967296 = (v : Int) ∧ v < 4294967296 := by
  have h1 := Int.tmod_lt_of_pos y (b := 4294967296) (by decide)
  have h2 := Int.lt_tmod_of_pos y (b := 4294967296) (by decide)
  rw [w64 (by omega) (by omega)]
  rw [Int.tmod_eq_emod_of_nonneg (by omega)]
  exact ⟨((y.tmod 4294967296 + 4294967296) % 4294967296).toNat, by omega, by omega⟩
theorem fromBits_some (v : Nat) (h : v < 4294967296) : impl_FromBits.f (v : Int) = some (v, true) := by
  unfold impl_FromBits.f impl_within.f
  rw [if_pos (by omega), Option.bind_some, if_pos (by simp; omega)]
  congr 2
  omega
theorem within_n (n : Nat) : impl_within.f (n : Int) 1 256 = some (decide (1 ≤ n ∧ n ≤ 256)) := by
  unfold impl_within.f
  by_cases c : (n : Int) ≥ 1
  · rw [if_pos c]
    congr 1
    rw [decide_eq_decide]
    omega
  · rw [if_neg c]
    congr 1
    exact (decide_eq_false (by omega)).symm
theorem i_up {i n : Nat} (h : i < n) (hn : n ≤ 1048576) : wrap64 ((i : Int) + 1) = ((i + 1 : Nat) : Int) := by rw [w64 (by omega) (by omega)]; omega
theorem list_inj {a b : ByteArray} (h : a.toList = b.toList) : a = b := by
  rw [ByteArray.toList_eq, ByteArray.toList_eq] at h
  exact ByteArray.ext (Array.toList_inj.1 h)
theorem bt_cut (s : ByteArray) (n : Nat) (i : Int) (hi : i.toNat < n) (hn : n ≤ s.size) : bt (s.extract 0 n) i = bt s i := by
  unfold bt
  have h1 : i.toNat < (s.extract 0 n).size := by rw [ByteArray.size_extract]; omega
  rw [dif_pos h1, dif_pos (show i.toNat < s.size by omega), ByteArray.getElem_extract h1]
  simp only [Nat.zero_add]
theorem cut_cut (s : ByteArray) (n m : Nat) (h : m ≤ n) : (s.extract 0 n).extract 10 m = s.extract 10 m := by
  rw [ByteArray.extract_extract]
  congr 1
  omega
theorem stored_size (n : Nat) (p : ByteArray) (c : Nat) : (stored n p c).size = p.size + 12 := by
  unfold stored
  rw [ByteArray.size_append, ByteArray.size_append, ByteArray.size_append, size_str, size_str]
  have : (⟨#[86, 79, 88, 49]⟩ : ByteArray).size = 4 := rfl
  simp only [List.length_cons, List.length_nil]
  omega
theorem stored_mid (n : Nat) (p : ByteArray) (c : Nat) : (stored n p c).extract 10 (p.size + 10) = p := by
  unfold stored
  generalize hx : ((⟨#[86, 79, 88, 49]⟩ : ByteArray) ++ strOfNums [((n % 256 : Nat) : Int), ((n / 256 % 256 : Nat) : Int), ((n / 65536 % 256 : Nat) : Int), ((n / 16777216 % 256 : Nat) : Int), ((p.size % 256 : Nat) : Int), ((p.size / 256 % 256 : Nat) : Int)]) = x
  have hs : x.size = 10 := by
    rw [← hx, ByteArray.size_append, size_str]; rfl
  generalize strOfNums [((c % 256 : Nat) : Int), ((c / 256 % 256 : Nat) : Int)] = y
  apply ByteArray.ext
  apply Array.toList_inj.1
  rw [Go.Lib.extract_data, ByteArray.data_append, ByteArray.data_append, Array.toList_append, Array.toList_append, List.append_assoc, List.drop_append_of_le_length (by rw [Array.length_toList]; exact Nat.le_of_eq hs.symm), List.drop_of_length_le (by rw [Array.length_toList]; exact Nat.le_of_eq hs), List.nil_append]
  exact List.take_left' (by rw [Array.length_toList]; show p.size = _; omega)
theorem n_some (s : ByteArray) : ∃ n : Nat, wrap64 ((wrap64 (12 + (wrap64 (bt s 8)))) + (wrap64 (256 * (wrap64 (bt s 9))))) = (n : Int) ∧ 12 ≤ n ∧ n ≤ 65547 := by
  obtain ⟨a, ha, ha2⟩ := bt_r s 8
  obtain ⟨b, hb, hb2⟩ := bt_r s 9
  rw [ha, hb]
  refine ⟨12 + a + 256 * b, ?_, by omega, by omega⟩
  simp (disch := omega) only [w64_id]
  omega
theorem time_some (s : ByteArray) : ∃ t : Nat, t < 4294967296 ∧
    wrap64 ((wrap64 ((wrap64 ((wrap64 (bt s 4)) + (wrap64 ((wrap64 (bt s 5)) * 256)))) + (wrap64 ((wrap64 (bt s 6)) * 65536)))) + (wrap64 ((wrap64 (bt s 7)) * 16777216))) = (t : Int) ∧
    wrap64 ((wrap64 ((wrap64 ((wrap64 (bt s 4)) + (wrap64 (256 * (wrap64 (bt s 5)))))) + (wrap64 (65536 * (wrap64 (bt s 6)))))) + (wrap64 (16777216 * (wrap64 (bt s 7))))) = (t : Int) := by
  obtain ⟨a, ha, ha2⟩ := bt_r s 4
  obtain ⟨b, hb, hb2⟩ := bt_r s 5
  obtain ⟨c, hc, hc2⟩ := bt_r s 6
  obtain ⟨d, hd, hd2⟩ := bt_r s 7
  rw [ha, hb, hc, hd]
  refine ⟨a + 256 * b + 65536 * c + 16777216 * d, by omega, ?_, ?_⟩
  · simp (disch := omega) only [w64_id]
    omega
  · simp (disch := omega) only [w64_id]
    omega
theorem u_tot (s : ByteArray) (hs : s.size ≤ 1048576) : ∀ (d k : Nat) (l : List Nat) (b n : Int) (i j : Nat), i + d = s.size → j ≤ 4 → l.length ≤ i → (∀ x ∈ l, x < 4294967296) → d < k →
    ∃ r : List Nat × Bool, impl_unpackValues.l0 k s l b n ((7 * j : Nat) : Int) (s.size : Int) (i : Int) = some r ∧ (r.2 = true → 1 ≤ r.1.length ∧ r.1.length ≤ 256) ∧ ∀ x ∈ r.1, x < 4294967296
  | d, 0, l, b, n, i, j, h1, hj, hl, hm, hk => by omega
  | 0, k + 1, l, b, n, i, j, h1, hj, hl, hm, hk => by
    unfold impl_unpackValues.l0
    rw [if_neg (by omega)]
    by_cases c : ((7 * j : Nat) : Int) = 0
    · rw [if_pos c, within_n, Option.bind_some]; exact ⟨_, rfl, fun h => of_decide_eq_true h, hm⟩
    · rw [if_neg c]; exact ⟨_, rfl, fun h => (by cases h), hm⟩
  | d + 1, k + 1, l, b, n, i, j, h1, hj, hl, hm, hk => by
    obtain ⟨q, hq, hq2⟩ := bt_r s (i : Int)
    have e1 : wrap64 ((i : Int) + 1) = ((i + 1 : Nat) : Int) := by rw [w64 (by omega) (by omega)]; omega
    have b4 : l.length < 35184372088832 := by omega
    unfold impl_unpackValues.l0
    rw [if_pos (by omega), if_pos (by omega), if_pos (by omega), if_pos (by omega)]
    by_cases c : bt s (i : Int) ≥ 128
    · rw [if_pos c]
      by_cases c2 : wrap64 (((7 * j : Nat) : Int) + 7) > 28
      · rw [if_pos c2]; exact ⟨_, rfl, fun h => (by cases h), fun x hx => by cases hx⟩
      · have e7 : wrap64 (((7 * j : Nat) : Int) + 7) = ((7 * (j + 1) : Nat) : Int) := by rw [w64 (by omega) (by omega)]; omega
        rw [if_neg c2, e7, e1]
        rw [e7] at c2
        exact u_tot s hs d k _ _ _ (i + 1) (j + 1) (by omega) (by omega) (by omega) hm (by omega)
    · rw [if_neg c]
      have happ : ∀ v : Nat, v < 4294967296 → ∀ x ∈ l ++ [v], x < 4294967296 := fun v hv x hx => by
        rcases List.mem_append.1 hx with h | h
        · exact hm x h
        · rw [List.mem_singleton.1 h]; exact hv
      split
      · obtain ⟨v, hv, hv2⟩ := bef (wrap64 (b + (wrap64 (Int.tdiv (wrap64 (-(wrap64 ((Go.bits .or .i64 n (shl .i64 (wrap64 (Go.bits .and .u8 (bt s (i : Int)) 127)) ((7 * j : Nat) : Int))) + 1)))) 2))))
        rw [hv, fromBits_some v hv2, Option.bind_some, e1]
        exact u_tot s hs d k _ _ 0 (i + 1) 0 (by omega) (by omega) (by rw [List.length_append, List.length_singleton]; omega) (happ v hv2) (by omega)
      · obtain ⟨v, hv, hv2⟩ := bef (wrap64 (b + (wrap64 (Int.tdiv (Go.bits .or .i64 n (shl .i64 (wrap64 (Go.bits .and .u8 (bt s (i : Int)) 127)) ((7 * j : Nat) : Int))) 2))))
        rw [hv, fromBits_some v hv2, Option.bind_some, e1]
        exact u_tot s hs d k _ _ 0 (i + 1) 0 (by omega) (by omega) (by rw [List.length_append, List.length_singleton]; omega) (happ v hv2) (by omega)
/-- every text is unpacked to something -/
theorem unpack_tot (s : ByteArray) (hs : s.size ≤ 1048576) : ∃ u : List Nat × Bool, (u.2 = true → 1 ≤ u.1.length ∧ u.1.length ≤ 256) ∧ (∀ x ∈ u.1, x < 4294967296) ∧ ∀ k, 1048578 ≤ k → impl_unpackValues.f k s = some u := by
  obtain ⟨K, hK⟩ : ∃ K : Nat, K = 1048578 := ⟨_, rfl⟩
  obtain ⟨u, h1, h2, h3⟩ := u_tot s hs s.size K [] 0 0 0 0 (by omega) (by decide) (Nat.zero_le _) (fun x hx => by cases hx) (by omega)
  exact ⟨u, h2, h3, fun k hk => at_rounds (g := fun k => impl_unpackValues.f k s) (impl_unpackValues.mono s) (show K ≤ k by omega) h1⟩
/-- the bytes of s from i on are these, and then it ends -/
def Byt (s : ByteArray) : Nat → List Int → Prop
  | i, [] => i = s.size
  | i, x :: xs => (i < s.size ∧ bt s (i : Int) = x) ∧ Byt s (i + 1) xs
theorem Byt_split (s : ByteArray) : ∀ (xs ys : List Int) (i : Nat), Byt s i (xs ++ ys) → Byt s (i + xs.length) ys
  | [], ys, i, h => h
  | x :: xs, ys, i, h => by
    have := Byt_split s xs ys (i + 1) h.2
    rw [List.length_cons]
    rwa [show i + 1 + xs.length = i + (xs.length + 1) by omega] at this
theorem Byt_end (s : ByteArray) : ∀ (xs : List Int) (i : Nat), Byt s i xs → i + xs.length = s.size
  | [], i, h => h
  | x :: xs, i, h => by
    have := Byt_end s xs (i + 1) h.2
    rw [List.length_cons]; omega
theorem bt_nums (xs : List Int) (hx : ∀ x ∈ xs, 0 ≤ x ∧ x < 256) (i : Nat) (h : i < xs.length) : bt (strOfNums xs) (i : Int) = xs[i] := by
  have hm := hx xs[i] (List.getElem_mem h)
  have hs : (i : Int).toNat < (strOfNums xs).size := by rw [Int.toNat_natCast, size_str]; exact h
  unfold bt
  rw [dif_pos hs]
  have : (strOfNums xs)[(i : Int).toNat]'hs = UInt8.ofNat (xs[i]).toNat := by
    show (strOfNums xs).data[(i : Int).toNat]'hs = _
    simp [strOfNums]
  rw [this, UInt8.toNat_ofNat']
  omega
theorem Byt_nums (xs : List Int) (hx : ∀ x ∈ xs, 0 ≤ x ∧ x < 256) : ∀ (d i : Nat), i + d = xs.length → Byt (strOfNums xs) i (xs.drop i)
  | 0, i, h => by rw [List.drop_of_length_le (by omega)]; show i = _; rw [size_str]; omega
  | d + 1, i, h => by
    rw [List.drop_eq_getElem_cons (by omega)]
    exact ⟨⟨by rw [size_str]; omega, bt_nums xs hx i (by omega)⟩, Byt_nums xs hx d (i + 1) (by omega)⟩
theorem vb_byte (f : Nat) : ∀ n, n < 128 ^ (f + 1) → ∀ x ∈ vb n, (0 : Int) ≤ x ∧ x < 256 := by
  induction f with
  | zero => intro n h x hx; rw [vb_small (by simpa using h), List.mem_singleton] at hx; subst hx; have : n < 128 := by simpa using h
            omega
  | succ f ih =>
    intro n h x hx
    by_cases hs : n < 128
    · rw [vb_small hs, List.mem_singleton] at hx; subst hx; omega
    · rw [vb_big hs] at hx
      rcases List.mem_cons.1 hx with rfl | hx
      · omega
      · exact ih (n / 128) (by rw [Nat.div_lt_iff_lt_mul (by decide)]; rw [Nat.pow_succ] at h; exact h) x hx
theorem pack_byte : ∀ (xs : List Nat) (b : Nat), ∀ x ∈ packFrom b xs, (0 : Int) ≤ x ∧ x < 256
  | [], b, x, hx => by rw [packFrom_nil] at hx; cases hx
  | y :: ys, b, x, hx => by
    rw [packFrom_cons] at hx
    rcases List.mem_append.1 hx with h | h
    · exact vb_byte 4 _ (zig_lt5 b y) x h
    · exact pack_byte ys y x h
theorem w64' {x : Int} (h1 : -9000000000000000000 ≤ x) (h2 : x ≤ 9000000000000000000) : wrap64 x = x := by unfold wrap64; omega
theorem tmod_small {x : Int} (h1 : -4294967296 < x) (h2 : x < 4294967296) : Int.tmod x 4294967296 = x := by
  by_cases h : 0 ≤ x
  · rw [Int.tmod_eq_emod_of_nonneg h]; omega
  · have : Int.tmod (-(-x)) 4294967296 = -(Int.tmod (-x) 4294967296) := Int.neg_tmod _ _
    rw [Int.neg_neg] at this
    rw [this, Int.tmod_eq_emod_of_nonneg (by omega)]; omega
theorem un_odd (b d x : Nat) (hb : b < 4294967296) (hd : 2147483648 ≤ d) (hd2 : d < 4294967296) (hx : x < 4294967296) (h : b + d = x ∨ b + d = x + 4294967296) :
    Int.tmod (wrap64 ((Int.tmod (wrap64 ((b : Int) + (wrap64 (Int.tdiv (wrap64 (-(wrap64 (((2 * (4294967296 - d) - 1 : Nat) : Int) + 1)))) 2)))) 4294967296) + 4294967296)) 4294967296 = (x : Int) := by
  have e1 : wrap64 (((2 * (4294967296 - d) - 1 : Nat) : Int) + 1) = ((2 * (4294967296 - d) : Nat) : Int) := by rw [w64' (by omega) (by omega)]; omega
  rw [e1]; clear e1
  have e2 : wrap64 (-(((2 * (4294967296 - d) : Nat) : Int))) = -(((2 * (4294967296 - d) : Nat) : Int)) := w64' (by omega) (by omega)
  rw [e2]; clear e2
  have e3 : Int.tdiv (-(((2 * (4294967296 - d) : Nat) : Int))) 2 = -(((4294967296 - d : Nat) : Int)) := by
    rw [Int.neg_tdiv, Int.tdiv_eq_ediv_of_nonneg (by omega)]; omega
  rw [e3]; clear e3
  have e4 : wrap64 (-(((4294967296 - d : Nat) : Int))) = -(((4294967296 - d : Nat) : Int)) := w64' (by omega) (by omega)
  rw [e4]; clear e4
  have e5 : wrap64 ((b : Int) + -(((4294967296 - d : Nat) : Int))) = (b : Int) + (d : Int) - 4294967296 := by rw [w64' (by omega) (by omega)]; omega
  rw [e5]; clear e5
  rw [tmod_small (x := (b : Int) + (d : Int) - 4294967296) (by omega) (by omega)]
  have e7 : wrap64 ((b : Int) + (d : Int) - 4294967296 + 4294967296) = ((b + d : Nat) : Int) := by rw [w64' (by omega) (by omega)]; omega
  rw [e7, Int.tmod_eq_emod_of_nonneg (by omega)]
  clear e7
  omega
theorem un_even (b d x : Nat) (hb : b < 4294967296) (hd : d < 2147483648) (hx : x < 4294967296) (h : b + d = x ∨ b + d = x + 4294967296) :
    Int.tmod (wrap64 ((Int.tmod (wrap64 ((b : Int) + (wrap64 (Int.tdiv ((2 * d : Nat) : Int) 2)))) 4294967296) + 4294967296)) 4294967296 = (x : Int) := by
  have e3 : Int.tdiv ((2 * d : Nat) : Int) 2 = (d : Int) := by
    rw [Int.tdiv_eq_ediv_of_nonneg (by omega)]; omega
  rw [e3]; clear e3
  have e4 : wrap64 (d : Int) = (d : Int) := w64' (by omega) (by omega)
  rw [e4]; clear e4
  have e5 : wrap64 ((b : Int) + (d : Int)) = ((b + d : Nat) : Int) := by rw [w64' (by omega) (by omega)]; omega
  rw [e5]; clear e5
  have e6 : Int.tmod ((b + d : Nat) : Int) 4294967296 = ((x : Nat) : Int) := by rw [Int.tmod_eq_emod_of_nonneg (by omega)]; omega
  rw [e6]; clear e6
  have e7 : wrap64 ((x : Int) + 4294967296) = ((x + 4294967296 : Nat) : Int) := by rw [w64' (by omega) (by omega)]; omega
  rw [e7, Int.tmod_eq_emod_of_nonneg (by omega)]
  clear e7
  omega
theorem unzig (b x : Nat) (hb : b < 4294967296) (hx : x < 4294967296) : ∃ d : Nat, (b + d = x ∨ b + d = x + 4294967296) ∧ d < 4294967296 ∧ ((2147483648 ≤ d ∧ zig b x = 2 * (4294967296 - d) - 1) ∨ (d < 2147483648 ∧ zig b x = 2 * d)) := by
  have hz := zig_def b x
  generalize zig b x = z at *
  refine ⟨(x + 4294967296 - b) % 4294967296, by omega, Nat.mod_lt _ (by decide), ?_⟩
  split at hz
  · exact .inl ⟨by assumption, hz⟩
  · exact .inr ⟨by omega, hz⟩
theorem odd_no (d : Nat) (hd : d < 4294967296) : Int.tmod ((2 * (4294967296 - d) - 1 : Nat) : Int) 2 = 1 := by
  rw [Int.tmod_eq_emod_of_nonneg (by omega)]; omega
theorem even_no (d : Nat) : ¬ Int.tmod ((2 * d : Nat) : Int) 2 = 1 := by
  rw [Int.tmod_eq_emod_of_nonneg (by omega)]; omega
theorem unzig_odd {b x : Nat} (hb : b < 4294967296) (hx : x < 4294967296) (h : Int.tmod ((zig b x : Nat) : Int) 2 = 1) :
    Int.tmod (wrap64 ((Int.tmod (wrap64 ((b : Int) + (wrap64 (Int.tdiv (wrap64 (-(wrap64 (((zig b x : Nat) : Int) + 1)))) 2)))) 4294967296) + 4294967296)) 4294967296 = (x : Int) := by
  obtain ⟨d, h1, h2, ⟨h3, h4⟩ | ⟨h3, h4⟩⟩ := unzig b x hb hx
  · rw [h4]; exact un_odd b d x hb h3 h2 hx h1
  · rw [h4] at h; exact absurd h (even_no d)
theorem unzig_even {b x : Nat} (hb : b < 4294967296) (hx : x < 4294967296) (h : ¬ Int.tmod ((zig b x : Nat) : Int) 2 = 1) :
    Int.tmod (wrap64 ((Int.tmod (wrap64 ((b : Int) + (wrap64 (Int.tdiv ((zig b x : Nat) : Int) 2)))) 4294967296) + 4294967296)) 4294967296 = (x : Int) := by
  obtain ⟨d, h1, h2, ⟨h3, h4⟩ | ⟨h3, h4⟩⟩ := unzig b x hb hx
  · rw [h4] at h; exact absurd (odd_no d h2) h
  · rw [h4]; exact un_even b d x hb h3 hx h1
theorem un_vb (s : ByteArray) (hs : s.size ≤ 1048576) (l : List Nat) (hl : l.length ≤ 256) (b x : Nat) (hb : b < 4294967296) (hx : x < 4294967296) (R : Option (List Nat × Bool)) : ∀ (f m j n i k : Nat) (rest : List Int), f + j = 4 → m < 128 ^ (f + 1) → n < 128 ^ j → zig b x = n + m * 128 ^ j → Byt s i (vb m ++ rest) →
    (impl_unpackValues.l0 k s (l ++ [x]) (x : Int) 0 0 (s.size : Int) ((i + (vb m).length : Nat) : Int) = R) → impl_unpackValues.l0 (k + (vb m).length) s l (b : Int) (n : Int) ((7 * j : Nat) : Int) (s.size : Int) (i : Int) = R := by
  intro f
  have hlo : ∀ (m j n i k : Nat) (rest : List Int), m < 128 → j ≤ 4 → n < 128 ^ j → zig b x = n + m * 128 ^ j → Byt s i (vb m ++ rest) →
    (impl_unpackValues.l0 k s (l ++ [x]) (x : Int) 0 0 (s.size : Int) ((i + (vb m).length : Nat) : Int) = R) → impl_unpackValues.l0 (k + (vb m).length) s l (b : Int) (n : Int) ((7 * j : Nat) : Int) (s.size : Int) (i : Int) = R := by
    intro m j n i k rest hm hj hn hz hB hR
    rw [vb_small hm] at hB hR ⊢
    obtain ⟨⟨hi, hq⟩, hB2⟩ := hB
    have e1 := i_up hi hs
    have b1 : (i : Int) < (s.size : Int) := Int.ofNat_lt.2 hi
    have b2 : (0 : Int) ≤ (i : Int) := Int.natCast_nonneg i
    have b3 : (0 : Int) ≤ ((7 * j : Nat) : Int) := Int.natCast_nonneg _
    have b4 : l.length < 35184372088832 := Nat.lt_of_le_of_lt hl (by decide)
    have hw := or_shl j hj n m hn (by omega)
    have c : ¬ ((m : Int) ≥ 128) := by omega
    rw [show m % 128 = m by omega, ← hz] at hw
    show impl_unpackValues.l0 (k + 1) s l (b : Int) (n : Int) ((7 * j : Nat) : Int) (s.size : Int) (i : Int) = R
    by_cases g : Int.tmod ((zig b x : Nat) : Int) 2 = 1
    · have hv := unzig_odd hb hx g
      rw [impl_unpackValues.l0, if_pos b1, if_pos b2, if_pos b1, if_pos b3, hq, if_neg c, hw, if_pos g, hv, fromBits_some x hx, Option.bind_some, if_pos b4, e1]
      exact hR
    · have hv := unzig_even hb hx g
      rw [impl_unpackValues.l0, if_pos b1, if_pos b2, if_pos b1, if_pos b3, hq, if_neg c, hw, if_neg g, hv, fromBits_some x hx, Option.bind_some, if_pos b4, e1]
      exact hR
  induction f with
  | zero =>
    intro m j n i k rest hj hm hn hz hB hR
    exact hlo m j n i k rest (by simpa using hm) (by omega) hn hz hB hR
  | succ f ih =>
    intro m j n i k rest hj hm hn hz hB hR
    by_cases hm2 : m < 128
    · exact hlo m j n i k rest hm2 (by omega) hn hz hB hR
    · rw [vb_big hm2] at hB hR ⊢
      obtain ⟨⟨hi, hq⟩, hB2⟩ := hB
      have e1 := i_up hi hs
      have b1 : (i : Int) < (s.size : Int) := Int.ofNat_lt.2 hi
      have b2 : (0 : Int) ≤ (i : Int) := Int.natCast_nonneg i
      have b3 : (0 : Int) ≤ ((7 * j : Nat) : Int) := Int.natCast_nonneg _
      have hw := or_shl j (by omega) n (m % 128 + 128) hn (by omega)
      have c : ((m % 128 + 128 : Nat) : Int) ≥ 128 := by omega
      have e7 : wrap64 (((7 * j : Nat) : Int) + 7) = ((7 * (j + 1) : Nat) : Int) := by rw [w64 (by omega) (by omega)]; omega
      have e8 : ¬ (((7 * (j + 1) : Nat) : Int) > 28) := by omega
      have hn2 := n_up j n (m % 128 + 128) hn
      have em : (m % 128 + 128) % 128 = m % 128 := by omega
      rw [em] at hw hn2
      have hz2 : zig b x = (n + m % 128 * 128 ^ j) + (m / 128) * 128 ^ (j + 1) := by
        rw [hz, Nat.pow_succ, Nat.add_assoc, Nat.mul_comm (128 ^ j) 128, ← Nat.mul_assoc, ← Nat.add_mul]
        congr 2
        omega
      have hmm : m / 128 < 128 ^ (f + 1) := by rw [Nat.div_lt_iff_lt_mul (by decide)]; rw [Nat.pow_succ] at hm; exact hm
      rw [List.length_cons] at hR ⊢
      show impl_unpackValues.l0 (k + (vb (m / 128)).length + 1) s l (b : Int) (n : Int) ((7 * j : Nat) : Int) (s.size : Int) (i : Int) = R
      rw [impl_unpackValues.l0, if_pos b1, if_pos b2, if_pos b1, if_pos b3, hq, if_pos c, e7, if_neg e8, hw, e1]
      exact ih (m / 128) (j + 1) _ (i + 1) k rest (by omega) hmm hn2 hz2 hB2 (by rw [show i + 1 + (vb (m / 128)).length = i + ((vb (m / 128)).length + 1) by omega]; exact hR)
theorem un_all (s : ByteArray) (hs : s.size ≤ 1048576) : ∀ (xs : List Nat) (b : Nat) (l : List Nat) (i k : Nat), b < 4294967296 → (∀ x ∈ xs, x < 4294967296) → l.length + xs.length ≤ 256 → 1 ≤ l.length + xs.length → Byt s i (packFrom b xs) →
    impl_unpackValues.l0 (k + 1 + (packFrom b xs).length) s l (b : Int) 0 0 (s.size : Int) (i : Int) = some (l ++ xs, true)
  | [], b, l, i, k, hb, hx, h1, h2, hB => by
    rw [packFrom_nil] at hB ⊢
    have hB : i = s.size := hB
    show impl_unpackValues.l0 (k + 1) s l (b : Int) 0 0 (s.size : Int) (i : Int) = _
    rw [List.length_nil] at h1 h2
    rw [impl_unpackValues.l0, if_neg (by omega), if_pos rfl, within_n, Option.bind_some, decide_eq_true (by omega), List.append_nil]
  | x :: xs, b, l, i, k, hb, hx, h1, h2, hB => by
    rw [List.length_cons] at h1 h2
    have hx0 := hx x List.mem_cons_self
    rw [packFrom_cons] at hB ⊢
    have ih := un_all s hs xs x (l ++ [x]) (i + (vb (zig b x)).length) k hx0 (fun y hy => hx y (List.mem_cons_of_mem _ hy)) (by rw [List.length_append, List.length_singleton]; omega) (by rw [List.length_append, List.length_singleton]; omega) (Byt_split s _ _ _ hB)
    rw [List.append_assoc] at ih
    have := un_vb s hs l (by omega) b x hb hx0 _ 4 (zig b x) 0 0 i (k + 1 + (packFrom x xs).length) _ rfl (zig_lt5 b x) (by decide) (by simp) hB ih
    rw [List.length_append, show k + 1 + ((vb (zig b x)).length + (packFrom x xs).length) = k + 1 + (packFrom x xs).length + (vb (zig b x)).length by omega]
    exact this
/-- what was packed is unpacked -/
theorem unpack_pack (xs : List Nat) (hx : ∀ x ∈ xs, x < 4294967296) (h1 : 1 ≤ xs.length) (h2 : xs.length ≤ 256) (k : Nat) (hk : 1400 ≤ k) : impl_unpackValues.f k (strOfNums (packFrom 0 xs)) = some (xs, true) := by
  have hl := packFrom_len xs 0
  have hs : (strOfNums (packFrom 0 xs)).size ≤ 1048576 := by rw [size_str]; omega
  have hB := Byt_nums (packFrom 0 xs) (pack_byte xs 0) (packFrom 0 xs).length 0 (by omega)
  rw [List.drop_zero] at hB
  have := un_all _ hs xs 0 [] 0 0 (by decide) hx (by rw [List.length_nil]; omega) (by rw [List.length_nil]; omega) hB
  exact at_rounds (g := fun k => impl_unpackValues.f k (strOfNums (packFrom 0 xs))) (impl_unpackValues.mono _) (show 0 + 1 + (packFrom 0 xs).length ≤ k by omega) this
theorem canons2 (l : List Nat) : canons (canons l) = canons l := by
  unfold canons
  rw [List.map_map]
  congr 1
  funext x
  exact cn_cn _ _
theorem check_l (s : ByteArray) (hs : s.size ≤ 9223372036854775807) : ∀ (k : Nat) (x i : Int), 0 ≤ x → x < 65003 → 0 ≤ i → i ≤ s.size → s.size - i < k → ∃ c : Nat, c < 65003 ∧ impl_CheckOf.l0 k x s i = some ((c : Int), true)
  | 0, x, i, _, _, _, _, hk => by omega
  | k + 1, x, i, h0, h1, hi, hl, hk => by
    unfold impl_CheckOf.l0
    by_cases c : i < (s.size : Int)
    · obtain ⟨b0, b1⟩ := bt_range s i
      rw [if_pos c, if_pos hi, w64 (x := i + 1) (by omega) (by omega), w64 (x := 797 * x) (by omega) (by omega), w64 (x := bt s i) (by omega) (by omega), w64 (x := 797 * x + bt s i) (by omega) (by omega), w64 (by omega) (by omega)]
      have hm : Int.tmod (797 * x + bt s i + 101) 65003 = (797 * x + bt s i + 101) % 65003 := Int.tmod_eq_emod_of_nonneg (by omega)
      rw [hm]
      exact check_l s hs k _ (i + 1) (by omega) (by omega) (by omega) (by omega) (by omega)
    · rw [if_neg c]
      refine ⟨x.toNat, by omega, ?_⟩
      rw [Int.toNat_of_nonneg h0]
theorem check_i (s : ByteArray) (hs : s.size ≤ 1073741824) (k : Nat) (hk : 1073741825 ≤ k) : ∃ c : Nat, c < 65003 ∧ impl_CheckOf.f k 0 s = some ((c : Int), true) := by
  obtain ⟨c, h1, h3⟩ := check_l s (by omega) k 0 0 (by omega) (by omega) (by omega) (by omega) (by omega)
  refine ⟨c, h1, ?_⟩
  unfold impl_CheckOf.f impl_within.f
  rw [if_pos (by decide), Option.bind_some, if_pos (by decide)]
  exact h3
theorem store_i (n : Nat) (hn : n < 4294967296) (l : List Nat) (hb : ∀ x ∈ l, x < 4294967296) (hl : l.length ≤ 256) (k : Nat) (hk : 1073741825 ≤ k) :
    ∃ c : Nat, c < 65003 ∧ impl_storeBlock.f k (n : Int) l = some (stored n (strOfNums (packFrom 0 (canons l))) c) := by
  have hps : (strOfNums (packFrom 0 (canons l))).size ≤ 1280 := by
    rw [size_str]
    have := packFrom_len (canons l) 0
    rw [canons_len] at this
    omega
  have hpi := pack_i l hb (by omega) k (by omega)
  generalize strOfNums (packFrom 0 (canons l)) = p at *
  have hz6 : ∀ a b c d e f : Int, (strOfNums [a, b, c, d, e, f]).size = 6 := fun _ _ _ _ _ _ => by rw [size_str]; rfl
  have hz4 : ∀ a b c d : Int, (strOfNums [a, b, c, d]).size = 4 := fun _ _ _ _ => by rw [size_str]; rfl
  have hz2 : ∀ a b : Int, (strOfNums [a, b]).size = 2 := fun _ _ => by rw [size_str]; rfl
  have hv : (⟨#[86, 79, 88, 49]⟩ : ByteArray).size = 4 := rfl
  obtain ⟨c, hc, hci⟩ := check_i ((⟨#[86, 79, 88, 49]⟩ : ByteArray) ++ strOfNums [((n % 256 : Nat) : Int), ((n / 256 % 256 : Nat) : Int), ((n / 65536 % 256 : Nat) : Int), ((n / 16777216 % 256 : Nat) : Int), ((p.size % 256 : Nat) : Int), ((p.size / 256 % 256 : Nat) : Int)] ++ p) (by
    rw [ByteArray.size_append, ByteArray.size_append, hz6, hv]; omega) k hk
  refine ⟨c, hc, ?_⟩
  have e6 : ∀ a b c d e f : Int, strOfNums [a, b, c, d] ++ strOfNums [e, f] = strOfNums [a, b, c, d, e, f] := fun a b c d e f => (str_app [a, b, c, d] [e, f]).symm
  unfold impl_storeBlock.f
  rw [hpi, Option.bind_some, little4 n (by omega) k (by omega), Option.bind_some, if_pos (by rw [hz4]; omega), little2 p.size (by omega) k (by omega), Option.bind_some]
  rw [if_pos (by rw [ByteArray.size_append, hz4, hz2, hv]; omega), if_pos (by rw [ByteArray.size_append, ByteArray.size_append, hz4, hz2, hv]; omega), ByteArray.append_assoc (a := (⟨#[86, 79, 88, 49]⟩ : ByteArray)), e6, hci, Option.bind_some]
  dsimp only
  rw [little2 c (by omega) k (by omega), Option.bind_some, if_pos (by rw [ByteArray.size_append, ByteArray.size_append, hz6, hz2, hv]; omega)]
  rfl
/-- a valid block -/
structure okB (x : BI) : Prop where
  t0 : 0 ≤ x.f0
  t1 : x.f0 < 4294967296
  l0 : 1 ≤ x.f1.length
  l1 : x.f1.length ≤ 256
  lt : ∀ y ∈ x.f1, y < 4294967296
def cnB (x : BI) : BI := ⟨x.f0, canons x.f1⟩
theorem ok_cn {x : BI} (h : okB x) : okB (cnB x) := ⟨h.t0, h.t1, by show 1 ≤ (canons x.f1).length; rw [canons_len]; exact h.l0, by show (canons x.f1).length ≤ 256; rw [canons_len]; exact h.l1, canons_lt h.lt⟩
def stB (x : BI) : ByteArray := (impl_storeBlock.f 1073741825 x.f0 x.f1).getD ⟨#[]⟩
theorem stB_spec (x : BI) (h : okB x) : ∃ n c : Nat, x.f0 = (n : Int) ∧ n < 4294967296 ∧ c < 65003 ∧ stB x = stored n (strOfNums (packFrom 0 (canons x.f1))) c ∧ ∀ k, 1073741825 ≤ k → impl_storeBlock.f k x.f0 x.f1 = some (stB x) := by
  obtain ⟨n, hn⟩ := Int.eq_ofNat_of_zero_le h.t0
  have h1 := h.t1
  obtain ⟨K, hK⟩ : ∃ K : Nat, K = 1073741825 := ⟨_, rfl⟩
  obtain ⟨c, hc, hi⟩ := store_i n (by omega) x.f1 h.lt h.l1 K (by omega)
  have e : stB x = stored n (strOfNums (packFrom 0 (canons x.f1))) c := by
    unfold stB
    rw [← hK, hn, hi]; rfl
  refine ⟨n, c, hn, by omega, hc, e, fun k hk => ?_⟩
  rw [e, hn]
  exact at_rounds (g := fun k => impl_storeBlock.f k (n : Int) x.f1) (impl_storeBlock.mono _ _) (show K ≤ k by omega) hi
theorem stB_cn (x : BI) (h : okB x) : stB (cnB x) = stB x := by
  have h1 := pack_i x.f1 h.lt (Nat.le_trans h.l1 (by decide)) 1073741825 (by decide)
  have h2 := pack_i (canons x.f1) (canons_lt h.lt) (by rw [canons_len]; exact Nat.le_trans h.l1 (by decide)) 1073741825 (by decide)
  rw [canons2] at h2
  unfold stB cnB
  congr 1
  dsimp only
  generalize (1073741825 : Nat) = K at *
  unfold impl_storeBlock.f
  rw [h1, h2]
theorem stB_size (x : BI) (h : okB x) : (stB x).size = (packFrom 0 (canons x.f1)).length + 12 ∧ (stB x).size ≤ 1292 := by
  obtain ⟨n, c, -, -, -, e, -⟩ := stB_spec x h
  rw [e, stored_size, size_str]
  have := packFrom_len (canons x.f1) 0
  rw [canons_len] at this
  have := h.l1
  omega
attribute [irreducible] stB
theorem head_at (n : Nat) (p : ByteArray) (c : Nat) (i : Nat) (h : i < 10) : bt (stored n p c) (i : Int) = ([86, 79, 88, 49, ((n % 256 : Nat) : Int), ((n / 256 % 256 : Nat) : Int), ((n / 65536 % 256 : Nat) : Int), ((n / 16777216 % 256 : Nat) : Int), ((p.size % 256 : Nat) : Int), ((p.size / 256 % 256 : Nat) : Int)] : List Int)[i]'h := by
  have e : (⟨#[86, 79, 88, 49]⟩ : ByteArray) ++ strOfNums [((n % 256 : Nat) : Int), ((n / 256 % 256 : Nat) : Int), ((n / 65536 % 256 : Nat) : Int), ((n / 16777216 % 256 : Nat) : Int), ((p.size % 256 : Nat) : Int), ((p.size / 256 % 256 : Nat) : Int)] = strOfNums [86, 79, 88, 49, ((n % 256 : Nat) : Int), ((n / 256 % 256 : Nat) : Int), ((n / 65536 % 256 : Nat) : Int), ((n / 16777216 % 256 : Nat) : Int), ((p.size % 256 : Nat) : Int), ((p.size / 256 % 256 : Nat) : Int)] := (str_app [86, 79, 88, 49] _).symm
  unfold stored
  rw [e, ByteArray.append_assoc, bt_left _ _ i (by rw [size_str]; exact h)]
  refine bt_nums [86, 79, 88, 49, ((n % 256 : Nat) : Int), ((n / 256 % 256 : Nat) : Int), ((n / 65536 % 256 : Nat) : Int), ((n / 16777216 % 256 : Nat) : Int), ((p.size % 256 : Nat) : Int), ((p.size / 256 % 256 : Nat) : Int)] ?_ i h
  intro x hx
  simp only [List.mem_cons, List.not_mem_nil, or_false] at hx
  rcases hx with rfl | rfl | rfl | rfl | rfl | rfl | rfl | rfl | rfl | rfl <;> omega
theorem num9 (a b : Nat) (ha : a < 256) (hb : b < 256) : wrap64 ((wrap64 (12 + (wrap64 (a : Int)))) + (wrap64 (256 * (wrap64 (b : Int))))) = ((12 + a + 256 * b : Nat) : Int) := by
  simp (disch := omega) only [w64_id]
  omega
theorem num4 (a b c d : Nat) (ha : a < 256) (hb : b < 256) (hc : c < 256) (hd : d < 256) : wrap64 ((wrap64 ((wrap64 ((wrap64 (a : Int)) + (wrap64 ((wrap64 (b : Int)) * 256)))) + (wrap64 ((wrap64 (c : Int)) * 65536)))) + (wrap64 ((wrap64 (d : Int)) * 16777216))) = ((a + 256 * b + 65536 * c + 16777216 * d : Nat) : Int) := by
  simp (disch := omega) only [w64_id]
  omega
theorem w64i {x : Int} (h0 : 0 ≤ x) (h1 : x < 9000000000000000000) : wrap64 x = x := by unfold wrap64; omega
/-- loading: what is done where the text is long enough -/
theorem load_eq (s : ByteArray) (n t K : Nat) (hn : wrap64 ((wrap64 (12 + (wrap64 (bt s 8)))) + (wrap64 (256 * (wrap64 (bt s 9))))) = (n : Int)) (h12 : 12 ≤ n) (hn2 : n ≤ 65547) (hns : n ≤ s.size) (ht : wrap64 ((wrap64 ((wrap64 ((wrap64 (bt s 4)) + (wrap64 ((wrap64 (bt s 5)) * 256)))) + (wrap64 ((wrap64 (bt s 6)) * 65536)))) + (wrap64 ((wrap64 (bt s 7)) * 16777216))) = (t : Int)) :
    impl_loadBlock.f K s = (impl_unpackValues.f K (s.extract 10 (n - 2))).bind fun b => (if b.2 = true then ((impl_storeBlock.f K (t : Int) b.1).bind fun q => (if q.toList = (s.extract 0 n).toList then (some ((t : Int), b.1, (n : Int), true)) else (some (0, ([] : List Nat), 0, false)))) else (some (0, ([] : List Nat), 0, false))) := by
  have hN : wrap64 ((n : Int) - 2) = ((n - 2 : Nat) : Int) := by rw [w64 (by omega) (by omega)]; omega
  have c1 : ¬ ((s.size : Int) < 12) := by omega
  have c2 : (8 : Int) < (s.size : Int) := by omega
  have c3 : (9 : Int) < (s.size : Int) := by omega
  have c4 : ¬ ((s.size : Int) < (n : Int)) := by omega
  have c5 : (4 : Int) < (s.size : Int) := by omega
  have c6 : (5 : Int) < (s.size : Int) := by omega
  have c7 : (6 : Int) < (s.size : Int) := by omega
  have c8 : (7 : Int) < (s.size : Int) := by omega
  have c9 : (10 : Int) ≤ ((n - 2 : Nat) : Int) := by omega
  have c10 : ((n - 2 : Nat) : Int) ≤ (s.size : Int) := by omega
  have c11 : (0 : Int) ≤ (n : Int) := by omega
  have c12 : (n : Int) ≤ (s.size : Int) := by omega
  have tn : ∀ m : Nat, (m : Int).toNat = m := fun m => Int.toNat_natCast m
  unfold impl_loadBlock.f
  simp only [hn, ht, hN, tn]
  rw [if_neg c1, if_pos c2, if_pos c3, if_neg c4, if_pos c5, if_pos c6, if_pos c7, if_pos c8, if_pos c9, if_pos c10]
  simp only [if_pos c11, if_pos c12]
abbrev noB : Int × List Nat × Int × Bool := (0, ([] : List Nat), 0, false)
/-- a text that begins with a stored block is loaded -/
theorem load_pre (s : ByteArray) (x : BI) (h : okB x) (r : List UInt8) (hd : D s = D (stB x) ++ r) (k : Nat) (hk : 1073741825 ≤ k) :
    impl_loadBlock.f k s = some (x.f0, canons x.f1, ((stB x).size : Int), true) := by
  obtain ⟨t, c, et, ht, hc, e, -⟩ := stB_spec x h
  have hcut : s.extract 0 (stB x).size = stB x := D_inj (by rw [D_to, hd, ← D_len]; exact List.take_left)
  have hns : (stB x).size ≤ s.size := by rw [← D_len s, hd, List.length_append, D_len]; omega
  obtain ⟨hz, hz2⟩ := stB_size x h
  have hp : (strOfNums (packFrom 0 (canons x.f1))).size + 12 = (stB x).size := by rw [size_str, hz]
  have hb : ∀ i : Nat, (hi : i < 10) → bt s (i : Int) = ([86, 79, 88, 49, ((t % 256 : Nat) : Int), ((t / 256 % 256 : Nat) : Int), ((t / 65536 % 256 : Nat) : Int), ((t / 16777216 % 256 : Nat) : Int), (((strOfNums (packFrom 0 (canons x.f1))).size % 256 : Nat) : Int), (((strOfNums (packFrom 0 (canons x.f1))).size / 256 % 256 : Nat) : Int)] : List Int)[i]'hi := by
    intro i hi
    rw [← bt_cut s (stB x).size i (by rw [Int.toNat_natCast]; omega) hns, hcut, e]
    exact head_at _ _ _ i hi
  have b4 := hb 4 (by decide)
  have b5 := hb 5 (by decide)
  have b6 := hb 6 (by decide)
  have b7 := hb 7 (by decide)
  have b8 := hb 8 (by decide)
  have b9 := hb 9 (by decide)
  have hmid : s.extract 10 ((stB x).size - 2) = strOfNums (packFrom 0 (canons x.f1)) := by
    rw [← cut_cut s (stB x).size ((stB x).size - 2) (by omega), hcut, show (stB x).size - 2 = (strOfNums (packFrom 0 (canons x.f1))).size + 10 by omega, e]
    exact stored_mid _ _ _
  clear hb
  generalize strOfNums (packFrom 0 (canons x.f1)) = p at b4 b5 b6 b7 b8 b9 hp
  have hn : wrap64 ((wrap64 (12 + (wrap64 (bt s 8)))) + (wrap64 (256 * (wrap64 (bt s 9))))) = (((stB x).size : Nat) : Int) := by
    rw [show bt s 8 = ((p.size % 256 : Nat) : Int) from b8, show bt s 9 = ((p.size / 256 % 256 : Nat) : Int) from b9]
    rw [num9 _ _ (Nat.mod_lt _ (by decide)) (Nat.mod_lt _ (by decide))]
    omega
  have htt : wrap64 ((wrap64 ((wrap64 ((wrap64 (bt s 4)) + (wrap64 ((wrap64 (bt s 5)) * 256)))) + (wrap64 ((wrap64 (bt s 6)) * 65536)))) + (wrap64 ((wrap64 (bt s 7)) * 16777216))) = (t : Int) := by
    rw [show bt s 4 = ((t % 256 : Nat) : Int) from b4, show bt s 5 = ((t / 256 % 256 : Nat) : Int) from b5, show bt s 6 = ((t / 65536 % 256 : Nat) : Int) from b6, show bt s 7 = ((t / 16777216 % 256 : Nat) : Int) from b7]
    rw [num4 _ _ _ _ (Nat.mod_lt _ (by decide)) (Nat.mod_lt _ (by decide)) (Nat.mod_lt _ (by decide)) (Nat.mod_lt _ (by decide))]
    omega
  have hst : impl_storeBlock.f k (t : Int) (canons x.f1) = some (stB x) := by
    obtain ⟨-, -, -, -, -, -, g⟩ := stB_spec (cnB x) (ok_cn h)
    have g := g k hk
    rw [stB_cn x h] at g
    rw [← et]
    exact g
  rw [load_eq s (stB x).size t k hn (by omega) (by omega) hns htt, hmid, unpack_pack (canons x.f1) (canons_lt h.lt) (by rw [canons_len]; exact h.l0) (by rw [canons_len]; exact h.l1) k (by omega), Option.bind_some, if_pos rfl]
  dsimp only
  rw [hst, Option.bind_some, hcut, if_pos rfl, et]
/-- what is loaded is what the text begins with -/
theorem load_any (s : ByteArray) (hs : s.size ≤ 1048576) : (∀ k, 1073741825 ≤ k → impl_loadBlock.f k s = some noB) ∨
    ∃ x : BI, okB x ∧ (stB x).size ≤ s.size ∧ stB x = s.extract 0 (stB x).size ∧ ∀ k, 1073741825 ≤ k → impl_loadBlock.f k s = some (x.f0, x.f1, ((stB x).size : Int), true) := by
  obtain ⟨n, hn, h12, h65⟩ := n_some s
  by_cases c : n ≤ s.size
  · obtain ⟨t, ht, ht1, -⟩ := time_some s
    obtain ⟨u, hu, hlt, huk⟩ := unpack_tot (s.extract 10 (n - 2)) (by rw [ByteArray.size_extract]; omega)
    have hL := fun K => load_eq s n t K hn h12 h65 c ht1
    by_cases g : u.2 = true
    · have hx : okB (⟨(t : Int), u.1⟩ : BI) := ⟨Int.natCast_nonneg _, by show (t : Int) < 4294967296; omega, (hu g).1, (hu g).2, hlt⟩
      obtain ⟨-, -, -, -, -, -, hst⟩ := stB_spec _ hx
      by_cases e : (stB (⟨(t : Int), u.1⟩ : BI)).toList = (s.extract 0 n).toList
      · have e2 := list_inj e
        have e3 : (stB (⟨(t : Int), u.1⟩ : BI)).size = n := by rw [e2, ByteArray.size_extract]; omega
        refine .inr ⟨⟨(t : Int), u.1⟩, hx, by omega, by rw [e3]; exact e2, fun k hk => ?_⟩
        have h4 : impl_storeBlock.f k (t : Int) u.1 = _ := hst k hk
        rw [hL, huk k (by omega), Option.bind_some, if_pos g, h4, Option.bind_some, if_pos e, e3]
      · refine .inl fun k hk => ?_
        have h4 : impl_storeBlock.f k (t : Int) u.1 = _ := hst k hk
        rw [hL, huk k (by omega), Option.bind_some, if_pos g, h4, Option.bind_some, if_neg e]
    · refine .inl fun k hk => ?_
      rw [hL, huk k (by omega), Option.bind_some, if_neg g]
  · left
    intro k hk
    unfold impl_loadBlock.f
    by_cases d : (s.size : Int) < 12
    · rw [if_pos d]
    · rw [if_neg d, if_pos (by omega), if_pos (by omega), hn, if_pos (by omega)]
/-- a stored block that is cut is not loaded -/
theorem load_short (s : ByteArray) (x : BI) (h : okB x) (hd : D s = (D (stB x)).take s.size) (hl : s.size < (stB x).size) (k : Nat) : impl_loadBlock.f k s = some noB := by
  unfold impl_loadBlock.f
  by_cases d : (s.size : Int) < 12
  · rw [if_pos d]
  · obtain ⟨t, c, et, ht, hc, e, -⟩ := stB_spec x h
    obtain ⟨hz, hz2⟩ := stB_size x h
    have hp : (strOfNums (packFrom 0 (canons x.f1))).size + 12 = (stB x).size := by rw [size_str, hz]
    have hcut : s = (stB x).extract 0 s.size := D_inj (by rw [D_to]; exact hd)
    have hb : ∀ i : Nat, (hi : i < 10) → bt s (i : Int) = ([86, 79, 88, 49, ((t % 256 : Nat) : Int), ((t / 256 % 256 : Nat) : Int), ((t / 65536 % 256 : Nat) : Int), ((t / 16777216 % 256 : Nat) : Int), (((strOfNums (packFrom 0 (canons x.f1))).size % 256 : Nat) : Int), (((strOfNums (packFrom 0 (canons x.f1))).size / 256 % 256 : Nat) : Int)] : List Int)[i]'hi := by
      intro i hi
      rw [hcut, bt_cut (stB x) s.size i (by rw [Int.toNat_natCast]; omega) (by omega), e]
      exact head_at _ _ _ i hi
    have b8 := hb 8 (by decide)
    have b9 := hb 9 (by decide)
    clear hb
    generalize strOfNums (packFrom 0 (canons x.f1)) = p at b8 b9 hp
    have hn : wrap64 ((wrap64 (12 + (wrap64 (bt s 8)))) + (wrap64 (256 * (wrap64 (bt s 9))))) = (((stB x).size : Nat) : Int) := by
      rw [show bt s 8 = ((p.size % 256 : Nat) : Int) from b8, show bt s 9 = ((p.size / 256 % 256 : Nat) : Int) from b9]
      rw [num9 _ _ (Nat.mod_lt _ (by decide)) (Nat.mod_lt _ (by decide))]
      omega
    rw [if_neg d, if_pos (by omega), if_pos (by omega), hn, if_pos (by omega)]
/-- blocks, stored one after another -/
def cat : List BI → ByteArray
  | [] => ⟨#[]⟩
  | x :: r => stB x ++ cat r
theorem cat_app : ∀ (a b : List BI), cat (a ++ b) = cat a ++ cat b
  | [], b => by rw [List.nil_append, cat]; exact D_inj (by rw [D_app]; rfl)
  | x :: a, b => by rw [List.cons_append, cat, cat, cat_app a b, ByteArray.append_assoc]
theorem cat_one (x : BI) : cat [x] = stB x := by rw [cat, cat]; exact D_inj (by rw [D_app]; exact List.append_nil _)
theorem cat_cn : ∀ l : List BI, (∀ x ∈ l, okB x) → cat (l.map cnB) = cat l
  | [], _ => rfl
  | x :: r, h => by rw [List.map_cons, cat, cat, stB_cn x (h x List.mem_cons_self), cat_cn r (fun y hy => h y (List.mem_cons_of_mem _ hy))]
theorem cat_size : ∀ l : List BI, (∀ x ∈ l, okB x) → (cat l).size ≤ 1292 * l.length
  | [], _ => Nat.zero_le _
  | x :: r, h => by
    have h1 := (stB_size x (h x List.mem_cons_self)).2
    have h2 := cat_size r (fun y hy => h y (List.mem_cons_of_mem _ hy))
    rw [cat, ByteArray.size_append, List.length_cons]; omega
theorem cat_snoc (l : List BI) (i : Nat) (h : i < l.length) : cat (l.take (i + 1)) = cat (l.take i) ++ stB l[i] := by
  rw [List.take_succ_eq_append_getElem h, cat_app, cat_one]
theorem cat_mono (l : List BI) {i j : Nat} (h : i ≤ j) : (cat (l.take i)).size ≤ (cat (l.take j)).size := by
  have : l.take j = l.take i ++ (l.take j).drop i := by
    conv => lhs; rw [← List.take_append_drop i (l.take j)]
    rw [List.take_take, Nat.min_eq_left h]
  rw [this, cat_app, ByteArray.size_append]; omega
theorem rec_no (k : Nat) (s : ByteArray) (xs : List BI) (i : Nat) (hi : i ≤ s.size) (h : impl_loadBlock.f k (s.extract i s.size) = some noB) : impl_RecoverBlocks.l0 (k + 1) s xs (i : Int) = some (xs, (i : Int), true) := by
  rw [impl_RecoverBlocks.l0]
  by_cases c : (xs.length : Int) < 8
  · rw [if_pos c, if_pos (by omega), if_pos (by omega), Int.toNat_natCast, h, Option.bind_some, if_neg (by decide)]
  · rw [if_neg c]
theorem rec_full (k : Nat) (s : ByteArray) (xs : List BI) (i : Nat) (h : ¬ xs.length < 8) : impl_RecoverBlocks.l0 (k + 1) s xs (i : Int) = some (xs, (i : Int), true) := by
  rw [impl_RecoverBlocks.l0, if_neg (by omega)]
theorem rec_yes (k : Nat) (s : ByteArray) (hs : s.size ≤ 1048576) (xs : List BI) (i : Nat) (hi : i ≤ s.size) (hl : xs.length < 8) (t : Int) (l : List Nat) (n : Nat) (hn : i + n ≤ s.size) (h : impl_loadBlock.f k (s.extract i s.size) = some (t, l, (n : Int), true)) : impl_RecoverBlocks.l0 (k + 1) s xs (i : Int) = impl_RecoverBlocks.l0 k s (xs ++ [⟨t, l⟩]) ((i + n : Nat) : Int) := by
  have e1 : wrap64 ((i : Int) + (n : Int)) = ((i + n : Nat) : Int) := by rw [w64 (by omega) (by omega)]; omega
  rw [impl_RecoverBlocks.l0, if_pos (by omega), if_pos (by omega), if_pos (by omega), Int.toNat_natCast, h, Option.bind_some, if_pos rfl]
  dsimp only
  rw [if_pos (by omega), e1]
/-- whole blocks are recovered -/
theorem rec_pre (s : ByteArray) (hs : s.size ≤ 1048576) : ∀ (ys xs : List BI) (i k : Nat) (r : List UInt8), (∀ y ∈ ys, okB y) → xs.length + ys.length ≤ 8 → i ≤ s.size → (D s).drop i = D (cat ys) ++ r → 1073741825 ≤ k →
    impl_RecoverBlocks.l0 (k + ys.length) s xs (i : Int) = impl_RecoverBlocks.l0 k s (xs ++ ys.map cnB) ((i + (cat ys).size : Nat) : Int) ∧ i + (cat ys).size ≤ s.size ∧ (D s).drop (i + (cat ys).size) = r
  | [], xs, i, k, r, ho, hl, hi, hd, hk => by
    have h0 : (cat []).size = 0 := rfl
    have h1 : D (cat []) = [] := rfl
    rw [h1, List.nil_append] at hd
    rw [List.map_nil, List.append_nil, h0, Nat.add_zero]
    exact ⟨rfl, hi, hd⟩
  | y :: ys, xs, i, k, r, ho, hl, hi, hd, hk => by
    rw [List.length_cons] at hl
    have hy := ho y List.mem_cons_self
    rw [cat, D_app, List.append_assoc] at hd
    have hle : i + (stB y).size ≤ s.size := by
      have := congrArg List.length hd
      rw [List.length_drop, List.length_append, D_len, D_len] at this
      omega
    have hld := load_pre (s.extract i s.size) y hy _ (by rw [D_from]; exact hd) (k + ys.length) (by omega)
    have hd2 : (D s).drop (i + (stB y).size) = D (cat ys) ++ r := by
      rw [← List.drop_drop, hd, ← D_len]; exact List.drop_left
    obtain ⟨g1, g2, g3⟩ := rec_pre s hs ys (xs ++ [cnB y]) (i + (stB y).size) k r (fun z hz => ho z (List.mem_cons_of_mem _ hz)) (by rw [List.length_append, List.length_singleton]; omega) hle hd2 hk
    have hz : (cat (y :: ys)).size = (stB y).size + (cat ys).size := by rw [cat, ByteArray.size_append]
    rw [hz, ← Nat.add_assoc]
    refine ⟨?_, g2, g3⟩
    rw [List.length_cons, ← Nat.add_assoc, rec_yes (k + ys.length) s hs xs i hi (by omega) _ _ _ hle hld, List.map_cons]
    rw [List.append_assoc] at g1
    exact g1
theorem rec_stop (s : ByteArray) (xs : List BI) (i : Nat) (hi : i = s.size) (k : Nat) : impl_RecoverBlocks.l0 (k + 1) s xs (i : Int) = some (xs, (i : Int), true) := by
  refine rec_no k s xs i (by omega) ?_
  unfold impl_loadBlock.f
  rw [if_pos (by rw [ByteArray.size_extract]; omega)]
theorem rec_whole (l : List BI) (h : ∀ x ∈ l, okB x) (h8 : l.length ≤ 8) (k : Nat) (hk : 1073741840 ≤ k) : impl_RecoverBlocks.f k (cat l) = some (l.map cnB, ((cat l).size : Int), true) := by
  have hz := cat_size l h
  obtain ⟨K, hK⟩ : ∃ K : Nat, K = 1073741825 := ⟨_, rfl⟩
  obtain ⟨g1, -, -⟩ := rec_pre (cat l) (by omega) l [] 0 (K + 1) [] h (by rw [List.length_nil]; omega) (Nat.zero_le _) (by rw [List.drop_zero, List.append_nil]) (by omega)
  rw [rec_stop (cat l) _ _ (by omega) K, Nat.zero_add, List.nil_append] at g1
  exact at_rounds (g := fun k => impl_RecoverBlocks.f k (cat l)) (impl_RecoverBlocks.mono _) (show K + 1 + l.length ≤ k by omega) g1
theorem D_cat_take (l : List BI) (j : Nat) : D (cat l) = D (cat (l.take j)) ++ D (cat (l.drop j)) := by
  rw [← D_app, ← cat_app, List.take_append_drop]
/-- of blocks that are cut, all whole ones are recovered -/
theorem rec_cut (l : List BI) (h : ∀ x ∈ l, okB x) (h8 : l.length ≤ 8) (m j : Nat) (hm : m < (cat l).size) (hj : j < l.length) (h1 : (cat (l.take j)).size ≤ m) (h2 : m < (cat (l.take (j + 1))).size) (k : Nat) (hk : 1073741840 ≤ k) :
    impl_RecoverBlocks.f k ((cat l).extract 0 m) = some ((l.take j).map cnB, ((cat (l.take j)).size : Int), true) := by
  have hz := cat_size l h
  have hsz : ((cat l).extract 0 m).size = m := by rw [ByteArray.size_extract]; omega
  obtain ⟨K, hK⟩ : ∃ K : Nat, K = 1073741825 := ⟨_, rfl⟩
  have hx := h _ (List.getElem_mem hj)
  have hs1 : (cat (l.take (j + 1))).size = (cat (l.take j)).size + (stB l[j]).size := by rw [cat_snoc l j hj, ByteArray.size_append]
  have hdl : D (cat l) = D (cat (l.take j)) ++ (D (stB l[j]) ++ D (cat (l.drop (j + 1)))) := by
    rw [D_cat_take l (j + 1), cat_snoc l j hj, D_app, List.append_assoc]
  have hl1 : (D (cat (l.take j))).length = (cat (l.take j)).size := D_len _
  have hl2 : (D (stB l[j])).length = (stB l[j]).size := D_len _
  have hd : (D ((cat l).extract 0 m)).drop 0 = D (cat (l.take j)) ++ (D (stB l[j])).take (m - (cat (l.take j)).size) := by
    rw [List.drop_zero, D_to, hdl, List.take_append, List.take_of_length_le (by omega), hl1, List.take_append, hl2]
    rw [show m - (cat (l.take j)).size - (stB l[j]).size = 0 by omega, List.take_zero, List.append_nil]
  obtain ⟨g1, g2, g3⟩ := rec_pre ((cat l).extract 0 m) (by omega) (l.take j) [] 0 (K + 1) _ (fun x hx => h x (List.mem_of_mem_take hx)) (by rw [List.length_nil, List.length_take]; omega) (Nat.zero_le _) hd (by omega)
  rw [Nat.zero_add] at g2 g3 g1
  have hts : (((cat l).extract 0 m).extract (cat (l.take j)).size ((cat l).extract 0 m).size).size = m - (cat (l.take j)).size := by rw [ByteArray.size_extract]; omega
  rw [rec_no K _ _ _ g2 (load_short _ l[j] hx (by rw [D_from, g3, hts]) (by rw [hts]; omega) K), List.nil_append] at g1
  exact at_rounds (g := fun k => impl_RecoverBlocks.f k ((cat l).extract 0 m)) (impl_RecoverBlocks.mono _) (show K + 1 + (l.take j).length ≤ k by rw [List.length_take]; omega) g1
/-- whatever is recovered is what the text begins with -/
theorem rec_inv (s : ByteArray) (hs : s.size ≤ 1048576) : ∀ (d : Nat) (xs : List BI) (i : Nat), xs.length + d = 8 → (∀ x ∈ xs, okB x) → i ≤ s.size → i = (cat xs).size → D (cat xs) = (D s).take i →
    ∃ (r : List BI) (o : Nat), r.length ≤ 8 ∧ xs.length ≤ r.length ∧ (∀ x ∈ r, okB x) ∧ o ≤ s.size ∧ D (cat r) = (D s).take o ∧ ∀ k, 1073741826 + d ≤ k → impl_RecoverBlocks.l0 k s xs (i : Int) = some (r, (o : Int), true)
  | 0, xs, i, hd, ho, hi, he, hD => by
    refine ⟨xs, i, by omega, Nat.le_refl _, ho, hi, hD, fun k hk => ?_⟩
    obtain ⟨k, rfl⟩ : ∃ q, k = q + 1 := ⟨k - 1, by omega⟩
    exact rec_full k s xs i (by omega)
  | d + 1, xs, i, hd, ho, hi, he, hD => by
    rcases load_any (s.extract i s.size) (by rw [ByteArray.size_extract]; omega) with h | ⟨x, hx, h1, h2, h3⟩
    · refine ⟨xs, i, by omega, Nat.le_refl _, ho, hi, hD, fun k hk => ?_⟩
      obtain ⟨k, rfl⟩ : ∃ q, k = q + 1 := ⟨k - 1, by omega⟩
      exact rec_no k s xs i hi (h k (by omega))
    · have h1' : i + (stB x).size ≤ s.size := by rw [ByteArray.size_extract] at h1; omega
      have hx2 : D (stB x) = ((D s).drop i).take (stB x).size := by
        rw [← D_from, ← D_to]; exact congrArg D h2
      have hc : cat (xs ++ [x]) = cat xs ++ stB x := by rw [cat_app, cat_one]
      obtain ⟨r, o, r1, r2, r3, r4, r5, r6⟩ := rec_inv s hs d (xs ++ [x]) (i + (stB x).size) (by rw [List.length_append, List.length_singleton]; omega) (fun y hy => by
        rcases List.mem_append.1 hy with h | h
        · exact ho y h
        · rw [List.mem_singleton.1 h]; exact hx) h1' (by rw [hc, ByteArray.size_append]; omega) (by
        rw [hc, D_app, hD, hx2, List.take_add])
      refine ⟨r, o, r1, by rw [List.length_append] at r2; omega, r3, r4, r5, fun k hk => ?_⟩
      obtain ⟨k, rfl⟩ : ∃ q, k = q + 1 := ⟨k - 1, by omega⟩
      rw [rec_yes k s hs xs i hi (by omega) _ _ _ h1' (h3 k (by omega))]
      exact r6 k (by omega)
/-- of bytes that begin with whole blocks, these at least are recovered -/
theorem rec_bent (s : ByteArray) (hs : s.size ≤ 1048576) (l : List BI) (h : ∀ x ∈ l, okB x) (h8 : l.length ≤ 8) (r0 : List UInt8) (hd : D s = D (cat l) ++ r0) :
    ∃ (r : List BI) (o : Nat), r.length ≤ 8 ∧ l.length ≤ r.length ∧ (∀ x ∈ r, okB x) ∧ o ≤ s.size ∧ cat r = s.extract 0 o ∧ ∀ k, 1073741850 ≤ k → impl_RecoverBlocks.f k s = some (r, (o : Int), true) := by
  have hz : (cat l).size ≤ s.size := by rw [← D_len s, hd, List.length_append, D_len]; omega
  obtain ⟨r, o, r1, r2, r3, r4, r5, r6⟩ := rec_inv s hs (8 - l.length) (l.map cnB) (cat l).size (by rw [List.length_map]; omega) (fun x hx => by
    obtain ⟨y, hy, rfl⟩ := List.mem_map.1 hx
    exact ok_cn (h y hy)) hz (by rw [cat_cn l h]) (by rw [cat_cn l h, hd, ← D_len]; exact List.take_left.symm)
  refine ⟨r, o, r1, by rw [List.length_map] at r2; exact r2, r3, r4, D_inj (by rw [D_to]; exact r5), fun k hk => ?_⟩
  obtain ⟨K, hK⟩ : ∃ K : Nat, K = k - l.length := ⟨_, rfl⟩
  obtain ⟨g1, -, -⟩ := rec_pre s hs l [] 0 K r0 h (by rw [List.length_nil]; omega) (Nat.zero_le _) (by rw [List.drop_zero]; exact hd) (by omega)
  have e : K + l.length = k := by omega
  rw [e, Nat.zero_add, List.nil_append, r6 K (by omega)] at g1
  exact g1
theorem rdB_in {l : List BI} {i : Nat} (h : i < l.length) : rd_T28 l (i : Int) = l[i]'h := by
  unfold rd_T28
  rw [Int.toNat_natCast, List.getD_eq_getElem?_getD, List.getElem?_eq_getElem h]; rfl
theorem valid_i (x : BI) (h : okB x) : impl_ValidBlock.f x.f0 x.f1 = some true := by
  have h1 := h.t0
  have h2 := h.t1
  have h3 := h.l0
  have h4 := h.l1
  unfold impl_ValidBlock.f impl_within.f
  rw [if_pos (by omega), Option.bind_some, if_pos (decide_eq_true (by omega)), if_pos (by omega)]
  rw [decide_eq_true (by omega)]
  rfl
theorem valid_f (x : BI) (hb : ∀ y ∈ x.f1, y < 4294967296) : okB x ∨ impl_ValidBlock.f x.f0 x.f1 = some false := by
  by_cases c : 0 ≤ x.f0 ∧ x.f0 < 4294967296 ∧ 1 ≤ x.f1.length ∧ x.f1.length ≤ 256
  · exact .inl ⟨c.1, c.2.1, c.2.2.1, c.2.2.2, hb⟩
  · right
    unfold impl_ValidBlock.f impl_within.f
    by_cases c1 : x.f0 ≥ 0
    · rw [if_pos c1, Option.bind_some]
      by_cases c2 : x.f0 ≤ 4294967295
      · rw [if_pos (decide_eq_true c2)]
        by_cases c3 : (x.f1.length : Int) ≥ 1
        · rw [if_pos c3, decide_eq_false (by omega)]; rfl
        · rw [if_neg c3]; rfl
      · rw [if_neg (by rw [decide_eq_false c2]; decide)]
    · rw [if_neg c1, Option.bind_some, if_neg (by decide)]
theorem StoreBlock_i (x : BI) (h : okB x) (k : Nat) (hk : 1073741825 ≤ k) : impl_StoreBlock.f k x.f0 x.f1 = some (stB x, true) := by
  obtain ⟨-, -, -, -, -, -, hs⟩ := stB_spec x h
  unfold impl_StoreBlock.f
  rw [valid_i x h, Option.bind_some, if_pos rfl, hs k hk]; rfl
theorem LoadBlock_i (x : BI) (h : okB x) (k : Nat) (hk : 1073741825 ≤ k) : impl_LoadBlock.f k (stB x) = some (x.f0, canons x.f1, true) := by
  unfold impl_LoadBlock.f
  rw [load_pre (stB x) x h [] (by rw [List.append_nil]) k hk, Option.bind_some, if_pos rfl]
  dsimp only
  rw [if_pos rfl]
theorem StoreBlocks_l (l : List BI) (h : ∀ x ∈ l, okB x) (h8 : l.length ≤ 8) : ∀ (d k i : Nat), i + d = l.length → 1073741825 + d ≤ k → impl_StoreBlocks.l0 (k + 1) (cat (l.take i)) l (l.length : Int) (i : Int) = some (cat l, true)
  | 0, k, i, hd, hk => by
    rw [impl_StoreBlocks.l0, if_neg (by omega), List.take_of_length_le (by omega)]
  | d + 1, 0, i, hd, hk => by omega
  | d + 1, k + 1, i, hd, hk => by
    have hi : i < l.length := by omega
    have hx := h _ (List.getElem_mem hi)
    obtain ⟨-, -, -, -, -, -, hs⟩ := stB_spec _ hx
    have hz := cat_size (l.take i) (fun x hx => h x (List.mem_of_mem_take hx))
    have hz2 := (stB_size _ hx).2
    rw [List.length_take] at hz
    have e1 : wrap64 ((i : Int) + 1) = ((i + 1 : Nat) : Int) := by rw [w64 (by omega) (by omega)]; omega
    rw [impl_StoreBlocks.l0, if_pos (by omega), if_pos (by omega), if_pos (by omega), rdB_in hi, valid_i _ hx, Option.bind_some, if_pos rfl, hs (k + 1) (by omega), Option.bind_some, if_pos (by omega), e1, ← cat_snoc l i hi]
    exact StoreBlocks_l l h h8 d k (i + 1) (by omega) (by omega)
theorem StoreBlocks_i (l : List BI) (h : ∀ x ∈ l, okB x) (h8 : l.length ≤ 8) (k : Nat) (hk : 1073741840 ≤ k) : impl_StoreBlocks.f k l = some (cat l, true) := by
  obtain ⟨k, rfl⟩ : ∃ q, k = q + 1 := ⟨k - 1, by omega⟩
  unfold impl_StoreBlocks.f
  rw [if_neg (by omega)]
  exact StoreBlocks_l l h h8 l.length k 0 (by omega) (by omega)
end Go.Proofs.Ythnjgcdajjodjaa.StdPure2
