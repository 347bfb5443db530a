/- What the printed functions of StoreBlocks come to: both make the same bytes. -/
import Derived.Test.YtgiednkailakgaaPFnExactStoreBlocksx4
import Derived.Test.YtgiednkailakgaaOb
import Derived.Test.YtgiednkailakgaaB3
set_option linter.unusedVariables false
set_option linter.unusedSimpArgs false
namespace Go.Proofs.Ytgiednkailakgaa.SsPure
open Go.RowKit Go.Proofs.YtgiednkailakgaaW.PrintWords Go.Proofs.YtgiednkailakgaaW.PrintFl Go.Proofs.Ytgiednkailakgaa.PFnExactStoreBlocks
theorem szF_some (l : List Nat) (hl : l.length ≤ 9223372036854775807) (a : Int) (ha : 0 ≤ a) (hb : a ≤ 1048576) : ∃ r, laws_szFloat32S.f l a = some r ∧ (r < 0 ∨ 0 ≤ r ∧ r ≤ 1048576 ∧ l.length ≤ 1048576) := by
  unfold laws_szFloat32S.f
  rw [w64 (x := a - l.length) (by omega) (by omega)]
  split
  · exact ⟨_, rfl, .inl (by omega)⟩
  · exact ⟨_, rfl, .inr (by omega)⟩
theorem toFl_some (l : List Nat) (hl : l.length ≤ 1048576) : ∀ (k : Nat) (ys : List Nat) (i : Nat), i ≤ l.length → l.length - i < k → ys.length = l.length → ys.take i = l.take i → laws_toFloat32S.l0 k l ys (i : Int) = some l
  | 0, ys, i, h1, hk, hy, ht => by omega
  | k + 1, ys, i, h1, hk, hy, ht => by
    unfold laws_toFloat32S.l0
    by_cases c : (i : Int) < (l.length : Int)
    · rw [if_pos c, if_pos (by omega), if_pos (by omega), w64 (by omega) (by omega)]
      have e : ((i : Int) + 1) = ((i + 1 : Nat) : Int) := by omega
      rw [e]
      refine toFl_some l hl k _ (i + 1) (by omega) (by omega) (by rw [List.length_set]; exact hy) ?_
      have hil : i < l.length := by omega
      show (ys.set ((i : Int)).toNat (rdOf 0 l (i : Int))).take (i + 1) = _
      rw [Int.toNat_natCast]
      refine take_set_succ hil hy ht ?_
      unfold rdOf
      rw [Int.toNat_natCast, List.getD_eq_getElem?_getD, List.getElem?_eq_getElem hil]
      rfl
    · rw [if_neg c]
      have : i = l.length := by omega
      subst this
      rw [List.take_length, List.take_of_length_le (by omega)] at ht
      rw [ht]
theorem toF_some (l : List Nat) (hl : l.length ≤ 1048576) (k : Nat) (hk : 1048577 ≤ k) : laws_toFloat32S.f k l = some l := by
  unfold laws_toFloat32S.f
  rw [if_pos (by omega), if_pos (by omega)]
  exact toFl_some l hl k _ 0 (by omega) (by omega) (by rw [List.length_replicate]; omega) rfl
theorem eqF_some (l : List Nat) (hl : l.length ≤ 1048576) (hb : ∀ x ∈ l, x < 4294967296) : laws_eqFloat32S.f l l = some true := by
  unfold laws_eqFloat32S.f
  rw [if_pos ⟨rfl, hl, hb⟩]
theorem szB_some (t : Int) (l : List Nat) (hl : l.length ≤ 9223372036854775807) (a : Int) (ha : 0 ≤ a) (hb : a ≤ 1048576) : ∃ r, laws_szBlock.f t l a = some r ∧ (r < 0 ∨ 0 ≤ r ∧ r ≤ 1048576 ∧ l.length ≤ 1048576) := by
  obtain ⟨r, hr, h⟩ := szF_some l hl a ha hb
  unfold laws_szBlock.f
  rw [hr, Option.bind_some]
  split
  · exact ⟨_, rfl, .inl (by omega)⟩
  · exact ⟨_, rfl, h⟩
theorem toB_some (t : Int) (l : List Nat) (hl : l.length ≤ 1048576) (k : Nat) (hk : 1048577 ≤ k) : laws_toBlock.f k t l = some (t, l) := by
  unfold laws_toBlock.f
  rw [toF_some l hl k hk]
  rfl
theorem eqB_some (t : Int) (l : List Nat) (hl : l.length ≤ 1048576) (hb : ∀ x ∈ l, x < 4294967296) : laws_eqBlock.f t l t l = some true := by
  unfold laws_eqBlock.f
  rw [if_pos rfl, eqF_some l hl hb, Option.bind_some, if_pos rfl]
theorem bits_s (x : Nat) (hx : x < 4294967296) : spec_l01Bits.f x = some ((cn .f32 x : Nat) : Int) := by
  unfold spec_l01Bits.f cn
  rw [fne_self]
  split
  · rfl
  · rw [w64 (by omega) (by omega)]
theorem bits_i (x : Nat) (hx : x < 4294967296) : impl_BitsOf.f x = some ((cn .f32 x : Nat) : Int) := bits_s x hx
theorem vb_step_hi {n : Nat} (h : ¬ n < 128) (hn : n < 4294967296) : (wrap64 (Int.tmod (n : Int) 128 + 128)) % 256 = ((n % 128 + 128 : Nat) : Int) ∧ wrap64 (Int.tdiv (n : Int) 128) = ((n / 128 : Nat) : Int) := by
  have h1 : Int.tmod (n : Int) 128 = ((n % 128 : Nat) : Int) := by rw [Int.tmod_eq_emod_of_nonneg (by omega)]; omega
  have h2 : Int.tdiv (n : Int) 128 = ((n / 128 : Nat) : Int) := by rw [Int.tdiv_eq_ediv_of_nonneg (by omega)]; omega
  rw [h1, h2]
  refine ⟨?_, w64 (by omega) (by omega)⟩
  rw [w64 (by omega) (by omega)]
  omega
theorem bytes_s (m : Nat) : ∀ (k : Nat) (xs : List Int) (n : Nat), n < 4294967296 → n < 128 ^ (m + 1) → m < k → xs.length + m < 140737488355328 → spec_l07Bytes.l0 k xs (n : Int) = some (xs ++ vb n) := by
  induction m with
  | zero =>
    intro k xs n h32 hn hk hl
    have c : n < 128 := by simpa using hn
    obtain ⟨k, rfl⟩ : ∃ q, k = q + 1 := ⟨k - 1, by omega⟩
    unfold spec_l07Bytes.l0
    rw [if_neg (by omega), if_pos (by omega), vb_small c]
    have : (n : Int) % 256 = n := by omega
    rw [this]
  | succ m ih =>
    intro k xs n h32 hn hk hl
    obtain ⟨k, rfl⟩ : ∃ q, k = q + 1 := ⟨k - 1, by omega⟩
    unfold spec_l07Bytes.l0
    by_cases c : n < 128
    · rw [if_neg (by omega), if_pos (by omega), vb_small c]
      have : (n : Int) % 256 = n := by omega
      rw [this]
    · obtain ⟨e1, e2⟩ := vb_step_hi c h32
      have hn2 : n / 128 < 128 ^ (m + 1) := by rw [Nat.div_lt_iff_lt_mul (by decide)]; rw [Nat.pow_succ] at hn; exact hn
      clear hn
      rw [if_pos (by omega), if_pos (by omega), e1, e2, ih k _ (n / 128) (by omega) hn2 (by omega) (by rw [List.length_append, List.length_singleton]; omega), vb_big c, List.append_assoc]
      rfl
theorem bytes_i (x4 : Int) (l : List Nat) (a i : Int) (m : Nat) : ∀ (k : Nat) (xs : List Int) (n : Nat), n < 4294967296 → n < 128 ^ (m + 1) → xs.length + m < 140737488355328 →
    impl_packValues.l1 (k + (vb n).length) xs x4 (n : Int) l a i = impl_packValues.l0 k (xs ++ vb n) x4 l a (wrap64 (i + 1)) := by
  induction m with
  | zero =>
    intro k xs n h32 hn hl
    have c : n < 128 := by simpa using hn
    rw [vb_small c]
    show impl_packValues.l1 (k + 1) xs x4 (n : Int) l a i = _
    unfold impl_packValues.l1
    rw [if_neg (by omega), if_pos (by omega)]
    have : (n : Int) % 256 = n := by omega
    rw [this]
  | succ m ih =>
    intro k xs n h32 hn hl
    by_cases c : n < 128
    · rw [vb_small c]
      show impl_packValues.l1 (k + 1) xs x4 (n : Int) l a i = _
      unfold impl_packValues.l1
      rw [if_neg (by omega), if_pos (by omega)]
      have : (n : Int) % 256 = n := by omega
      rw [this]
    · obtain ⟨e1, e2⟩ := vb_step_hi c h32
      have hn2 : n / 128 < 128 ^ (m + 1) := by rw [Nat.div_lt_iff_lt_mul (by decide)]; rw [Nat.pow_succ] at hn; exact hn
      clear hn
      rw [vb_big c, List.length_cons]
      show impl_packValues.l1 ((k + (vb (n / 128)).length) + 1) xs x4 (n : Int) l a i = _
      unfold impl_packValues.l1
      rw [if_pos (by omega), if_pos (by omega), e1, e2, ih k _ (n / 128) (by omega) hn2 (by rw [List.length_append, List.length_singleton]; omega), List.append_assoc]
      rfl
def canons (l : List Nat) : List Nat := l.map (cn .f32)
theorem canons_len (l : List Nat) : (canons l).length = l.length := by unfold canons; rw [List.length_map]
theorem canons_lt {l : List Nat} (hb : ∀ x ∈ l, x < 4294967296) : ∀ x ∈ canons l, x < 4294967296 := by
  intro x hx
  obtain ⟨y, hy, rfl⟩ := List.mem_map.1 hx
  exact cn_lt (hb y hy)
theorem canons_at {l : List Nat} {i : Nat} (hi : i < l.length) : (canons l)[i]'(by rw [canons_len]; exact hi) = cn .f32 (rdOf (0 : Nat) l (i : Int)) := by
  unfold canons rdOf
  rw [List.getElem_map, Int.toNat_natCast, List.getD_eq_getElem?_getD, List.getElem?_eq_getElem hi]
  rfl
theorem rdl_lt {l : List Nat} (h : ∀ x ∈ l, x < 4294967296) (i : Int) : rdOf (0 : Nat) l i < 4294967296 := by
  unfold rdOf
  rw [List.getD_eq_getElem?_getD]
  rcases hh : l[i.toNat]? with _ | x
  · decide
  · exact h x (List.mem_of_getElem? hh)
theorem packl_s (l : List Nat) (hb : ∀ x ∈ l, x < 4294967296) (hl : l.length ≤ 1048576) : ∀ (k : Nat) (i : Nat), i ≤ l.length → l.length - i + 5 < k →
    spec_l07Pack.l0 k l (packFrom 0 ((canons l).take i)) ((lastOf 0 ((canons l).take i) : Nat) : Int) (l.length : Int) (i : Int) = some (strOfNums (packFrom 0 (canons l)))
  | 0, i, h1, hk => by omega
  | k + 1, i, h1, hk => by
    unfold spec_l07Pack.l0
    by_cases c : i < l.length
    · have hx := rdl_lt hb (i : Int)
      have hp := lastOf_lt ((canons l).take i) 4294967296 0 (by decide) (fun x hx => canons_lt hb x (List.mem_of_mem_take hx))
      have hq : cn .f32 (rdOf (0 : Nat) l (i : Int)) < 4294967296 := cn_lt hx
      have hlen := packFrom_len ((canons l).take i) 0
      have hlen2 : ((canons l).take i).length ≤ l.length := by rw [List.length_take, canons_len]; omega
      have hz := zig_lt (lastOf 0 ((canons l).take i)) (cn .f32 (rdOf (0 : Nat) l (i : Int)))
      have hz5 := zig_lt5 (lastOf 0 ((canons l).take i)) (cn .f32 (rdOf (0 : Nat) l (i : Int)))
      have hstep : packFrom 0 ((canons l).take i) ++ vb (zig (lastOf 0 ((canons l).take i)) (cn .f32 (rdOf (0 : Nat) l (i : Int)))) = packFrom 0 ((canons l).take (i + 1)) := by
        rw [packFrom_take (by rw [canons_len]; exact c), canons_at c]
      have hlast : lastOf 0 ((canons l).take (i + 1)) = cn .f32 (rdOf (0 : Nat) l (i : Int)) := by
        rw [lastOf_take (by rw [canons_len]; exact c), canons_at c]
      have ih := packl_s l hb hl k (i + 1) (by omega) (by omega)
      rw [hlast] at ih
      rw [if_pos (by omega), if_pos (by omega), if_pos (by omega), bits_s _ hx, Option.bind_some, w64 (x := (i : Int) + 1) (by omega) (by omega)]
      have e : ((i : Int) + 1) = ((i + 1 : Nat) : Int) := by omega
      rw [e]
      split
      · rename_i hh
        rw [zig_hi _ _ hq hp hh]
        unfold spec_l07Bytes.f
        rw [bytes_s 4 k _ _ hz hz5 (by omega) (by omega), Option.bind_some, hstep]
        exact ih
      · rename_i hh
        rw [zig_lo _ _ hq hp (by omega)]
        unfold spec_l07Bytes.f
        rw [bytes_s 4 k _ _ hz hz5 (by omega) (by omega), Option.bind_some, hstep]
        exact ih
    · rw [if_neg (by omega)]
      have : i = l.length := by omega
      subst this
      rw [← canons_len, List.take_length]
theorem pack_s (l : List Nat) (hb : ∀ x ∈ l, x < 4294967296) (hl : l.length ≤ 1048576) (k : Nat) (hk : 1048582 < k) : spec_l07Pack.f k l = some (strOfNums (packFrom 0 (canons l))) :=
  packl_s l hb hl k 0 (by omega) (by omega)
theorem j1e (k : Nat) (x3 : List Int) (x4 x8 : Int) (x10 : List Nat) (x11 x12 : Int) : impl_packValues.j1 (k + 1) x3 x4 x8 x10 x11 x12 = if x8 < 0 then (impl_packValues.j2 k x3 x4 (wrap64 ((wrap64 ((-2) * x8)) - 1)) x10 x11 x12) else (impl_packValues.j2 k x3 x4 (wrap64 (2 * x8)) x10 x11 x12) := by rw [impl_packValues.j1]
theorem j2e (k : Nat) (x3 : List Int) (x4 x9 : Int) (x10 : List Nat) (x11 x12 : Int) : impl_packValues.j2 (k + 1) x3 x4 x9 x10 x11 x12 = impl_packValues.l1 k x3 x4 x9 x10 x11 x12 := by rw [impl_packValues.j2]
theorem l0e (k : Nat) (x3 : List Int) (x4 : Int) (x10 : List Nat) (x11 x12 : Int) : impl_packValues.l0 (k + 1) x3 x4 x10 x11 x12 = if x12 < x11 then (if 0 ≤ x12 then (if x12 < (x10.length : Int) then ((impl_BitsOf.f (rdOf (0 : Nat) x10 x12)).bind fun t159 => (if (Int.tmod (wrap64 ((wrap64 (t159 - x4)) + 4294967296)) 4294967296) ≥ 2147483648 then (impl_packValues.j1 k x3 t159 (wrap64 ((Int.tmod (wrap64 ((wrap64 (t159 - x4)) + 4294967296)) 4294967296) - 4294967296)) x10 x11 x12) else (impl_packValues.j1 k x3 t159 (Int.tmod (wrap64 ((wrap64 (t159 - x4)) + 4294967296)) 4294967296) x10 x11 x12))) else (none)) else (none)) else (some (strOfNums x3)) := by rw [impl_packValues.l0]
theorem step_i (l : List Nat) (a i : Int) (xs : List Int) (b q : Nat) (hb : b < 4294967296) (hq : q < 4294967296) (hl : xs.length + 4 < 140737488355328) (k : Nat) :
    (if (Int.tmod (wrap64 ((wrap64 ((q : Int) - (b : Int))) + 4294967296)) 4294967296) ≥ 2147483648 then (impl_packValues.j1 (k + (vb (zig b q)).length + 1 + 1) xs (q : Int) (wrap64 ((Int.tmod (wrap64 ((wrap64 ((q : Int) - (b : Int))) + 4294967296)) 4294967296) - 4294967296)) l a i) else (impl_packValues.j1 (k + (vb (zig b q)).length + 1 + 1) xs (q : Int) (Int.tmod (wrap64 ((wrap64 ((q : Int) - (b : Int))) + 4294967296)) 4294967296) l a i)) = impl_packValues.l0 k (xs ++ vb (zig b q)) (q : Int) l a (wrap64 (i + 1)) := by
  have hz := zig_lt b q
  have hz5 := zig_lt5 b q
  have h1 := zig_hi q b hq hb
  have h2 := zig_lo q b hq hb
  have h3 := zig_no2 q b hq hb
  have h4 := zig_no3 q b hq hb
  generalize zig b q = z at *
  generalize Int.tmod (wrap64 ((wrap64 ((q : Int) - (b : Int))) + 4294967296)) 4294967296 = D at *
  have hy := bytes_i (q : Int) l a i 4 k xs z hz hz5 hl
  clear hz hz5 hl
  generalize (vb z).length = L at *
  by_cases c : D ≥ 2147483648
  · rw [if_pos c]
    rw [j1e, if_pos (Int.not_le.1 h3), h1 c]
    rw [j2e]
    exact hy
  · rw [if_neg c]
    rw [j1e, if_neg (fun h => h4 h), h2 (Int.not_le.1 c)]
    rw [j2e]
    exact hy
theorem packl_i (l : List Nat) (hb : ∀ x ∈ l, x < 4294967296) (hl : l.length ≤ 1048576) (d : Nat) : ∀ (k : Nat) (i : Nat), i ≤ l.length → l.length - i ≤ d → 8 * d < k →
    impl_packValues.l0 k (packFrom 0 ((canons l).take i)) ((lastOf 0 ((canons l).take i) : Nat) : Int) l (l.length : Int) (i : Int) = some (strOfNums (packFrom 0 (canons l))) := by
  induction d with
  | zero =>
    intro k i h1 hd hk
    obtain ⟨k1, rfl⟩ : ∃ m, k = m + 1 := ⟨k - 1, by omega⟩
    rw [l0e, if_neg (by omega)]
    have : i = l.length := by omega
    subst this
    rw [← canons_len, List.take_length]
  | succ d ihd =>
    intro k i h1 hd hk
    by_cases c : i < l.length
    · have hx := rdl_lt hb (i : Int)
      have hp := lastOf_lt ((canons l).take i) 4294967296 0 (by decide) (fun x hx => canons_lt hb x (List.mem_of_mem_take hx))
      have hq : cn .f32 (rdOf (0 : Nat) l (i : Int)) < 4294967296 := cn_lt hx
      have hlen := packFrom_len ((canons l).take i) 0
      have hlen2 : ((canons l).take i).length ≤ l.length := by rw [List.length_take, canons_len]; omega
      have hstep : packFrom 0 ((canons l).take i) ++ vb (zig (lastOf 0 ((canons l).take i)) (cn .f32 (rdOf (0 : Nat) l (i : Int)))) = packFrom 0 ((canons l).take (i + 1)) := by
        rw [packFrom_take (by rw [canons_len]; exact c), canons_at c]
      have hlast : lastOf 0 ((canons l).take (i + 1)) = cn .f32 (rdOf (0 : Nat) l (i : Int)) := by
        rw [lastOf_take (by rw [canons_len]; exact c), canons_at c]
      have hv := zig_len (lastOf 0 ((canons l).take i)) (cn .f32 (rdOf (0 : Nat) l (i : Int)))
      have hbits := bits_i _ hx
      have hst := step_i l (l.length : Int) (i : Int) (packFrom 0 ((canons l).take i)) _ _ hp hq (by clear hstep hlast hv hbits hp hq hx; omega)
      clear hp hq hx
      rw [hstep] at hst
      generalize lastOf 0 ((canons l).take i) = b at *
      generalize cn .f32 (rdOf (0 : Nat) l (i : Int)) = q at *
      generalize (vb (zig b q)).length = v at *
      have e : ((i : Int) + 1) = ((i + 1 : Nat) : Int) := by omega
      obtain ⟨k2, rfl⟩ : ∃ m, k = m + v + 1 + 1 + 1 := ⟨k - v - 3, by omega⟩
      have ih := ihd k2 (i + 1) (by omega) (by omega) (by omega)
      rw [hlast] at ih
      rw [l0e, if_pos (by omega), if_pos (by omega), if_pos (by omega), hbits, Option.bind_some, hst k2, w64 (by omega) (by omega), e]
      exact ih
    · obtain ⟨k1, rfl⟩ : ∃ m, k = m + 1 := ⟨k - 1, by omega⟩
      rw [l0e, if_neg (by omega)]
      have : i = l.length := by omega
      subst this
      rw [← canons_len, List.take_length]
theorem pack_i (l : List Nat) (hb : ∀ x ∈ l, x < 4294967296) (hl : l.length ≤ 1048576) (k : Nat) (hk : 8388608 < k) : impl_packValues.f k l = some (strOfNums (packFrom 0 (canons l))) :=
  packl_i l hb hl l.length k 0 (by omega) (by omega) (by omega)
theorem littlee (k : Nat) (x0 : Int) (x5 : List Int) (x6 x7 : Int) : impl_littleBytes.l0 (k + 1) x0 x5 x6 x7 = if x7 < x6 then (if x5.length < 140737488355328 then (impl_littleBytes.l0 k (wrap64 (Int.tdiv x0 256)) (x5 ++ [(Int.tmod x0 256) % 256]) x6 (wrap64 (x7 + 1))) else (none)) else (some (strOfNums x5)) := by rw [impl_littleBytes.l0]
theorem td {n : Nat} (h : n < 1099511627776) : wrap64 (Int.tdiv (n : Int) 256) = ((n / 256 : Nat) : Int) := by
  rw [Int.tdiv_eq_ediv_of_nonneg (by omega), w64 (by omega) (by omega)]; omega
theorem td2 {n : Nat} (h : n < 1099511627776) : wrap64 (Int.tdiv (n : Int) 65536) = ((n / 65536 : Nat) : Int) := by
  rw [Int.tdiv_eq_ediv_of_nonneg (by omega), w64 (by omega) (by omega)]; omega
theorem td3 {n : Nat} (h : n < 1099511627776) : wrap64 (Int.tdiv (n : Int) 16777216) = ((n / 16777216 : Nat) : Int) := by
  rw [Int.tdiv_eq_ediv_of_nonneg (by omega), w64 (by omega) (by omega)]; omega
theorem td0 {n : Nat} (h : n < 1099511627776) : wrap64 ((n : Int) / 256) = ((n / 256 : Nat) : Int) := by
  rw [w64 (by omega) (by omega)]; omega
theorem em (n : Nat) : (n : Int) % 256 = ((n % 256 : Nat) : Int) := by omega
theorem tm (n : Nat) : Int.tmod (n : Int) 256 % 256 = ((n % 256 : Nat) : Int) := by
  rw [Int.tmod_eq_emod_of_nonneg (by omega)]; omega
theorem little4 (n : Nat) (h : n < 1099511627776) (k : Nat) (hk : 5 ≤ k) : impl_littleBytes.f k (n : Int) 4 = some (strOfNums [((n % 256 : Nat) : Int), ((n / 256 % 256 : Nat) : Int), ((n / 65536 % 256 : Nat) : Int), ((n / 16777216 % 256 : Nat) : Int)]) := by
  obtain ⟨k, rfl⟩ : ∃ m, k = m + 1 + 1 + 1 + 1 + 1 := ⟨k - 5, by omega⟩
  unfold impl_littleBytes.f
  have e2 : n / 256 / 256 = n / 65536 := by omega
  have e3 : n / 65536 / 256 = n / 16777216 := by omega
  rw [littlee, if_pos (by decide), if_pos (by decide), tm, td h, w64 (by decide) (by decide)]
  rw [littlee, if_pos (by decide), if_pos (by simp), tm, td (by omega), w64 (by decide) (by decide), e2]
  rw [littlee, if_pos (by decide), if_pos (by simp), tm, td (by omega), w64 (by decide) (by decide), e3]
  rw [littlee, if_pos (by decide), if_pos (by simp), tm, td (by omega), w64 (by decide) (by decide)]
  rw [littlee, if_neg (by decide)]
  rfl
theorem little2 (n : Nat) (h : n < 1099511627776) (k : Nat) (hk : 5 ≤ k) : impl_littleBytes.f k (n : Int) 2 = some (strOfNums [((n % 256 : Nat) : Int), ((n / 256 % 256 : Nat) : Int)]) := by
  obtain ⟨k, rfl⟩ : ∃ m, k = m + 1 + 1 + 1 := ⟨k - 3, by omega⟩
  unfold impl_littleBytes.f
  rw [littlee, if_pos (by decide), if_pos (by decide), tm, td h, w64 (by decide) (by decide)]
  rw [littlee, if_pos (by decide), if_pos (by simp), tm, td (by omega), w64 (by decide) (by decide)]
  rw [littlee, if_neg (by decide)]
  rfl
theorem checkl (s : ByteArray) (hs : s.size ≤ 9223372036854775807) : ∀ (k : Nat) (x i : Int), 0 ≤ x → x < 65003 → 0 ≤ i → i ≤ s.size → s.size - i < k → ∃ c : Nat, c < 65003 ∧ spec_l01Check.l0 k x s i = some (c : Int) ∧ impl_CheckOf.l0 k x s i = some ((c : Int), true)
  | 0, x, i, _, _, _, _, hk => by omega
  | k + 1, x, i, h0, h1, hi, hl, hk => by
    unfold spec_l01Check.l0 impl_CheckOf.l0
    by_cases c : i < (s.size : Int)
    · obtain ⟨b0, b1⟩ := bt_range s i
      rw [if_pos c, if_pos c, if_pos hi, if_pos hi, w64 (x := i + 1) (by omega) (by omega), w64 (x := 797 * x) (by omega) (by omega), w64 (x := bt s i) (by omega) (by omega), w64 (x := 797 * x + bt s i) (by omega) (by omega), w64 (by omega) (by omega)]
      have hm : Int.tmod (797 * x + bt s i + 101) 65003 = (797 * x + bt s i + 101) % 65003 := Int.tmod_eq_emod_of_nonneg (by omega)
      rw [hm]
      exact checkl s hs k _ (i + 1) (by omega) (by omega) (by omega) (by omega) (by omega)
    · rw [if_neg c, if_neg c]
      refine ⟨x.toNat, by omega, ?_, ?_⟩ <;> rw [Int.toNat_of_nonneg h0]
theorem check_some (s : ByteArray) (hs : s.size ≤ 1073741824) (k : Nat) (hk : 1073741825 ≤ k) : ∃ c : Nat, c < 65003 ∧ spec_l01Check.f k 0 s = some (c : Int) ∧ impl_CheckOf.f k 0 s = some ((c : Int), true) := by
  obtain ⟨c, h1, h2, h3⟩ := checkl s (by omega) k 0 0 (by omega) (by omega) (by omega) (by omega) (by omega)
  refine ⟨c, h1, h2, ?_⟩
  unfold impl_CheckOf.f impl_within.f
  rw [if_pos (by decide), Option.bind_some, if_pos (by decide)]
  exact h3
def stored (n : Nat) (p : ByteArray) (c : Nat) : ByteArray := ((⟨#[86, 79, 88, 49]⟩ : ByteArray) ++ strOfNums [((n % 256 : Nat) : Int), ((n / 256 % 256 : Nat) : Int), ((n / 65536 % 256 : Nat) : Int), ((n / 16777216 % 256 : Nat) : Int), ((p.size % 256 : Nat) : Int), ((p.size / 256 % 256 : Nat) : Int)] ++ p) ++ strOfNums [((c % 256 : Nat) : Int), ((c / 256 % 256 : Nat) : Int)]
theorem size_str (xs : List Int) : (strOfNums xs).size = xs.length := by simp [strOfNums, ByteArray.size]
theorem str_app (xs ys : List Int) : strOfNums (xs ++ ys) = strOfNums xs ++ strOfNums ys := by
  apply ByteArray.ext
  simp [strOfNums]
theorem store_some (n : Nat) (hn : n < 4294967296) (l : List Nat) (hb : ∀ x ∈ l, x < 4294967296) (hl : l.length ≤ 256) (k : Nat) (hk : 1073741825 ≤ k) :
    ∃ c : Nat, c < 65003 ∧ spec_l07Store.f k [(⟨(n : Int), l⟩ : S27)] = some (stored n (strOfNums (packFrom 0 (canons l))) c) ∧ impl_storeBlock.f k (n : Int) l = some (stored n (strOfNums (packFrom 0 (canons l))) c) := by
  have hps : (strOfNums (packFrom 0 (canons l))).size ≤ 1280 := by
    rw [size_str]
    have := packFrom_len (canons l) 0
    rw [canons_len] at this
    omega
  have hpk := pack_s l hb (by omega) k (by omega)
  have hpi := pack_i l hb (by omega) k (by omega)
  generalize strOfNums (packFrom 0 (canons l)) = p at *
  have hz6 : ∀ a b c d e f : Int, (strOfNums [a, b, c, d, e, f]).size = 6 := fun _ _ _ _ _ _ => by rw [size_str]; rfl
  have hz4 : ∀ a b c d : Int, (strOfNums [a, b, c, d]).size = 4 := fun _ _ _ _ => by rw [size_str]; rfl
  have hz2 : ∀ a b : Int, (strOfNums [a, b]).size = 2 := fun _ _ => by rw [size_str]; rfl
  have hv : (⟨#[86, 79, 88, 49]⟩ : ByteArray).size = 4 := rfl
  obtain ⟨c, hc, hcs, hci⟩ := check_some ((⟨#[86, 79, 88, 49]⟩ : ByteArray) ++ strOfNums [((n % 256 : Nat) : Int), ((n / 256 % 256 : Nat) : Int), ((n / 65536 % 256 : Nat) : Int), ((n / 16777216 % 256 : Nat) : Int), ((p.size % 256 : Nat) : Int), ((p.size / 256 % 256 : Nat) : Int)] ++ p) (by
    rw [ByteArray.size_append, ByteArray.size_append, hz6, hv]; omega) k hk
  refine ⟨c, hc, ?_, ?_⟩
  · unfold spec_l07Store.f
    have hr : rd_T27 [(⟨(n : Int), l⟩ : S27)] 0 = ⟨(n : Int), l⟩ := rfl
    rw [if_pos (show (0 : Int) < (([(⟨(n : Int), l⟩ : S27)] : List S27).length : Int) by show (0 : Int) < 1; decide), hr]
    dsimp only
    rw [hpk, Option.bind_some, Option.bind_some, tm, td (by omega), tm, td2 (by omega), tm, td3 (by omega), em, td0 (by omega), em, em]
    rw [if_pos (by rw [hz6]; omega), if_pos (by rw [ByteArray.size_append, hz6, hv]; omega), hcs, Option.bind_some, Option.bind_some, tm, td (by omega), em, if_pos (by rw [ByteArray.size_append, ByteArray.size_append, hz6, hz2, hv]; omega)]
    rfl
  · have e6 : ∀ a b c d e f : Int, strOfNums [a, b, c, d] ++ strOfNums [e, f] = strOfNums [a, b, c, d, e, f] := fun a b c d e f => (str_app [a, b, c, d] [e, f]).symm
    unfold impl_storeBlock.f
    rw [hpi, Option.bind_some, little4 n (by omega) k (by omega), Option.bind_some, if_pos (by rw [hz4]; omega), little2 p.size (by omega) k (by omega), Option.bind_some]
    rw [if_pos (by rw [ByteArray.size_append, hz4, hz2, hv]; omega), if_pos (by rw [ByteArray.size_append, ByteArray.size_append, hz4, hz2, hv]; omega), ByteArray.append_assoc (a := (⟨#[86, 79, 88, 49]⟩ : ByteArray)), e6, hci, Option.bind_some]
    dsimp only
    rw [little2 c (by omega) k (by omega), Option.bind_some, if_pos (by rw [ByteArray.size_append, ByteArray.size_append, hz6, hz2, hv]; omega)]
    rfl
theorem valid_some (t : Int) (l : List Nat) : ∃ b, spec_l07Block.f [(⟨t, l⟩ : S27)] = some b ∧ impl_ValidBlock.f t l = some b ∧ (b = true → 0 ≤ t ∧ t < 4294967296 ∧ 1 ≤ l.length ∧ l.length ≤ 256) := by
  unfold impl_ValidBlock.f spec_l07Block.f spec_l00In.f impl_within.f spec_l07Values.f
  have hr : rd_T27 [(⟨t, l⟩ : S27)] 0 = ⟨t, l⟩ := rfl
  rw [if_pos (show (0 : Int) < (([(⟨t, l⟩ : S27)] : List S27).length : Int) by show (0 : Int) < 1; decide), hr]
  dsimp only
  by_cases c : t ≥ 0
  · rw [if_pos c]
    simp only [Option.bind_some]
    by_cases d : decide (t ≤ 4294967295) = true
    · rw [if_pos d]
      by_cases e : (l.length : Int) ≥ 1
      · rw [if_pos e]
        refine ⟨_, rfl, rfl, fun h => ?_⟩
        have h1 := of_decide_eq_true h
        have h2 := of_decide_eq_true d
        omega
      · rw [if_neg e]; exact ⟨_, rfl, rfl, fun h => by cases h⟩
    · rw [if_neg d]; exact ⟨_, rfl, rfl, fun h => by cases h⟩
  · rw [if_neg c]; exact ⟨_, rfl, rfl, fun h => by cases h⟩
abbrev BL := S24
abbrev BI := S27
def okB (x : BL) : Prop := x.f1.length ≤ 9223372036854775807 ∧ ∀ y ∈ x.f1, y < 4294967296
def convB (l : List BL) : List BI := l.map fun x => ⟨x.f0, x.f1⟩
theorem convB_len (l : List BL) : (convB l).length = l.length := by unfold convB; rw [List.length_map]
theorem rdB_ok {l : List BL} (h : ∀ x ∈ l, okB x) (i : Int) : okB (rd_T24 l i) := by
  unfold rd_T24
  rw [List.getD_eq_getElem?_getD]
  rcases hh : l[i.toNat]? with _ | x
  · exact ⟨by decide, fun y hy => by cases hy⟩
  · exact h x (List.mem_of_getElem? hh)
theorem rd_conv {l : List BL} {i : Nat} (hi : i < l.length) : (convB l)[i]? = some ⟨(rd_T24 l (i : Int)).f0, (rd_T24 l (i : Int)).f1⟩ := by
  unfold convB rd_T24
  rw [List.getElem?_map, Int.toNat_natCast, List.getD_eq_getElem?_getD, List.getElem?_eq_getElem hi]
  rfl
theorem szBl_some (l : List BL) (hl : l.length ≤ 1048576) (ho : ∀ x ∈ l, okB x) : ∀ (k : Nat) (a : Int) (i : Nat), i ≤ l.length → l.length - i < k → 0 ≤ a → a ≤ 1048576 →
    ∃ r, laws_szBlockS.l0 k l a (i : Int) = some r ∧ (r < 0 ∨ 0 ≤ r ∧ r ≤ 1048576 ∧ ∀ j : Nat, i ≤ j → j < l.length → (rd_T24 l (j : Int)).f1.length ≤ 1048576)
  | 0, a, i, h1, hk, _, _ => by omega
  | k + 1, a, i, h1, hk, ha, hb => by
    unfold laws_szBlockS.l0
    by_cases c : i < l.length
    · rw [if_pos (by omega), if_pos (by omega)]
      obtain ⟨r, hr, h⟩ := szB_some (rd_T24 l (i : Int)).f0 (rd_T24 l (i : Int)).f1 (rdB_ok ho _).1 a ha hb
      rw [hr, Option.bind_some]
      by_cases d : r < 0
      · rw [if_pos d]; exact ⟨_, rfl, .inl (by omega)⟩
      · have e : ((i : Int) + 1) = ((i + 1 : Nat) : Int) := by omega
        rw [if_neg d, w64 (by omega) (by omega), e]
        obtain ⟨q, hq, h2⟩ := szBl_some l hl ho k r (i + 1) (by omega) (by omega) (by omega) (by omega)
        refine ⟨q, hq, ?_⟩
        rcases h2 with h2 | ⟨h3, h4, h5⟩
        · exact .inl h2
        · refine .inr ⟨h3, h4, fun j hj hjl => ?_⟩
          by_cases g : j = i
          · subst g; omega
          · exact h5 j (by omega) hjl
    · rw [if_neg (by omega)]; exact ⟨_, rfl, .inr ⟨ha, hb, fun j hj hjl => by omega⟩⟩
theorem szBs_some (l : List BL) (hl : l.length ≤ 9223372036854775807) (ho : ∀ x ∈ l, okB x) (k : Nat) (hk : 1048577 ≤ k) : ∃ r, laws_szBlockS.f k l 1048576 = some r ∧ (r < 0 ∨ l.length ≤ 1048576 ∧ ∀ j : Nat, j < l.length → (rd_T24 l (j : Int)).f1.length ≤ 1048576) := by
  unfold laws_szBlockS.f
  rw [w64 (x := 1048576 - l.length) (by omega) (by omega)]
  by_cases c : (1048576 : Int) - l.length < 0
  · rw [if_pos c]; exact ⟨_, rfl, .inl (by omega)⟩
  · rw [if_neg c]
    obtain ⟨r, hr, h⟩ := szBl_some l (by omega) ho k (1048576 - l.length) 0 (by omega) (by omega) (by omega) (by omega)
    refine ⟨r, hr, ?_⟩
    rcases h with h | ⟨_, _, h⟩
    · exact .inl h
    · exact .inr ⟨by omega, fun j hj => h j (by omega) hj⟩
theorem toBl_some (l : List BL) (hl : l.length ≤ 1048576) (ho : ∀ j : Nat, j < l.length → (rd_T24 l (j : Int)).f1.length ≤ 1048576) : ∀ (d k : Nat) (ys : List BI) (i : Nat), i ≤ l.length → l.length - i ≤ d → d + 1048578 < k → ys.length = l.length → ys.take i = (convB l).take i → laws_toBlockS.l0 k l ys (i : Int) = some (convB l)
  | d, 0, ys, i, h1, hd, hk, hy, ht => by omega
  | d, k + 1, ys, i, h1, hd, hk, hy, ht => by
    unfold laws_toBlockS.l0
    by_cases c : i < l.length
    · have e : ((i : Int) + 1) = ((i + 1 : Nat) : Int) := by omega
      rw [if_pos (by omega), if_pos (by omega), toB_some _ _ (ho i c) k (by omega), Option.bind_some, if_pos (by omega), w64 (by omega) (by omega), e]
      refine toBl_some l hl ho (d - 1) k _ (i + 1) (by omega) (by omega) (by omega) (by rw [List.length_set]; exact hy) ?_
      rw [Int.toNat_natCast]
      exact take_set_succ (by rw [convB_len]; exact c) (by rw [convB_len]; exact hy) ht (rd_conv c)
    · rw [if_neg (by omega)]
      have : i = l.length := by omega
      subst this
      rw [← convB_len, List.take_length, List.take_of_length_le (by rw [convB_len]; omega)] at ht
      rw [ht]
theorem toBs_some (l : List BL) (hl : l.length ≤ 1048576) (ho : ∀ j : Nat, j < l.length → (rd_T24 l (j : Int)).f1.length ≤ 1048576) (k : Nat) (hk : 4194304 ≤ k) : laws_toBlockS.f k l = some (convB l) := by
  unfold laws_toBlockS.f
  rw [if_pos (by omega), if_pos (by omega)]
  exact toBl_some l hl ho l.length k _ 0 (by omega) (by omega) (by omega) (by rw [List.length_replicate]; omega) rfl
def okI (x : BI) : Prop := x.f1.length ≤ 1048576 ∧ ∀ y ∈ x.f1, y < 4294967296
theorem convB_ok {l : List BL} (h : ∀ x ∈ l, okB x) (ho : ∀ j : Nat, j < l.length → (rd_T24 l (j : Int)).f1.length ≤ 1048576) : ∀ x ∈ convB l, okI x := by
  intro x hx
  obtain ⟨i, hi, rfl⟩ := List.getElem_of_mem hx
  rw [convB_len] at hi
  have h1 := rd_conv hi
  rw [List.getElem?_eq_getElem (by rw [convB_len]; exact hi)] at h1
  rw [Option.some.inj h1]
  exact ⟨ho i hi, (rdB_ok h _).2⟩
theorem rdI_ok {l : List BI} (h : ∀ x ∈ l, okI x) (i : Int) : okI (rd_T27 l i) := by
  unfold rd_T27
  rw [List.getD_eq_getElem?_getD]
  rcases hh : l[i.toNat]? with _ | x
  · exact ⟨by decide, fun y hy => by cases hy⟩
  · exact h x (List.mem_of_getElem? hh)
theorem eqBl_some (l : List BI) (hl : l.length ≤ 1048576) (ho : ∀ x ∈ l, okI x) : ∀ (k : Nat) (i : Int), 0 ≤ i → i ≤ l.length → l.length - i < k → laws_eqBlockS.l0 k l l i = some true
  | 0, i, h0, h1, hk => by omega
  | k + 1, i, h0, h1, hk => by
    unfold laws_eqBlockS.l0
    by_cases c : i < (l.length : Int)
    · have h := rdI_ok ho i
      rw [if_pos c, if_pos h0, if_pos c, eqB_some _ _ h.1 h.2, Option.bind_some, if_pos rfl, w64 (by omega) (by omega)]
      exact eqBl_some l hl ho k (i + 1) (by omega) (by omega) (by omega)
    · rw [if_neg c]
theorem eqBs_some (l : List BI) (hl : l.length ≤ 1048576) (ho : ∀ x ∈ l, okI x) (k : Nat) (hk : 1048577 ≤ k) : laws_eqBlockS.f k l l = some true := by
  unfold laws_eqBlockS.f
  rw [if_pos rfl]
  exact eqBl_some l hl ho k 0 (by omega) (by omega) (by omega)
theorem stored_size (n : Nat) (p : ByteArray) (c : Nat) : (stored n p c).size = p.size + 12 := by
  unfold stored
  rw [ByteArray.size_append, ByteArray.size_append, ByteArray.size_append, size_str, size_str]
  have : (⟨#[86, 79, 88, 49]⟩ : ByteArray).size = 4 := rfl
  simp only [List.length_cons, List.length_nil]
  omega
theorem samel (l : List BI) (hl : l.length ≤ 8) (ho : ∀ x ∈ l, okI x) : ∀ (d k : Nat) (acc : ByteArray) (i : Nat), i ≤ l.length → l.length - i ≤ d → d + 1073741826 < k → acc.size ≤ 2000 * i →
    ∃ r, spec_StoreBlocks.l0 k l acc (l.length : Int) (i : Int) = some r ∧ impl_StoreBlocks.l0 k acc l (l.length : Int) (i : Int) = some r
  | d, 0, acc, i, h1, hd, hk, ha => by omega
  | d, k + 1, acc, i, h1, hd, hk, ha => by
    unfold spec_StoreBlocks.l0 impl_StoreBlocks.l0
    by_cases c : i < l.length
    · have h := rdI_ok ho (i : Int)
      obtain ⟨b, v1, v2, v3⟩ := valid_some (rd_T27 l (i : Int)).f0 (rd_T27 l (i : Int)).f1
      rw [if_pos (by omega), if_pos (by omega), if_pos (by omega), if_pos (by omega), if_pos (by omega), if_pos (by omega), v1, v2, Option.bind_some, Option.bind_some]
      by_cases e : b = true
      · obtain ⟨h4, h5, h6, h7⟩ := v3 e
        obtain ⟨n, hn⟩ := Int.eq_ofNat_of_zero_le h4
        have hps : (strOfNums (packFrom 0 (canons (rd_T27 l (i : Int)).f1))).size ≤ 1280 := by
          rw [size_str]
          have := packFrom_len (canons (rd_T27 l (i : Int)).f1) 0
          rw [canons_len] at this
          omega
        obtain ⟨q, hq, hs, hi⟩ := store_some n (by omega) _ h.2 h7 k (by omega)
        rw [← hn] at hs hi
        have hz := stored_size n (strOfNums (packFrom 0 (canons (rd_T27 l (i : Int)).f1))) q
        have e1 : ((i : Int) + 1) = ((i + 1 : Nat) : Int) := by omega
        rw [if_pos e, if_pos e, hs, hi, Option.bind_some, Option.bind_some, if_pos (by omega), if_pos (by omega), w64 (by omega) (by omega), e1]
        exact samel l hl ho (d - 1) k _ (i + 1) (by omega) (by omega) (by omega) (by rw [ByteArray.size_append]; omega)
      · rw [if_neg e, if_neg e]; exact ⟨_, rfl, rfl⟩
    · rw [if_neg (by omega), if_neg (by omega)]; exact ⟨_, rfl, rfl⟩
theorem sames (l : List BI) (ho : ∀ x ∈ l, okI x) : ∃ r, spec_StoreBlocks.f 1073741850 l = some r ∧ impl_StoreBlocks.f 1073741850 l = some r := by
  unfold spec_StoreBlocks.f impl_StoreBlocks.f
  by_cases c : (l.length : Int) > 8
  · rw [if_pos c, if_pos c]; exact ⟨_, rfl, rfl⟩
  · rw [if_neg c, if_neg c]
    exact samel l (by omega) ho 8 1073741850 _ 0 (by omega) (by omega) (by omega) (by decide)
theorem j0e (k : Nat) (a : List BL) (b : List BI) (c : Bool) : laws_FnExactStoreBlocks.j0 (k + 1) a b c = if c = true then (some false) else ((laws_toBlockS.f k a).bind fun t207 => ((laws_eqBlockS.f k b t207).bind fun t210 => (if t210 = true then (some true) else (some false)))) := by rw [laws_FnExactStoreBlocks.j0]
theorem pure (l : List BL) (h0 : l.length ≤ 9223372036854775807) (ho : ∀ x ∈ l, okB x) : laws_FnExactStoreBlocks.f 1073741850 l = some true := by
  unfold laws_FnExactStoreBlocks.f
  obtain ⟨r0, e0, hr0⟩ := szBs_some l h0 ho 1073741850 (by omega)
  rw [e0, Option.bind_some]
  by_cases c : r0 < 0
  · rw [if_pos c]
  have hr := hr0.resolve_left c
  have hok := convB_ok ho hr.2
  obtain ⟨r, hs, hi⟩ := sames (convB l) hok
  rw [if_neg c, toBs_some l hr.1 hr.2 _ (by omega), Option.bind_some, hs, Option.bind_some, Option.bind_some, hi, Option.bind_some, if_pos rfl]
  rw [show (1073741850 : Nat) = 1073741849 + 1 from rfl, j0e, if_neg (by simp), toBs_some l hr.1 hr.2 _ (by omega), Option.bind_some, eqBs_some (convB l) (by rw [convB_len]; exact hr.1) hok _ (by omega), Option.bind_some, if_pos rfl]
end Go.Proofs.Ytgiednkailakgaa.SsPure
namespace Go.Proofs.Ytgiednkailakgaa
open Go.RowKit Go.Proofs.YtgiednkailakgaaW.PrintWords Go.Proofs.YtgiednkailakgaaW.PrintFl Go.ChangeShapes Go.WideShapes
open Go.Proofs.Ytgiednkailakgaa.PFnExactStoreBlocks in
theorem opens_blocks : Opens Try.prog 51 (Kd.slice 24 k24) (fun l => l.length ≤ 9223372036854775807 ∧ l.length * 32 ≤ 140737488351232 ∧ ∀ x ∈ l, SsPure.okB x) :=
  opens_slice _ Try.underlying51 (by kernel_rfl) (by kernel_rfl)
    (opens_imp (opens_struct (P := Try.prog) (fun x : S24 => (x.f0, x.f1)) (fun x => ⟨x.1, x.2⟩) (fun _ => rfl) Try.underlying24 rfl (N := 2) (by kernel_rfl)
      (opensF_cons rfl (off' := 1) (by kernel_rfl) (opens_int Try.underlying2) (opensF_last rfl (by kernel_rfl) (opens_slice (B := 4) _ Try.underlying22 (by kernel_rfl) (by kernel_rfl) (opens_raw Try.underlying65)))))
      (fun x h => ⟨h.2.1, h.2.2.2⟩))
open Go.Proofs.Ytgiednkailakgaa.PFnExactStoreBlocks in
theorem storeBlocks_w (A0 : Option Addr) (c0 : Nat) (l0 : List S24) (w : World) (hr0 : Kd.C k24 w A0 l0.length l0) (hc0 : l0.length ≤ c0) (z0 : l0.length ≤ 9223372036854775807 ∧ l0.length * 32 ≤ 140737488351232 ∧ ∀ x ∈ l0, SsPure.okB x) :
    Calls Try.prog 9 #[.slice A0 l0.length c0] w fun e w' => e = .returned (.bool true) ∧ Below w.heap.size w w' :=
  laws_FnExactStoreBlocks.calls 1073741850 A0 c0 l0 true w hr0 hc0 (SsPure.pure l0 z0.1 z0.2.2)
end Go.Proofs.Ytgiednkailakgaa
