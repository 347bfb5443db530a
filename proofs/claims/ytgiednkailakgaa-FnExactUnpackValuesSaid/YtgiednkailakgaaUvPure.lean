/- What the printed functions of UnpackValues come to: both read the same numbers out of the same bytes. -/
import Derived.Test.YtgiednkailakgaaPFnExactUnpackValuesx
import Derived.Test.YtgiednkailakgaaFm
import Derived.Test.YtgiednkailakgaaB3
import Derived.Laws.BitsLemmas
set_option linter.unusedVariables false
set_option linter.unusedSimpArgs false
namespace Go.Proofs.Ytgiednkailakgaa.UvPure
open Go.RowKit Go.Proofs.YtgiednkailakgaaW.PrintWords Go.Proofs.YtgiednkailakgaaW.PrintFl Go.Proofs.Ytgiednkailakgaa.PFnExactUnpackValues
theorem w64 {x : Int} (h0 : -9223372036854775808 ≤ x) (h1 : x ≤ 9223372036854775807) : wrap64 x = x := by
  unfold wrap64; omega
theorem eqF_some (l : List Nat) (hl : l.length ≤ 1048576) (hb : ∀ x ∈ l, x < 4294967296) : laws_eqFloat32S.f l l = some true := by
  unfold laws_eqFloat32S.f
  rw [if_pos ⟨rfl, hl, hb⟩]
theorem bits_s (x : Nat) (hx : x < 4294967296) : spec_l01Bits.f x = some ((cn .f32 x : Nat) : Int) := by
  unfold spec_l01Bits.f cn
  rw [fne_self]
  split
  · rfl
  · rw [w64 (by omega) (by omega)]
theorem bits_i (x : Nat) (hx : x < 4294967296) : impl_BitsOf.f x = some ((cn .f32 x : Nat) : Int) := bits_s x hx
theorem vb_step_hi {n : Nat} (h : ¬ n < 128) (hn : n < 4294967296) : (wrap64 (Int.tmod (n : Int) 128 + 128)) % 256 = ((n % 128 + 128 : Nat) : Int) ∧ wrap64 (Int.tdiv (n : Int) 128) = ((n / 128 : Nat) : Int) := by
  have h1 : Int.tmod (n : Int) 128 = ((n % 128 : Nat) : Int) := by rw [Int.tmod_eq_emod_of_nonneg (by omega)]; omega
  have h2 : Int.tdiv (n : Int) 128 = ((n / 128 : Nat) : Int) := by rw [Int.tdiv_eq_ediv_of_nonneg (by omega)]; omega
  rw [h1, h2]
  refine ⟨?_, w64 (by omega) (by omega)⟩
  rw [w64 (by omega) (by omega)]
  omega
theorem bytes_s (m : Nat) : ∀ (k : Nat) (xs : List Int) (n : Nat), n < 4294967296 → n < 128 ^ (m + 1) → m < k → xs.length + m < 140737488355328 → spec_l07Bytes.l0 k xs (n : Int) = some (xs ++ vb n) := by
  induction m with
  | zero =>
    intro k xs n h32 hn hk hl
    have c : n < 128 := by simpa using hn
    obtain ⟨k, rfl⟩ : ∃ q, k = q + 1 := ⟨k - 1, by omega⟩
    unfold spec_l07Bytes.l0
    rw [if_neg (by omega), if_pos (by omega), vb_small c]
    have : (n : Int) % 256 = n := by omega
    rw [this]
  | succ m ih =>
    intro k xs n h32 hn hk hl
    obtain ⟨k, rfl⟩ : ∃ q, k = q + 1 := ⟨k - 1, by omega⟩
    unfold spec_l07Bytes.l0
    by_cases c : n < 128
    · rw [if_neg (by omega), if_pos (by omega), vb_small c]
      have : (n : Int) % 256 = n := by omega
      rw [this]
    · obtain ⟨e1, e2⟩ := vb_step_hi c h32
      have hn2 : n / 128 < 128 ^ (m + 1) := by rw [Nat.div_lt_iff_lt_mul (by decide)]; rw [Nat.pow_succ] at hn; exact hn
      clear hn
      rw [if_pos (by omega), if_pos (by omega), e1, e2, ih k _ (n / 128) (by omega) hn2 (by omega) (by rw [List.length_append, List.length_singleton]; omega), vb_big c, List.append_assoc]
      rfl
theorem bytes_i (x4 : Int) (l : List Nat) (a i : Int) (m : Nat) : ∀ (k : Nat) (xs : List Int) (n : Nat), n < 4294967296 → n < 128 ^ (m + 1) → xs.length + m < 140737488355328 →
    impl_packValues.l1 (k + (vb n).length) xs x4 (n : Int) l a i = impl_packValues.l0 k (xs ++ vb n) x4 l a (wrap64 (i + 1)) := by
  induction m with
  | zero =>
    intro k xs n h32 hn hl
    have c : n < 128 := by simpa using hn
    rw [vb_small c]
    show impl_packValues.l1 (k + 1) xs x4 (n : Int) l a i = _
    unfold impl_packValues.l1
    rw [if_neg (by omega), if_pos (by omega)]
    have : (n : Int) % 256 = n := by omega
    rw [this]
  | succ m ih =>
    intro k xs n h32 hn hl
    by_cases c : n < 128
    · rw [vb_small c]
      show impl_packValues.l1 (k + 1) xs x4 (n : Int) l a i = _
      unfold impl_packValues.l1
      rw [if_neg (by omega), if_pos (by omega)]
      have : (n : Int) % 256 = n := by omega
      rw [this]
    · obtain ⟨e1, e2⟩ := vb_step_hi c h32
      have hn2 : n / 128 < 128 ^ (m + 1) := by rw [Nat.div_lt_iff_lt_mul (by decide)]; rw [Nat.pow_succ] at hn; exact hn
      clear hn
      rw [vb_big c, List.length_cons]
      show impl_packValues.l1 ((k + (vb (n / 128)).length) + 1) xs x4 (n : Int) l a i = _
      unfold impl_packValues.l1
      rw [if_pos (by omega), if_pos (by omega), e1, e2, ih k _ (n / 128) (by omega) hn2 (by rw [List.length_append, List.length_singleton]; omega), List.append_assoc]
      rfl
def canons (l : List Nat) : List Nat := l.map (cn .f32)
theorem canons_len (l : List Nat) : (canons l).length = l.length := by unfold canons; rw [List.length_map]
theorem canons_lt {l : List Nat} (hb : ∀ x ∈ l, x < 4294967296) : ∀ x ∈ canons l, x < 4294967296 := by
  intro x hx
  obtain ⟨y, hy, rfl⟩ := List.mem_map.1 hx
  exact cn_lt (hb y hy)
theorem canons_at {l : List Nat} {i : Nat} (hi : i < l.length) : (canons l)[i]'(by rw [canons_len]; exact hi) = cn .f32 (rdOf (0 : Nat) l (i : Int)) := by
  unfold canons rdOf
  rw [List.getElem_map, Int.toNat_natCast, List.getD_eq_getElem?_getD, List.getElem?_eq_getElem hi]
  rfl
theorem rdl_lt {l : List Nat} (h : ∀ x ∈ l, x < 4294967296) (i : Int) : rdOf (0 : Nat) l i < 4294967296 := by
  unfold rdOf
  rw [List.getD_eq_getElem?_getD]
  rcases hh : l[i.toNat]? with _ | x
  · decide
  · exact h x (List.mem_of_getElem? hh)
theorem packl_s (l : List Nat) (hb : ∀ x ∈ l, x < 4294967296) (hl : l.length ≤ 1048576) : ∀ (k : Nat) (i : Nat), i ≤ l.length → l.length - i + 5 < k →
    spec_l07Pack.l0 k l (packFrom 0 ((canons l).take i)) ((lastOf 0 ((canons l).take i) : Nat) : Int) (l.length : Int) (i : Int) = some (strOfNums (packFrom 0 (canons l)))
  | 0, i, h1, hk => by omega
  | k + 1, i, h1, hk => by
    unfold spec_l07Pack.l0
    by_cases c : i < l.length
    · have hx := rdl_lt hb (i : Int)
      have hp := lastOf_lt ((canons l).take i) 4294967296 0 (by decide) (fun x hx => canons_lt hb x (List.mem_of_mem_take hx))
      have hq : cn .f32 (rdOf (0 : Nat) l (i : Int)) < 4294967296 := cn_lt hx
      have hlen := packFrom_len ((canons l).take i) 0
      have hlen2 : ((canons l).take i).length ≤ l.length := by rw [List.length_take, canons_len]; omega
      have hz := zig_lt (lastOf 0 ((canons l).take i)) (cn .f32 (rdOf (0 : Nat) l (i : Int)))
      have hz5 := zig_lt5 (lastOf 0 ((canons l).take i)) (cn .f32 (rdOf (0 : Nat) l (i : Int)))
      have hstep : packFrom 0 ((canons l).take i) ++ vb (zig (lastOf 0 ((canons l).take i)) (cn .f32 (rdOf (0 : Nat) l (i : Int)))) = packFrom 0 ((canons l).take (i + 1)) := by
        rw [packFrom_take (by rw [canons_len]; exact c), canons_at c]
      have hlast : lastOf 0 ((canons l).take (i + 1)) = cn .f32 (rdOf (0 : Nat) l (i : Int)) := by
        rw [lastOf_take (by rw [canons_len]; exact c), canons_at c]
      have ih := packl_s l hb hl k (i + 1) (by omega) (by omega)
      rw [hlast] at ih
      rw [if_pos (by omega), if_pos (by omega), if_pos (by omega), bits_s _ hx, Option.bind_some, w64 (x := (i : Int) + 1) (by omega) (by omega)]
      have e : ((i : Int) + 1) = ((i + 1 : Nat) : Int) := by omega
      rw [e]
      split
      · rename_i hh
        rw [zig_hi _ _ hq hp hh]
        unfold spec_l07Bytes.f
        rw [bytes_s 4 k _ _ hz hz5 (by omega) (by omega), Option.bind_some, hstep]
        exact ih
      · rename_i hh
        rw [zig_lo _ _ hq hp (by omega)]
        unfold spec_l07Bytes.f
        rw [bytes_s 4 k _ _ hz hz5 (by omega) (by omega), Option.bind_some, hstep]
        exact ih
    · rw [if_neg (by omega)]
      have : i = l.length := by omega
      subst this
      rw [← canons_len, List.take_length]
theorem pack_s (l : List Nat) (hb : ∀ x ∈ l, x < 4294967296) (hl : l.length ≤ 1048576) (k : Nat) (hk : 1048582 < k) : spec_l07Pack.f k l = some (strOfNums (packFrom 0 (canons l))) :=
  packl_s l hb hl k 0 (by omega) (by omega)
theorem j1e (k : Nat) (x3 : List Int) (x4 x8 : Int) (x10 : List Nat) (x11 x12 : Int) : impl_packValues.j1 (k + 1) x3 x4 x8 x10 x11 x12 = if x8 < 0 then (impl_packValues.j2 k x3 x4 (wrap64 ((wrap64 ((-2) * x8)) - 1)) x10 x11 x12) else (impl_packValues.j2 k x3 x4 (wrap64 (2 * x8)) x10 x11 x12) := by rw [impl_packValues.j1]
theorem j2e (k : Nat) (x3 : List Int) (x4 x9 : Int) (x10 : List Nat) (x11 x12 : Int) : impl_packValues.j2 (k + 1) x3 x4 x9 x10 x11 x12 = impl_packValues.l1 k x3 x4 x9 x10 x11 x12 := by rw [impl_packValues.j2]
theorem l0e (k : Nat) (x3 : List Int) (x4 : Int) (x10 : List Nat) (x11 x12 : Int) : impl_packValues.l0 (k + 1) x3 x4 x10 x11 x12 = if x12 < x11 then (if 0 ≤ x12 then (if x12 < (x10.length : Int) then ((impl_BitsOf.f (rdOf (0 : Nat) x10 x12)).bind fun t159 => (if (Int.tmod (wrap64 ((wrap64 (t159 - x4)) + 4294967296)) 4294967296) ≥ 2147483648 then (impl_packValues.j1 k x3 t159 (wrap64 ((Int.tmod (wrap64 ((wrap64 (t159 - x4)) + 4294967296)) 4294967296) - 4294967296)) x10 x11 x12) else (impl_packValues.j1 k x3 t159 (Int.tmod (wrap64 ((wrap64 (t159 - x4)) + 4294967296)) 4294967296) x10 x11 x12))) else (none)) else (none)) else (some (strOfNums x3)) := by rw [impl_packValues.l0]
theorem step_i (l : List Nat) (a i : Int) (xs : List Int) (b q : Nat) (hb : b < 4294967296) (hq : q < 4294967296) (hl : xs.length + 4 < 140737488355328) (k : Nat) :
    (if (Int.tmod (wrap64 ((wrap64 ((q : Int) - (b : Int))) + 4294967296)) 4294967296) ≥ 2147483648 then (impl_packValues.j1 (k + (vb (zig b q)).length + 1 + 1) xs (q : Int) (wrap64 ((Int.tmod (wrap64 ((wrap64 ((q : Int) - (b : Int))) + 4294967296)) 4294967296) - 4294967296)) l a i) else (impl_packValues.j1 (k + (vb (zig b q)).length + 1 + 1) xs (q : Int) (Int.tmod (wrap64 ((wrap64 ((q : Int) - (b : Int))) + 4294967296)) 4294967296) l a i)) = impl_packValues.l0 k (xs ++ vb (zig b q)) (q : Int) l a (wrap64 (i + 1)) := by
  have hz := zig_lt b q
  have hz5 := zig_lt5 b q
  have h1 := zig_hi q b hq hb
  have h2 := zig_lo q b hq hb
  have h3 := zig_no2 q b hq hb
  have h4 := zig_no3 q b hq hb
  generalize zig b q = z at *
  generalize Int.tmod (wrap64 ((wrap64 ((q : Int) - (b : Int))) + 4294967296)) 4294967296 = D at *
  have hy := bytes_i (q : Int) l a i 4 k xs z hz hz5 hl
  clear hz hz5 hl
  generalize (vb z).length = L at *
  by_cases c : D ≥ 2147483648
  · rw [if_pos c]
    rw [j1e, if_pos (Int.not_le.1 h3), h1 c]
    rw [j2e]
    exact hy
  · rw [if_neg c]
    rw [j1e, if_neg (fun h => h4 h), h2 (Int.not_le.1 c)]
    rw [j2e]
    exact hy
theorem packl_i (l : List Nat) (hb : ∀ x ∈ l, x < 4294967296) (hl : l.length ≤ 1048576) (d : Nat) : ∀ (k : Nat) (i : Nat), i ≤ l.length → l.length - i ≤ d → 8 * d < k →
    impl_packValues.l0 k (packFrom 0 ((canons l).take i)) ((lastOf 0 ((canons l).take i) : Nat) : Int) l (l.length : Int) (i : Int) = some (strOfNums (packFrom 0 (canons l))) := by
  induction d with
  | zero =>
    intro k i h1 hd hk
    obtain ⟨k1, rfl⟩ : ∃ m, k = m + 1 := ⟨k - 1, by omega⟩
    rw [l0e, if_neg (by omega)]
    have : i = l.length := by omega
    subst this
    rw [← canons_len, List.take_length]
  | succ d ihd =>
    intro k i h1 hd hk
    by_cases c : i < l.length
    · have hx := rdl_lt hb (i : Int)
      have hp := lastOf_lt ((canons l).take i) 4294967296 0 (by decide) (fun x hx => canons_lt hb x (List.mem_of_mem_take hx))
      have hq : cn .f32 (rdOf (0 : Nat) l (i : Int)) < 4294967296 := cn_lt hx
      have hlen := packFrom_len ((canons l).take i) 0
      have hlen2 : ((canons l).take i).length ≤ l.length := by rw [List.length_take, canons_len]; omega
      have hstep : packFrom 0 ((canons l).take i) ++ vb (zig (lastOf 0 ((canons l).take i)) (cn .f32 (rdOf (0 : Nat) l (i : Int)))) = packFrom 0 ((canons l).take (i + 1)) := by
        rw [packFrom_take (by rw [canons_len]; exact c), canons_at c]
      have hlast : lastOf 0 ((canons l).take (i + 1)) = cn .f32 (rdOf (0 : Nat) l (i : Int)) := by
        rw [lastOf_take (by rw [canons_len]; exact c), canons_at c]
      have hv := zig_len (lastOf 0 ((canons l).take i)) (cn .f32 (rdOf (0 : Nat) l (i : Int)))
      have hbits := bits_i _ hx
      have hst := step_i l (l.length : Int) (i : Int) (packFrom 0 ((canons l).take i)) _ _ hp hq (by clear hstep hlast hv hbits hp hq hx; omega)
      clear hp hq hx
      rw [hstep] at hst
      generalize lastOf 0 ((canons l).take i) = b at *
      generalize cn .f32 (rdOf (0 : Nat) l (i : Int)) = q at *
      generalize (vb (zig b q)).length = v at *
      have e : ((i : Int) + 1) = ((i + 1 : Nat) : Int) := by omega
      obtain ⟨k2, rfl⟩ : ∃ m, k = m + v + 1 + 1 + 1 := ⟨k - v - 3, by omega⟩
      have ih := ihd k2 (i + 1) (by omega) (by omega) (by omega)
      rw [hlast] at ih
      rw [l0e, if_pos (by omega), if_pos (by omega), if_pos (by omega), hbits, Option.bind_some, hst k2, w64 (by omega) (by omega), e]
      exact ih
    · obtain ⟨k1, rfl⟩ : ∃ m, k = m + 1 := ⟨k - 1, by omega⟩
      rw [l0e, if_neg (by omega)]
      have : i = l.length := by omega
      subst this
      rw [← canons_len, List.take_length]
theorem pack_i (l : List Nat) (hb : ∀ x ∈ l, x < 4294967296) (hl : l.length ≤ 1048576) (k : Nat) (hk : 8388608 < k) : impl_packValues.f k l = some (strOfNums (packFrom 0 (canons l))) :=
  packl_i l hb hl l.length k 0 (by omega) (by omega) (by omega)
theorem bt_r (s : ByteArray) (i : Int) : ∃ b : Nat, bt s i = (b : Int) ∧ b < 256 := by
  unfold bt
  split
  · exact ⟨_, rfl, UInt8.toNat_lt _⟩
  · exact ⟨0, rfl, by decide⟩
theorem and127 (b : Nat) (hb : b < 256) : Go.bits .and .u8 (b : Int) 127 = ((b % 128 : Nat) : Int) := by
  have h := bits_mask .u8 8 (by decide) wraps_u8 7 (by decide) (b : Int) (by omega) (by omega)
  have e : ((2 : Int) ^ 7 - 1) = 127 := by decide
  rw [e] at h
  rw [h]
  omega
theorem wraps_i40 (n : Int) (h0 : 0 ≤ n) (h1 : n < 2 ^ 40) : IntKind.i64.wrap n = n := by rw [IntKind.wrap_i64]; omega
theorem p128 (j : Nat) : 128 ^ j = 2 ^ (7 * j) := by rw [Nat.pow_mul]
theorem p128le {j : Nat} (hj : j ≤ 4) : 128 ^ j ≤ 268435456 := Nat.le_trans (Nat.pow_le_pow_right (by decide) hj) (by decide)
theorem or_shl (j : Nat) (hj : j ≤ 4) (n b : Nat) (hn : n < 128 ^ j) (hb : b < 256) :
    Go.bits .or .i64 (n : Int) (shl .i64 (wrap64 (Go.bits .and .u8 (b : Int) 127)) ((7 * j : Nat) : Int)) = ((n + (b % 128) * 128 ^ j : Nat) : Int) := by
  have hp := p128le hj
  rw [and127 b hb, w64 (by omega) (by omega)]
  unfold shl
  have hm : min ((7 * j : Nat) : Int).toNat IntKind.i64.bits = 7 * j := by
    rw [Int.toNat_natCast]; exact Nat.min_eq_left (by show 7 * j ≤ 64; omega)
  rw [hm]
  have hc : (((b % 128 : Nat) : Int) * 2 ^ (7 * j)) = ((2 ^ (7 * j) * (b % 128) : Nat) : Int) := by
    rw [Int.natCast_mul, Int.natCast_pow, Int.mul_comm]; rfl
  have hz : 2 ^ (7 * j) * (b % 128) < 2 ^ 40 := by
    rw [← p128]
    have : 128 ^ j * (b % 128) ≤ 268435456 * 127 := Nat.mul_le_mul hp (by omega)
    omega
  rw [hc, wraps_i40 _ (by omega) (by exact_mod_cast hz)]
  have hn2 : n < 2 ^ 40 := by
    have : n < 268435456 := by omega
    omega
  rw [(bits_nat .i64 40 (by decide) wraps_i40 n _ hn2 hz).2, Nat.or_comm, p128, ← Nat.two_pow_add_eq_or_of_lt (by rw [← p128]; exact hn) (b % 128), Nat.mul_comm, Nat.add_comm]
theorem val_hi (j : Nat) (hj : j ≤ 4) (n b : Nat) (hn : n < 128 ^ j) (hb : b < 256) (h : 128 ≤ b) :
    wrap64 ((n : Int) + (wrap64 ((((b : Int) - 128) % 256) * ((128 ^ j : Nat) : Int)))) = ((n + (b % 128) * 128 ^ j : Nat) : Int) := by
  have hp := p128le hj
  have e : (((b : Int) - 128) % 256) = ((b % 128 : Nat) : Int) := by omega
  have hm : (b % 128) * 128 ^ j ≤ 127 * 268435456 := Nat.mul_le_mul (by omega) hp
  rw [e, ← Int.natCast_mul]
  generalize (b % 128) * 128 ^ j = m at *
  generalize 128 ^ j = p at *
  rw [w64 (x := (m : Int)) (by omega) (by omega), w64 (by omega) (by omega), Int.natCast_add]
theorem val_lo (j : Nat) (hj : j ≤ 4) (n b : Nat) (hn : n < 128 ^ j) (h : b < 128) :
    wrap64 ((n : Int) + (wrap64 ((wrap64 (b : Int)) * ((128 ^ j : Nat) : Int)))) = ((n + (b % 128) * 128 ^ j : Nat) : Int) := by
  have hp := p128le hj
  have e : b % 128 = b := by omega
  have hm : b * 128 ^ j ≤ 127 * 268435456 := Nat.mul_le_mul (by omega) hp
  rw [e, w64 (x := (b : Int)) (by omega) (by omega), ← Int.natCast_mul]
  generalize b * 128 ^ j = m at *
  generalize 128 ^ j = p at *
  rw [w64 (x := (m : Int)) (by omega) (by omega), w64 (by omega) (by omega), Int.natCast_add]
theorem scale_up (j : Nat) (hj : j ≤ 4) : wrap64 (((128 ^ j : Nat) : Int) * 128) = ((128 ^ (j + 1) : Nat) : Int) := by
  have hp := p128le hj
  rw [Nat.pow_succ]
  generalize 128 ^ j = p at *
  rw [w64 (by omega) (by omega), Int.natCast_mul]; rfl
theorem n_up (j n b : Nat) (hn : n < 128 ^ j) : n + (b % 128) * 128 ^ j < 128 ^ (j + 1) := by
  rw [Nat.pow_succ]
  have : (b % 128) * 128 ^ j ≤ 127 * 128 ^ j := Nat.mul_le_mul_right _ (by omega)
  omega
theorem bef (y : Int) : ∃ v : Nat, Int.tmod (wrap64 ((Int.tmod y 4294967296) + 4294967296)) 4294967296 = (v : Int) ∧ v < 4294967296 := by
  have h1 := Int.tmod_lt_of_pos y (b := 4294967296) (by decide)
  have h2 := Int.lt_tmod_of_pos y (b := 4294967296) (by decide)
  rw [w64 (by omega) (by omega)]
  rw [Int.tmod_eq_emod_of_nonneg (by omega)]
  exact ⟨((y.tmod 4294967296 + 4294967296) % 4294967296).toNat, by omega, by omega⟩
theorem fromBits_some (v : Nat) (h : v < 4294967296) : impl_FromBits.f (v : Int) = some (v, true) := by
  unfold impl_FromBits.f impl_within.f
  rw [if_pos (by omega), Option.bind_some, if_pos (by simp; omega)]
  congr 2
  omega
theorem from_some (v : Nat) (h : v < 4294967296) : spec_l01From.f (v : Int) = some v := by
  unfold spec_l01From.f
  congr 1
  omega
theorem within_n (n : Nat) : impl_within.f (n : Int) 1 256 = some (decide (1 ≤ n ∧ n ≤ 256)) := by
  unfold impl_within.f
  by_cases c : (n : Int) ≥ 1
  · rw [if_pos c]
    congr 1
    rw [decide_eq_decide]
    omega
  · rw [if_neg c]
    congr 1
    exact (decide_eq_false (by omega)).symm
theorem values_n (l : List Nat) : spec_l07Values.f l = some (decide (1 ≤ l.length ∧ l.length ≤ 256)) := within_n l.length
theorem u_over (s : ByteArray) (hs : s.size ≤ 1048576) : ∀ (d k : Nat) (l : List Nat) (b n : Int) (i j : Nat), i + d = s.size → j ≤ 4 → 256 < l.length → l.length ≤ 2 * 1048576 + i → d < k →
    ∃ r, impl_unpackValues.l0 k s l b n ((7 * j : Nat) : Int) (s.size : Int) (i : Int) = some (r, false)
  | d, 0, l, b, n, i, j, h1, hj, hl, hm, hk => by omega
  | 0, k + 1, l, b, n, i, j, h1, hj, hl, hm, hk => by
    unfold impl_unpackValues.l0
    rw [if_neg (by omega)]
    by_cases c : ((7 * j : Nat) : Int) = 0
    · rw [if_pos c, within_n, Option.bind_some, decide_eq_false (by omega)]; exact ⟨_, rfl⟩
    · rw [if_neg c]; exact ⟨_, rfl⟩
  | d + 1, k + 1, l, b, n, i, j, h1, hj, hl, hm, hk => by
    obtain ⟨q, hq, hq2⟩ := bt_r s (i : Int)
    have e1 : wrap64 ((i : Int) + 1) = ((i + 1 : Nat) : Int) := by rw [w64 (by omega) (by omega)]; omega
    unfold impl_unpackValues.l0
    rw [if_pos (by omega), if_pos (by omega), if_pos (by omega), if_pos (by omega)]
    by_cases c : bt s (i : Int) ≥ 128
    · rw [if_pos c]
      by_cases c2 : wrap64 (((7 * j : Nat) : Int) + 7) > 28
      · rw [if_pos c2]; exact ⟨_, rfl⟩
      · have e7 : wrap64 (((7 * j : Nat) : Int) + 7) = ((7 * (j + 1) : Nat) : Int) := by rw [w64 (by omega) (by omega)]; omega
        rw [if_neg c2, e7, e1]
        rw [e7] at c2
        exact u_over s hs d k _ _ _ (i + 1) (j + 1) (by omega) (by omega) hl (by omega) (by omega)
    · rw [if_neg c]
      split
      · obtain ⟨v, hv, hv2⟩ := bef (wrap64 (b + (wrap64 (Int.tdiv (wrap64 (-(wrap64 ((Go.bits .or .i64 n (shl .i64 (wrap64 (Go.bits .and .u8 (bt s (i : Int)) 127)) ((7 * j : Nat) : Int))) + 1)))) 2))))
        rw [hv, fromBits_some v hv2, Option.bind_some, if_pos (by omega), e1]
        exact u_over s hs d k _ _ 0 (i + 1) 0 (by omega) (by omega) (by rw [List.length_append]; omega) (by rw [List.length_append]; simp only [List.length_singleton]; omega) (by omega)
      · obtain ⟨v, hv, hv2⟩ := bef (wrap64 (b + (wrap64 (Int.tdiv (Go.bits .or .i64 n (shl .i64 (wrap64 (Go.bits .and .u8 (bt s (i : Int)) 127)) ((7 * j : Nat) : Int))) 2))))
        rw [hv, fromBits_some v hv2, Option.bind_some, if_pos (by omega), e1]
        exact u_over s hs d k _ _ 0 (i + 1) 0 (by omega) (by omega) (by rw [List.length_append]; omega) (by rw [List.length_append]; simp only [List.length_singleton]; omega) (by omega)
/-- what unpacking ends in, once all bytes are read -/
def fin (s : ByteArray) (r : List Nat × Bool) : List Nat × Bool := if r.2 = true then (if (strOfNums (packFrom 0 (canons r.1))).toList = s.toList then (r.1, true) else ([], false)) else ([], false)
def simP (s : ByteArray) (d k1 k2 : Nat) (l : List Nat) (b : Int) (i j n : Nat) : Prop :=
    ∃ r : List Nat × Bool, impl_unpackValues.l0 k1 s l b (n : Int) ((7 * j : Nat) : Int) (s.size : Int) (i : Int) = some r ∧ (r.2 = true → 1 ≤ r.1.length ∧ r.1.length ≤ 256 ∧ ∀ x ∈ r.1, x < 4294967296) ∧
      (0 < d ∨ 0 < j → spec_l07Unpack.l1 k2 s l b (i : Int) (n : Int) ((128 ^ j : Nat) : Int) = some (fin s r)) ∧ (j = 0 → n = 0 → spec_l07Unpack.l0 (k2 + 1) s l b (i : Int) = some (fin s r))
theorem sim0 (s : ByteArray) (hs : s.size ≤ 1048576) (k1 k2 : Nat) (l : List Nat) (b : Int) (i j n : Nat) (h1 : i = s.size) (hl : l.length ≤ 256) (hb : ∀ x ∈ l, x < 4294967296) (hk2 : 1048600 < k2) : simP s 0 (k1 + 1) (k2 + 1 + 1 + 1) l b i j n := by
    by_cases c : j = 0
    · subst c
      refine ⟨(l, decide (1 ≤ l.length ∧ l.length ≤ 256)), ?_, fun h => ⟨(of_decide_eq_true h).1, hl, hb⟩, fun h => by omega, fun _ hn0 => ?_⟩
      · rw [impl_unpackValues.l0, if_neg (by omega), if_pos (by omega), within_n]; rfl
      · rw [spec_l07Unpack.l0, if_neg (by omega), values_n, Option.bind_some]
        unfold fin
        by_cases g : 1 ≤ l.length ∧ l.length ≤ 256
        · rw [if_pos (decide_eq_true g), if_pos (decide_eq_true g), pack_s l hb (by omega) _ (by omega), Option.bind_some]
          dsimp only
          split <;> rfl
        · rw [if_neg (by simpa using g), if_neg (by simpa using g)]
    · refine ⟨(l, false), ?_, fun h => (by cases h), fun _ => ?_, fun h => absurd h c⟩
      · rw [impl_unpackValues.l0, if_neg (by omega), if_neg (by omega)]
      · have a1 : ¬ ((i : Int) < (s.size : Int)) := by omega
        have a2 : (i : Int) = (s.size : Int) := by omega
        rw [spec_l07Unpack.l1, if_neg a1, spec_l07Unpack.j2, if_pos a2, spec_l07Unpack.j3, if_pos (Eq.refl true)]
        unfold fin
        rw [if_neg (by simp)]
theorem simA {s : ByteArray} {d k1 k2 : Nat} {l : List Nat} {b : Int} {i j n : Nat} (r : List Nat × Bool) (hi : i < s.size) (h1 : impl_unpackValues.l0 k1 s l b (n : Int) ((7 * j : Nat) : Int) (s.size : Int) (i : Int) = some r) (h2 : r.2 = true → 1 ≤ r.1.length ∧ r.1.length ≤ 256 ∧ ∀ x ∈ r.1, x < 4294967296)
    (h3 : spec_l07Unpack.l1 k2 s l b (i : Int) (n : Int) ((128 ^ j : Nat) : Int) = some (fin s r)) : simP s d k1 k2 l b i j n := by
  refine ⟨r, h1, h2, fun _ => h3, fun hj hn => ?_⟩
  subst hj hn
  rw [spec_l07Unpack.l0, if_pos (by omega)]
  exact h3
theorem simHi (s : ByteArray) (hs : s.size ≤ 1048576) (d k1 k2 : Nat) (l : List Nat) (b : Int) (i j n q : Nat) (hi : i < s.size) (hj : j ≤ 4) (hn : n < 128 ^ j) (hq : bt s (i : Int) = (q : Int)) (hq2 : q < 256) (c : (q : Int) ≥ 128)
    (ih : j ≠ 4 → simP s d k1 (k2 + 1 + 1 + 1) l b (i + 1) (j + 1) (n + (q % 128) * 128 ^ j)) : simP s (d + 1) (k1 + 1) (k2 + 1 + 1 + 1 + 1) l b i j n := by
  have e1 : wrap64 ((i : Int) + 1) = ((i + 1 : Nat) : Int) := by rw [w64 (by omega) (by omega)]; omega
  have hw := or_shl j hj n q hn hq2
  by_cases c2 : j = 4
  · subst c2
    have e7 : wrap64 (((7 * 4 : Nat) : Int) + 7) > 28 := by rw [w64 (by omega) (by omega)]; omega
    refine simA ([], false) hi ?_ (fun h => (by cases h)) ?_
    · rw [impl_unpackValues.l0, if_pos (by omega), if_pos (by omega), if_pos (by omega), if_pos (by omega), hq, if_pos c, if_pos e7]
    · have a2 : ¬ ((i : Int) = (s.size : Int)) := by omega
      have a3 : ¬ (((128 ^ 4 : Nat) : Int) < 268435456) := by decide
      rw [spec_l07Unpack.l1, if_pos (by omega), if_pos (by omega), hq, if_pos c, if_neg a3, spec_l07Unpack.j2, if_neg a2, if_pos (by omega), if_pos (by omega), hq, decide_eq_true c, spec_l07Unpack.j3, if_pos (Eq.refl true)]
      unfold fin
      rw [if_neg (by simp)]
  · have e7 : wrap64 (((7 * j : Nat) : Int) + 7) = ((7 * (j + 1) : Nat) : Int) := by rw [w64 (by omega) (by omega)]; omega
    have e8 : ¬ (((7 * (j + 1) : Nat) : Int) > 28) := by omega
    have hp : ((128 ^ j : Nat) : Int) < 268435456 := by
      have : 128 ^ j ≤ 2097152 := Nat.le_trans (Nat.pow_le_pow_right (by decide) (show j ≤ 3 by omega)) (by decide)
      generalize 128 ^ j = p at *
      omega
    obtain ⟨r, g1, g2, g3, _⟩ := ih c2
    refine simA r hi ?_ g2 ?_
    · rw [impl_unpackValues.l0, if_pos (by omega), if_pos (by omega), if_pos (by omega), if_pos (by omega), hq, if_pos c, e7, if_neg e8, hw, e1]
      exact g1
    · rw [spec_l07Unpack.l1, if_pos (by omega), if_pos (by omega), hq, if_pos c, if_pos hp, e1, val_hi j hj n q hn hq2 (by omega), scale_up j hj]
      exact g3 (.inr (by omega))
theorem i_up {i n : Nat} (h : i < n) (hn : n ≤ 1048576) : wrap64 ((i : Int) + 1) = ((i + 1 : Nat) : Int) := by rw [w64 (by omega) (by omega)]; omega
theorem lo_c {q : Nat} (c : ¬ (q : Int) ≥ 128) : q < 128 := by omega
theorem ne_c {i n : Nat} (h : i < n) : ¬ ((i : Int) = (n : Int)) := by omega
theorem simLo (s : ByteArray) (hs : s.size ≤ 1048576) (d k1 k2 : Nat) (l : List Nat) (b : Int) (i j n q : Nat) (hi : i < s.size) (hid : i + d + 1 = s.size) (hk1 : d < k1) (hl : l.length ≤ 256) (hb : ∀ x ∈ l, x < 4294967296) (hj : j ≤ 4) (hn : n < 128 ^ j) (hq : bt s (i : Int) = (q : Int)) (hq2 : q < 256) (c : ¬ (q : Int) ≥ 128)
    (ih : ∀ v : Nat, v < 4294967296 → l.length + 1 ≤ 256 → simP s d k1 k2 (l ++ [v]) (v : Int) (i + 1) 0 0) : simP s (d + 1) (k1 + 1) (k2 + 1 + 1 + 1 + 1) l b i j n := by
  have key : ∀ v : Nat, v < 4294967296 → ∃ r : List Nat × Bool, impl_unpackValues.l0 k1 s (l ++ [v]) (v : Int) 0 0 (s.size : Int) ((i + 1 : Nat) : Int) = some r ∧ (r.2 = true → 1 ≤ r.1.length ∧ r.1.length ≤ 256 ∧ ∀ x ∈ r.1, x < 4294967296) ∧
      (if ((l ++ [v]).length : Int) > 256 then (some (([] : List Nat), false)) else (spec_l07Unpack.l0 (k2 + 1) s (l ++ [v]) (v : Int) ((i + 1 : Nat) : Int))) = some (fin s r) := by
    intro v hv
    have hlen : (l ++ [v]).length = l.length + 1 := by rw [List.length_append]; rfl
    by_cases g : l.length + 1 ≤ 256
    · obtain ⟨r, g1, g2, _, g4⟩ := ih v hv g
      refine ⟨r, g1, g2, ?_⟩
      rw [if_neg (by omega)]
      exact g4 rfl rfl
    · obtain ⟨r, g1⟩ := u_over s hs d k1 (l ++ [v]) (v : Int) 0 (i + 1) 0 (by omega) (by omega) (by omega) (by omega) (by omega)
      refine ⟨(r, false), g1, fun h => (by cases h), ?_⟩
      rw [if_pos (by omega)]
      unfold fin
      rw [if_neg (by simp)]
  have e1 := i_up hi hs
  have b1 : (i : Int) < (s.size : Int) := Int.ofNat_lt.2 hi
  have b2 : (0 : Int) ≤ (i : Int) := Int.natCast_nonneg i
  have b3 : (0 : Int) ≤ ((7 * j : Nat) : Int) := Int.natCast_nonneg _
  have b4 : l.length < 35184372088832 := Nat.lt_of_le_of_lt hl (by decide)
  have hw := or_shl j hj n q hn hq2
  have hv0 := val_lo j hj n q hn (lo_c c)
  have hs1 : spec_l07Unpack.l1 (k2 + 1 + 1 + 1 + 1) s l b (i : Int) (n : Int) ((128 ^ j : Nat) : Int) = spec_l07Unpack.j3 (k2 + 1 + 1) s l b (i : Int) (n : Int) ((128 ^ j : Nat) : Int) false := by
    have a2 := ne_c hi
    rw [spec_l07Unpack.l1, if_pos b1, if_pos b2, hq, if_neg c, spec_l07Unpack.j2, if_neg a2, if_pos b2, if_pos b1, hq, decide_eq_false c]
  generalize hm : n + (q % 128) * 128 ^ j = m at hw hv0
  by_cases g : (Int.tmod (m : Int) 2) = 1
  · obtain ⟨v, hv, hv2⟩ := bef (wrap64 (b + (wrap64 (Int.tdiv (wrap64 (-(wrap64 ((m : Int) + 1)))) 2))))
    obtain ⟨r, g1, g2, g3⟩ := key v hv2
    refine simA r hi ?_ g2 ?_
    · rw [impl_unpackValues.l0, if_pos b1, if_pos b2, if_pos b1, if_pos b3, hq, if_neg c, hw, if_pos g, hv, fromBits_some v hv2, Option.bind_some, if_pos b4, e1]; exact g1
    · rw [hs1, spec_l07Unpack.j3, if_neg (Bool.false_ne_true), if_pos b2, if_pos b1, hq, hv0, if_pos g, hv, from_some v hv2, Option.bind_some, if_pos b4, Option.bind_some, e1]; exact g3
  · obtain ⟨v, hv, hv2⟩ := bef (wrap64 (b + (wrap64 (Int.tdiv (m : Int) 2))))
    obtain ⟨r, g1, g2, g3⟩ := key v hv2
    refine simA r hi ?_ g2 ?_
    · rw [impl_unpackValues.l0, if_pos b1, if_pos b2, if_pos b1, if_pos b3, hq, if_neg c, hw, if_neg g, hv, fromBits_some v hv2, Option.bind_some, if_pos b4, e1]; exact g1
    · rw [hs1, spec_l07Unpack.j3, if_neg (Bool.false_ne_true), if_pos b2, if_pos b1, hq, hv0, if_neg g, hv, from_some v hv2, Option.bind_some, if_pos b4, Option.bind_some, e1]; exact g3
theorem u_sim (s : ByteArray) (hs : s.size ≤ 1048576) (d : Nat) : ∀ (k1 k2 : Nat) (l : List Nat) (b : Int) (i j n : Nat), i + d = s.size → j ≤ 4 → n < 128 ^ j → l.length ≤ 256 → (∀ x ∈ l, x < 4294967296) → d < k1 → 4 * d + 1048610 < k2 → simP s d k1 k2 l b i j n := by
  induction d with
  | zero =>
    intro k1 k2 l b i j n h1 hj hn hl hb hk hk2
    obtain ⟨k1, rfl⟩ : ∃ m, k1 = m + 1 := ⟨k1 - 1, by omega⟩
    obtain ⟨k2, rfl⟩ : ∃ m, k2 = m + 1 + 1 + 1 := ⟨k2 - 3, by omega⟩
    exact sim0 s hs k1 k2 l b i j n (by omega) hl hb (by omega)
  | succ d ih =>
    intro k1 k2 l b i j n h1 hj hn hl hb hk hk2
    obtain ⟨k1, rfl⟩ : ∃ m, k1 = m + 1 := ⟨k1 - 1, by omega⟩
    obtain ⟨k2, rfl⟩ : ∃ m, k2 = m + 1 + 1 + 1 + 1 := ⟨k2 - 4, by omega⟩
    obtain ⟨q, hq, hq2⟩ := bt_r s (i : Int)
    by_cases c : (q : Int) ≥ 128
    · exact simHi s hs d k1 k2 l b i j n q (by omega) hj hn hq hq2 c fun c2 => ih k1 _ l b (i + 1) (j + 1) _ (by omega) (by omega) (n_up j n q hn) hl hb (by omega) (by omega)
    · refine simLo s hs d k1 k2 l b i j n q (by omega) (by omega) (by omega) hl hb hj hn hq hq2 c fun v hv g => ih k1 k2 (l ++ [v]) (v : Int) (i + 1) 0 0 (by omega) (by omega) (by decide) (by rw [List.length_append]; exact g) ?_ (by omega) (by omega)
      intro x hx
      rcases List.mem_append.1 hx with h | h
      · exact hb x h
      · rw [List.mem_singleton.1 h]; exact hv
theorem fin_ok (s : ByteArray) (r : List Nat × Bool) (h : r.2 = true → 1 ≤ r.1.length ∧ r.1.length ≤ 256 ∧ ∀ x ∈ r.1, x < 4294967296) : (fin s r).1.length ≤ 256 ∧ ∀ x ∈ (fin s r).1, x < 4294967296 := by
  unfold fin
  split
  · rename_i g
    split
    · exact (h g).2
    · exact ⟨by decide, fun x hx => by cases hx⟩
  · exact ⟨by decide, fun x hx => by cases hx⟩
/-- both unpack alike -/
theorem unpack_some (s : ByteArray) (hs : s.size ≤ 1048576) :
    ∃ u : List Nat × Bool, (u.2 = true → 1 ≤ u.1.length ∧ u.1.length ≤ 256 ∧ ∀ x ∈ u.1, x < 4294967296) ∧ ∀ k, 8388620 ≤ k → impl_unpackValues.f k s = some u ∧ spec_l07Unpack.f k s = some (fin s u) := by
  obtain ⟨K, hK⟩ : ∃ K : Nat, K = 8388619 := ⟨_, rfl⟩
  obtain ⟨u, h1, h2, _, h3⟩ := u_sim s hs s.size (K + 1) K [] 0 0 0 0 (by omega) (by decide) (by decide) (by decide) (fun x hx => by cases hx) (by omega) (by omega)
  have h4 := h3 rfl rfl
  exact ⟨u, h2, fun k hk => ⟨at_rounds (g := fun k => impl_unpackValues.f k s) (impl_unpackValues.mono s) (show K + 1 ≤ k by omega) h1, at_rounds (g := fun k => spec_l07Unpack.f k s) (spec_l07Unpack.mono s) (show K + 1 ≤ k by omega) h4⟩⟩
theorem mk_ok : ∀ n, n < 300 → fne .f32 (floatOfInt .f32 (n : Nat)) (floatOfInt .f32 (n : Nat)) = false := by
  have h : (List.range 300).all (fun n => !fne .f32 (floatOfInt .f32 (n : Nat)) (floatOfInt .f32 (n : Nat))) = true := by kernel_rfl
  intro n hn
  have := List.all_eq_true.1 h n (List.mem_range.2 hn)
  simpa using this
def marks (n : Nat) : List Nat := (List.range n).map fun j => floatOfInt .f32 ((1 + j : Nat) : Int)
theorem marks_len (n : Nat) : (marks n).length = n := by unfold marks; rw [List.length_map, List.length_range]
theorem marks_at {n i : Nat} (h : i < n) : (marks n)[i]? = some (floatOfInt .f32 ((1 + i : Nat) : Int)) := by
  unfold marks
  rw [List.getElem?_map, List.getElem?_range h]; rfl
theorem markl (n : Nat) (hn : n ≤ 1048576) : ∀ (d k : Nat) (xs : List Nat) (i : Nat), i + d = n → xs.length = n → xs.take i = (marks n).take i → d < k →
    laws_markFloat32S.l0 k xs ((1 + i : Nat) : Int) (i : Int) = some (((1 + n : Nat) : Int), marks n)
  | d, 0, xs, i, h1, hl, ht, hk => by omega
  | 0, k + 1, xs, i, h1, hl, ht, hk => by
    unfold laws_markFloat32S.l0
    obtain rfl : i = n := by omega
    rw [if_neg (by omega), List.take_of_length_le (by omega), List.take_of_length_le (by rw [marks_len]; omega)] at *
    rw [ht]
  | d + 1, k + 1, xs, i, h1, hl, ht, hk => by
    unfold laws_markFloat32S.l0
    have e1 : wrap64 ((i : Int) + 1) = ((i + 1 : Nat) : Int) := by rw [w64 (by omega) (by omega)]; omega
    have e2 : wrap64 (((1 + i : Nat) : Int) + 1) = ((1 + (i + 1) : Nat) : Int) := by rw [w64 (by omega) (by omega)]; omega
    rw [if_pos (by omega), if_pos (by omega), e1, e2]
    refine markl n hn d k _ (i + 1) (by omega) (by rw [List.length_set]; exact hl) ?_ (by omega)
    rw [Int.toNat_natCast]
    exact take_set_succ (by rw [marks_len]; omega) (by rw [marks_len]; exact hl) ht (marks_at (by omega))
theorem mark_some (l : List Nat) (hl : l.length ≤ 1048576) (k : Nat) (hk : l.length < k) : laws_markFloat32S.f k l 1 = some (((1 + l.length : Nat) : Int), marks l.length) :=
  markl l.length hl l.length k l 0 (by omega) rfl rfl hk
theorem heldl (n : Nat) (hn : n ≤ 256) : ∀ (d k : Nat) (i : Nat), i + d = n → d < k →
    laws_heldFloat32S.l0 k (marks n) ((1 + i : Nat) : Int) (i : Int) = some ((1 + n : Nat) : Int)
  | d, 0, i, h1, hk => by omega
  | 0, k + 1, i, h1, hk => by
    unfold laws_heldFloat32S.l0
    obtain rfl : i = n := by omega
    rw [if_neg (by rw [marks_len]; omega)]
  | d + 1, k + 1, i, h1, hk => by
    unfold laws_heldFloat32S.l0
    have e1 : wrap64 ((i : Int) + 1) = ((i + 1 : Nat) : Int) := by rw [w64 (by omega) (by omega)]; omega
    have e2 : wrap64 (((1 + i : Nat) : Int) + 1) = ((1 + (i + 1) : Nat) : Int) := by rw [w64 (by omega) (by omega)]; omega
    have e3 : rdOf (0 : Nat) (marks n) (i : Int) = floatOfInt .f32 ((1 + i : Nat) : Int) := by
      unfold rdOf
      rw [Int.toNat_natCast, List.getD_eq_getElem?_getD, marks_at (by omega)]; rfl
    rw [if_pos (by rw [marks_len]; omega), if_pos (by omega), e3, mk_ok (1 + i) (by omega), if_neg (by simp), e1, e2]
    exact heldl n hn d k (i + 1) (by omega) (by omega)
theorem held_some (n : Nat) (hn : n ≤ 256) (k : Nat) (hk : n < k) : laws_heldFloat32S.f k (marks n) 1 = some ((1 + n : Nat) : Int) :=
  heldl n hn n k 0 (by omega) hk
theorem values_some (s : ByteArray) (hs : s.size ≤ 1048576) :
    ∃ r : List Nat × Bool, r.1.length ≤ 256 ∧ (∀ x ∈ r.1, x < 4294967296) ∧ ∀ k, 8388620 ≤ k → spec_UnpackValues.f k s = some r ∧ impl_UnpackValues.f k s = some r := by
  obtain ⟨u, h2, h⟩ := unpack_some s hs
  have h4 := fin_ok s u h2
  refine ⟨fin s u, h4.1, h4.2, fun k hk => ⟨?_, ?_⟩⟩
  · unfold spec_UnpackValues.f; rw [(h k hk).2]; rfl
  · unfold impl_UnpackValues.f
    rw [(h k hk).1, Option.bind_some]
    unfold fin
    by_cases c : u.2 = true
    · obtain ⟨_, g1, g2⟩ := h2 c
      rw [if_pos c, if_pos c, pack_i u.1 g2 (by omega) k (by omega), Option.bind_some]
      split <;> rfl
    · rw [if_neg c, if_neg c]
theorem pure : laws_FnExactUnpackValues.Pure := by
  intro s _
  obtain ⟨K, hK⟩ : ∃ K : Nat, K = 8388620 := ⟨_, rfl⟩
  refine ⟨K + 1 + 1, ?_⟩
  unfold laws_FnExactUnpackValues.f
  by_cases c : (s.size : Int) > 1048576
  · rw [if_pos c]
  obtain ⟨⟨l, ok⟩, h1, h2, h⟩ := values_some s (by omega)
  replace h1 : l.length ≤ 256 := h1
  replace h2 : ∀ x ∈ l, x < 4294967296 := h2
  have n0 : ¬ (((1 + l.length : Nat) : Int) < 0) := by omega
  rw [if_neg c, (h _ (by omega)).1, Option.bind_some, (h _ (by omega)).2, Option.bind_some, eqF_some l (by omega) h2, Option.bind_some, if_pos rfl, laws_FnExactUnpackValues.j0, if_neg (by simp)]
  dsimp only
  rw [mark_some l (by omega) _ (by omega), Option.bind_some]
  dsimp only
  rw [held_some l.length h1 _ (by omega), Option.bind_some, if_neg n0, if_pos rfl, (h _ (by omega)).2, Option.bind_some]
  dsimp only
  rw [eqF_some l (by omega) h2, Option.bind_some, if_pos rfl, laws_FnExactUnpackValues.j1, if_neg (by simp), held_some l.length h1 _ (by omega), Option.bind_some, if_neg n0, if_pos rfl]
end Go.Proofs.Ytgiednkailakgaa.UvPure
