/- RecoverBlocks: what is left of the law beside the walk: both recover the same blocks out of the same bytes, and the marks are found again. -/
import Derived.Test.YtoiaojdkgagblaaRbm
import Derived.Test.YtoiaojdkgagblaaFm
import Derived.Test.YtoiaojdkgagblaaB3
import Derived.Laws.BitsLemmas
import Derived.Lib.SmallJoins
set_option linter.unusedVariables false
set_option linter.unusedSimpArgs false
namespace Go.Proofs.Ytoiaojdkgagblaa.RbkPure
open Go.RowKit Go.Proofs.YtoiaojdkgagblaaW.PrintWords Go.Proofs.YtoiaojdkgagblaaW.PrintFl Go.Proofs.Ytoiaojdkgagblaa.PFnExactRecoverBlocks Go.Proofs.Ytoiaojdkgagblaa.Rbm
theorem w64 {x : Int} (h0 : -9223372036854775808 ≤ x) (h1 : x ≤ 9223372036854775807) : wrap64 x = x := by
  unfold wrap64; omega
theorem eqF_some (l : List Nat) (hl : l.length ≤ 1048576) (hb : ∀ x ∈ l, x < 4294967296) : laws_eqFloat32S.f l l = some true := by
  unfold laws_eqFloat32S.f
  rw [if_pos ⟨rfl, hl, hb⟩]
theorem bits_s (x : Nat) (hx : x < 4294967296) : spec_l01Bits.f x = some ((cn .f32 x : Nat) : Int) := by
  unfold spec_l01Bits.f cn
  rw [fne_self]
  split
  · rfl
  · rw [w64 (by omega) (by omega)]
theorem bits_i (x : Nat) (hx : x < 4294967296) : impl_BitsOf.f x = some ((cn .f32 x : Nat) : Int) := bits_s x hx
theorem vb_step_hi {n : Nat} (h : ¬ n < 128) (hn : n < 4294967296) : (wrap64 (Int.tmod (n : Int) 128 + 128)) % 256 = ((n % 128 + 128 : Nat) : Int) ∧ wrap64 (Int.tdiv (n : Int) 128) = ((n / 128 : Nat) : Int) := by
  have h1 : Int.tmod (n : Int) 128 = ((n % 128 : Nat) : Int) := by rw [Int.tmod_eq_emod_of_nonneg (by omega)]; omega
  have h2 : Int.tdiv (n : Int) 128 = ((n / 128 : Nat) : Int) := by rw [Int.tdiv_eq_ediv_of_nonneg (by omega)]; omega
  rw [h1, h2]
  refine ⟨?_, w64 (by omega) (by omega)⟩
  rw [w64 (by omega) (by omega)]
  omega
theorem bytes_s (m : Nat) : ∀ (k : Nat) (xs : List Int) (n : Nat), n < 4294967296 → n < 128 ^ (m + 1) → m < k → xs.length + m < 140737488355328 → spec_l07Bytes.l0 k xs (n : Int) = some (xs ++ vb n) := by
  induction m with
  | zero =>
    intro k xs n h32 hn hk hl
    have c : n < 128 := by simpa using hn
    obtain ⟨k, rfl⟩ : ∃ q, k = q + 1 := ⟨k - 1, by omega⟩
    unfold spec_l07Bytes.l0
    rw [if_neg (by omega), if_pos (by omega), vb_small c]
    have : (n : Int) % 256 = n := by omega
    rw [this]
  | succ m ih =>
    intro k xs n h32 hn hk hl
    obtain ⟨k, rfl⟩ : ∃ q, k = q + 1 := ⟨k - 1, by omega⟩
    unfold spec_l07Bytes.l0
    by_cases c : n < 128
    · rw [if_neg (by omega), if_pos (by omega), vb_small c]
      have : (n : Int) % 256 = n := by omega
      rw [this]
    · obtain ⟨e1, e2⟩ := vb_step_hi c h32
      have hn2 : n / 128 < 128 ^ (m + 1) := by rw [Nat.div_lt_iff_lt_mul (by decide)]; rw [Nat.pow_succ] at hn; exact hn
      clear hn
      rw [if_pos (by omega), if_pos (by omega), e1, e2, ih k _ (n / 128) (by omega) hn2 (by omega) (by rw [List.length_append, List.length_singleton]; omega), vb_big c, List.append_assoc]
      rfl
theorem bytes_i (x4 : Int) (l : List Nat) (a i : Int) (m : Nat) : ∀ (k : Nat) (xs : List Int) (n : Nat), n < 4294967296 → n < 128 ^ (m + 1) → xs.length + m < 140737488355328 →
    impl_packValues.l1 (k + (vb n).length) xs x4 (n : Int) l a i = impl_packValues.l0 k (xs ++ vb n) x4 l a (wrap64 (i + 1)) := by
  induction m with
  | zero =>
    intro k xs n h32 hn hl
    have c : n < 128 := by simpa using hn
    rw [vb_small c]
    show impl_packValues.l1 (k + 1) xs x4 (n : Int) l a i = _
    unfold impl_packValues.l1
    rw [if_neg (by omega), if_pos (by omega)]
    have : (n : Int) % 256 = n := by omega
    rw [this]
  | succ m ih =>
    intro k xs n h32 hn hl
    by_cases c : n < 128
    · rw [vb_small c]
      show impl_packValues.l1 (k + 1) xs x4 (n : Int) l a i = _
      unfold impl_packValues.l1
      rw [if_neg (by omega), if_pos (by omega)]
      have : (n : Int) % 256 = n := by omega
      rw [this]
    · obtain ⟨e1, e2⟩ := vb_step_hi c h32
      have hn2 : n / 128 < 128 ^ (m + 1) := by rw [Nat.div_lt_iff_lt_mul (by decide)]; rw [Nat.pow_succ] at hn; exact hn
      clear hn
      rw [vb_big c, List.length_cons]
      show impl_packValues.l1 ((k + (vb (n / 128)).length) + 1) xs x4 (n : Int) l a i = _
      unfold impl_packValues.l1
      rw [if_pos (by omega), if_pos (by omega), e1, e2, ih k _ (n / 128) (by omega) hn2 (by rw [List.length_append, List.length_singleton]; omega), List.append_assoc]
      rfl
def canons (l : List Nat) : List Nat := l.map (cn .f32)
theorem canons_len (l : List Nat) : (canons l).length = l.length := by unfold canons; rw [List.length_map]
theorem canons_lt {l : List Nat} (hb : ∀ x ∈ l, x < 4294967296) : ∀ x ∈ canons l, x < 4294967296 := by
  intro x hx
  obtain ⟨y, hy, rfl⟩ := List.mem_map.1 hx
  exact cn_lt (hb y hy)
theorem canons_at {l : List Nat} {i : Nat} (hi : i < l.length) : (canons l)[i]'(by rw [canons_len]; exact hi) = cn .f32 (rdOf (0 : Nat) l (i : Int)) := by
  unfold canons rdOf
  rw [List.getElem_map, Int.toNat_natCast, List.getD_eq_getElem?_getD, List.getElem?_eq_getElem hi]
  rfl
theorem rdl_lt {l : List Nat} (h : ∀ x ∈ l, x < 4294967296) (i : Int) : rdOf (0 : Nat) l i < 4294967296 := by
  unfold rdOf
  rw [List.getD_eq_getElem?_getD]
  rcases hh : l[i.toNat]? with _ | x
  · decide
  · exact h x (List.mem_of_getElem? hh)
theorem packl_s (l : List Nat) (hb : ∀ x ∈ l, x < 4294967296) (hl : l.length ≤ 1048576) : ∀ (k : Nat) (i : Nat), i ≤ l.length → l.length - i + 5 < k →
    spec_l07Pack.l0 k l (packFrom 0 ((canons l).take i)) ((lastOf 0 ((canons l).take i) : Nat) : Int) (l.length : Int) (i : Int) = some (strOfNums (packFrom 0 (canons l)))
  | 0, i, h1, hk => by omega
  | k + 1, i, h1, hk => by
    unfold spec_l07Pack.l0
    by_cases c : i < l.length
    · have hx := rdl_lt hb (i : Int)
      have hp := lastOf_lt ((canons l).take i) 4294967296 0 (by decide) (fun x hx => canons_lt hb x (List.mem_of_mem_take hx))
      have hq : cn .f32 (rdOf (0 : Nat) l (i : Int)) < 4294967296 := cn_lt hx
      have hlen := packFrom_len ((canons l).take i) 0
      have hlen2 : ((canons l).take i).length ≤ l.length := by rw [List.length_take, canons_len]; omega
      have hz := zig_lt (lastOf 0 ((canons l).take i)) (cn .f32 (rdOf (0 : Nat) l (i : Int)))
      have hz5 := zig_lt5 (lastOf 0 ((canons l).take i)) (cn .f32 (rdOf (0 : Nat) l (i : Int)))
      have hstep : packFrom 0 ((canons l).take i) ++ vb (zig (lastOf 0 ((canons l).take i)) (cn .f32 (rdOf (0 : Nat) l (i : Int)))) = packFrom 0 ((canons l).take (i + 1)) := by
        rw [packFrom_take (by rw [canons_len]; exact c), canons_at c]
      have hlast : lastOf 0 ((canons l).take (i + 1)) = cn .f32 (rdOf (0 : Nat) l (i : Int)) := by
        rw [lastOf_take (by rw [canons_len]; exact c), canons_at c]
      have ih := packl_s l hb hl k (i + 1) (by omega) (by omega)
      rw [hlast] at ih
      rw [if_pos (by omega), if_pos (by omega), if_pos (by omega), bits_s _ hx, Option.bind_some, w64 (x := (i : Int) + 1) (by omega) (by omega)]
      have e : ((i : Int) + 1) = ((i + 1 : Nat) : Int) := by omega
      rw [e]
      split
      · rename_i hh
        rw [zig_hi _ _ hq hp hh]
        unfold spec_l07Bytes.f
        rw [bytes_s 4 k _ _ hz hz5 (by omega) (by omega), Option.bind_some, hstep]
        exact ih
      · rename_i hh
        rw [zig_lo _ _ hq hp (by omega)]
        unfold spec_l07Bytes.f
        rw [bytes_s 4 k _ _ hz hz5 (by omega) (by omega), Option.bind_some, hstep]
        exact ih
    · rw [if_neg (by omega)]
      have : i = l.length := by omega
      subst this
      rw [← canons_len, List.take_length]
theorem pack_s (l : List Nat) (hb : ∀ x ∈ l, x < 4294967296) (hl : l.length ≤ 1048576) (k : Nat) (hk : 1048582 < k) : spec_l07Pack.f k l = some (strOfNums (packFrom 0 (canons l))) :=
  packl_s l hb hl k 0 (by omega) (by omega)
theorem j1e (k : Nat) (x3 : List Int) (x4 x8 : Int) (x10 : List Nat) (x11 x12 : Int) : impl_packValues.j1 (k + 1) x3 x4 x8 x10 x11 x12 = if x8 < 0 then (impl_packValues.j2 k x3 x4 (wrap64 ((wrap64 ((-2) * x8)) - 1)) x10 x11 x12) else (impl_packValues.j2 k x3 x4 (wrap64 (2 * x8)) x10 x11 x12) := by rw [impl_packValues.j1]
theorem j2e (k : Nat) (x3 : List Int) (x4 x9 : Int) (x10 : List Nat) (x11 x12 : Int) : impl_packValues.j2 (k + 1) x3 x4 x9 x10 x11 x12 = impl_packValues.l1 k x3 x4 x9 x10 x11 x12 := by rw [impl_packValues.j2]
theorem l0e (k : Nat) (x3 : List Int) (x4 : Int) (x10 : List Nat) (x11 x12 : Int) : impl_packValues.l0 (k + 1) x3 x4 x10 x11 x12 = if x12 < x11 then (if 0 ≤ x12 then (if x12 < (x10.length : Int) then ((impl_BitsOf.f (rdOf (0 : Nat) x10 x12)).bind fun t159 => (if (Int.tmod (wrap64 ((wrap64 (t159 - x4)) + 4294967296)) 4294967296) ≥ 2147483648 then (impl_packValues.j1 k x3 t159 (wrap64 ((Int.tmod (wrap64 ((wrap64 (t159 - x4)) + 4294967296)) 4294967296) - 4294967296)) x10 x11 x12) else (impl_packValues.j1 k x3 t159 (Int.tmod (wrap64 ((wrap64 (t159 - x4)) + 4294967296)) 4294967296) x10 x11 x12))) else (none)) else (none)) else (some (strOfNums x3)) := by rw [impl_packValues.l0]
theorem step_i (l : List Nat) (a i : Int) (xs : List Int) (b q : Nat) (hb : b < 4294967296) (hq : q < 4294967296) (hl : xs.length + 4 < 140737488355328) (k : Nat) :
    (if (Int.tmod (wrap64 ((wrap64 ((q : Int) - (b : Int))) + 4294967296)) 4294967296) ≥ 2147483648 then (impl_packValues.j1 (k + (vb (zig b q)).length + 1 + 1) xs (q : Int) (wrap64 ((Int.tmod (wrap64 ((wrap64 ((q : Int) - (b : Int))) + 4294967296)) 4294967296) - 4294967296)) l a i) else (impl_packValues.j1 (k + (vb (zig b q)).length + 1 + 1) xs (q : Int) (Int.tmod (wrap64 ((wrap64 ((q : Int) - (b : Int))) + 4294967296)) 4294967296) l a i)) = impl_packValues.l0 k (xs ++ vb (zig b q)) (q : Int) l a (wrap64 (i + 1)) := by
  have hz := zig_lt b q
  have hz5 := zig_lt5 b q
  have h1 := zig_hi q b hq hb
  have h2 := zig_lo q b hq hb
  have h3 := zig_no2 q b hq hb
  have h4 := zig_no3 q b hq hb
  generalize zig b q = z at *
  generalize Int.tmod (wrap64 ((wrap64 ((q : Int) - (b : Int))) + 4294967296)) 4294967296 = D at *
  have hy := bytes_i (q : Int) l a i 4 k xs z hz hz5 hl
  clear hz hz5 hl
  generalize (vb z).length = L at *
  by_cases c : D ≥ 2147483648
  · rw [if_pos c]
    rw [j1e, if_pos (Int.not_le.1 h3), h1 c]
    rw [j2e]
    exact hy
  · rw [if_neg c]
    rw [j1e, if_neg (fun h => h4 h), h2 (Int.not_le.1 c)]
    rw [j2e]
    exact hy
theorem packl_i (l : List Nat) (hb : ∀ x ∈ l, x < 4294967296) (hl : l.length ≤ 1048576) (d : Nat) : ∀ (k : Nat) (i : Nat), i ≤ l.length → l.length - i ≤ d → 8 * d < k →
    impl_packValues.l0 k (packFrom 0 ((canons l).take i)) ((lastOf 0 ((canons l).take i) : Nat) : Int) l (l.length : Int) (i : Int) = some (strOfNums (packFrom 0 (canons l))) := by
  induction d with
  | zero =>
    intro k i h1 hd hk
    obtain ⟨k1, rfl⟩ : ∃ m, k = m + 1 := ⟨k - 1, by omega⟩
    rw [l0e, if_neg (by omega)]
    have : i = l.length := by omega
    subst this
    rw [← canons_len, List.take_length]
  | succ d ihd =>
    intro k i h1 hd hk
    by_cases c : i < l.length
    · have hx := rdl_lt hb (i : Int)
      have hp := lastOf_lt ((canons l).take i) 4294967296 0 (by decide) (fun x hx => canons_lt hb x (List.mem_of_mem_take hx))
      have hq : cn .f32 (rdOf (0 : Nat) l (i : Int)) < 4294967296 := cn_lt hx
      have hlen := packFrom_len ((canons l).take i) 0
      have hlen2 : ((canons l).take i).length ≤ l.length := by rw [List.length_take, canons_len]; omega
      have hstep : packFrom 0 ((canons l).take i) ++ vb (zig (lastOf 0 ((canons l).take i)) (cn .f32 (rdOf (0 : Nat) l (i : Int)))) = packFrom 0 ((canons l).take (i + 1)) := by
        rw [packFrom_take (by rw [canons_len]; exact c), canons_at c]
      have hlast : lastOf 0 ((canons l).take (i + 1)) = cn .f32 (rdOf (0 : Nat) l (i : Int)) := by
        rw [lastOf_take (by rw [canons_len]; exact c), canons_at c]
      have hv := zig_len (lastOf 0 ((canons l).take i)) (cn .f32 (rdOf (0 : Nat) l (i : Int)))
      have hbits := bits_i _ hx
      have hst := step_i l (l.length : Int) (i : Int) (packFrom 0 ((canons l).take i)) _ _ hp hq (by clear hstep hlast hv hbits hp hq hx; omega)
      clear hp hq hx
      rw [hstep] at hst
      generalize lastOf 0 ((canons l).take i) = b at *
      generalize cn .f32 (rdOf (0 : Nat) l (i : Int)) = q at *
      generalize (vb (zig b q)).length = v at *
      have e : ((i : Int) + 1) = ((i + 1 : Nat) : Int) := by omega
      obtain ⟨k2, rfl⟩ : ∃ m, k = m + v + 1 + 1 + 1 := ⟨k - v - 3, by omega⟩
      have ih := ihd k2 (i + 1) (by omega) (by omega) (by omega)
      rw [hlast] at ih
      rw [l0e, if_pos (by omega), if_pos (by omega), if_pos (by omega), hbits, Option.bind_some, hst k2, w64 (by omega) (by omega), e]
      exact ih
    · obtain ⟨k1, rfl⟩ : ∃ m, k = m + 1 := ⟨k - 1, by omega⟩
      rw [l0e, if_neg (by omega)]
      have : i = l.length := by omega
      subst this
      rw [← canons_len, List.take_length]
theorem pack_i (l : List Nat) (hb : ∀ x ∈ l, x < 4294967296) (hl : l.length ≤ 1048576) (k : Nat) (hk : 8388608 < k) : impl_packValues.f k l = some (strOfNums (packFrom 0 (canons l))) :=
  packl_i l hb hl l.length k 0 (by omega) (by omega) (by omega)
theorem bt_r (s : ByteArray) (i : Int) : ∃ b : Nat, bt s i = (b : Int) ∧ b < 256 := by
  unfold bt
  split
  · exact ⟨_, rfl, UInt8.toNat_lt _⟩
  · exact ⟨0, rfl, by decide⟩
theorem and127 (b : Nat) (hb : b < 256) : Go.bits .and .u8 (b : Int) 127 = ((b % 128 : Nat) : Int) := by
  have h := bits_mask .u8 8 (by decide) wraps_u8 7 (by decide) (b : Int) (by omega) (by omega)
  have e : ((2 : Int) ^ 7 - 1) = 127 := by decide
  rw [e] at h
  rw [h]
  omega
theorem wraps_i40 (n : Int) (h0 : 0 ≤ n) (h1 : n < 2 ^ 40) : IntKind.i64.wrap n = n := by rw [IntKind.wrap_i64]; omega
theorem p128 (j : Nat) : 128 ^ j = 2 ^ (7 * j) := by rw [Nat.pow_mul]
theorem p128le {j : Nat} (hj : j ≤ 4) : 128 ^ j ≤ 268435456 := Nat.le_trans (Nat.pow_le_pow_right (by decide) hj) (by decide)
theorem or_shl (j : Nat) (hj : j ≤ 4) (n b : Nat) (hn : n < 128 ^ j) (hb : b < 256) :
    Go.bits .or .i64 (n : Int) (shl .i64 (wrap64 (Go.bits .and .u8 (b : Int) 127)) ((7 * j : Nat) : Int)) = ((n + (b % 128) * 128 ^ j : Nat) : Int) := by
  have hp := p128le hj
  rw [and127 b hb, w64 (by omega) (by omega)]
  unfold shl
  have hm : min ((7 * j : Nat) : Int).toNat IntKind.i64.bits = 7 * j := by
    rw [Int.toNat_natCast]; exact Nat.min_eq_left (by show 7 * j ≤ 64; omega)
  rw [hm]
  have hc : (((b % 128 : Nat) : Int) * 2 ^ (7 * j)) = ((2 ^ (7 * j) * (b % 128) : Nat) : Int) := by
    rw [Int.natCast_mul, Int.natCast_pow, Int.mul_comm]; rfl
  have hz : 2 ^ (7 * j) * (b % 128) < 2 ^ 40 := by
    rw [← p128]
    have : 128 ^ j * (b % 128) ≤ 268435456 * 127 := Nat.mul_le_mul hp (by omega)
    omega
  rw [hc, wraps_i40 _ (by omega) (by exact_mod_cast hz)]
  have hn2 : n < 2 ^ 40 := by
    have : n < 268435456 := by omega
    omega
  rw [(bits_nat .i64 40 (by decide) wraps_i40 n _ hn2 hz).2, Nat.or_comm, p128, ← Nat.two_pow_add_eq_or_of_lt (by rw [← p128]; exact hn) (b % 128), Nat.mul_comm, Nat.add_comm]
theorem val_hi (j : Nat) (hj : j ≤ 4) (n b : Nat) (hn : n < 128 ^ j) (hb : b < 256) (h : 128 ≤ b) :
    wrap64 ((n : Int) + (wrap64 ((((b : Int) - 128) % 256) * ((128 ^ j : Nat) : Int)))) = ((n + (b % 128) * 128 ^ j : Nat) : Int) := by
  have hp := p128le hj
  have e : (((b : Int) - 128) % 256) = ((b % 128 : Nat) : Int) := by omega
  have hm : (b % 128) * 128 ^ j ≤ 127 * 268435456 := Nat.mul_le_mul (by omega) hp
  rw [e, ← Int.natCast_mul]
  generalize (b % 128) * 128 ^ j = m at *
  generalize 128 ^ j = p at *
  rw [w64 (x := (m : Int)) (by omega) (by omega), w64 (by omega) (by omega), Int.natCast_add]
theorem val_lo (j : Nat) (hj : j ≤ 4) (n b : Nat) (hn : n < 128 ^ j) (h : b < 128) :
    wrap64 ((n : Int) + (wrap64 ((wrap64 (b : Int)) * ((128 ^ j : Nat) : Int)))) = ((n + (b % 128) * 128 ^ j : Nat) : Int) := by
  have hp := p128le hj
  have e : b % 128 = b := by omega
  have hm : b * 128 ^ j ≤ 127 * 268435456 := Nat.mul_le_mul (by omega) hp
  rw [e, w64 (x := (b : Int)) (by omega) (by omega), ← Int.natCast_mul]
  generalize b * 128 ^ j = m at *
  generalize 128 ^ j = p at *
  rw [w64 (x := (m : Int)) (by omega) (by omega), w64 (by omega) (by omega), Int.natCast_add]
theorem scale_up (j : Nat) (hj : j ≤ 4) : wrap64 (((128 ^ j : Nat) : Int) * 128) = ((128 ^ (j + 1) : Nat) : Int) := by
  have hp := p128le hj
  rw [Nat.pow_succ]
  generalize 128 ^ j = p at *
  rw [w64 (by omega) (by omega), Int.natCast_mul]; rfl
theorem n_up (j n b : Nat) (hn : n < 128 ^ j) : n + (b % 128) * 128 ^ j < 128 ^ (j + 1) := by
  rw [Nat.pow_succ]
  have : (b % 128) * 128 ^ j ≤ 127 * 128 ^ j := Nat.mul_le_mul_right _ (by omega)
  omega
theorem bef (y : Int) : ∃ v : Nat, Int.tmod (wrap64 ((Int.tmod y 4294967296) + 4294967296)) 4294967296 = (v : Int) ∧ v < 4294967296 := by
  have h1 := Int.tmod_lt_of_pos y (b := 4294967296) (by decide)
  have h2 := Int.lt_tmod_of_pos y (b := 4294967296) (by decide)
  rw [w64 (by omega) (by omega)]
  rw [Int.tmod_eq_emod_of_nonneg (by omega)]
  exact ⟨((y.tmod 4294967296 + 4294967296) % 4294967296).toNat, by omega, by omega⟩
theorem fromBits_some (v : Nat) (h : v < 4294967296) : impl_FromBits.f (v : Int) = some (v, true) := by
  unfold impl_FromBits.f impl_within.f
  rw [if_pos (by omega), Option.bind_some, if_pos (by simp; omega)]
  congr 2
  omega
theorem from_some (v : Nat) (h : v < 4294967296) : spec_l01From.f (v : Int) = some v := by
  unfold spec_l01From.f
  congr 1
  omega
theorem within_n (n : Nat) : impl_within.f (n : Int) 1 256 = some (decide (1 ≤ n ∧ n ≤ 256)) := by
  unfold impl_within.f
  by_cases c : (n : Int) ≥ 1
  · rw [if_pos c]
    congr 1
    rw [decide_eq_decide]
    omega
  · rw [if_neg c]
    congr 1
    exact (decide_eq_false (by omega)).symm
theorem values_n (l : List Nat) : spec_l07Values.f l = some (decide (1 ≤ l.length ∧ l.length ≤ 256)) := within_n l.length
theorem u_over (s : ByteArray) (hs : s.size ≤ 1048576) : ∀ (d k : Nat) (l : List Nat) (b n : Int) (i j : Nat), i + d = s.size → j ≤ 4 → 256 < l.length → l.length ≤ 2 * 1048576 + i → d < k →
    ∃ r, impl_unpackValues.l0 k s l b n ((7 * j : Nat) : Int) (s.size : Int) (i : Int) = some (r, false)
  | d, 0, l, b, n, i, j, h1, hj, hl, hm, hk => by omega
  | 0, k + 1, l, b, n, i, j, h1, hj, hl, hm, hk => by
    unfold impl_unpackValues.l0
    rw [if_neg (by omega)]
    by_cases c : ((7 * j : Nat) : Int) = 0
    · rw [if_pos c, within_n, Option.bind_some, decide_eq_false (by omega)]; exact ⟨_, rfl⟩
    · rw [if_neg c]; exact ⟨_, rfl⟩
  | d + 1, k + 1, l, b, n, i, j, h1, hj, hl, hm, hk => by
    obtain ⟨q, hq, hq2⟩ := bt_r s (i : Int)
    have e1 : wrap64 ((i : Int) + 1) = ((i + 1 : Nat) : Int) := by rw [w64 (by omega) (by omega)]; omega
    unfold impl_unpackValues.l0
    rw [if_pos (by omega), if_pos (by omega), if_pos (by omega), if_pos (by omega)]
    by_cases c : bt s (i : Int) ≥ 128
    · rw [if_pos c]
      by_cases c2 : wrap64 (((7 * j : Nat) : Int) + 7) > 28
      · rw [if_pos c2]; exact ⟨_, rfl⟩
      · have e7 : wrap64 (((7 * j : Nat) : Int) + 7) = ((7 * (j + 1) : Nat) : Int) := by rw [w64 (by omega) (by omega)]; omega
        rw [if_neg c2, e7, e1]
        rw [e7] at c2
        exact u_over s hs d k _ _ _ (i + 1) (j + 1) (by omega) (by omega) hl (by omega) (by omega)
    · rw [if_neg c]
      split
      · obtain ⟨v, hv, hv2⟩ := bef (wrap64 (b + (wrap64 (Int.tdiv (wrap64 (-(wrap64 ((Go.bits .or .i64 n (shl .i64 (wrap64 (Go.bits .and .u8 (bt s (i : Int)) 127)) ((7 * j : Nat) : Int))) + 1)))) 2))))
        rw [hv, fromBits_some v hv2, Option.bind_some, if_pos (by omega), e1]
        exact u_over s hs d k _ _ 0 (i + 1) 0 (by omega) (by omega) (by rw [List.length_append]; omega) (by rw [List.length_append]; simp only [List.length_singleton]; omega) (by omega)
      · obtain ⟨v, hv, hv2⟩ := bef (wrap64 (b + (wrap64 (Int.tdiv (Go.bits .or .i64 n (shl .i64 (wrap64 (Go.bits .and .u8 (bt s (i : Int)) 127)) ((7 * j : Nat) : Int))) 2))))
        rw [hv, fromBits_some v hv2, Option.bind_some, if_pos (by omega), e1]
        exact u_over s hs d k _ _ 0 (i + 1) 0 (by omega) (by omega) (by rw [List.length_append]; omega) (by rw [List.length_append]; simp only [List.length_singleton]; omega) (by omega)
/-- what unpacking ends in, once all bytes are read -/
def fin (s : ByteArray) (r : List Nat × Bool) : List Nat × Bool := if r.2 = true then (if (strOfNums (packFrom 0 (canons r.1))).toList = s.toList then (r.1, true) else ([], false)) else ([], false)
def simP (s : ByteArray) (d k1 k2 : Nat) (l : List Nat) (b : Int) (i j n : Nat) : Prop :=
    ∃ r : List Nat × Bool, impl_unpackValues.l0 k1 s l b (n : Int) ((7 * j : Nat) : Int) (s.size : Int) (i : Int) = some r ∧ (r.2 = true → 1 ≤ r.1.length ∧ r.1.length ≤ 256 ∧ ∀ x ∈ r.1, x < 4294967296) ∧
      (0 < d ∨ 0 < j → spec_l07Unpack.l1 k2 s l b (i : Int) (n : Int) ((128 ^ j : Nat) : Int) = some (fin s r)) ∧ (j = 0 → n = 0 → spec_l07Unpack.l0 (k2 + 1) s l b (i : Int) = some (fin s r))
theorem sim0 (s : ByteArray) (hs : s.size ≤ 1048576) (k1 k2 : Nat) (l : List Nat) (b : Int) (i j n : Nat) (h1 : i = s.size) (hl : l.length ≤ 256) (hb : ∀ x ∈ l, x < 4294967296) (hk2 : 1048600 < k2) : simP s 0 (k1 + 1) (k2 + 1 + 1 + 1) l b i j n := by
    by_cases c : j = 0
    · subst c
      refine ⟨(l, decide (1 ≤ l.length ∧ l.length ≤ 256)), ?_, fun h => ⟨(of_decide_eq_true h).1, hl, hb⟩, fun h => by omega, fun _ hn0 => ?_⟩
      · rw [impl_unpackValues.l0, if_neg (by omega), if_pos (by omega), within_n]; rfl
      · rw [spec_l07Unpack.l0, if_neg (by omega), values_n, Option.bind_some]
        unfold fin
        by_cases g : 1 ≤ l.length ∧ l.length ≤ 256
        · rw [if_pos (decide_eq_true g), if_pos (decide_eq_true g), pack_s l hb (by omega) _ (by omega), Option.bind_some]
          dsimp only
          split <;> rfl
        · rw [if_neg (by simpa using g), if_neg (by simpa using g)]
    · refine ⟨(l, false), ?_, fun h => (by cases h), fun _ => ?_, fun h => absurd h c⟩
      · rw [impl_unpackValues.l0, if_neg (by omega), if_neg (by omega)]
      · have a1 : ¬ ((i : Int) < (s.size : Int)) := by omega
        have a2 : (i : Int) = (s.size : Int) := by omega
        rw [spec_l07Unpack.l1, if_neg a1, spec_l07Unpack.j2, if_pos a2, spec_l07Unpack.j3, if_pos (Eq.refl true)]
        unfold fin
        rw [if_neg (by simp)]
theorem simA {s : ByteArray} {d k1 k2 : Nat} {l : List Nat} {b : Int} {i j n : Nat} (r : List Nat × Bool) (hi : i < s.size) (h1 : impl_unpackValues.l0 k1 s l b (n : Int) ((7 * j : Nat) : Int) (s.size : Int) (i : Int) = some r) (h2 : r.2 = true → 1 ≤ r.1.length ∧ r.1.length ≤ 256 ∧ ∀ x ∈ r.1, x < 4294967296)
    (h3 : spec_l07Unpack.l1 k2 s l b (i : Int) (n : Int) ((128 ^ j : Nat) : Int) = some (fin s r)) : simP s d k1 k2 l b i j n := by
  refine ⟨r, h1, h2, fun _ => h3, fun hj hn => ?_⟩
  subst hj hn
  rw [spec_l07Unpack.l0, if_pos (by omega)]
  exact h3
theorem simHi (s : ByteArray) (hs : s.size ≤ 1048576) (d k1 k2 : Nat) (l : List Nat) (b : Int) (i j n q : Nat) (hi : i < s.size) (hj : j ≤ 4) (hn : n < 128 ^ j) (hq : bt s (i : Int) = (q : Int)) (hq2 : q < 256) (c : (q : Int) ≥ 128)
    (ih : j ≠ 4 → simP s d k1 (k2 + 1 + 1 + 1) l b (i + 1) (j + 1) (n + (q % 128) * 128 ^ j)) : simP s (d + 1) (k1 + 1) (k2 + 1 + 1 + 1 + 1) l b i j n := by
  have e1 : wrap64 ((i : Int) + 1) = ((i + 1 : Nat) : Int) := by rw [w64 (by omega) (by omega)]; omega
  have hw := or_shl j hj n q hn hq2
  by_cases c2 : j = 4
  · subst c2
    have e7 : wrap64 (((7 * 4 : Nat) : Int) + 7) > 28 := by rw [w64 (by omega) (by omega)]; omega
    refine simA ([], false) hi ?_ (fun h => (by cases h)) ?_
    · rw [impl_unpackValues.l0, if_pos (by omega), if_pos (by omega), if_pos (by omega), if_pos (by omega), hq, if_pos c, if_pos e7]
    · have a2 : ¬ ((i : Int) = (s.size : Int)) := by omega
      have a3 : ¬ (((128 ^ 4 : Nat) : Int) < 268435456) := by decide
      rw [spec_l07Unpack.l1, if_pos (by omega), if_pos (by omega), hq, if_pos c, if_neg a3, spec_l07Unpack.j2, if_neg a2, if_pos (by omega), if_pos (by omega), hq, decide_eq_true c, spec_l07Unpack.j3, if_pos (Eq.refl true)]
      unfold fin
      rw [if_neg (by simp)]
  · have e7 : wrap64 (((7 * j : Nat) : Int) + 7) = ((7 * (j + 1) : Nat) : Int) := by rw [w64 (by omega) (by omega)]; omega
    have e8 : ¬ (((7 * (j + 1) : Nat) : Int) > 28) := by omega
    have hp : ((128 ^ j : Nat) : Int) < 268435456 := by
      have : 128 ^ j ≤ 2097152 := Nat.le_trans (Nat.pow_le_pow_right (by decide) (show j ≤ 3 by omega)) (by decide)
      generalize 128 ^ j = p at *
      omega
    obtain ⟨r, g1, g2, g3, _⟩ := ih c2
    refine simA r hi ?_ g2 ?_
    · rw [impl_unpackValues.l0, if_pos (by omega), if_pos (by omega), if_pos (by omega), if_pos (by omega), hq, if_pos c, e7, if_neg e8, hw, e1]
      exact g1
    · rw [spec_l07Unpack.l1, if_pos (by omega), if_pos (by omega), hq, if_pos c, if_pos hp, e1, val_hi j hj n q hn hq2 (by omega), scale_up j hj]
      exact g3 (.inr (by omega))
theorem i_up {i n : Nat} (h : i < n) (hn : n ≤ 1048576) : wrap64 ((i : Int) + 1) = ((i + 1 : Nat) : Int) := by rw [w64 (by omega) (by omega)]; omega
theorem lo_c {q : Nat} (c : ¬ (q : Int) ≥ 128) : q < 128 := by omega
theorem ne_c {i n : Nat} (h : i < n) : ¬ ((i : Int) = (n : Int)) := by omega
theorem simLo (s : ByteArray) (hs : s.size ≤ 1048576) (d k1 k2 : Nat) (l : List Nat) (b : Int) (i j n q : Nat) (hi : i < s.size) (hid : i + d + 1 = s.size) (hk1 : d < k1) (hl : l.length ≤ 256) (hb : ∀ x ∈ l, x < 4294967296) (hj : j ≤ 4) (hn : n < 128 ^ j) (hq : bt s (i : Int) = (q : Int)) (hq2 : q < 256) (c : ¬ (q : Int) ≥ 128)
    (ih : ∀ v : Nat, v < 4294967296 → l.length + 1 ≤ 256 → simP s d k1 k2 (l ++ [v]) (v : Int) (i + 1) 0 0) : simP s (d + 1) (k1 + 1) (k2 + 1 + 1 + 1 + 1) l b i j n := by
  have key : ∀ v : Nat, v < 4294967296 → ∃ r : List Nat × Bool, impl_unpackValues.l0 k1 s (l ++ [v]) (v : Int) 0 0 (s.size : Int) ((i + 1 : Nat) : Int) = some r ∧ (r.2 = true → 1 ≤ r.1.length ∧ r.1.length ≤ 256 ∧ ∀ x ∈ r.1, x < 4294967296) ∧
      (if ((l ++ [v]).length : Int) > 256 then (some (([] : List Nat), false)) else (spec_l07Unpack.l0 (k2 + 1) s (l ++ [v]) (v : Int) ((i + 1 : Nat) : Int))) = some (fin s r) := by
    intro v hv
    have hlen : (l ++ [v]).length = l.length + 1 := by rw [List.length_append]; rfl
    by_cases g : l.length + 1 ≤ 256
    · obtain ⟨r, g1, g2, _, g4⟩ := ih v hv g
      refine ⟨r, g1, g2, ?_⟩
      rw [if_neg (by omega)]
      exact g4 rfl rfl
    · obtain ⟨r, g1⟩ := u_over s hs d k1 (l ++ [v]) (v : Int) 0 (i + 1) 0 (by omega) (by omega) (by omega) (by omega) (by omega)
      refine ⟨(r, false), g1, fun h => (by cases h), ?_⟩
      rw [if_pos (by omega)]
      unfold fin
      rw [if_neg (by simp)]
  have e1 := i_up hi hs
  have b1 : (i : Int) < (s.size : Int) := Int.ofNat_lt.2 hi
  have b2 : (0 : Int) ≤ (i : Int) := Int.natCast_nonneg i
  have b3 : (0 : Int) ≤ ((7 * j : Nat) : Int) := Int.natCast_nonneg _
  have b4 : l.length < 35184372088832 := Nat.lt_of_le_of_lt hl (by decide)
  have hw := or_shl j hj n q hn hq2
  have hv0 := val_lo j hj n q hn (lo_c c)
  have hs1 : spec_l07Unpack.l1 (k2 + 1 + 1 + 1 + 1) s l b (i : Int) (n : Int) ((128 ^ j : Nat) : Int) = spec_l07Unpack.j3 (k2 + 1 + 1) s l b (i : Int) (n : Int) ((128 ^ j : Nat) : Int) false := by
    have a2 := ne_c hi
    rw [spec_l07Unpack.l1, if_pos b1, if_pos b2, hq, if_neg c, spec_l07Unpack.j2, if_neg a2, if_pos b2, if_pos b1, hq, decide_eq_false c]
  generalize hm : n + (q % 128) * 128 ^ j = m at hw hv0
  by_cases g : (Int.tmod (m : Int) 2) = 1
  · obtain ⟨v, hv, hv2⟩ := bef (wrap64 (b + (wrap64 (Int.tdiv (wrap64 (-(wrap64 ((m : Int) + 1)))) 2))))
    obtain ⟨r, g1, g2, g3⟩ := key v hv2
    refine simA r hi ?_ g2 ?_
    · rw [impl_unpackValues.l0, if_pos b1, if_pos b2, if_pos b1, if_pos b3, hq, if_neg c, hw, if_pos g, hv, fromBits_some v hv2, Option.bind_some, if_pos b4, e1]; exact g1
    · rw [hs1, spec_l07Unpack.j3, if_neg (Bool.false_ne_true), if_pos b2, if_pos b1, hq, hv0, if_pos g, hv, from_some v hv2, Option.bind_some, if_pos b4, Option.bind_some, e1]; exact g3
  · obtain ⟨v, hv, hv2⟩ := bef (wrap64 (b + (wrap64 (Int.tdiv (m : Int) 2))))
    obtain ⟨r, g1, g2, g3⟩ := key v hv2
    refine simA r hi ?_ g2 ?_
    · rw [impl_unpackValues.l0, if_pos b1, if_pos b2, if_pos b1, if_pos b3, hq, if_neg c, hw, if_neg g, hv, fromBits_some v hv2, Option.bind_some, if_pos b4, e1]; exact g1
    · rw [hs1, spec_l07Unpack.j3, if_neg (Bool.false_ne_true), if_pos b2, if_pos b1, hq, hv0, if_neg g, hv, from_some v hv2, Option.bind_some, if_pos b4, Option.bind_some, e1]; exact g3
theorem u_sim (s : ByteArray) (hs : s.size ≤ 1048576) (d : Nat) : ∀ (k1 k2 : Nat) (l : List Nat) (b : Int) (i j n : Nat), i + d = s.size → j ≤ 4 → n < 128 ^ j → l.length ≤ 256 → (∀ x ∈ l, x < 4294967296) → d < k1 → 4 * d + 1048610 < k2 → simP s d k1 k2 l b i j n := by
  induction d with
  | zero =>
    intro k1 k2 l b i j n h1 hj hn hl hb hk hk2
    obtain ⟨k1, rfl⟩ : ∃ m, k1 = m + 1 := ⟨k1 - 1, by omega⟩
    obtain ⟨k2, rfl⟩ : ∃ m, k2 = m + 1 + 1 + 1 := ⟨k2 - 3, by omega⟩
    exact sim0 s hs k1 k2 l b i j n (by omega) hl hb (by omega)
  | succ d ih =>
    intro k1 k2 l b i j n h1 hj hn hl hb hk hk2
    obtain ⟨k1, rfl⟩ : ∃ m, k1 = m + 1 := ⟨k1 - 1, by omega⟩
    obtain ⟨k2, rfl⟩ : ∃ m, k2 = m + 1 + 1 + 1 + 1 := ⟨k2 - 4, by omega⟩
    obtain ⟨q, hq, hq2⟩ := bt_r s (i : Int)
    by_cases c : (q : Int) ≥ 128
    · exact simHi s hs d k1 k2 l b i j n q (by omega) hj hn hq hq2 c fun c2 => ih k1 _ l b (i + 1) (j + 1) _ (by omega) (by omega) (n_up j n q hn) hl hb (by omega) (by omega)
    · refine simLo s hs d k1 k2 l b i j n q (by omega) (by omega) (by omega) hl hb hj hn hq hq2 c fun v hv g => ih k1 k2 (l ++ [v]) (v : Int) (i + 1) 0 0 (by omega) (by omega) (by decide) (by rw [List.length_append]; exact g) ?_ (by omega) (by omega)
      intro x hx
      rcases List.mem_append.1 hx with h | h
      · exact hb x h
      · rw [List.mem_singleton.1 h]; exact hv
theorem fin_ok (s : ByteArray) (r : List Nat × Bool) (h : r.2 = true → 1 ≤ r.1.length ∧ r.1.length ≤ 256 ∧ ∀ x ∈ r.1, x < 4294967296) : (fin s r).1.length ≤ 256 ∧ ∀ x ∈ (fin s r).1, x < 4294967296 := by
  unfold fin
  split
  · rename_i g
    split
    · exact (h g).2
    · exact ⟨by decide, fun x hx => by cases hx⟩
  · exact ⟨by decide, fun x hx => by cases hx⟩
/-- both unpack alike -/
theorem unpack_some (s : ByteArray) (hs : s.size ≤ 1048576) :
    ∃ u : List Nat × Bool, (u.2 = true → 1 ≤ u.1.length ∧ u.1.length ≤ 256 ∧ ∀ x ∈ u.1, x < 4294967296) ∧ ∀ k, 8388620 ≤ k → impl_unpackValues.f k s = some u ∧ spec_l07Unpack.f k s = some (fin s u) := by
  obtain ⟨K, hK⟩ : ∃ K : Nat, K = 8388619 := ⟨_, rfl⟩
  obtain ⟨u, h1, h2, _, h3⟩ := u_sim s hs s.size (K + 1) K [] 0 0 0 0 (by omega) (by decide) (by decide) (by decide) (fun x hx => by cases hx) (by omega) (by omega)
  have h4 := h3 rfl rfl
  exact ⟨u, h2, fun k hk => ⟨at_rounds (g := fun k => impl_unpackValues.f k s) (impl_unpackValues.mono s) (show K + 1 ≤ k by omega) h1, at_rounds (g := fun k => spec_l07Unpack.f k s) (spec_l07Unpack.mono s) (show K + 1 ≤ k by omega) h4⟩⟩
theorem littlee (k : Nat) (x0 : Int) (x5 : List Int) (x6 x7 : Int) : impl_littleBytes.l0 (k + 1) x0 x5 x6 x7 = if x7 < x6 then (if x5.length < 140737488355328 then (impl_littleBytes.l0 k (wrap64 (Int.tdiv x0 256)) (x5 ++ [(Int.tmod x0 256) % 256]) x6 (wrap64 (x7 + 1))) else (none)) else (some (strOfNums x5)) := by rw [impl_littleBytes.l0]
theorem td {n : Nat} (h : n < 1099511627776) : wrap64 (Int.tdiv (n : Int) 256) = ((n / 256 : Nat) : Int) := by
  rw [Int.tdiv_eq_ediv_of_nonneg (by omega), w64 (by omega) (by omega)]; omega
theorem td2 {n : Nat} (h : n < 1099511627776) : wrap64 (Int.tdiv (n : Int) 65536) = ((n / 65536 : Nat) : Int) := by
  rw [Int.tdiv_eq_ediv_of_nonneg (by omega), w64 (by omega) (by omega)]; omega
theorem td3 {n : Nat} (h : n < 1099511627776) : wrap64 (Int.tdiv (n : Int) 16777216) = ((n / 16777216 : Nat) : Int) := by
  rw [Int.tdiv_eq_ediv_of_nonneg (by omega), w64 (by omega) (by omega)]; omega
theorem td0 {n : Nat} (h : n < 1099511627776) : wrap64 ((n : Int) / 256) = ((n / 256 : Nat) : Int) := by
  rw [w64 (by omega) (by omega)]; omega
theorem em (n : Nat) : (n : Int) % 256 = ((n % 256 : Nat) : Int) := by omega
theorem tm (n : Nat) : Int.tmod (n : Int) 256 % 256 = ((n % 256 : Nat) : Int) := by
  rw [Int.tmod_eq_emod_of_nonneg (by omega)]; omega
theorem little4 (n : Nat) (h : n < 1099511627776) (k : Nat) (hk : 5 ≤ k) : impl_littleBytes.f k (n : Int) 4 = some (strOfNums [((n % 256 : Nat) : Int), ((n / 256 % 256 : Nat) : Int), ((n / 65536 % 256 : Nat) : Int), ((n / 16777216 % 256 : Nat) : Int)]) := by
  obtain ⟨k, rfl⟩ : ∃ m, k = m + 1 + 1 + 1 + 1 + 1 := ⟨k - 5, by omega⟩
  unfold impl_littleBytes.f
  have e2 : n / 256 / 256 = n / 65536 := by omega
  have e3 : n / 65536 / 256 = n / 16777216 := by omega
  rw [littlee, if_pos (by decide), if_pos (by decide), tm, td h, w64 (by decide) (by decide)]
  rw [littlee, if_pos (by decide), if_pos (by simp), tm, td (by omega), w64 (by decide) (by decide), e2]
  rw [littlee, if_pos (by decide), if_pos (by simp), tm, td (by omega), w64 (by decide) (by decide), e3]
  rw [littlee, if_pos (by decide), if_pos (by simp), tm, td (by omega), w64 (by decide) (by decide)]
  rw [littlee, if_neg (by decide)]
  rfl
theorem little2 (n : Nat) (h : n < 1099511627776) (k : Nat) (hk : 5 ≤ k) : impl_littleBytes.f k (n : Int) 2 = some (strOfNums [((n % 256 : Nat) : Int), ((n / 256 % 256 : Nat) : Int)]) := by
  obtain ⟨k, rfl⟩ : ∃ m, k = m + 1 + 1 + 1 := ⟨k - 3, by omega⟩
  unfold impl_littleBytes.f
  rw [littlee, if_pos (by decide), if_pos (by decide), tm, td h, w64 (by decide) (by decide)]
  rw [littlee, if_pos (by decide), if_pos (by simp), tm, td (by omega), w64 (by decide) (by decide)]
  rw [littlee, if_neg (by decide)]
  rfl
theorem checkl (s : ByteArray) (hs : s.size ≤ 9223372036854775807) : ∀ (k : Nat) (x i : Int), 0 ≤ x → x < 65003 → 0 ≤ i → i ≤ s.size → s.size - i < k → ∃ c : Nat, c < 65003 ∧ spec_l01Check.l0 k x s i = some (c : Int) ∧ impl_CheckOf.l0 k x s i = some ((c : Int), true)
  | 0, x, i, _, _, _, _, hk => by omega
  | k + 1, x, i, h0, h1, hi, hl, hk => by
    unfold spec_l01Check.l0 impl_CheckOf.l0
    by_cases c : i < (s.size : Int)
    · obtain ⟨b0, b1⟩ := bt_range s i
      rw [if_pos c, if_pos c, if_pos hi, if_pos hi, w64 (x := i + 1) (by omega) (by omega), w64 (x := 797 * x) (by omega) (by omega), w64 (x := bt s i) (by omega) (by omega), w64 (x := 797 * x + bt s i) (by omega) (by omega), w64 (by omega) (by omega)]
      have hm : Int.tmod (797 * x + bt s i + 101) 65003 = (797 * x + bt s i + 101) % 65003 := Int.tmod_eq_emod_of_nonneg (by omega)
      rw [hm]
      exact checkl s hs k _ (i + 1) (by omega) (by omega) (by omega) (by omega) (by omega)
    · rw [if_neg c, if_neg c]
      refine ⟨x.toNat, by omega, ?_, ?_⟩ <;> rw [Int.toNat_of_nonneg h0]
theorem check_some (s : ByteArray) (hs : s.size ≤ 1073741824) (k : Nat) (hk : 1073741825 ≤ k) : ∃ c : Nat, c < 65003 ∧ spec_l01Check.f k 0 s = some (c : Int) ∧ impl_CheckOf.f k 0 s = some ((c : Int), true) := by
  obtain ⟨c, h1, h2, h3⟩ := checkl s (by omega) k 0 0 (by omega) (by omega) (by omega) (by omega) (by omega)
  refine ⟨c, h1, h2, ?_⟩
  unfold impl_CheckOf.f impl_within.f
  rw [if_pos (by decide), Option.bind_some, if_pos (by decide)]
  exact h3
def stored (n : Nat) (p : ByteArray) (c : Nat) : ByteArray := ((⟨#[86, 79, 88, 49]⟩ : ByteArray) ++ strOfNums [((n % 256 : Nat) : Int), ((n / 256 % 256 : Nat) : Int), ((n / 65536 % 256 : Nat) : Int), ((n / 16777216 % 256 : Nat) : Int), ((p.size % 256 : Nat) : Int), ((p.size / 256 % 256 : Nat) : Int)] ++ p) ++ strOfNums [((c % 256 : Nat) : Int), ((c / 256 % 256 : Nat) : Int)]
theorem size_str (xs : List Int) : (strOfNums xs).size = xs.length := by simp [strOfNums, ByteArray.size]
theorem str_app (xs ys : List Int) : strOfNums (xs ++ ys) = strOfNums xs ++ strOfNums ys := by
  apply ByteArray.ext
  simp [strOfNums]
theorem store_some (n : Nat) (hn : n < 4294967296) (l : List Nat) (hb : ∀ x ∈ l, x < 4294967296) (hl : l.length ≤ 256) (k : Nat) (hk : 1073741825 ≤ k) :
    ∃ c : Nat, c < 65003 ∧ spec_l07Store.f k [(⟨(n : Int), l⟩ : S28)] = some (stored n (strOfNums (packFrom 0 (canons l))) c) ∧ impl_storeBlock.f k (n : Int) l = some (stored n (strOfNums (packFrom 0 (canons l))) c) := by
  have hps : (strOfNums (packFrom 0 (canons l))).size ≤ 1280 := by
    rw [size_str]
    have := packFrom_len (canons l) 0
    rw [canons_len] at this
    omega
  have hpk := pack_s l hb (by omega) k (by omega)
  have hpi := pack_i l hb (by omega) k (by omega)
  generalize strOfNums (packFrom 0 (canons l)) = p at *
  have hz6 : ∀ a b c d e f : Int, (strOfNums [a, b, c, d, e, f]).size = 6 := fun _ _ _ _ _ _ => by rw [size_str]; rfl
  have hz4 : ∀ a b c d : Int, (strOfNums [a, b, c, d]).size = 4 := fun _ _ _ _ => by rw [size_str]; rfl
  have hz2 : ∀ a b : Int, (strOfNums [a, b]).size = 2 := fun _ _ => by rw [size_str]; rfl
  have hv : (⟨#[86, 79, 88, 49]⟩ : ByteArray).size = 4 := rfl
  obtain ⟨c, hc, hcs, hci⟩ := check_some ((⟨#[86, 79, 88, 49]⟩ : ByteArray) ++ strOfNums [((n % 256 : Nat) : Int), ((n / 256 % 256 : Nat) : Int), ((n / 65536 % 256 : Nat) : Int), ((n / 16777216 % 256 : Nat) : Int), ((p.size % 256 : Nat) : Int), ((p.size / 256 % 256 : Nat) : Int)] ++ p) (by
    rw [ByteArray.size_append, ByteArray.size_append, hz6, hv]; omega) k hk
  refine ⟨c, hc, ?_, ?_⟩
  · unfold spec_l07Store.f
    have hr : rd_T28 [(⟨(n : Int), l⟩ : S28)] 0 = ⟨(n : Int), l⟩ := rfl
    rw [if_pos (show (0 : Int) < (([(⟨(n : Int), l⟩ : S28)] : List S28).length : Int) by show (0 : Int) < 1; decide), hr]
    dsimp only
    rw [hpk, Option.bind_some, Option.bind_some, tm, td (by omega), tm, td2 (by omega), tm, td3 (by omega), em, td0 (by omega), em, em]
    rw [if_pos (by rw [hz6]; omega), if_pos (by rw [ByteArray.size_append, hz6, hv]; omega), hcs, Option.bind_some, Option.bind_some, tm, td (by omega), em, if_pos (by rw [ByteArray.size_append, ByteArray.size_append, hz6, hz2, hv]; omega)]
    rfl
  · have e6 : ∀ a b c d e f : Int, strOfNums [a, b, c, d] ++ strOfNums [e, f] = strOfNums [a, b, c, d, e, f] := fun a b c d e f => (str_app [a, b, c, d] [e, f]).symm
    unfold impl_storeBlock.f
    rw [hpi, Option.bind_some, little4 n (by omega) k (by omega), Option.bind_some, if_pos (by rw [hz4]; omega), little2 p.size (by omega) k (by omega), Option.bind_some]
    rw [if_pos (by rw [ByteArray.size_append, hz4, hz2, hv]; omega), if_pos (by rw [ByteArray.size_append, ByteArray.size_append, hz4, hz2, hv]; omega), ByteArray.append_assoc (a := (⟨#[86, 79, 88, 49]⟩ : ByteArray)), e6, hci, Option.bind_some]
    dsimp only
    rw [little2 c (by omega) k (by omega), Option.bind_some, if_pos (by rw [ByteArray.size_append, ByteArray.size_append, hz6, hz2, hv]; omega)]
    rfl
theorem list_inj {a b : ByteArray} (h : a.toList = b.toList) : a = b := by
  rw [ByteArray.toList_eq, ByteArray.toList_eq] at h
  exact ByteArray.ext (Array.toList_inj.1 h)
theorem bt_cut (s : ByteArray) (n : Nat) (i : Int) (hi : i.toNat < n) (hn : n ≤ s.size) : bt (s.extract 0 n) i = bt s i := by
  unfold bt
  have h1 : i.toNat < (s.extract 0 n).size := by rw [ByteArray.size_extract]; omega
  rw [dif_pos h1, dif_pos (show i.toNat < s.size by omega), ByteArray.getElem_extract h1]
  simp only [Nat.zero_add]
theorem cut_cut (s : ByteArray) (n m : Nat) (h : m ≤ n) : (s.extract 0 n).extract 10 m = s.extract 10 m := by
  rw [ByteArray.extract_extract]
  congr 1
  omega
theorem stored_size (n : Nat) (p : ByteArray) (c : Nat) : (stored n p c).size = p.size + 12 := by
  unfold stored
  rw [ByteArray.size_append, ByteArray.size_append, ByteArray.size_append, size_str, size_str]
  have : (⟨#[86, 79, 88, 49]⟩ : ByteArray).size = 4 := rfl
  simp only [List.length_cons, List.length_nil]
  omega
theorem stored_mid (n : Nat) (p : ByteArray) (c : Nat) : (stored n p c).extract 10 (p.size + 10) = p := by
  unfold stored
  generalize hx : ((⟨#[86, 79, 88, 49]⟩ : ByteArray) ++ strOfNums [((n % 256 : Nat) : Int), ((n / 256 % 256 : Nat) : Int), ((n / 65536 % 256 : Nat) : Int), ((n / 16777216 % 256 : Nat) : Int), ((p.size % 256 : Nat) : Int), ((p.size / 256 % 256 : Nat) : Int)]) = x
  have hs : x.size = 10 := by
    rw [← hx, ByteArray.size_append, size_str]; rfl
  generalize strOfNums [((c % 256 : Nat) : Int), ((c / 256 % 256 : Nat) : Int)] = y
  apply ByteArray.ext
  apply Array.toList_inj.1
  rw [Go.Lib.extract_data, ByteArray.data_append, ByteArray.data_append, Array.toList_append, Array.toList_append, List.append_assoc, List.drop_append_of_le_length (by rw [Array.length_toList]; exact Nat.le_of_eq hs.symm), List.drop_of_length_le (by rw [Array.length_toList]; exact Nat.le_of_eq hs), List.nil_append]
  exact List.take_left' (by rw [Array.length_toList]; show p.size = _; omega)
theorem n_some (s : ByteArray) : ∃ n : Nat, wrap64 ((wrap64 (12 + (wrap64 (bt s 8)))) + (wrap64 (256 * (wrap64 (bt s 9))))) = (n : Int) ∧ 12 ≤ n ∧ n ≤ 65547 := by
  obtain ⟨a, ha, ha2⟩ := bt_r s 8
  obtain ⟨b, hb, hb2⟩ := bt_r s 9
  rw [ha, hb]
  refine ⟨12 + a + 256 * b, ?_, by omega, by omega⟩
  simp (disch := omega) only [w64_id]
  omega
theorem time_some (s : ByteArray) : ∃ t : Nat, t < 4294967296 ∧
    wrap64 ((wrap64 ((wrap64 ((wrap64 (bt s 4)) + (wrap64 ((wrap64 (bt s 5)) * 256)))) + (wrap64 ((wrap64 (bt s 6)) * 65536)))) + (wrap64 ((wrap64 (bt s 7)) * 16777216))) = (t : Int) ∧
    wrap64 ((wrap64 ((wrap64 ((wrap64 (bt s 4)) + (wrap64 (256 * (wrap64 (bt s 5)))))) + (wrap64 (65536 * (wrap64 (bt s 6)))))) + (wrap64 (16777216 * (wrap64 (bt s 7))))) = (t : Int) := by
  obtain ⟨a, ha, ha2⟩ := bt_r s 4
  obtain ⟨b, hb, hb2⟩ := bt_r s 5
  obtain ⟨c, hc, hc2⟩ := bt_r s 6
  obtain ⟨d, hd, hd2⟩ := bt_r s 7
  rw [ha, hb, hc, hd]
  refine ⟨a + 256 * b + 65536 * c + 16777216 * d, by omega, ?_, ?_⟩
  · simp (disch := omega) only [w64_id]
    omega
  · simp (disch := omega) only [w64_id]
    omega
theorem block_ok (t : Nat) (ht : t < 4294967296) (l : List Nat) (h1 : 1 ≤ l.length) (h2 : l.length ≤ 256) : spec_l07Block.f [(⟨(t : Int), l⟩ : S28)] = some true := by
  unfold spec_l07Block.f spec_l00In.f
  have hr : rd_T28 [(⟨(t : Int), l⟩ : S28)] 0 = ⟨(t : Int), l⟩ := rfl
  rw [if_pos (show (0 : Int) < (([(⟨(t : Int), l⟩ : S28)] : List S28).length : Int) by show (0 : Int) < 1; decide), hr]
  dsimp only
  rw [if_pos (by omega), Option.bind_some, if_pos (by simp; omega), values_n, Option.bind_some, decide_eq_true ⟨h1, h2⟩]
/-- what a block that is loaded comes to -/
def lb (ok : Bool) (t : Nat) (l : List Nat) (n : Nat) : Int × List Nat × Int × Bool := if ok = true then ((t : Int), l, (n : Int), true) else (0, [], 0, false)
def ls (ok : Bool) (t : Nat) (l : List Nat) : Int × List Nat × Bool := if ok = true then ((t : Int), l, true) else (0, [], false)
theorem load_at (s : ByteArray) (hs : s.size ≤ 1048576) (K : Nat) (hK : 1073741825 ≤ K) (n : Nat) (hn : wrap64 ((wrap64 (12 + (wrap64 (bt s 8)))) + (wrap64 (256 * (wrap64 (bt s 9))))) = (n : Int)) (h12 : 12 ≤ n) (hns : n ≤ s.size) :
    ∃ (t : Nat) (l : List Nat) (ok : Bool), t < 4294967296 ∧ l.length ≤ 256 ∧ (∀ x ∈ l, x < 4294967296) ∧ impl_loadBlock.f (K + 1) s = some (lb ok t l n) ∧ spec_l07Load.f (K + 1) (s.extract 0 n) = some (ls ok t l) := by
  obtain ⟨t, ht, ht1, ht2⟩ := time_some s
  obtain ⟨u, hu, huk⟩ := unpack_some (s.extract 10 (n - 2)) (by rw [ByteArray.size_extract]; omega)
  have hsz : (s.extract 0 n).size = n := by rw [ByteArray.size_extract]; omega
  have hN : wrap64 ((n : Int) - 2) = ((n - 2 : Nat) : Int) := by rw [w64 (by omega) (by omega)]; omega
  have c1 : ¬ ((s.size : Int) < 12) := by omega
  have c2 : (8 : Int) < (s.size : Int) := by omega
  have c3 : (9 : Int) < (s.size : Int) := by omega
  have c4 : ¬ ((s.size : Int) < (n : Int)) := by omega
  have c5 : (4 : Int) < (s.size : Int) := by omega
  have c6 : (5 : Int) < (s.size : Int) := by omega
  have c7 : (6 : Int) < (s.size : Int) := by omega
  have c8 : (7 : Int) < (s.size : Int) := by omega
  have c9 : (10 : Int) ≤ ((n - 2 : Nat) : Int) := by omega
  have c10 : ((n - 2 : Nat) : Int) ≤ (s.size : Int) := by omega
  have c11 : (0 : Int) ≤ (n : Int) := by omega
  have c12 : (n : Int) ≤ (s.size : Int) := by omega
  have d1 : ¬ (((s.extract 0 n).size : Int) < 10) := by rw [hsz]; omega
  have d2 : (8 : Int) < ((s.extract 0 n).size : Int) := by rw [hsz]; omega
  have d3 : (9 : Int) < ((s.extract 0 n).size : Int) := by rw [hsz]; omega
  have d4 : ¬ ((n : Int) > ((s.extract 0 n).size : Int)) := by rw [hsz]; omega
  have d5 : (4 : Int) < ((s.extract 0 n).size : Int) := by rw [hsz]; omega
  have d6 : (5 : Int) < ((s.extract 0 n).size : Int) := by rw [hsz]; omega
  have d7 : (6 : Int) < ((s.extract 0 n).size : Int) := by rw [hsz]; omega
  have d8 : (7 : Int) < ((s.extract 0 n).size : Int) := by rw [hsz]; omega
  have d9 : ((n - 2 : Nat) : Int) ≤ ((s.extract 0 n).size : Int) := by rw [hsz]; omega
  have d10 : ¬ ((n : Int) = 0) := by omega
  have d11 : ((n : Int) != ((s.extract 0 n).size : Int)) = false := by rw [hsz]; simp
  have tn : ∀ m : Nat, (m : Int).toNat = m := fun m => Int.toNat_natCast m
  have hI : impl_loadBlock.f (K + 1) s = (impl_unpackValues.f (K + 1) (s.extract 10 (n - 2))).bind fun b => (if b.2 = true then ((impl_storeBlock.f (K + 1) (t : Int) b.1).bind fun q => (if q.toList = (s.extract 0 n).toList then (some ((t : Int), b.1, (n : Int), true)) else (some (0, ([] : List Nat), 0, false)))) else (some (0, ([] : List Nat), 0, false))) := by
    unfold impl_loadBlock.f
    simp only [hn, ht1, hN, tn]
    rw [if_neg c1, if_pos c2, if_pos c3, if_neg c4, if_pos c5, if_pos c6, if_pos c7, if_pos c8, if_pos c9, if_pos c10]
    simp only [if_pos c11, if_pos c12]
  have hS : spec_l07Load.f (K + 1) (s.extract 0 n) = (spec_l07Unpack.f K (s.extract 10 (n - 2))).bind fun b => (if b.2 = true then ((spec_l07Block.f [(⟨(t : Int), b.1⟩ : S28)]).bind fun p => (if p = true then ((spec_l07Store.f K [(⟨(t : Int), b.1⟩ : S28)]).bind fun q => (if q.toList = (s.extract 0 n).toList then (some ((t : Int), b.1, true)) else (some (0, ([] : List Nat), false)))) else (some (0, ([] : List Nat), false)))) else (some (0, ([] : List Nat), false))) := by
    have e4 := bt_cut s n 4 (by show 4 < n; omega) hns
    have e5 := bt_cut s n 5 (by show 5 < n; omega) hns
    have e6 := bt_cut s n 6 (by show 6 < n; omega) hns
    have e7 := bt_cut s n 7 (by show 7 < n; omega) hns
    have e8 := bt_cut s n 8 (by show 8 < n; omega) hns
    have e9 := bt_cut s n 9 (by show 9 < n; omega) hns
    unfold spec_l07Load.f spec_l07Long.f
    rw [if_neg d1, if_pos d2, if_pos d3, e8, e9, hn, if_neg d4, Option.bind_some, if_neg d10, d11, spec_l07Load.j0, if_neg Bool.false_ne_true, if_pos d5, if_pos d6, if_pos d7, if_pos d8, hN, if_pos c9, if_pos d9, tn, cut_cut s n (n - 2) (by omega)]
    simp only [e4, e5, e6, e7, ht2]
  clear c1 c2 c3 c4 c5 c6 c7 c8 c9 c10 c11 c12 d1 d2 d3 d4 d5 d6 d7 d8 d9 d10 d11 ht1 ht2 hN hn
  have hu1 := (huk (K + 1) (by omega)).1
  have hu2 := (huk K (by omega)).2
  rw [hu1, Option.bind_some] at hI
  rw [hu2, Option.bind_some] at hS
  by_cases c : u.2 = true
  · obtain ⟨g0, g1, g2⟩ := hu c
    obtain ⟨q1, hq1, _, hi⟩ := store_some t ht u.1 g2 g1 (K + 1) (by omega)
    obtain ⟨q2, hq2, hsp, hi2⟩ := store_some t ht u.1 g2 g1 K hK
    have hqq := Option.some.inj (hi.symm.trans (impl_storeBlock.mono _ _ _ _ hi2))
    rw [if_pos c, hi, Option.bind_some] at hI
    by_cases e : stored t (strOfNums (packFrom 0 (canons u.1))) q1 = s.extract 0 n
    · have hmid : strOfNums (packFrom 0 (canons u.1)) = s.extract 10 (n - 2) := by
        have h1 := stored_mid t (strOfNums (packFrom 0 (canons u.1))) q1
        have h2 := stored_size t (strOfNums (packFrom 0 (canons u.1))) q1
        rw [e, hsz] at h2
        rw [e, cut_cut s n _ (by omega)] at h1
        have h3 : (strOfNums (packFrom 0 (canons u.1))).size + 10 = n - 2 := by omega
        rw [h3] at h1
        exact h1.symm
      have hf : fin (s.extract 10 (n - 2)) u = (u.1, true) := by
        unfold fin
        rw [if_pos c, if_pos (by rw [hmid])]
      rw [hf, if_pos rfl] at hS
      dsimp only at hS
      rw [block_ok t ht u.1 g0 g1, Option.bind_some, if_pos rfl, hsp, Option.bind_some, ← hqq, if_pos (by rw [e])] at hS
      rw [if_pos (by rw [e])] at hI
      exact ⟨t, u.1, true, ht, g1, g2, hI, hS⟩
    · rw [if_neg (fun h => e (list_inj h))] at hI
      refine ⟨0, [], false, by decide, by decide, (fun x hx => by cases hx), hI, ?_⟩
      rw [hS]
      unfold fin
      rw [if_pos c]
      split
      · rw [if_pos rfl]
        dsimp only
        rw [block_ok t ht u.1 g0 g1, Option.bind_some, if_pos rfl, hsp, Option.bind_some, ← hqq, if_neg (fun h => e (list_inj h))]
        rfl
      · rfl
  · rw [if_neg c] at hI
    refine ⟨0, [], false, by decide, by decide, (fun x hx => by cases hx), hI, ?_⟩
    rw [hS]
    unfold fin
    rw [if_neg c]
    rfl
/-- loading a block off the front: none is long enough, or both load alike -/
theorem load_some (s : ByteArray) (hs : s.size ≤ 1048576) :
    ((∀ k, impl_loadBlock.f k s = some (0, [], 0, false)) ∧ spec_l07Long.f s = some 0) ∨
    ∃ (n t : Nat) (l : List Nat) (ok : Bool), 12 ≤ n ∧ n ≤ s.size ∧ spec_l07Long.f s = some (n : Int) ∧ t < 4294967296 ∧ l.length ≤ 256 ∧ (∀ x ∈ l, x < 4294967296) ∧ ∀ k, 1073741826 ≤ k → impl_loadBlock.f k s = some (lb ok t l n) ∧ spec_l07Load.f k (s.extract 0 n) = some (ls ok t l) := by
  obtain ⟨n, hn, h12, h65⟩ := n_some s
  by_cases c : n ≤ s.size
  · right
    obtain ⟨K, hK⟩ : ∃ K : Nat, K = 1073741825 := ⟨_, rfl⟩
    obtain ⟨t, l, ok, h1, h2, h3, h4, h5⟩ := load_at s hs K (Nat.le_of_eq hK.symm) n hn h12 c
    refine ⟨n, t, l, ok, h12, c, ?_, h1, h2, h3, fun k hk => ⟨at_rounds (g := fun k => impl_loadBlock.f k s) (impl_loadBlock.mono s) (show K + 1 ≤ k by omega) h4, at_rounds (g := fun k => spec_l07Load.f k (s.extract 0 n)) (spec_l07Load.mono _) (show K + 1 ≤ k by omega) h5⟩⟩
    unfold spec_l07Long.f
    rw [if_neg (by omega), if_pos (by omega), if_pos (by omega), hn, if_neg (by omega)]
  · left
    constructor
    · intro k
      unfold impl_loadBlock.f
      by_cases d : (s.size : Int) < 12
      · rw [if_pos d]
      · rw [if_neg d, if_pos (by omega), if_pos (by omega), hn, if_pos (by omega)]
    · unfold spec_l07Long.f
      by_cases d : (s.size : Int) < 10
      · rw [if_pos d]
      · rw [if_neg d, if_pos (by omega), if_pos (by omega), hn, if_pos (by omega)]
abbrev BI := S28
theorem eqB_some (t : Int) (l : List Nat) (hl : l.length ≤ 1048576) (hb : ∀ x ∈ l, x < 4294967296) : laws_eqBlock.f t l t l = some true := by
  unfold laws_eqBlock.f
  rw [if_pos rfl, eqF_some l hl hb, Option.bind_some, if_pos rfl]
def okI (x : BI) : Prop := x.f1.length ≤ 1048576 ∧ ∀ y ∈ x.f1, y < 4294967296
theorem rdI_ok {l : List BI} (h : ∀ x ∈ l, okI x) (i : Int) : okI (rd_T28 l i) := by
  unfold rd_T28
  rw [List.getD_eq_getElem?_getD]
  rcases hh : l[i.toNat]? with _ | x
  · exact ⟨by decide, fun y hy => by cases hy⟩
  · exact h x (List.mem_of_getElem? hh)
theorem eqBl_some (l : List BI) (hl : l.length ≤ 1048576) (ho : ∀ x ∈ l, okI x) : ∀ (k : Nat) (i : Int), 0 ≤ i → i ≤ l.length → l.length - i < k → laws_eqBlockS.l0 k l l i = some true
  | 0, i, h0, h1, hk => by omega
  | k + 1, i, h0, h1, hk => by
    unfold laws_eqBlockS.l0
    by_cases c : i < (l.length : Int)
    · have h := rdI_ok ho i
      rw [if_pos c, if_pos h0, if_pos c, eqB_some _ _ h.1 h.2, Option.bind_some, if_pos rfl, w64 (by omega) (by omega)]
      exact eqBl_some l hl ho k (i + 1) (by omega) (by omega) (by omega)
    · rw [if_neg c]
theorem eqBs_some (l : List BI) (hl : l.length ≤ 1048576) (ho : ∀ x ∈ l, okI x) (k : Nat) (hk : 1048577 ≤ k) : laws_eqBlockS.f k l l = some true := by
  unfold laws_eqBlockS.f
  rw [if_pos rfl]
  exact eqBl_some l hl ho k 0 (by omega) (by omega) (by omega)
theorem mkA_ok : ∀ n, n < 2200 → fne .f32 (floatOfInt .f32 (n : Nat)) (floatOfInt .f32 (n : Nat)) = false := by
  have h : (List.range 2200).all (fun n => !fne .f32 (floatOfInt .f32 (n : Nat)) (floatOfInt .f32 (n : Nat))) = true := by kernel_rfl
  intro n hn
  have := List.all_eq_true.1 h n (List.mem_range.2 hn)
  simpa using this
def marksA (a n : Nat) : List Nat := (List.range n).map fun j => floatOfInt .f32 ((a + j : Nat) : Int)
theorem marksA_len (a n : Nat) : (marksA a n).length = n := by unfold marksA; rw [List.length_map, List.length_range]
theorem marksA_at {a n i : Nat} (h : i < n) : (marksA a n)[i]? = some (floatOfInt .f32 ((a + i : Nat) : Int)) := by
  unfold marksA
  rw [List.getElem?_map, List.getElem?_range h]; rfl
theorem marklA (a n : Nat) (ha : a ≤ 1048576) (hn : n ≤ 1048576) : ∀ (d k : Nat) (xs : List Nat) (i : Nat), i + d = n → xs.length = n → xs.take i = (marksA a n).take i → d < k →
    laws_markFloat32S.l0 k xs ((a + i : Nat) : Int) (i : Int) = some (((a + n : Nat) : Int), marksA a n)
  | d, 0, xs, i, h1, hl, ht, hk => by omega
  | 0, k + 1, xs, i, h1, hl, ht, hk => by
    unfold laws_markFloat32S.l0
    obtain rfl : i = n := by omega
    rw [if_neg (by omega), List.take_of_length_le (by omega), List.take_of_length_le (by rw [marksA_len]; omega)] at *
    rw [ht]
  | d + 1, k + 1, xs, i, h1, hl, ht, hk => by
    unfold laws_markFloat32S.l0
    have e1 : wrap64 ((i : Int) + 1) = ((i + 1 : Nat) : Int) := by rw [w64 (by omega) (by omega)]; omega
    have e2 : wrap64 (((a + i : Nat) : Int) + 1) = ((a + (i + 1) : Nat) : Int) := by rw [w64 (by omega) (by omega)]; omega
    rw [if_pos (by omega), if_pos (by omega), e1, e2]
    refine marklA a n ha hn d k _ (i + 1) (by omega) (by rw [List.length_set]; exact hl) ?_ (by omega)
    rw [Int.toNat_natCast]
    exact take_set_succ (by rw [marksA_len]; omega) (by rw [marksA_len]; exact hl) ht (marksA_at (by omega))
theorem markA_some (a : Nat) (ha : a ≤ 1048576) (l : List Nat) (hl : l.length ≤ 1048576) (k : Nat) (hk : l.length < k) : laws_markFloat32S.f k l (a : Int) = some (((a + l.length : Nat) : Int), marksA a l.length) :=
  marklA a l.length ha hl l.length k l 0 (by omega) rfl rfl hk
theorem heldlA (a n : Nat) (ha : a + n ≤ 2200) : ∀ (d k : Nat) (i : Nat), i + d = n → d < k →
    laws_heldFloat32S.l0 k (marksA a n) ((a + i : Nat) : Int) (i : Int) = some ((a + n : Nat) : Int)
  | d, 0, i, h1, hk => by omega
  | 0, k + 1, i, h1, hk => by
    unfold laws_heldFloat32S.l0
    obtain rfl : i = n := by omega
    rw [if_neg (by rw [marksA_len]; omega)]
  | d + 1, k + 1, i, h1, hk => by
    unfold laws_heldFloat32S.l0
    have e1 : wrap64 ((i : Int) + 1) = ((i + 1 : Nat) : Int) := by rw [w64 (by omega) (by omega)]; omega
    have e2 : wrap64 (((a + i : Nat) : Int) + 1) = ((a + (i + 1) : Nat) : Int) := by rw [w64 (by omega) (by omega)]; omega
    have e3 : rdOf (0 : Nat) (marksA a n) (i : Int) = floatOfInt .f32 ((a + i : Nat) : Int) := by
      unfold rdOf
      rw [Int.toNat_natCast, List.getD_eq_getElem?_getD, marksA_at (by omega)]; rfl
    rw [if_pos (by rw [marksA_len]; omega), if_pos (by omega), e3, mkA_ok (a + i) (by omega), if_neg (by simp), e1, e2]
    exact heldlA a n ha d k (i + 1) (by omega) (by omega)
theorem heldA_some (a n : Nat) (ha : a + n ≤ 2200) (k : Nat) (hk : n < k) : laws_heldFloat32S.f k (marksA a n) (a : Int) = some ((a + n : Nat) : Int) :=
  heldlA a n ha n k 0 (by omega) hk
def okR (x : BI) : Prop := x.f1.length ≤ 256 ∧ ∀ y ∈ x.f1, y < 4294967296
theorem cut_from (s : ByteArray) (i n : Nat) (h : i + n ≤ s.size) : (s.extract i s.size).extract 0 n = s.extract i (i + n) := by
  rw [ByteArray.extract_extract]
  congr 1
  omega
theorem rec_some (s : ByteArray) (hs : s.size ≤ 1048576) : ∀ (d i : Nat) (xs : List BI), xs.length + d = 8 → i ≤ s.size → (∀ x ∈ xs, okR x) →
    ∃ (r : List BI) (n : Int), r.length ≤ 8 ∧ (∀ x ∈ r, okR x) ∧ ∀ k, 1073741826 + d ≤ k → spec_RecoverBlocks.l0 (k + 1) s xs (i : Int) = some (r, n, true) ∧ impl_RecoverBlocks.l0 (k + 1) s xs (i : Int) = some (r, n, true)
  | 0, i, xs, hd, hi, ho => by
    refine ⟨xs, i, by omega, ho, fun k hk => ?_⟩
    have hn8 : ¬ ((xs.length : Int) < 8) := by omega
    rw [spec_RecoverBlocks.l0, impl_RecoverBlocks.l0, if_neg hn8, if_neg hn8]
    exact ⟨rfl, rfl⟩
  | d + 1, i, xs, hd, hi, ho => by
    have hlt : (xs.length : Int) < 8 := by omega
    have hi0 : (0 : Int) ≤ (i : Int) := Int.natCast_nonneg i
    have his : (i : Int) ≤ (s.size : Int) := by omega
    have hps : (s.extract i s.size).size = s.size - i := by rw [ByteArray.size_extract]; omega
    rcases load_some (s.extract i s.size) (by omega) with ⟨h1, h2⟩ | ⟨n, t, l, ok, h12, hns, hl, ht, h256, hb, h⟩
    · refine ⟨xs, i, by omega, ho, fun k hk => ?_⟩
      rw [spec_RecoverBlocks.l0, impl_RecoverBlocks.l0, if_pos hlt, if_pos hlt, if_pos hi0, if_pos hi0, if_pos his, if_pos his, Int.toNat_natCast, h1, h2]
      exact ⟨rfl, rfl⟩
    · have hin : i + n ≤ s.size := by omega
      have e1 : wrap64 ((i : Int) + (n : Int)) = ((i + n : Nat) : Int) := by rw [w64 (by omega) (by omega)]; omega
      have c1 : (i : Int) ≤ ((i + n : Nat) : Int) := by omega
      have c2 : ((i + n : Nat) : Int) ≤ (s.size : Int) := by omega
      have c3 : ¬ ((n : Int) = 0) := by omega
      have hcut := cut_from s i n hin
      cases ok with
      | false =>
        refine ⟨xs, i, by omega, ho, fun k hk => ?_⟩
        obtain ⟨g1, g2⟩ := h k (by omega)
        rw [hcut] at g2
        rw [spec_RecoverBlocks.l0, impl_RecoverBlocks.l0, if_pos hlt, if_pos hlt, if_pos hi0, if_pos hi0, if_pos his, if_pos his, Int.toNat_natCast, hl, g1]
        simp only [Option.bind_some]
        rw [if_neg c3, e1, if_pos c1, if_pos c2, Int.toNat_natCast, g2]
        exact ⟨rfl, rfl⟩
      | true =>
        obtain ⟨r, m, r1, r2, hr⟩ := rec_some s hs d (i + n) (xs ++ [⟨(t : Int), l⟩]) (by rw [List.length_append, List.length_singleton]; omega) hin (fun x hx => by
          rcases List.mem_append.1 hx with hx | hx
          · exact ho x hx
          · rw [List.mem_singleton] at hx
            rw [hx]; exact ⟨h256, hb⟩)
        refine ⟨r, m, r1, r2, fun k hk => ?_⟩
        obtain ⟨k, rfl⟩ : ∃ q, k = q + 1 := ⟨k - 1, by omega⟩
        obtain ⟨g1, g2⟩ := h (k + 1) (by omega)
        rw [hcut] at g2
        have hx : xs.length < 4398046511104 := by omega
        obtain ⟨q1, q2⟩ := hr k (by omega)
        rw [spec_RecoverBlocks.l0, impl_RecoverBlocks.l0, if_pos hlt, if_pos hlt, if_pos hi0, if_pos hi0, if_pos his, if_pos his, Int.toNat_natCast, hl, g1]
        simp only [Option.bind_some]
        rw [if_neg c3, e1, if_pos c1, if_pos c2, Int.toNat_natCast, g2]
        unfold lb ls
        rw [if_pos rfl, if_pos rfl]
        dsimp only
        rw [Option.bind_some]
        dsimp only
        rw [if_pos rfl, if_pos rfl, if_pos hx, if_pos hx, e1]
        exact ⟨q1, q2⟩
theorem rdB_at {l : List BI} {i : Nat} (h : i < l.length) : rd_T28 l (i : Int) = l[i]'h := by
  unfold rd_T28
  rw [Int.toNat_natCast, List.getD_eq_getElem?_getD, List.getElem?_eq_getElem h]; rfl
/-- blocks with their marks, from a on -/
def mkB : List BI → Nat → List BI
  | [], _ => []
  | x :: r, a => ⟨(a : Int), marksA (a + 1) x.f1.length⟩ :: mkB r (a + 1 + x.f1.length)
def upB : List BI → Nat → Nat
  | [], a => a
  | x :: r, a => upB r (a + 1 + x.f1.length)
theorem mkB_len : ∀ (l : List BI) (a : Nat), (mkB l a).length = l.length
  | [], a => rfl
  | x :: r, a => by rw [mkB, List.length_cons, List.length_cons, mkB_len r]
theorem upB_le : ∀ (l : List BI) (a : Nat), (∀ x ∈ l, okR x) → upB l a ≤ a + 257 * l.length
  | [], a, _ => by rw [upB]; simp
  | x :: r, a, h => by
    have h1 := (h x List.mem_cons_self).1
    have h2 := upB_le r (a + 1 + x.f1.length) (fun y hy => h y (List.mem_cons_of_mem _ hy))
    rw [upB, List.length_cons]; omega
theorem upB_ge : ∀ (l : List BI) (a : Nat), a ≤ upB l a
  | [], a => Nat.le_refl _
  | x :: r, a => by have := upB_ge r (a + 1 + x.f1.length); rw [upB]; omega
theorem mb_some : ∀ (r p : List BI) (a k : Nat), (∀ x ∈ r, okR x) → a + 257 * r.length ≤ 2200 → p.length + r.length ≤ 8 → r.length + 257 < k →
    mb0 k (p ++ r) (a : Int) (p.length : Int) = some (((upB r a : Nat) : Int), p ++ mkB r a)
  | [], p, a, 0, _, _, _, hk => by omega
  | [], p, a, k + 1, _, _, _, hk => by
    rw [mb0, if_neg (by rw [List.append_nil]; omega)]; rfl
  | x :: r, p, a, 0, _, _, _, hk => by omega
  | x :: r, p, a, k + 1, h, ha, hp, hk => by
    rw [List.length_cons] at ha hp hk
    obtain ⟨h1, h2⟩ := h x List.mem_cons_self
    have hrd : rd_T28 (p ++ x :: r) (p.length : Int) = x := by
      rw [rdB_at (by rw [List.length_append, List.length_cons]; omega), List.getElem_append_right (Nat.le_refl _)]
      simp
    have e1 : wrap64 ((a : Int) + 1) = ((a + 1 : Nat) : Int) := by rw [w64 (by omega) (by omega)]; omega
    have e2 : wrap64 ((p.length : Int) + 1) = ((p.length + 1 : Nat) : Int) := by rw [w64 (by omega) (by omega)]; omega
    rw [mb0, if_pos (by rw [List.length_append, List.length_cons]; omega), hrd, e1, markA_some (a + 1) (by omega) x.f1 (by omega) k (by omega), Option.bind_some, e2, Int.toNat_natCast]
    have hset : (p ++ x :: r).set p.length (⟨(a : Int), marksA (a + 1) x.f1.length⟩ : BI) = (p ++ [(⟨(a : Int), marksA (a + 1) x.f1.length⟩ : BI)]) ++ r := by
      rw [List.set_append_right _ _ (Nat.le_refl _), Nat.sub_self, List.set_cons_zero, List.append_assoc]; rfl
    have ih := mb_some r (p ++ [(⟨(a : Int), marksA (a + 1) x.f1.length⟩ : BI)]) (a + 1 + x.f1.length) k (fun y hy => h y (List.mem_cons_of_mem _ hy)) (by omega) (by rw [List.length_append, List.length_singleton]; omega) (by omega)
    rw [List.length_append, List.length_singleton] at ih
    dsimp only
    rw [hset, ih, mkB, upB, List.append_assoc]; rfl
theorem hb_some : ∀ (r p : List BI) (a k : Nat), (∀ x ∈ r, okR x) → a + 257 * r.length ≤ 2200 → p.length + r.length ≤ 8 → r.length + 257 < k →
    laws_heldBlockS.l0 k (p ++ mkB r a) (a : Int) (p.length : Int) = some ((upB r a : Nat) : Int)
  | [], p, a, 0, _, _, _, hk => by omega
  | [], p, a, k + 1, _, _, _, hk => by
    rw [laws_heldBlockS.l0, if_neg (by rw [mkB, List.append_nil]; omega)]; rfl
  | x :: r, p, a, 0, _, _, _, hk => by omega
  | x :: r, p, a, k + 1, h, ha, hp, hk => by
    rw [List.length_cons] at ha hp hk
    obtain ⟨h1, h2⟩ := h x List.mem_cons_self
    have hrd : rd_T28 (p ++ mkB (x :: r) a) (p.length : Int) = ⟨(a : Int), marksA (a + 1) x.f1.length⟩ := by
      rw [rdB_at (by rw [List.length_append, mkB_len, List.length_cons]; omega), List.getElem_append_right (Nat.le_refl _)]
      simp [mkB]
    have e1 : wrap64 ((a : Int) + 1) = ((a + 1 : Nat) : Int) := by rw [w64 (by omega) (by omega)]; omega
    have e2 : wrap64 ((p.length : Int) + 1) = ((p.length + 1 : Nat) : Int) := by rw [w64 (by omega) (by omega)]; omega
    rw [laws_heldBlockS.l0, if_pos (by rw [List.length_append, mkB_len, List.length_cons]; omega), if_pos (Int.natCast_nonneg _), hrd]
    dsimp only
    rw [if_pos rfl, e1, heldA_some (a + 1) x.f1.length (by omega) k (by omega), Option.bind_some, if_neg (by omega), e2]
    have ih := hb_some r (p ++ [(⟨(a : Int), marksA (a + 1) x.f1.length⟩ : BI)]) (a + 1 + x.f1.length) k (fun y hy => h y (List.mem_cons_of_mem _ hy)) (by omega) (by rw [List.length_append, List.length_singleton]; omega) (by omega)
    rw [List.length_append, List.length_singleton, List.append_assoc] at ih
    rw [mkB, upB]
    exact ih
/-- all that the law's walk asks -/
theorem all_some (s : ByteArray) (hs : s.size ≤ 1048576) : ∃ (k : Nat) (l : List BI) (n : Int) (ok : Bool) (m : Nat) (ms : List BI), l.length ≤ 8 ∧ spec_RecoverBlocks.f k s = some (l, n, ok) ∧ impl_RecoverBlocks.f k s = some (l, n, ok) ∧ laws_eqBlockS.f k l l = some true ∧ mb0 k l 1 0 = some ((m : Int), ms) ∧ laws_heldBlockS.f k ms 1 = some (m : Int) := by
  obtain ⟨r, n, h8, ho, h⟩ := rec_some s hs 8 0 [] rfl (Nat.zero_le _) (by simp)
  obtain ⟨K, hK⟩ : ∃ K : Nat, K = 1073741834 := ⟨_, rfl⟩
  obtain ⟨h1, h2⟩ := h K (by omega)
  refine ⟨K + 1, r, n, true, upB r 1, mkB r 1, h8, h1, h2, eqBs_some r (by omega) (fun x hx => ⟨by have := (ho x hx).1; omega, (ho x hx).2⟩) (K + 1) (by omega), ?_, ?_⟩
  · have := mb_some r [] 1 (K + 1) ho (by omega) (by simp; omega) (by omega)
    rw [List.nil_append, List.nil_append] at this
    exact this
  · have := hb_some r [] 1 (K + 1) ho (by omega) (by simp; omega) (by omega)
    rw [List.nil_append] at this
    exact this
end Go.Proofs.Ytoiaojdkgagblaa.RbkPure
