/- What the printed functions of LoadBlock come to: both load the same block out of the same bytes. -/
import Derived.Test.YtgiednkailakgaaPFnExactLoadBlockx
import Derived.Test.YtgiednkailakgaaFm
import Derived.Test.YtgiednkailakgaaB3
import Derived.Laws.BitsLemmas
import Derived.Lib.SmallJoins
set_option linter.unusedVariables false
set_option linter.unusedSimpArgs false
namespace Go.Proofs.Ytgiednkailakgaa.LbPure
open Go.RowKit Go.Proofs.YtgiednkailakgaaW.PrintWords Go.Proofs.YtgiednkailakgaaW.PrintFl Go.Proofs.Ytgiednkailakgaa.PFnExactLoadBlock
theorem w64 {x : Int} (h0 : -9223372036854775808 ≤ x) (h1 : x ≤ 9223372036854775807) : wrap64 x = x := by
  unfold wrap64; omega
theorem eqF_some (l : List Nat) (hl : l.length ≤ 1048576) (hb : ∀ x ∈ l, x < 4294967296) : laws_eqFloat32S.f l l = some true := by
  unfold laws_eqFloat32S.f
  rw [if_pos ⟨rfl, hl, hb⟩]
theorem bits_s (x : Nat) (hx : x < 4294967296) : spec_l01Bits.f x = some ((cn .f32 x : Nat) : Int) := by
  unfold spec_l01Bits.f cn
  rw [fne_self]
  split
  · rfl
  · rw [w64 (by omega) (by omega)]
theorem bits_i (x : Nat) (hx : x < 4294967296) : impl_BitsOf.f x = some ((cn .f32 x : Nat) : Int) := bits_s x hx
theorem vb_step_hi {n : Nat} (h : ¬ n < 128) (hn : n < 4294967296) : (wrap64 (Int.tmod (n : Int) 128 + 128)) % 256 = ((n % 128 + 128 : Nat) : Int) ∧ wrap64 (Int.tdiv (n : Int) 128) = ((n / 128 : Nat) : Int) := by
  have h1 : Int.tmod (n : Int) 128 = ((n % 128 : Nat) : Int) := by rw [Int.tmod_eq_emod_of_nonneg (by omega)]; omega
  have h2 : Int.tdiv (n : Int) 128 = ((n / 128 : Nat) : Int) := by rw [Int.tdiv_eq_ediv_of_nonneg (by omega)]; omega
  rw [h1, h2]
  refine ⟨?_, w64 (by omega) (by omega)⟩
  rw [w64 (by omega) (by omega)]
  omega
theorem bytes_s (m : Nat) : ∀ (k : Nat) (xs : List Int) (n : Nat), n < 4294967296 → n < 128 ^ (m + 1) → m < k → xs.length + m < 140737488355328 → spec_l07Bytes.l0 k xs (n : Int) = some (xs ++ vb n) := by
  induction m with
  | zero =>
    intro k xs n h32 hn hk hl
    have c : n < 128 := by simpa using hn
    obtain ⟨k, rfl⟩ : ∃ q, k = q + 1 := ⟨k - 1, by omega⟩
    unfold spec_l07Bytes.l0
    rw [if_neg (by omega), if_pos (by omega), vb_small c]
    have : (n : Int) % 256 = n := by omega
    rw [this]
  | succ m ih =>
    intro k xs n h32 hn hk hl
    obtain ⟨k, rfl⟩ : ∃ q, k = q + 1 := ⟨k - 1, by omega⟩
    unfold spec_l07Bytes.l0
    by_cases c : n < 128
    · rw [if_neg (by omega), if_pos (by omega), vb_small c]
      have : (n : Int) % 256 = n := by omega
      rw [this]
    · obtain ⟨e1, e2⟩ := vb_step_hi c h32
      have hn2 : n / 128 < 128 ^ (m + 1) := by rw [Nat.div_lt_iff_lt_mul (by decide)]; rw [Nat.pow_succ] at hn; exact hn
      clear hn
      rw [if_pos (by omega), if_pos (by omega), e1, e2, ih k _ (n / 128) (by omega) hn2 (by omega) (by rw [List.length_append, List.length_singleton]; omega), vb_big c, List.append_assoc]
      rfl
theorem bytes_i (x4 : Int) (l : List Nat) (a i : Int) (m : Nat) : ∀ (k : Nat) (xs : List Int) (n : Nat), n < 4294967296 → n < 128 ^ (m + 1) → xs.length + m < 140737488355328 →
    impl_packValues.l1 (k + (vb n).length) xs x4 (n : Int) l a i = impl_packValues.l0 k (xs ++ vb n) x4 l a (wrap64 (i + 1)) := by
  induction m with
  | zero =>
    intro k xs n h32 hn hl
    have c : n < 128 := by simpa using hn
    rw [vb_small c]
    show impl_packValues.l1 (k + 1) xs x4 (n : Int) l a i = _
    unfold impl_packValues.l1
    rw [if_neg (by omega), if_pos (by omega)]
    have : (n : Int) % 256 = n := by omega
    rw [this]
  | succ m ih =>
    intro k xs n h32 hn hl
    by_cases c : n < 128
    · rw [vb_small c]
      show impl_packValues.l1 (k + 1) xs x4 (n : Int) l a i = _
      unfold impl_packValues.l1
      rw [if_neg (by omega), if_pos (by omega)]
      have : (n : Int) % 256 = n := by omega
      rw [this]
    · obtain ⟨e1, e2⟩ := vb_step_hi c h32
      have hn2 : n / 128 < 128 ^ (m + 1) := by rw [Nat.div_lt_iff_lt_mul (by decide)]; rw [Nat.pow_succ] at hn; exact hn
      clear hn
      rw [vb_big c, List.length_cons]
      show impl_packValues.l1 ((k + (vb (n / 128)).length) + 1) xs x4 (n : Int) l a i = _
      unfold impl_packValues.l1
      rw [if_pos (by omega), if_pos (by omega), e1, e2, ih k _ (n / 128) (by omega) hn2 (by rw [List.length_append, List.length_singleton]; omega), List.append_assoc]
      rfl
def canons (l : List Nat) : List Nat := l.map (cn .f32)
theorem canons_len (l : List Nat) : (canons l).length = l.length := by unfold canons; rw [List.length_map]
theorem canons_lt {l : List Nat} (hb : ∀ x ∈ l, x < 4294967296) : ∀ x ∈ canons l, x < 4294967296 := by
  intro x hx
  obtain ⟨y, hy, rfl⟩ := List.mem_map.1 hx
  exact cn_lt (hb y hy)
theorem canons_at {l : List Nat} {i : Nat} (hi : i < l.length) : (canons l)[i]'(by rw [canons_len]; exact hi) = cn .f32 (rdOf (0 : Nat) l (i : Int)) := by
  unfold canons rdOf
  rw [List.getElem_map, Int.toNat_natCast, List.getD_eq_getElem?_getD, List.getElem?_eq_getElem hi]
  rfl
theorem rdl_lt {l : List Nat} (h : ∀ x ∈ l, x < 4294967296) (i : Int) : rdOf (0 : Nat) l i < 4294967296 := by
  unfold rdOf
  rw [List.getD_eq_getElem?_getD]
  rcases hh : l[i.toNat]? with _ | x
  · decide
  · exact h x (List.mem_of_getElem? hh)
theorem packl_s (l : List Nat) (hb : ∀ x ∈ l, x < 4294967296) (hl : l.length ≤ 1048576) : ∀ (k : Nat) (i : Nat), i ≤ l.length → l.length - i + 5 < k →
    spec_l07Pack.l0 k l (packFrom 0 ((canons l).take i)) ((lastOf 0 ((canons l).take i) : Nat) : Int) (l.length : Int) (i : Int) = some (strOfNums (packFrom 0 (canons l)))
  | 0, i, h1, hk => by omega
  | k + 1, i, h1, hk => by
    unfold spec_l07Pack.l0
    by_cases c : i < l.length
    · have hx := rdl_lt hb (i : Int)
      have hp := lastOf_lt ((canons l).take i) 4294967296 0 (by decide) (fun x hx => canons_lt hb x (List.mem_of_mem_take hx))
      have hq : cn .f32 (rdOf (0 : Nat) l (i : Int)) < 4294967296 := cn_lt hx
      have hlen := packFrom_len ((canons l).take i) 0
      have hlen2 : ((canons l).take i).length ≤ l.length := by rw [List.length_take, canons_len]; omega
      have hz := zig_lt (lastOf 0 ((canons l).take i)) (cn .f32 (rdOf (0 : Nat) l (i : Int)))
      have hz5 := zig_lt5 (lastOf 0 ((canons l).take i)) (cn .f32 (rdOf (0 : Nat) l (i : Int)))
      have hstep : packFrom 0 ((canons l).take i) ++ vb (zig (lastOf 0 ((canons l).take i)) (cn .f32 (rdOf (0 : Nat) l (i : Int)))) = packFrom 0 ((canons l).take (i + 1)) := by
        rw [packFrom_take (by rw [canons_len]; exact c), canons_at c]
      have hlast : lastOf 0 ((canons l).take (i + 1)) = cn .f32 (rdOf (0 : Nat) l (i : Int)) := by
        rw [lastOf_take (by rw [canons_len]; exact c), canons_at c]
      have ih := packl_s l hb hl k (i + 1) (by omega) (by omega)
      rw [hlast] at ih
      rw [if_pos (by omega), if_pos (by omega), if_pos (by omega), bits_s _ hx, Option.bind_some, w64 (x := (i : Int) + 1) (by omega) (by omega)]
      have e : ((i : Int) + 1) = ((i + 1 : Nat) : Int) := by omega
      rw [e]
      split
      · rename_i hh
        rw [zig_hi _ _ hq hp hh]
        unfold spec_l07Bytes.f
        rw [bytes_s 4 k _ _ hz hz5 (by omega) (by omega), Option.bind_some, hstep]
        exact ih
      · rename_i hh
        rw [zig_lo _ _ hq hp (by omega)]
        unfold spec_l07Bytes.f
        rw [bytes_s 4 k _ _ hz hz5 (by omega) (by omega), Option.bind_some, hstep]
        exact ih
    · rw [if_neg (by omega)]
      have : i = l.length := by omega
      subst this
      rw [← canons_len, List.take_length]
theorem pack_s (l : List Nat) (hb : ∀ x ∈ l, x < 4294967296) (hl : l.length ≤ 1048576) (k : Nat) (hk : 1048582 < k) : spec_l07Pack.f k l = some (strOfNums (packFrom 0 (canons l))) :=
  packl_s l hb hl k 0 (by omega) (by omega)
theorem j1e (k : Nat) (x3 : List Int) (x4 x8 : Int) (x10 : List Nat) (x11 x12 : Int) : impl_packValues.j1 (k + 1) x3 x4 x8 x10 x11 x12 = if x8 < 0 then (impl_packValues.j2 k x3 x4 (wrap64 ((wrap64 ((-2) * x8)) - 1)) x10 x11 x12) else (impl_packValues.j2 k x3 x4 (wrap64 (2 * x8)) x10 x11 x12) := by rw [impl_packValues.j1]
theorem j2e (k : Nat) (x3 : List Int) (x4 x9 : Int) (x10 : List Nat) (x11 x12 : Int) : impl_packValues.j2 (k + 1) x3 x4 x9 x10 x11 x12 = impl_packValues.l1 k x3 x4 x9 x10 x11 x12 := by rw [impl_packValues.j2]
theorem l0e (k : Nat) (x3 : List Int) (x4 : Int) (x10 : List Nat) (x11 x12 : Int) : impl_packValues.l0 (k + 1) x3 x4 x10 x11 x12 = if x12 < x11 then (if 0 ≤ x12 then (if x12 < (x10.length : Int) then ((impl_BitsOf.f (rdOf (0 : Nat) x10 x12)).bind fun t159 => (if (Int.tmod (wrap64 ((wrap64 (t159 - x4)) + 4294967296)) 4294967296) ≥ 2147483648 then (impl_packValues.j1 k x3 t159 (wrap64 ((Int.tmod (wrap64 ((wrap64 (t159 - x4)) + 4294967296)) 4294967296) - 4294967296)) x10 x11 x12) else (impl_packValues.j1 k x3 t159 (Int.tmod (wrap64 ((wrap64 (t159 - x4)) + 4294967296)) 4294967296) x10 x11 x12))) else (none)) else (none)) else (some (strOfNums x3)) := by rw [impl_packValues.l0]
theorem step_i (l : List Nat) (a i : Int) (xs : List Int) (b q : Nat) (hb : b < 4294967296) (hq : q < 4294967296) (hl : xs.length + 4 < 140737488355328) (k : Nat) :
    (if (Int.tmod (wrap64 ((wrap64 ((q : Int) - (b : Int))) + 4294967296)) 4294967296) ≥ 2147483648 then (impl_packValues.j1 (k + (vb (zig b q)).length + 1 + 1) xs (q : Int) (wrap64 ((Int.tmod (wrap64 ((wrap64 ((q : Int) - (b : Int))) + 4294967296)) 4294967296) - 4294967296)) l a i) else (impl_packValues.j1 (k + (vb (zig b q)).length + 1 + 1) xs (q : Int) (Int.tmod (wrap64 ((wrap64 ((q : Int) - (b : Int))) + 4294967296)) 4294967296) l a i)) = impl_packValues.l0 k (xs ++ vb (zig b q)) (q : Int) l a (wrap64 (i + 1)) := by
  have hz := zig_lt b q
  have hz5 := zig_lt5 b q
  have h1 := zig_hi q b hq hb
  have h2 := zig_lo q b hq hb
  have h3 := zig_no2 q b hq hb
  have h4 := zig_no3 q b hq hb
  generalize zig b q = z at *
  generalize Int.tmod (wrap64 ((wrap64 ((q : Int) - (b : Int))) + 4294967296)) 4294967296 = D at *
  have hy := bytes_i (q : Int) l a i 4 k xs z hz hz5 hl
  clear hz hz5 hl
  generalize (vb z).length = L at *
  by_cases c : D ≥ 2147483648
  · rw [if_pos c]
    rw [j1e, if_pos (Int.not_le.1 h3), h1 c]
    rw [j2e]
    exact hy
  · rw [if_neg c]
    rw [j1e, if_neg (fun h => h4 h), h2 (Int.not_le.1 c)]
    rw [j2e]
    exact hy
theorem packl_i (l : List Nat) (hb : ∀ x ∈ l, x < 4294967296) (hl : l.length ≤ 1048576) (d : Nat) : ∀ (k : Nat) (i : Nat), i ≤ l.length → l.length - i ≤ d → 8 * d < k →
    impl_packValues.l0 k (packFrom 0 ((canons l).take i)) ((lastOf 0 ((canons l).take i) : Nat) : Int) l (l.length : Int) (i : Int) = some (strOfNums (packFrom 0 (canons l))) := by
  induction d with
  | zero =>
    intro k i h1 hd hk
    obtain ⟨k1, rfl⟩ : ∃ m, k = m + 1 := ⟨k - 1, by omega⟩
    rw [l0e, if_neg (by omega)]
    have : i = l.length := by omega
    subst this
    rw [← canons_len, List.take_length]
  | succ d ihd =>
    intro k i h1 hd hk
    by_cases c : i < l.length
    · have hx := rdl_lt hb (i : Int)
      have hp := lastOf_lt ((canons l).take i) 4294967296 0 (by decide) (fun x hx => canons_lt hb x (List.mem_of_mem_take hx))
      have hq : cn .f32 (rdOf (0 : Nat) l (i : Int)) < 4294967296 := cn_lt hx
      have hlen := packFrom_len ((canons l).take i) 0
      have hlen2 : ((canons l).take i).length ≤ l.length := by rw [List.length_take, canons_len]; omega
      have hstep : packFrom 0 ((canons l).take i) ++ vb (zig (lastOf 0 ((canons l).take i)) (cn .f32 (rdOf (0 : Nat) l (i : Int)))) = packFrom 0 ((canons l).take (i + 1)) := by
        rw [packFrom_take (by rw [canons_len]; exact c), canons_at c]
      have hlast : lastOf 0 ((canons l).take (i + 1)) = cn .f32 (rdOf (0 : Nat) l (i : Int)) := by
        rw [lastOf_take (by rw [canons_len]; exact c), canons_at c]
      have hv := zig_len (lastOf 0 ((canons l).take i)) (cn .f32 (rdOf (0 : Nat) l (i : Int)))
      have hbits := bits_i _ hx
      have hst := step_i l (l.length : Int) (i : Int) (packFrom 0 ((canons l).take i)) _ _ hp hq (by clear hstep hlast hv hbits hp hq hx; omega)
      clear hp hq hx
      rw [hstep] at hst
      generalize lastOf 0 ((canons l).take i) = b at *
      generalize cn .f32 (rdOf (0 : Nat) l (i : Int)) = q at *
      generalize (vb (zig b q)).length = v at *
      have e : ((i : Int) + 1) = ((i + 1 : Nat) : Int) := by omega
      obtain ⟨k2, rfl⟩ : ∃ m, k = m + v + 1 + 1 + 1 := ⟨k - v - 3, by omega⟩
      have ih := ihd k2 (i + 1) (by omega) (by omega) (by omega)
      rw [hlast] at ih
      rw [l0e, if_pos (by omega), if_pos (by omega), if_pos (by omega), hbits, Option.bind_some, hst k2, w64 (by omega) (by omega), e]
      exact ih
    · obtain ⟨k1, rfl⟩ : ∃ m, k = m + 1 := ⟨k - 1, by omega⟩
      rw [l0e, if_neg (by omega)]
      have : i = l.length := by omega
      subst this
      rw [← canons_len, List.take_length]
theorem pack_i (l : List Nat) (hb : ∀ x ∈ l, x < 4294967296) (hl : l.length ≤ 1048576) (k : Nat) (hk : 8388608 < k) : impl_packValues.f k l = some (strOfNums (packFrom 0 (canons l))) :=
  packl_i l hb hl l.length k 0 (by omega) (by omega) (by omega)
theorem bt_r (s : ByteArray) (i : Int) : ∃ b : Nat, bt s i = (b : Int) ∧ b < 256 := by
  unfold bt
  split
  · exact ⟨_, rfl, UInt8.toNat_lt _⟩
  · exact ⟨0, rfl, by decide⟩
theorem and127 (b : Nat) (hb : b < 256) : Go.bits .and .u8 (b : Int) 127 = ((b % 128 : Nat) : Int) := by
  have h := bits_mask .u8 8 (by decide) wraps_u8 7 (by decide) (b : Int) (by omega) (by omega)
  have e : ((2 : Int) ^ 7 - 1) = 127 := by decide
  rw [e] at h
  rw [h]
  omega
theorem wraps_i40 (n : Int) (h0 : 0 ≤ n) (h1 : n < 2 ^ 40) : IntKind.i64.wrap n = n := by rw [IntKind.wrap_i64]; omega
theorem p128 (j : Nat) : 128 ^ j = 2 ^ (7 * j) := by rw [Nat.pow_mul]
theorem p128le {j : Nat} (hj : j ≤ 4) : 128 ^ j ≤ 268435456 := Nat.le_trans (Nat.pow_le_pow_right (by decide) hj) (by decide)
theorem or_shl (j : Nat) (hj : j ≤ 4) (n b : Nat) (hn : n < 128 ^ j) (hb : b < 256) :
    Go.bits .or .i64 (n : Int) (shl .i64 (wrap64 (Go.bits .and .u8 (b : Int) 127)) ((7 * j : Nat) : Int)) = ((n + (b % 128) * 128 ^ j : Nat) : Int) := by
  have hp := p128le hj
  rw [and127 b hb, w64 (by omega) (by omega)]
  unfold shl
  have hm : min ((7 * j : Nat) : Int).toNat IntKind.i64.bits = 7 * j := by
    rw [Int.toNat_natCast]; exact Nat.min_eq_left (by show 7 * j ≤ 64; omega)
  rw [hm]
  have hc : (((b % 128 : Nat) : Int) * 2 ^ (7 * j)) = ((2 ^ (7 * j) * (b % 128) : Nat) : Int) := by
    rw [Int.natCast_mul, Int.natCast_pow, Int.mul_comm]; rfl
  have hz : 2 ^ (7 * j) * (b % 128) < 2 ^ 40 := by
    rw [← p128]
    have : 128 ^ j * (b % 128) ≤ 268435456 * 127 := Nat.mul_le_mul hp (by omega)
    omega
  rw [hc, wraps_i40 _ (by omega) (by exact_mod_cast hz)]
  have hn2 : n < 2 ^ 40 := by
    have : n < 268435456 := by omega
    omega
  rw [(bits_nat .i64 40 (by decide) wraps_i40 n _ hn2 hz).2, Nat.or_comm, p128, ← Nat.two_pow_add_eq_or_of_lt (by rw [← p128]; exact hn) (b % 128), Nat.mul_comm, Nat.add_comm]
theorem val_hi (j : Nat) (hj : j ≤ 4) (n b : Nat) (hn : n < 128 ^ j) (hb : b < 256) (h : 128 ≤ b) :
    wrap64 ((n : Int) + (wrap64 ((((b : Int) - 128) % 256) * ((128 ^ j : Nat) : Int)))) = ((n + (b % 128) * 128 ^ j : Nat) : Int) := by
  have hp := p128le hj
  have e : (((b : Int) - 128) % 256) = ((b % 128 : Nat) : Int) := by omega
  have hm : (b % 128) * 128 ^ j ≤ 127 * 268435456 := Nat.mul_le_mul (by omega) hp
  rw [e, ← Int.natCast_mul]
  generalize (b % 128) * 128 ^ j = m at *
  generalize 128 ^ j = p at *
  rw [w64 (x := (m : Int)) (by omega) (by omega), w64 (by omega) (by omega), Int.natCast_add]
theorem val_lo (j : Nat) (hj : j ≤ 4) (n b : Nat) (hn : n < 128 ^ j) (h : b < 128) :
    wrap64 ((n : Int) + (wrap64 ((wrap64 (b : Int)) * ((128 ^ j : Nat) : Int)))) = ((n + (b % 128) * 128 ^ j : Nat) : Int) := by
  have hp := p128le hj
  have e : b % 128 = b := by omega
  have hm : b * 128 ^ j ≤ 127 * 268435456 := Nat.mul_le_mul (by omega) hp
  rw [e, w64 (x := (b : Int)) (by omega) (by omega), ← Int.natCast_mul]
  generalize b * 128 ^ j = m at *
  generalize 128 ^ j = p at *
  rw [w64 (x := (m : Int)) (by omega) (by omega), w64 (by omega) (by omega), Int.natCast_add]
theorem scale_up (j : Nat) (hj : j ≤ 4) : wrap64 (((128 ^ j : Nat) : Int) * 128) = ((128 ^ (j + 1) : Nat) : Int) := by
  have hp := p128le hj
  rw [Nat.pow_succ]
  generalize 128 ^ j = p at *
  rw [w64 (by omega) (by omega), Int.natCast_mul]; rfl
theorem n_up (j n b : Nat) (hn : n < 128 ^ j) : n + (b % 128) * 128 ^ j < 128 ^ (j + 1) := by
  rw [Nat.pow_succ]
  have : (b % 128) * 128 ^ j ≤ 127 * 128 ^ j := Nat.mul_le_mul_right _ (by omega)
  omega
theorem bef (y : Int) : ∃ v : Nat, Int.tmod (wrap64 ((Int.tmod y 4294967296) + 4294967296)) 4294967296 = (v : Int) ∧ v < 4294967296 := by
  have h1 := Int.tmod_lt_of_pos y (b := 4294967296) (by decide)
  have h2 := Int.lt_tmod_of_pos y (b := 4294967296) (by decide)
  rw [w64 (by omega) (by omega)]
  rw [Int.tmod_eq_emod_of_nonneg (by omega)]
  exact ⟨((y.tmod 4294967296 + 4294967296) % 4294967296).toNat, by omega, by omega⟩
theorem fromBits_some (v : Nat) (h : v < 4294967296) : impl_FromBits.f (v : Int) = some (v, true) := by
  unfold impl_FromBits.f impl_within.f
  rw [if_pos (by omega), Option.bind_some, if_pos (by simp; omega)]
  congr 2
  omega
theorem from_some (v : Nat) (h : v < 4294967296) : spec_l01From.f (v : Int) = some v := by
  unfold spec_l01From.f
  congr 1
  omega
theorem within_n (n : Nat) : impl_within.f (n : Int) 1 256 = some (decide (1 ≤ n ∧ n ≤ 256)) := by
  unfold impl_within.f
  by_cases c : (n : Int) ≥ 1
  · rw [if_pos c]
    congr 1
    rw [decide_eq_decide]
    omega
  · rw [if_neg c]
    congr 1
    exact (decide_eq_false (by omega)).symm
theorem values_n (l : List Nat) : spec_l07Values.f l = some (decide (1 ≤ l.length ∧ l.length ≤ 256)) := within_n l.length
theorem u_over (s : ByteArray) (hs : s.size ≤ 1048576) : ∀ (d k : Nat) (l : List Nat) (b n : Int) (i j : Nat), i + d = s.size → j ≤ 4 → 256 < l.length → l.length ≤ 2 * 1048576 + i → d < k →
    ∃ r, impl_unpackValues.l0 k s l b n ((7 * j : Nat) : Int) (s.size : Int) (i : Int) = some (r, false)
  | d, 0, l, b, n, i, j, h1, hj, hl, hm, hk => by omega
  | 0, k + 1, l, b, n, i, j, h1, hj, hl, hm, hk => by
    unfold impl_unpackValues.l0
    rw [if_neg (by omega)]
    by_cases c : ((7 * j : Nat) : Int) = 0
    · rw [if_pos c, within_n, Option.bind_some, decide_eq_false (by omega)]; exact ⟨_, rfl⟩
    · rw [if_neg c]; exact ⟨_, rfl⟩
  | d + 1, k + 1, l, b, n, i, j, h1, hj, hl, hm, hk => by
    obtain ⟨q, hq, hq2⟩ := bt_r s (i : Int)
    have e1 : wrap64 ((i : Int) + 1) = ((i + 1 : Nat) : Int) := by rw [w64 (by omega) (by omega)]; omega
    unfold impl_unpackValues.l0
    rw [if_pos (by omega), if_pos (by omega), if_pos (by omega), if_pos (by omega)]
    by_cases c : bt s (i : Int) ≥ 128
    · rw [if_pos c]
      by_cases c2 : wrap64 (((7 * j : Nat) : Int) + 7) > 28
      · rw [if_pos c2]; exact ⟨_, rfl⟩
      · have e7 : wrap64 (((7 * j : Nat) : Int) + 7) = ((7 * (j + 1) : Nat) : Int) := by rw [w64 (by omega) (by omega)]; omega
        rw [if_neg c2, e7, e1]
        rw [e7] at c2
        exact u_over s hs d k _ _ _ (i + 1) (j + 1) (by omega) (by omega) hl (by omega) (by omega)
    · rw [if_neg c]
      split
      · obtain ⟨v, hv, hv2⟩ := bef (wrap64 (b + (wrap64 (Int.tdiv (wrap64 (-(wrap64 ((Go.bits .or .i64 n (shl .i64 (wrap64 (Go.bits .and .u8 (bt s (i : Int)) 127)) ((7 * j : Nat) : Int))) + 1)))) 2))))
        rw [hv, fromBits_some v hv2, Option.bind_some, if_pos (by omega), e1]
        exact u_over s hs d k _ _ 0 (i + 1) 0 (by omega) (by omega) (by rw [List.length_append]; omega) (by rw [List.length_append]; simp only [List.length_singleton]; omega) (by omega)
      · obtain ⟨v, hv, hv2⟩ := bef (wrap64 (b + (wrap64 (Int.tdiv (Go.bits .or .i64 n (shl .i64 (wrap64 (Go.bits .and .u8 (bt s (i : Int)) 127)) ((7 * j : Nat) : Int))) 2))))
        rw [hv, fromBits_some v hv2, Option.bind_some, if_pos (by omega), e1]
        exact u_over s hs d k _ _ 0 (i + 1) 0 (by omega) (by omega) (by rw [List.length_append]; omega) (by rw [List.length_append]; simp only [List.length_singleton]; omega) (by omega)
/-- what unpacking ends in, once all bytes are read -/
def fin (s : ByteArray) (r : List Nat × Bool) : List Nat × Bool := if r.2 = true then (if (strOfNums (packFrom 0 (canons r.1))).toList = s.toList then (r.1, true) else ([], false)) else ([], false)
def simP (s : ByteArray) (d k1 k2 : Nat) (l : List Nat) (b : Int) (i j n : Nat) : Prop :=
    ∃ r : List Nat × Bool, impl_unpackValues.l0 k1 s l b (n : Int) ((7 * j : Nat) : Int) (s.size : Int) (i : Int) = some r ∧ (r.2 = true → 1 ≤ r.1.length ∧ r.1.length ≤ 256 ∧ ∀ x ∈ r.1, x < 4294967296) ∧
      (0 < d ∨ 0 < j → spec_l07Unpack.l1 k2 s l b (i : Int) (n : Int) ((128 ^ j : Nat) : Int) = some (fin s r)) ∧ (j = 0 → n = 0 → spec_l07Unpack.l0 (k2 + 1) s l b (i : Int) = some (fin s r))
theorem sim0 (s : ByteArray) (hs : s.size ≤ 1048576) (k1 k2 : Nat) (l : List Nat) (b : Int) (i j n : Nat) (h1 : i = s.size) (hl : l.length ≤ 256) (hb : ∀ x ∈ l, x < 4294967296) (hk2 : 1048600 < k2) : simP s 0 (k1 + 1) (k2 + 1 + 1 + 1) l b i j n := by
    by_cases c : j = 0
    · subst c
      refine ⟨(l, decide (1 ≤ l.length ∧ l.length ≤ 256)), ?_, fun h => ⟨(of_decide_eq_true h).1, hl, hb⟩, fun h => by omega, fun _ hn0 => ?_⟩
      · rw [impl_unpackValues.l0, if_neg (by omega), if_pos (by omega), within_n]; rfl
      · rw [spec_l07Unpack.l0, if_neg (by omega), values_n, Option.bind_some]
        unfold fin
        by_cases g : 1 ≤ l.length ∧ l.length ≤ 256
        · rw [if_pos (decide_eq_true g), if_pos (decide_eq_true g), pack_s l hb (by omega) _ (by omega), Option.bind_some]
          dsimp only
          split <;> rfl
        · rw [if_neg (by simpa using g), if_neg (by simpa using g)]
    · refine ⟨(l, false), ?_, fun h => (by cases h), fun _ => ?_, fun h => absurd h c⟩
      · rw [impl_unpackValues.l0, if_neg (by omega), if_neg (by omega)]
      · have a1 : ¬ ((i : Int) < (s.size : Int)) := by omega
        have a2 : (i : Int) = (s.size : Int) := by omega
        rw [spec_l07Unpack.l1, if_neg a1, spec_l07Unpack.j2, if_pos a2, spec_l07Unpack.j3, if_pos (Eq.refl true)]
        unfold fin
        rw [if_neg (by simp)]
theorem simA {s : ByteArray} {d k1 k2 : Nat} {l : List Nat} {b : Int} {i j n : Nat} (r : List Nat × Bool) (hi : i < s.size) (h1 : impl_unpackValues.l0 k1 s l b (n : Int) ((7 * j : Nat) : Int) (s.size : Int) (i : Int) = some r) (h2 : r.2 = true → 1 ≤ r.1.length ∧ r.1.length ≤ 256 ∧ ∀ x ∈ r.1, x < 4294967296)
    (h3 : spec_l07Unpack.l1 k2 s l b (i : Int) (n : Int) ((128 ^ j : Nat) : Int) = some (fin s r)) : simP s d k1 k2 l b i j n := by
  refine ⟨r, h1, h2, fun _ => h3, fun hj hn => ?_⟩
  subst hj hn
  rw [spec_l07Unpack.l0, if_pos (by omega)]
  exact h3
theorem simHi (s : ByteArray) (hs : s.size ≤ 1048576) (d k1 k2 : Nat) (l : List Nat) (b : Int) (i j n q : Nat) (hi : i < s.size) (hj : j ≤ 4) (hn : n < 128 ^ j) (hq : bt s (i : Int) = (q : Int)) (hq2 : q < 256) (c : (q : Int) ≥ 128)
    (ih : j ≠ 4 → simP s d k1 (k2 + 1 + 1 + 1) l b (i + 1) (j + 1) (n + (q % 128) * 128 ^ j)) : simP s (d + 1) (k1 + 1) (k2 + 1 + 1 + 1 + 1) l b i j n := by
  have e1 : wrap64 ((i : Int) + 1) = ((i + 1 : Nat) : Int) := by rw [w64 (by omega) (by omega)]; omega
  have hw := or_shl j hj n q hn hq2
  by_cases c2 : j = 4
  · subst c2
    have e7 : wrap64 (((7 * 4 : Nat) : Int) + 7) > 28 := by rw [w64 (by omega) (by omega)]; omega
    refine simA ([], false) hi ?_ (fun h => (by cases h)) ?_
    · rw [impl_unpackValues.l0, if_pos (by omega), if_pos (by omega), if_pos (by omega), if_pos (by omega), hq, if_pos c, if_pos e7]
    · have a2 : ¬ ((i : Int) = (s.size : Int)) := by omega
      have a3 : ¬ (((128 ^ 4 : Nat) : Int) < 268435456) := by decide
      rw [spec_l07Unpack.l1, if_pos (by omega), if_pos (by omega), hq, if_pos c, if_neg a3, spec_l07Unpack.j2, if_neg a2, if_pos (by omega), if_pos (by omega), hq, decide_eq_true c, spec_l07Unpack.j3, if_pos (Eq.refl true)]
      unfold fin
      rw [if_neg (by simp)]
  · have e7 : wrap64 (((7 * j : Nat) : Int) + 7) = ((7 * (j + 1) : Nat) : Int) := by rw [w64 (by omega) (by omega)]; omega
    have e8 : ¬ (((7 * (j + 1) : Nat) : Int) > 28) := by omega
    have hp : ((128 ^ j : Nat) : Int) < 268435456 := by
      have : 128 ^ j ≤ 2097152 := Nat.le_trans (Nat.pow_le_pow_right (by decide) (show j ≤ 3 by omega)) (by decide)
      generalize 128 ^ j = p at *
      omega
    obtain ⟨r, g1, g2, g3, _⟩ := ih c2
    refine simA r hi ?_ g2 ?_
    · rw [impl_unpackValues.l0, if_pos (by omega), if_pos (by omega), if_pos (by omega), if_pos (by omega), hq, if_pos c, e7, if_neg e8, hw, e1]
      exact g1
    · rw [spec_l07Unpack.l1, if_pos (by omega), if_pos (by omega), hq, if_pos c, if_pos hp, e1, val_hi j hj n q hn hq2 (by omega), scale_up j hj]
      exact g3 (.inr (by omega))
theorem i_up {i n : Nat} (h : i < n) (hn : n ≤ 1048576) : wrap64 ((i : Int) + 1) = ((i + 1 : Nat) : Int) := by rw [w64 (by omega) (by omega)]; omega
theorem lo_c {q : Nat} (c : ¬ (q : Int) ≥ 128) : q < 128 := by omega
theorem ne_c {i n : Nat} (h : i < n) : ¬ ((i : Int) = (n : Int)) := by omega
theorem simLo (s : ByteArray) (hs : s.size ≤ 1048576) (d k1 k2 : Nat) (l : List Nat) (b : Int) (i j n q : Nat) (hi : i < s.size) (hid : i + d + 1 = s.size) (hk1 : d < k1) (hl : l.length ≤ 256) (hb : ∀ x ∈ l, x < 4294967296) (hj : j ≤ 4) (hn : n < 128 ^ j) (hq : bt s (i : Int) = (q : Int)) (hq2 : q < 256) (c : ¬ (q : Int) ≥ 128)
    (ih : ∀ v : Nat, v < 4294967296 → l.length + 1 ≤ 256 → simP s d k1 k2 (l ++ [v]) (v : Int) (i + 1) 0 0) : simP s (d + 1) (k1 + 1) (k2 + 1 + 1 + 1 + 1) l b i j n := by
  have key : ∀ v : Nat, v < 4294967296 → ∃ r : List Nat × Bool, impl_unpackValues.l0 k1 s (l ++ [v]) (v : Int) 0 0 (s.size : Int) ((i + 1 : Nat) : Int) = some r ∧ (r.2 = true → 1 ≤ r.1.length ∧ r.1.length ≤ 256 ∧ ∀ x ∈ r.1, x < 4294967296) ∧
      (if ((l ++ [v]).length : Int) > 256 then (some (([] : List Nat), false)) else (spec_l07Unpack.l0 (k2 + 1) s (l ++ [v]) (v : Int) ((i + 1 : Nat) : Int))) = some (fin s r) := by
    intro v hv
    have hlen : (l ++ [v]).length = l.length + 1 := by rw [List.length_append]; rfl
    by_cases g : l.length + 1 ≤ 256
    · obtain ⟨r, g1, g2, _, g4⟩ := ih v hv g
      refine ⟨r, g1, g2, ?_⟩
      rw [if_neg (by omega)]
      exact g4 rfl rfl
    · obtain ⟨r, g1⟩ := u_over s hs d k1 (l ++ [v]) (v : Int) 0 (i + 1) 0 (by omega) (by omega) (by omega) (by omega) (by omega)
      refine ⟨(r, false), g1, fun h => (by cases h), ?_⟩
      rw [if_pos (by omega)]
      unfold fin
      rw [if_neg (by simp)]
  have e1 := i_up hi hs
  have b1 : (i : Int) < (s.size : Int) := Int.ofNat_lt.2 hi
  have b2 : (0 : Int) ≤ (i : Int) := Int.natCast_nonneg i
  have b3 : (0 : Int) ≤ ((7 * j : Nat) : Int) := Int.natCast_nonneg _
  have b4 : l.length < 35184372088832 := Nat.lt_of_le_of_lt hl (by decide)
  have hw := or_shl j hj n q hn hq2
  have hv0 := val_lo j hj n q hn (lo_c c)
  have hs1 : spec_l07Unpack.l1 (k2 + 1 + 1 + 1 + 1) s l b (i : Int) (n : Int) ((128 ^ j : Nat) : Int) = spec_l07Unpack.j3 (k2 + 1 + 1) s l b (i : Int) (n : Int) ((128 ^ j : Nat) : Int) false := by
    have a2 := ne_c hi
    rw [spec_l07Unpack.l1, if_pos b1, if_pos b2, hq, if_neg c, spec_l07Unpack.j2, if_neg a2, if_pos b2, if_pos b1, hq, decide_eq_false c]
  generalize hm : n + (q % 128) * 128 ^ j = m at hw hv0
  by_cases g : (Int.tmod (m : Int) 2) = 1
  · obtain ⟨v, hv, hv2⟩ := bef (wrap64 (b + (wrap64 (Int.tdiv (wrap64 (-(wrap64 ((m : Int) + 1)))) 2))))
    obtain ⟨r, g1, g2, g3⟩ := key v hv2
    refine simA r hi ?_ g2 ?_
    · rw [impl_unpackValues.l0, if_pos b1, if_pos b2, if_pos b1, if_pos b3, hq, if_neg c, hw, if_pos g, hv, fromBits_some v hv2, Option.bind_some, if_pos b4, e1]; exact g1
    · rw [hs1, spec_l07Unpack.j3, if_neg (Bool.false_ne_true), if_pos b2, if_pos b1, hq, hv0, if_pos g, hv, from_some v hv2, Option.bind_some, if_pos b4, Option.bind_some, e1]; exact g3
  · obtain ⟨v, hv, hv2⟩ := bef (wrap64 (b + (wrap64 (Int.tdiv (m : Int) 2))))
    obtain ⟨r, g1, g2, g3⟩ := key v hv2
    refine simA r hi ?_ g2 ?_
    · rw [impl_unpackValues.l0, if_pos b1, if_pos b2, if_pos b1, if_pos b3, hq, if_neg c, hw, if_neg g, hv, fromBits_some v hv2, Option.bind_some, if_pos b4, e1]; exact g1
    · rw [hs1, spec_l07Unpack.j3, if_neg (Bool.false_ne_true), if_pos b2, if_pos b1, hq, hv0, if_neg g, hv, from_some v hv2, Option.bind_some, if_pos b4, Option.bind_some, e1]; exact g3
theorem u_sim (s : ByteArray) (hs : s.size ≤ 1048576) (d : Nat) : ∀ (k1 k2 : Nat) (l : List Nat) (b : Int) (i j n : Nat), i + d = s.size → j ≤ 4 → n < 128 ^ j → l.length ≤ 256 → (∀ x ∈ l, x < 4294967296) → d < k1 → 4 * d + 1048610 < k2 → simP s d k1 k2 l b i j n := by
  induction d with
  | zero =>
    intro k1 k2 l b i j n h1 hj hn hl hb hk hk2
    obtain ⟨k1, rfl⟩ : ∃ m, k1 = m + 1 := ⟨k1 - 1, by omega⟩
    obtain ⟨k2, rfl⟩ : ∃ m, k2 = m + 1 + 1 + 1 := ⟨k2 - 3, by omega⟩
    exact sim0 s hs k1 k2 l b i j n (by omega) hl hb (by omega)
  | succ d ih =>
    intro k1 k2 l b i j n h1 hj hn hl hb hk hk2
    obtain ⟨k1, rfl⟩ : ∃ m, k1 = m + 1 := ⟨k1 - 1, by omega⟩
    obtain ⟨k2, rfl⟩ : ∃ m, k2 = m + 1 + 1 + 1 + 1 := ⟨k2 - 4, by omega⟩
    obtain ⟨q, hq, hq2⟩ := bt_r s (i : Int)
    by_cases c : (q : Int) ≥ 128
    · exact simHi s hs d k1 k2 l b i j n q (by omega) hj hn hq hq2 c fun c2 => ih k1 _ l b (i + 1) (j + 1) _ (by omega) (by omega) (n_up j n q hn) hl hb (by omega) (by omega)
    · refine simLo s hs d k1 k2 l b i j n q (by omega) (by omega) (by omega) hl hb hj hn hq hq2 c fun v hv g => ih k1 k2 (l ++ [v]) (v : Int) (i + 1) 0 0 (by omega) (by omega) (by decide) (by rw [List.length_append]; exact g) ?_ (by omega) (by omega)
      intro x hx
      rcases List.mem_append.1 hx with h | h
      · exact hb x h
      · rw [List.mem_singleton.1 h]; exact hv
theorem fin_ok (s : ByteArray) (r : List Nat × Bool) (h : r.2 = true → 1 ≤ r.1.length ∧ r.1.length ≤ 256 ∧ ∀ x ∈ r.1, x < 4294967296) : (fin s r).1.length ≤ 256 ∧ ∀ x ∈ (fin s r).1, x < 4294967296 := by
  unfold fin
  split
  · rename_i g
    split
    · exact (h g).2
    · exact ⟨by decide, fun x hx => by cases hx⟩
  · exact ⟨by decide, fun x hx => by cases hx⟩
/-- both unpack alike -/
theorem unpack_some (s : ByteArray) (hs : s.size ≤ 1048576) :
    ∃ u : List Nat × Bool, (u.2 = true → 1 ≤ u.1.length ∧ u.1.length ≤ 256 ∧ ∀ x ∈ u.1, x < 4294967296) ∧ ∀ k, 8388620 ≤ k → impl_unpackValues.f k s = some u ∧ spec_l07Unpack.f k s = some (fin s u) := by
  obtain ⟨K, hK⟩ : ∃ K : Nat, K = 8388619 := ⟨_, rfl⟩
  obtain ⟨u, h1, h2, _, h3⟩ := u_sim s hs s.size (K + 1) K [] 0 0 0 0 (by omega) (by decide) (by decide) (by decide) (fun x hx => by cases hx) (by omega) (by omega)
  have h4 := h3 rfl rfl
  exact ⟨u, h2, fun k hk => ⟨at_rounds (g := fun k => impl_unpackValues.f k s) (impl_unpackValues.mono s) (show K + 1 ≤ k by omega) h1, at_rounds (g := fun k => spec_l07Unpack.f k s) (spec_l07Unpack.mono s) (show K + 1 ≤ k by omega) h4⟩⟩
theorem mk_ok : ∀ n, n < 300 → fne .f32 (floatOfInt .f32 (n : Nat)) (floatOfInt .f32 (n : Nat)) = false := by
  have h : (List.range 300).all (fun n => !fne .f32 (floatOfInt .f32 (n : Nat)) (floatOfInt .f32 (n : Nat))) = true := by kernel_rfl
  intro n hn
  have := List.all_eq_true.1 h n (List.mem_range.2 hn)
  simpa using this
def marks (n : Nat) : List Nat := (List.range n).map fun j => floatOfInt .f32 ((1 + j : Nat) : Int)
theorem marks_len (n : Nat) : (marks n).length = n := by unfold marks; rw [List.length_map, List.length_range]
theorem marks_at {n i : Nat} (h : i < n) : (marks n)[i]? = some (floatOfInt .f32 ((1 + i : Nat) : Int)) := by
  unfold marks
  rw [List.getElem?_map, List.getElem?_range h]; rfl
theorem markl (n : Nat) (hn : n ≤ 1048576) : ∀ (d k : Nat) (xs : List Nat) (i : Nat), i + d = n → xs.length = n → xs.take i = (marks n).take i → d < k →
    laws_markFloat32S.l0 k xs ((1 + i : Nat) : Int) (i : Int) = some (((1 + n : Nat) : Int), marks n)
  | d, 0, xs, i, h1, hl, ht, hk => by omega
  | 0, k + 1, xs, i, h1, hl, ht, hk => by
    unfold laws_markFloat32S.l0
    obtain rfl : i = n := by omega
    rw [if_neg (by omega), List.take_of_length_le (by omega), List.take_of_length_le (by rw [marks_len]; omega)] at *
    rw [ht]
  | d + 1, k + 1, xs, i, h1, hl, ht, hk => by
    unfold laws_markFloat32S.l0
    have e1 : wrap64 ((i : Int) + 1) = ((i + 1 : Nat) : Int) := by rw [w64 (by omega) (by omega)]; omega
    have e2 : wrap64 (((1 + i : Nat) : Int) + 1) = ((1 + (i + 1) : Nat) : Int) := by rw [w64 (by omega) (by omega)]; omega
    rw [if_pos (by omega), if_pos (by omega), e1, e2]
    refine markl n hn d k _ (i + 1) (by omega) (by rw [List.length_set]; exact hl) ?_ (by omega)
    rw [Int.toNat_natCast]
    exact take_set_succ (by rw [marks_len]; omega) (by rw [marks_len]; exact hl) ht (marks_at (by omega))
theorem mark_some (l : List Nat) (hl : l.length ≤ 1048576) (k : Nat) (hk : l.length < k) : laws_markFloat32S.f k l 1 = some (((1 + l.length : Nat) : Int), marks l.length) :=
  markl l.length hl l.length k l 0 (by omega) rfl rfl hk
theorem heldl (n : Nat) (hn : n ≤ 256) : ∀ (d k : Nat) (i : Nat), i + d = n → d < k →
    laws_heldFloat32S.l0 k (marks n) ((1 + i : Nat) : Int) (i : Int) = some ((1 + n : Nat) : Int)
  | d, 0, i, h1, hk => by omega
  | 0, k + 1, i, h1, hk => by
    unfold laws_heldFloat32S.l0
    obtain rfl : i = n := by omega
    rw [if_neg (by rw [marks_len]; omega)]
  | d + 1, k + 1, i, h1, hk => by
    unfold laws_heldFloat32S.l0
    have e1 : wrap64 ((i : Int) + 1) = ((i + 1 : Nat) : Int) := by rw [w64 (by omega) (by omega)]; omega
    have e2 : wrap64 (((1 + i : Nat) : Int) + 1) = ((1 + (i + 1) : Nat) : Int) := by rw [w64 (by omega) (by omega)]; omega
    have e3 : rdOf (0 : Nat) (marks n) (i : Int) = floatOfInt .f32 ((1 + i : Nat) : Int) := by
      unfold rdOf
      rw [Int.toNat_natCast, List.getD_eq_getElem?_getD, marks_at (by omega)]; rfl
    rw [if_pos (by rw [marks_len]; omega), if_pos (by omega), e3, mk_ok (1 + i) (by omega), if_neg (by simp), e1, e2]
    exact heldl n hn d k (i + 1) (by omega) (by omega)
theorem held_some (n : Nat) (hn : n ≤ 256) (k : Nat) (hk : n < k) : laws_heldFloat32S.f k (marks n) 1 = some ((1 + n : Nat) : Int) :=
  heldl n hn n k 0 (by omega) hk
theorem littlee (k : Nat) (x0 : Int) (x5 : List Int) (x6 x7 : Int) : impl_littleBytes.l0 (k + 1) x0 x5 x6 x7 = if x7 < x6 then (if x5.length < 140737488355328 then (impl_littleBytes.l0 k (wrap64 (Int.tdiv x0 256)) (x5 ++ [(Int.tmod x0 256) % 256]) x6 (wrap64 (x7 + 1))) else (none)) else (some (strOfNums x5)) := by rw [impl_littleBytes.l0]
theorem td {n : Nat} (h : n < 1099511627776) : wrap64 (Int.tdiv (n : Int) 256) = ((n / 256 : Nat) : Int) := by
  rw [Int.tdiv_eq_ediv_of_nonneg (by omega), w64 (by omega) (by omega)]; omega
theorem td2 {n : Nat} (h : n < 1099511627776) : wrap64 (Int.tdiv (n : Int) 65536) = ((n / 65536 : Nat) : Int) := by
  rw [Int.tdiv_eq_ediv_of_nonneg (by omega), w64 (by omega) (by omega)]; omega
theorem td3 {n : Nat} (h : n < 1099511627776) : wrap64 (Int.tdiv (n : Int) 16777216) = ((n / 16777216 : Nat) : Int) := by
  rw [Int.tdiv_eq_ediv_of_nonneg (by omega), w64 (by omega) (by omega)]; omega
theorem td0 {n : Nat} (h : n < 1099511627776) : wrap64 ((n : Int) / 256) = ((n / 256 : Nat) : Int) := by
  rw [w64 (by omega) (by omega)]; omega
theorem em (n : Nat) : (n : Int) % 256 = ((n % 256 : Nat) : Int) := by omega
theorem tm (n : Nat) : Int.tmod (n : Int) 256 % 256 = ((n % 256 : Nat) : Int) := by
  rw [Int.tmod_eq_emod_of_nonneg (by omega)]; omega
theorem little4 (n : Nat) (h : n < 1099511627776) (k : Nat) (hk : 5 ≤ k) : impl_littleBytes.f k (n : Int) 4 = some (strOfNums [((n % 256 : Nat) : Int), ((n / 256 % 256 : Nat) : Int), ((n / 65536 % 256 : Nat) : Int), ((n / 16777216 % 256 : Nat) : Int)]) := by
  obtain ⟨k, rfl⟩ : ∃ m, k = m + 1 + 1 + 1 + 1 + 1 := ⟨k - 5, by omega⟩
  unfold impl_littleBytes.f
  have e2 : n / 256 / 256 = n / 65536 := by omega
  have e3 : n / 65536 / 256 = n / 16777216 := by omega
  rw [littlee, if_pos (by decide), if_pos (by decide), tm, td h, w64 (by decide) (by decide)]
  rw [littlee, if_pos (by decide), if_pos (by simp), tm, td (by omega), w64 (by decide) (by decide), e2]
  rw [littlee, if_pos (by decide), if_pos (by simp), tm, td (by omega), w64 (by decide) (by decide), e3]
  rw [littlee, if_pos (by decide), if_pos (by simp), tm, td (by omega), w64 (by decide) (by decide)]
  rw [littlee, if_neg (by decide)]
  rfl
theorem little2 (n : Nat) (h : n < 1099511627776) (k : Nat) (hk : 5 ≤ k) : impl_littleBytes.f k (n : Int) 2 = some (strOfNums [((n % 256 : Nat) : Int), ((n / 256 % 256 : Nat) : Int)]) := by
  obtain ⟨k, rfl⟩ : ∃ m, k = m + 1 + 1 + 1 := ⟨k - 3, by omega⟩
  unfold impl_littleBytes.f
  rw [littlee, if_pos (by decide), if_pos (by decide), tm, td h, w64 (by decide) (by decide)]
  rw [littlee, if_pos (by decide), if_pos (by simp), tm, td (by omega), w64 (by decide) (by decide)]
  rw [littlee, if_neg (by decide)]
  rfl
theorem checkl (s : ByteArray) (hs : s.size ≤ 9223372036854775807) : ∀ (k : Nat) (x i : Int), 0 ≤ x → x < 65003 → 0 ≤ i → i ≤ s.size → s.size - i < k → ∃ c : Nat, c < 65003 ∧ spec_l01Check.l0 k x s i = some (c : Int) ∧ impl_CheckOf.l0 k x s i = some ((c : Int), true)
  | 0, x, i, _, _, _, _, hk => by omega
  | k + 1, x, i, h0, h1, hi, hl, hk => by
    unfold spec_l01Check.l0 impl_CheckOf.l0
    by_cases c : i < (s.size : Int)
    · obtain ⟨b0, b1⟩ := bt_range s i
      rw [if_pos c, if_pos c, if_pos hi, if_pos hi, w64 (x := i + 1) (by omega) (by omega), w64 (x := 797 * x) (by omega) (by omega), w64 (x := bt s i) (by omega) (by omega), w64 (x := 797 * x + bt s i) (by omega) (by omega), w64 (by omega) (by omega)]
      have hm : Int.tmod (797 * x + bt s i + 101) 65003 = (797 * x + bt s i + 101) % 65003 := Int.tmod_eq_emod_of_nonneg (by omega)
      rw [hm]
      exact checkl s hs k _ (i + 1) (by omega) (by omega) (by omega) (by omega) (by omega)
    · rw [if_neg c, if_neg c]
      refine ⟨x.toNat, by omega, ?_, ?_⟩ <;> rw [Int.toNat_of_nonneg h0]
theorem check_some (s : ByteArray) (hs : s.size ≤ 1073741824) (k : Nat) (hk : 1073741825 ≤ k) : ∃ c : Nat, c < 65003 ∧ spec_l01Check.f k 0 s = some (c : Int) ∧ impl_CheckOf.f k 0 s = some ((c : Int), true) := by
  obtain ⟨c, h1, h2, h3⟩ := checkl s (by omega) k 0 0 (by omega) (by omega) (by omega) (by omega) (by omega)
  refine ⟨c, h1, h2, ?_⟩
  unfold impl_CheckOf.f impl_within.f
  rw [if_pos (by decide), Option.bind_some, if_pos (by decide)]
  exact h3
def stored (n : Nat) (p : ByteArray) (c : Nat) : ByteArray := ((⟨#[86, 79, 88, 49]⟩ : ByteArray) ++ strOfNums [((n % 256 : Nat) : Int), ((n / 256 % 256 : Nat) : Int), ((n / 65536 % 256 : Nat) : Int), ((n / 16777216 % 256 : Nat) : Int), ((p.size % 256 : Nat) : Int), ((p.size / 256 % 256 : Nat) : Int)] ++ p) ++ strOfNums [((c % 256 : Nat) : Int), ((c / 256 % 256 : Nat) : Int)]
theorem size_str (xs : List Int) : (strOfNums xs).size = xs.length := by simp [strOfNums, ByteArray.size]
theorem str_app (xs ys : List Int) : strOfNums (xs ++ ys) = strOfNums xs ++ strOfNums ys := by
  apply ByteArray.ext
  simp [strOfNums]
theorem store_some (n : Nat) (hn : n < 4294967296) (l : List Nat) (hb : ∀ x ∈ l, x < 4294967296) (hl : l.length ≤ 256) (k : Nat) (hk : 1073741825 ≤ k) :
    ∃ c : Nat, c < 65003 ∧ spec_l07Store.f k [(⟨(n : Int), l⟩ : S27)] = some (stored n (strOfNums (packFrom 0 (canons l))) c) ∧ impl_storeBlock.f k (n : Int) l = some (stored n (strOfNums (packFrom 0 (canons l))) c) := by
  have hps : (strOfNums (packFrom 0 (canons l))).size ≤ 1280 := by
    rw [size_str]
    have := packFrom_len (canons l) 0
    rw [canons_len] at this
    omega
  have hpk := pack_s l hb (by omega) k (by omega)
  have hpi := pack_i l hb (by omega) k (by omega)
  generalize strOfNums (packFrom 0 (canons l)) = p at *
  have hz6 : ∀ a b c d e f : Int, (strOfNums [a, b, c, d, e, f]).size = 6 := fun _ _ _ _ _ _ => by rw [size_str]; rfl
  have hz4 : ∀ a b c d : Int, (strOfNums [a, b, c, d]).size = 4 := fun _ _ _ _ => by rw [size_str]; rfl
  have hz2 : ∀ a b : Int, (strOfNums [a, b]).size = 2 := fun _ _ => by rw [size_str]; rfl
  have hv : (⟨#[86, 79, 88, 49]⟩ : ByteArray).size = 4 := rfl
  obtain ⟨c, hc, hcs, hci⟩ := check_some ((⟨#[86, 79, 88, 49]⟩ : ByteArray) ++ strOfNums [((n % 256 : Nat) : Int), ((n / 256 % 256 : Nat) : Int), ((n / 65536 % 256 : Nat) : Int), ((n / 16777216 % 256 : Nat) : Int), ((p.size % 256 : Nat) : Int), ((p.size / 256 % 256 : Nat) : Int)] ++ p) (by
    rw [ByteArray.size_append, ByteArray.size_append, hz6, hv]; omega) k hk
  refine ⟨c, hc, ?_, ?_⟩
  · unfold spec_l07Store.f
    have hr : rd_T27 [(⟨(n : Int), l⟩ : S27)] 0 = ⟨(n : Int), l⟩ := rfl
    rw [if_pos (show (0 : Int) < (([(⟨(n : Int), l⟩ : S27)] : List S27).length : Int) by show (0 : Int) < 1; decide), hr]
    dsimp only
    rw [hpk, Option.bind_some, Option.bind_some, tm, td (by omega), tm, td2 (by omega), tm, td3 (by omega), em, td0 (by omega), em, em]
    rw [if_pos (by rw [hz6]; omega), if_pos (by rw [ByteArray.size_append, hz6, hv]; omega), hcs, Option.bind_some, Option.bind_some, tm, td (by omega), em, if_pos (by rw [ByteArray.size_append, ByteArray.size_append, hz6, hz2, hv]; omega)]
    rfl
  · have e6 : ∀ a b c d e f : Int, strOfNums [a, b, c, d] ++ strOfNums [e, f] = strOfNums [a, b, c, d, e, f] := fun a b c d e f => (str_app [a, b, c, d] [e, f]).symm
    unfold impl_storeBlock.f
    rw [hpi, Option.bind_some, little4 n (by omega) k (by omega), Option.bind_some, if_pos (by rw [hz4]; omega), little2 p.size (by omega) k (by omega), Option.bind_some]
    rw [if_pos (by rw [ByteArray.size_append, hz4, hz2, hv]; omega), if_pos (by rw [ByteArray.size_append, ByteArray.size_append, hz4, hz2, hv]; omega), ByteArray.append_assoc (a := (⟨#[86, 79, 88, 49]⟩ : ByteArray)), e6, hci, Option.bind_some]
    dsimp only
    rw [little2 c (by omega) k (by omega), Option.bind_some, if_pos (by rw [ByteArray.size_append, ByteArray.size_append, hz6, hz2, hv]; omega)]
    rfl
theorem list_inj {a b : ByteArray} (h : a.toList = b.toList) : a = b := by
  rw [ByteArray.toList_eq, ByteArray.toList_eq] at h
  exact ByteArray.ext (Array.toList_inj.1 h)
theorem bt_cut (s : ByteArray) (n : Nat) (i : Int) (hi : i.toNat < n) (hn : n ≤ s.size) : bt (s.extract 0 n) i = bt s i := by
  unfold bt
  have h1 : i.toNat < (s.extract 0 n).size := by rw [ByteArray.size_extract]; omega
  rw [dif_pos h1, dif_pos (show i.toNat < s.size by omega), ByteArray.getElem_extract h1]
  simp only [Nat.zero_add]
theorem cut_cut (s : ByteArray) (n m : Nat) (h : m ≤ n) : (s.extract 0 n).extract 10 m = s.extract 10 m := by
  rw [ByteArray.extract_extract]
  congr 1
  omega
theorem stored_size (n : Nat) (p : ByteArray) (c : Nat) : (stored n p c).size = p.size + 12 := by
  unfold stored
  rw [ByteArray.size_append, ByteArray.size_append, ByteArray.size_append, size_str, size_str]
  have : (⟨#[86, 79, 88, 49]⟩ : ByteArray).size = 4 := rfl
  simp only [List.length_cons, List.length_nil]
  omega
theorem stored_mid (n : Nat) (p : ByteArray) (c : Nat) : (stored n p c).extract 10 (p.size + 10) = p := by
  unfold stored
  generalize hx : ((⟨#[86, 79, 88, 49]⟩ : ByteArray) ++ strOfNums [((n % 256 : Nat) : Int), ((n / 256 % 256 : Nat) : Int), ((n / 65536 % 256 : Nat) : Int), ((n / 16777216 % 256 : Nat) : Int), ((p.size % 256 : Nat) : Int), ((p.size / 256 % 256 : Nat) : Int)]) = x
  have hs : x.size = 10 := by
    rw [← hx, ByteArray.size_append, size_str]; rfl
  generalize strOfNums [((c % 256 : Nat) : Int), ((c / 256 % 256 : Nat) : Int)] = y
  apply ByteArray.ext
  apply Array.toList_inj.1
  rw [Go.Lib.extract_data, ByteArray.data_append, ByteArray.data_append, Array.toList_append, Array.toList_append, List.append_assoc, List.drop_append_of_le_length (by rw [Array.length_toList]; exact Nat.le_of_eq hs.symm), List.drop_of_length_le (by rw [Array.length_toList]; exact Nat.le_of_eq hs), List.nil_append]
  exact List.take_left' (by rw [Array.length_toList]; show p.size = _; omega)
theorem n_some (s : ByteArray) : ∃ n : Nat, wrap64 ((wrap64 (12 + (wrap64 (bt s 8)))) + (wrap64 (256 * (wrap64 (bt s 9))))) = (n : Int) ∧ 12 ≤ n ∧ n ≤ 65547 := by
  obtain ⟨a, ha, ha2⟩ := bt_r s 8
  obtain ⟨b, hb, hb2⟩ := bt_r s 9
  rw [ha, hb]
  refine ⟨12 + a + 256 * b, ?_, by omega, by omega⟩
  simp (disch := omega) only [w64_id]
  omega
theorem time_some (s : ByteArray) : ∃ t : Nat, t < 4294967296 ∧
    wrap64 ((wrap64 ((wrap64 ((wrap64 (bt s 4)) + (wrap64 ((wrap64 (bt s 5)) * 256)))) + (wrap64 ((wrap64 (bt s 6)) * 65536)))) + (wrap64 ((wrap64 (bt s 7)) * 16777216))) = (t : Int) ∧
    wrap64 ((wrap64 ((wrap64 ((wrap64 (bt s 4)) + (wrap64 (256 * (wrap64 (bt s 5)))))) + (wrap64 (65536 * (wrap64 (bt s 6)))))) + (wrap64 (16777216 * (wrap64 (bt s 7))))) = (t : Int) := by
  obtain ⟨a, ha, ha2⟩ := bt_r s 4
  obtain ⟨b, hb, hb2⟩ := bt_r s 5
  obtain ⟨c, hc, hc2⟩ := bt_r s 6
  obtain ⟨d, hd, hd2⟩ := bt_r s 7
  rw [ha, hb, hc, hd]
  refine ⟨a + 256 * b + 65536 * c + 16777216 * d, by omega, ?_, ?_⟩
  · simp (disch := omega) only [w64_id]
    omega
  · simp (disch := omega) only [w64_id]
    omega
theorem block_ok (t : Nat) (ht : t < 4294967296) (l : List Nat) (h1 : 1 ≤ l.length) (h2 : l.length ≤ 256) : spec_l07Block.f [(⟨(t : Int), l⟩ : S27)] = some true := by
  unfold spec_l07Block.f spec_l00In.f
  have hr : rd_T27 [(⟨(t : Int), l⟩ : S27)] 0 = ⟨(t : Int), l⟩ := rfl
  rw [if_pos (show (0 : Int) < (([(⟨(t : Int), l⟩ : S27)] : List S27).length : Int) by show (0 : Int) < 1; decide), hr]
  dsimp only
  rw [if_pos (by omega), Option.bind_some, if_pos (by simp; omega), values_n, Option.bind_some, decide_eq_true ⟨h1, h2⟩]
/-- what a block that is loaded comes to -/
def lb (ok : Bool) (t : Nat) (l : List Nat) (n : Nat) : Int × List Nat × Int × Bool := if ok = true then ((t : Int), l, (n : Int), true) else (0, [], 0, false)
def ls (ok : Bool) (t : Nat) (l : List Nat) : Int × List Nat × Bool := if ok = true then ((t : Int), l, true) else (0, [], false)
theorem load_at (s : ByteArray) (hs : s.size ≤ 1048576) (K : Nat) (hK : 1073741825 ≤ K) (n : Nat) (hn : wrap64 ((wrap64 (12 + (wrap64 (bt s 8)))) + (wrap64 (256 * (wrap64 (bt s 9))))) = (n : Int)) (h12 : 12 ≤ n) (hns : n ≤ s.size) :
    ∃ (t : Nat) (l : List Nat) (ok : Bool), t < 4294967296 ∧ l.length ≤ 256 ∧ (∀ x ∈ l, x < 4294967296) ∧ impl_loadBlock.f (K + 1) s = some (lb ok t l n) ∧ spec_l07Load.f (K + 1) (s.extract 0 n) = some (ls ok t l) := by
  obtain ⟨t, ht, ht1, ht2⟩ := time_some s
  obtain ⟨u, hu, huk⟩ := unpack_some (s.extract 10 (n - 2)) (by rw [ByteArray.size_extract]; omega)
  have hsz : (s.extract 0 n).size = n := by rw [ByteArray.size_extract]; omega
  have hN : wrap64 ((n : Int) - 2) = ((n - 2 : Nat) : Int) := by rw [w64 (by omega) (by omega)]; omega
  have c1 : ¬ ((s.size : Int) < 12) := by omega
  have c2 : (8 : Int) < (s.size : Int) := by omega
  have c3 : (9 : Int) < (s.size : Int) := by omega
  have c4 : ¬ ((s.size : Int) < (n : Int)) := by omega
  have c5 : (4 : Int) < (s.size : Int) := by omega
  have c6 : (5 : Int) < (s.size : Int) := by omega
  have c7 : (6 : Int) < (s.size : Int) := by omega
  have c8 : (7 : Int) < (s.size : Int) := by omega
  have c9 : (10 : Int) ≤ ((n - 2 : Nat) : Int) := by omega
  have c10 : ((n - 2 : Nat) : Int) ≤ (s.size : Int) := by omega
  have c11 : (0 : Int) ≤ (n : Int) := by omega
  have c12 : (n : Int) ≤ (s.size : Int) := by omega
  have d1 : ¬ (((s.extract 0 n).size : Int) < 10) := by rw [hsz]; omega
  have d2 : (8 : Int) < ((s.extract 0 n).size : Int) := by rw [hsz]; omega
  have d3 : (9 : Int) < ((s.extract 0 n).size : Int) := by rw [hsz]; omega
  have d4 : ¬ ((n : Int) > ((s.extract 0 n).size : Int)) := by rw [hsz]; omega
  have d5 : (4 : Int) < ((s.extract 0 n).size : Int) := by rw [hsz]; omega
  have d6 : (5 : Int) < ((s.extract 0 n).size : Int) := by rw [hsz]; omega
  have d7 : (6 : Int) < ((s.extract 0 n).size : Int) := by rw [hsz]; omega
  have d8 : (7 : Int) < ((s.extract 0 n).size : Int) := by rw [hsz]; omega
  have d9 : ((n - 2 : Nat) : Int) ≤ ((s.extract 0 n).size : Int) := by rw [hsz]; omega
  have d10 : ¬ ((n : Int) = 0) := by omega
  have d11 : ((n : Int) != ((s.extract 0 n).size : Int)) = false := by rw [hsz]; simp
  have tn : ∀ m : Nat, (m : Int).toNat = m := fun m => Int.toNat_natCast m
  have hI : impl_loadBlock.f (K + 1) s = (impl_unpackValues.f (K + 1) (s.extract 10 (n - 2))).bind fun b => (if b.2 = true then ((impl_storeBlock.f (K + 1) (t : Int) b.1).bind fun q => (if q.toList = (s.extract 0 n).toList then (some ((t : Int), b.1, (n : Int), true)) else (some (0, ([] : List Nat), 0, false)))) else (some (0, ([] : List Nat), 0, false))) := by
    unfold impl_loadBlock.f
    simp only [hn, ht1, hN, tn]
    rw [if_neg c1, if_pos c2, if_pos c3, if_neg c4, if_pos c5, if_pos c6, if_pos c7, if_pos c8, if_pos c9, if_pos c10]
    simp only [if_pos c11, if_pos c12]
  have hS : spec_l07Load.f (K + 1) (s.extract 0 n) = (spec_l07Unpack.f K (s.extract 10 (n - 2))).bind fun b => (if b.2 = true then ((spec_l07Block.f [(⟨(t : Int), b.1⟩ : S27)]).bind fun p => (if p = true then ((spec_l07Store.f K [(⟨(t : Int), b.1⟩ : S27)]).bind fun q => (if q.toList = (s.extract 0 n).toList then (some ((t : Int), b.1, true)) else (some (0, ([] : List Nat), false)))) else (some (0, ([] : List Nat), false)))) else (some (0, ([] : List Nat), false))) := by
    have e4 := bt_cut s n 4 (by show 4 < n; omega) hns
    have e5 := bt_cut s n 5 (by show 5 < n; omega) hns
    have e6 := bt_cut s n 6 (by show 6 < n; omega) hns
    have e7 := bt_cut s n 7 (by show 7 < n; omega) hns
    have e8 := bt_cut s n 8 (by show 8 < n; omega) hns
    have e9 := bt_cut s n 9 (by show 9 < n; omega) hns
    unfold spec_l07Load.f spec_l07Long.f
    rw [if_neg d1, if_pos d2, if_pos d3, e8, e9, hn, if_neg d4, Option.bind_some, if_neg d10, d11, spec_l07Load.j0, if_neg Bool.false_ne_true, if_pos d5, if_pos d6, if_pos d7, if_pos d8, hN, if_pos c9, if_pos d9, tn, cut_cut s n (n - 2) (by omega)]
    simp only [e4, e5, e6, e7, ht2]
  clear c1 c2 c3 c4 c5 c6 c7 c8 c9 c10 c11 c12 d1 d2 d3 d4 d5 d6 d7 d8 d9 d10 d11 ht1 ht2 hN hn
  have hu1 := (huk (K + 1) (by omega)).1
  have hu2 := (huk K (by omega)).2
  rw [hu1, Option.bind_some] at hI
  rw [hu2, Option.bind_some] at hS
  by_cases c : u.2 = true
  · obtain ⟨g0, g1, g2⟩ := hu c
    obtain ⟨q1, hq1, _, hi⟩ := store_some t ht u.1 g2 g1 (K + 1) (by omega)
    obtain ⟨q2, hq2, hsp, hi2⟩ := store_some t ht u.1 g2 g1 K hK
    have hqq := Option.some.inj (hi.symm.trans (impl_storeBlock.mono _ _ _ _ hi2))
    rw [if_pos c, hi, Option.bind_some] at hI
    by_cases e : stored t (strOfNums (packFrom 0 (canons u.1))) q1 = s.extract 0 n
    · have hmid : strOfNums (packFrom 0 (canons u.1)) = s.extract 10 (n - 2) := by
        have h1 := stored_mid t (strOfNums (packFrom 0 (canons u.1))) q1
        have h2 := stored_size t (strOfNums (packFrom 0 (canons u.1))) q1
        rw [e, hsz] at h2
        rw [e, cut_cut s n _ (by omega)] at h1
        have h3 : (strOfNums (packFrom 0 (canons u.1))).size + 10 = n - 2 := by omega
        rw [h3] at h1
        exact h1.symm
      have hf : fin (s.extract 10 (n - 2)) u = (u.1, true) := by
        unfold fin
        rw [if_pos c, if_pos (by rw [hmid])]
      rw [hf, if_pos rfl] at hS
      dsimp only at hS
      rw [block_ok t ht u.1 g0 g1, Option.bind_some, if_pos rfl, hsp, Option.bind_some, ← hqq, if_pos (by rw [e])] at hS
      rw [if_pos (by rw [e])] at hI
      exact ⟨t, u.1, true, ht, g1, g2, hI, hS⟩
    · rw [if_neg (fun h => e (list_inj h))] at hI
      refine ⟨0, [], false, by decide, by decide, (fun x hx => by cases hx), hI, ?_⟩
      rw [hS]
      unfold fin
      rw [if_pos c]
      split
      · rw [if_pos rfl]
        dsimp only
        rw [block_ok t ht u.1 g0 g1, Option.bind_some, if_pos rfl, hsp, Option.bind_some, ← hqq, if_neg (fun h => e (list_inj h))]
        rfl
      · rfl
  · rw [if_neg c] at hI
    refine ⟨0, [], false, by decide, by decide, (fun x hx => by cases hx), hI, ?_⟩
    rw [hS]
    unfold fin
    rw [if_neg c]
    rfl
/-- loading a block off the front: none is long enough, or both load alike -/
theorem load_some (s : ByteArray) (hs : s.size ≤ 1048576) :
    ((∀ k, impl_loadBlock.f k s = some (0, [], 0, false)) ∧ spec_l07Long.f s = some 0) ∨
    ∃ (n t : Nat) (l : List Nat) (ok : Bool), 12 ≤ n ∧ n ≤ s.size ∧ spec_l07Long.f s = some (n : Int) ∧ t < 4294967296 ∧ l.length ≤ 256 ∧ (∀ x ∈ l, x < 4294967296) ∧ ∀ k, 1073741826 ≤ k → impl_loadBlock.f k s = some (lb ok t l n) ∧ spec_l07Load.f k (s.extract 0 n) = some (ls ok t l) := by
  obtain ⟨n, hn, h12, h65⟩ := n_some s
  by_cases c : n ≤ s.size
  · right
    obtain ⟨K, hK⟩ : ∃ K : Nat, K = 1073741825 := ⟨_, rfl⟩
    obtain ⟨t, l, ok, h1, h2, h3, h4, h5⟩ := load_at s hs K (Nat.le_of_eq hK.symm) n hn h12 c
    refine ⟨n, t, l, ok, h12, c, ?_, h1, h2, h3, fun k hk => ⟨at_rounds (g := fun k => impl_loadBlock.f k s) (impl_loadBlock.mono s) (show K + 1 ≤ k by omega) h4, at_rounds (g := fun k => spec_l07Load.f k (s.extract 0 n)) (spec_l07Load.mono _) (show K + 1 ≤ k by omega) h5⟩⟩
    unfold spec_l07Long.f
    rw [if_neg (by omega), if_pos (by omega), if_pos (by omega), hn, if_neg (by omega)]
  · left
    constructor
    · intro k
      unfold impl_loadBlock.f
      by_cases d : (s.size : Int) < 12
      · rw [if_pos d]
      · rw [if_neg d, if_pos (by omega), if_pos (by omega), hn, if_pos (by omega)]
    · unfold spec_l07Long.f
      by_cases d : (s.size : Int) < 10
      · rw [if_pos d]
      · rw [if_neg d, if_pos (by omega), if_pos (by omega), hn, if_pos (by omega)]
theorem fail_spec (s : ByteArray) (h : spec_l07Long.f s = some 0) (k : Nat) : spec_l07Load.f (k + 1) s = some (0, [], false) := by
  unfold spec_l07Load.f
  rw [h, Option.bind_some, if_pos rfl, spec_l07Load.j0, if_pos rfl]
theorem both_some (s : ByteArray) (hs : s.size ≤ 1048576) :
    ∃ (t : Int) (l : List Nat) (ok : Bool), l.length ≤ 256 ∧ (∀ x ∈ l, x < 4294967296) ∧ ∀ k, 1073741827 ≤ k → spec_LoadBlock.f k s = some (t, l, ok) ∧ impl_LoadBlock.f k s = some (t, l, ok) := by
  unfold spec_LoadBlock.f impl_LoadBlock.f
  rcases load_some s hs with ⟨h1, h2⟩ | ⟨n, t, l, ok, h12, hns, hl, ht, h256, hb, h⟩
  · refine ⟨0, [], false, by decide, (fun x hx => by cases hx), fun k hk => ?_⟩
    obtain ⟨k, rfl⟩ : ∃ m, k = m + 1 := ⟨k - 1, by omega⟩
    rw [h1, fail_spec s h2 k]
    exact ⟨rfl, rfl⟩
  · by_cases c : n = s.size
    · have e : s.extract 0 n = s := by rw [c]; exact ByteArray.extract_zero_size
      cases ok with
      | true =>
        refine ⟨(t : Int), l, true, h256, hb, fun k hk => ?_⟩
        obtain ⟨g1, g2⟩ := h k (by omega)
        rw [e] at g2
        rw [g1, g2]
        refine ⟨rfl, ?_⟩
        rw [Option.bind_some]
        unfold lb
        rw [if_pos rfl]
        dsimp only
        rw [if_pos rfl, if_pos (by rw [c])]
      | false =>
        refine ⟨0, [], false, by decide, (fun x hx => by cases hx), fun k hk => ?_⟩
        obtain ⟨g1, g2⟩ := h k (by omega)
        rw [e] at g2
        rw [g1, g2]
        exact ⟨rfl, rfl⟩
    · refine ⟨0, [], false, by decide, (fun x hx => by cases hx), fun k hk => ?_⟩
      obtain ⟨g1, _⟩ := h k (by omega)
      obtain ⟨k, rfl⟩ : ∃ m, k = m + 1 := ⟨k - 1, by omega⟩
      constructor
      · unfold spec_l07Load.f
        have d : ((n : Int) != (s.size : Int)) = true := by simp; omega
        rw [hl, Option.bind_some, if_neg (by omega), d, spec_l07Load.j0, if_pos rfl]; rfl
      · rw [g1, Option.bind_some]
        unfold lb
        cases ok with
        | true =>
          rw [if_pos rfl]
          dsimp only
          rw [if_pos rfl, if_neg (by omega)]
        | false => rfl
theorem pure : laws_FnExactLoadBlock.Pure := by
  intro s _
  obtain ⟨K, hK⟩ : ∃ K : Nat, K = 1073741827 := ⟨_, rfl⟩
  refine ⟨K + 1 + 1, ?_⟩
  unfold laws_FnExactLoadBlock.f
  by_cases c : (s.size : Int) > 1048576
  · rw [if_pos c]
  obtain ⟨t, l, ok, h1, h2, h⟩ := both_some s (by omega)
  have n0 : ¬ (((1 + l.length : Nat) : Int) < 0) := by omega
  have eqb : laws_eqBlock.f t l t l = some true := by
    unfold laws_eqBlock.f
    rw [if_pos rfl, eqF_some l (by omega) h2]; rfl
  have mk : ∀ k, K ≤ k → laws_markBlock.f k t l 1 = some (((1 + l.length : Nat) : Int), marks l.length) := by
    intro k hk
    unfold laws_markBlock.f
    rw [mark_some l (by omega) _ (by omega)]; rfl
  have hd : ∀ k, K ≤ k → laws_heldBlock.f k t (marks l.length) 1 = some (((1 + l.length : Nat) : Int)) := by
    intro k hk
    unfold laws_heldBlock.f
    rw [held_some l.length h1 _ (by omega), Option.bind_some, if_neg n0]
  rw [if_neg c, (h _ (by omega)).1, Option.bind_some, (h _ (by omega)).2, Option.bind_some]
  dsimp only
  rw [eqb, Option.bind_some, if_pos rfl, laws_FnExactLoadBlock.j0, if_neg (by simp), mk _ (by omega), Option.bind_some]
  dsimp only
  rw [hd _ (by omega), Option.bind_some, if_neg n0, if_pos rfl, (h _ (by omega)).2, Option.bind_some]
  dsimp only
  rw [eqb, Option.bind_some, if_pos rfl, laws_FnExactLoadBlock.j1, if_neg (by simp), hd _ (by omega), Option.bind_some, if_neg n0, if_pos rfl]
end Go.Proofs.Ytgiednkailakgaa.LbPure
