/- Blocks that are stored: the reference stores them alike. -/
import Derived.Test.YthnjgcdajjodjaaStd
set_option linter.unusedVariables false
set_option linter.unusedSimpArgs false
namespace Go.Proofs.Ythnjgcdajjodjaa.StdPure
open Go.RowKit Go.Proofs.YthnjgcdajjodjaaW.PrintWords Go.Proofs.YthnjgcdajjodjaaW.PrintFl Go.Proofs.Ythnjgcdajjodjaa.PFnStoredOfAll
theorem bits_s (x : Nat) (hx : x < 4294967296) : spec_l01Bits.f x = some ((cn .f32 x : Nat) : Int) := by
  unfold spec_l01Bits.f cn
  rw [fne_self]
  split
  · rfl
  · rw [w64 (by omega) (by omega)]
theorem bytes_s (m : Nat) : ∀ (k : Nat) (xs : List Int) (n : Nat), n < 4294967296 → n < 128 ^ (m + 1) → m < k → xs.length + m < 140737488355328 → spec_l07Bytes.l0 k xs (n : Int) = some (xs ++ vb n) := by
  induction m with
  | zero =>
    intro k xs n h32 hn hk hl
    have c : n < 128 := by simpa using hn
    obtain ⟨k, rfl⟩ : ∃ q, k = q + 1 := ⟨k - 1, by omega⟩
    unfold spec_l07Bytes.l0
    rw [if_neg (by omega), if_pos (by omega), vb_small c]
    have : (n : Int) % 256 = n := by omega
    rw [this]
  | succ m ih =>
    intro k xs n h32 hn hk hl
    obtain ⟨k, rfl⟩ : ∃ q, k = q + 1 := ⟨k - 1, by omega⟩
    unfold spec_l07Bytes.l0
    by_cases c : n < 128
    · rw [if_neg (by omega), if_pos (by omega), vb_small c]
      have : (n : Int) % 256 = n := by omega
      rw [this]
    · obtain ⟨e1, e2⟩ := vb_step_hi c h32
      have hn2 : n / 128 < 128 ^ (m + 1) := by rw [Nat.div_lt_iff_lt_mul (by decide)]; rw [Nat.pow_succ] at hn; exact hn
      clear hn
      rw [if_pos (by omega), if_pos (by omega), e1, e2, ih k _ (n / 128) (by omega) hn2 (by omega) (by rw [List.length_append, List.length_singleton]; omega), vb_big c, List.append_assoc]
      rfl
theorem packl_s (l : List Nat) (hb : ∀ x ∈ l, x < 4294967296) (hl : l.length ≤ 1048576) : ∀ (k : Nat) (i : Nat), i ≤ l.length → l.length - i + 5 < k →
    spec_l07Pack.l0 k l (packFrom 0 ((canons l).take i)) ((lastOf 0 ((canons l).take i) : Nat) : Int) (l.length : Int) (i : Int) = some (strOfNums (packFrom 0 (canons l)))
  | 0, i, h1, hk => by omega
  | k + 1, i, h1, hk => by
    unfold spec_l07Pack.l0
    by_cases c : i < l.length
    · have hx := rdl_lt hb (i : Int)
      have hp := lastOf_lt ((canons l).take i) 4294967296 0 (by decide) (fun x hx => canons_lt hb x (List.mem_of_mem_take hx))
      have hq : cn .f32 (rdOf (0 : Nat) l (i : Int)) < 4294967296 := cn_lt hx
      have hlen := packFrom_len ((canons l).take i) 0
      have hlen2 : ((canons l).take i).length ≤ l.length := by rw [List.length_take, canons_len]; omega
      have hz := zig_lt (lastOf 0 ((canons l).take i)) (cn .f32 (rdOf (0 : Nat) l (i : Int)))
      have hz5 := zig_lt5 (lastOf 0 ((canons l).take i)) (cn .f32 (rdOf (0 : Nat) l (i : Int)))
      have hstep : packFrom 0 ((canons l).take i) ++ vb (zig (lastOf 0 ((canons l).take i)) (cn .f32 (rdOf (0 : Nat) l (i : Int)))) = packFrom 0 ((canons l).take (i + 1)) := by
        rw [packFrom_take (by rw [canons_len]; exact c), canons_at c]
      have hlast : lastOf 0 ((canons l).take (i + 1)) = cn .f32 (rdOf (0 : Nat) l (i : Int)) := by
        rw [lastOf_take (by rw [canons_len]; exact c), canons_at c]
      have ih := packl_s l hb hl k (i + 1) (by omega) (by omega)
      rw [hlast] at ih
      rw [if_pos (by omega), if_pos (by omega), if_pos (by omega), bits_s _ hx, Option.bind_some, w64 (x := (i : Int) + 1) (by omega) (by omega)]
      have e : ((i : Int) + 1) = ((i + 1 : Nat) : Int) := by omega
      rw [e]
      split
      · rename_i hh
        rw [zig_hi _ _ hq hp hh]
        unfold spec_l07Bytes.f
        rw [bytes_s 4 k _ _ hz hz5 (by omega) (by omega), Option.bind_some, hstep]
        exact ih
      · rename_i hh
        rw [zig_lo _ _ hq hp (by omega)]
        unfold spec_l07Bytes.f
        rw [bytes_s 4 k _ _ hz hz5 (by omega) (by omega), Option.bind_some, hstep]
        exact ih
    · rw [if_neg (by omega)]
      have : i = l.length := by omega
      subst this
      rw [← canons_len, List.take_length]
theorem pack_s (l : List Nat) (hb : ∀ x ∈ l, x < 4294967296) (hl : l.length ≤ 1048576) (k : Nat) (hk : 1048582 < k) : spec_l07Pack.f k l = some (strOfNums (packFrom 0 (canons l))) :=
  packl_s l hb hl k 0 (by omega) (by omega)
theorem checkl (s : ByteArray) (hs : s.size ≤ 9223372036854775807) : ∀ (k : Nat) (x i : Int), 0 ≤ x → x < 65003 → 0 ≤ i → i ≤ s.size → s.size - i < k → ∃ c : Nat, c < 65003 ∧ spec_l01Check.l0 k x s i = some (c : Int) ∧ impl_CheckOf.l0 k x s i = some ((c : Int), true)
  | 0, x, i, _, _, _, _, hk => by omega
  | k + 1, x, i, h0, h1, hi, hl, hk => by
    unfold spec_l01Check.l0 impl_CheckOf.l0
    by_cases c : i < (s.size : Int)
    · obtain ⟨b0, b1⟩ := bt_range s i
      rw [if_pos c, if_pos c, if_pos hi, if_pos hi, w64 (x := i + 1) (by omega) (by omega), w64 (x := 797 * x) (by omega) (by omega), w64 (x := bt s i) (by omega) (by omega), w64 (x := 797 * x + bt s i) (by omega) (by omega), w64 (by omega) (by omega)]
      have hm : Int.tmod (797 * x + bt s i + 101) 65003 = (797 * x + bt s i + 101) % 65003 := Int.tmod_eq_emod_of_nonneg (by omega)
      rw [hm]
      exact checkl s hs k _ (i + 1) (by omega) (by omega) (by omega) (by omega) (by omega)
    · rw [if_neg c, if_neg c]
      refine ⟨x.toNat, by omega, ?_, ?_⟩ <;> rw [Int.toNat_of_nonneg h0]
theorem check_some (s : ByteArray) (hs : s.size ≤ 1073741824) (k : Nat) (hk : 1073741825 ≤ k) : ∃ c : Nat, c < 65003 ∧ spec_l01Check.f k 0 s = some (c : Int) ∧ impl_CheckOf.f k 0 s = some ((c : Int), true) := by
  obtain ⟨c, h1, h2, h3⟩ := checkl s (by omega) k 0 0 (by omega) (by omega) (by omega) (by omega) (by omega)
  refine ⟨c, h1, h2, ?_⟩
  unfold impl_CheckOf.f impl_within.f
  rw [if_pos (by decide), Option.bind_some, if_pos (by decide)]
  exact h3
theorem store_some (n : Nat) (hn : n < 4294967296) (l : List Nat) (hb : ∀ x ∈ l, x < 4294967296) (hl : l.length ≤ 256) (k : Nat) (hk : 1073741825 ≤ k) :
    ∃ c : Nat, c < 65003 ∧ spec_l07Store.f k [(⟨(n : Int), l⟩ : S28)] = some (stored n (strOfNums (packFrom 0 (canons l))) c) ∧ impl_storeBlock.f k (n : Int) l = some (stored n (strOfNums (packFrom 0 (canons l))) c) := by
  have hps : (strOfNums (packFrom 0 (canons l))).size ≤ 1280 := by
    rw [size_str]
    have := packFrom_len (canons l) 0
    rw [canons_len] at this
    omega
  have hpk := pack_s l hb (by omega) k (by omega)
  have hpi := pack_i l hb (by omega) k (by omega)
  generalize strOfNums (packFrom 0 (canons l)) = p at *
  have hz6 : ∀ a b c d e f : Int, (strOfNums [a, b, c, d, e, f]).size = 6 := fun _ _ _ _ _ _ => by rw [size_str]; rfl
  have hz4 : ∀ a b c d : Int, (strOfNums [a, b, c, d]).size = 4 := fun _ _ _ _ => by rw [size_str]; rfl
  have hz2 : ∀ a b : Int, (strOfNums [a, b]).size = 2 := fun _ _ => by rw [size_str]; rfl
  have hv : (⟨#[86, 79, 88, 49]⟩ : ByteArray).size = 4 := rfl
  obtain ⟨c, hc, hcs, hci⟩ := check_some ((⟨#[86, 79, 88, 49]⟩ : ByteArray) ++ strOfNums [((n % 256 : Nat) : Int), ((n / 256 % 256 : Nat) : Int), ((n / 65536 % 256 : Nat) : Int), ((n / 16777216 % 256 : Nat) : Int), ((p.size % 256 : Nat) : Int), ((p.size / 256 % 256 : Nat) : Int)] ++ p) (by
    rw [ByteArray.size_append, ByteArray.size_append, hz6, hv]; omega) k hk
  refine ⟨c, hc, ?_, ?_⟩
  · unfold spec_l07Store.f
    have hr : rd_T28 [(⟨(n : Int), l⟩ : S28)] 0 = ⟨(n : Int), l⟩ := rfl
    rw [if_pos (show (0 : Int) < (([(⟨(n : Int), l⟩ : S28)] : List S28).length : Int) by show (0 : Int) < 1; decide), hr]
    dsimp only
    rw [hpk, Option.bind_some, Option.bind_some, tm, td (by omega), tm, td2 (by omega), tm, td3 (by omega), em, td0 (by omega), em, em]
    rw [if_pos (by rw [hz6]; omega), if_pos (by rw [ByteArray.size_append, hz6, hv]; omega), hcs, Option.bind_some, Option.bind_some, tm, td (by omega), em, if_pos (by rw [ByteArray.size_append, ByteArray.size_append, hz6, hz2, hv]; omega)]
    rfl
  · have e6 : ∀ a b c d e f : Int, strOfNums [a, b, c, d] ++ strOfNums [e, f] = strOfNums [a, b, c, d, e, f] := fun a b c d e f => (str_app [a, b, c, d] [e, f]).symm
    unfold impl_storeBlock.f
    rw [hpi, Option.bind_some, little4 n (by omega) k (by omega), Option.bind_some, if_pos (by rw [hz4]; omega), little2 p.size (by omega) k (by omega), Option.bind_some]
    rw [if_pos (by rw [ByteArray.size_append, hz4, hz2, hv]; omega), if_pos (by rw [ByteArray.size_append, ByteArray.size_append, hz4, hz2, hv]; omega), ByteArray.append_assoc (a := (⟨#[86, 79, 88, 49]⟩ : ByteArray)), e6, hci, Option.bind_some]
    dsimp only
    rw [little2 c (by omega) k (by omega), Option.bind_some, if_pos (by rw [ByteArray.size_append, ByteArray.size_append, hz6, hz2, hv]; omega)]
    rfl
theorem valid_some (t : Int) (l : List Nat) : ∃ b, spec_l07Block.f [(⟨t, l⟩ : S28)] = some b ∧ impl_ValidBlock.f t l = some b ∧ (b = true → 0 ≤ t ∧ t < 4294967296 ∧ 1 ≤ l.length ∧ l.length ≤ 256) := by
  unfold impl_ValidBlock.f spec_l07Block.f spec_l00In.f impl_within.f spec_l07Values.f
  have hr : rd_T28 [(⟨t, l⟩ : S28)] 0 = ⟨t, l⟩ := rfl
  rw [if_pos (show (0 : Int) < (([(⟨t, l⟩ : S28)] : List S28).length : Int) by show (0 : Int) < 1; decide), hr]
  dsimp only
  by_cases c : t ≥ 0
  · rw [if_pos c]
    simp only [Option.bind_some]
    by_cases d : decide (t ≤ 4294967295) = true
    · rw [if_pos d]
      by_cases e : (l.length : Int) ≥ 1
      · rw [if_pos e]
        refine ⟨_, rfl, rfl, fun h => ?_⟩
        have h1 := of_decide_eq_true h
        have h2 := of_decide_eq_true d
        omega
      · rw [if_neg e]; exact ⟨_, rfl, rfl, fun h => by cases h⟩
    · rw [if_neg d]; exact ⟨_, rfl, rfl, fun h => by cases h⟩
  · rw [if_neg c]; exact ⟨_, rfl, rfl, fun h => by cases h⟩
theorem store_s (x : BI) (h : okB x) (k : Nat) (hk : 1073741825 ≤ k) : spec_l07Store.f k [x] = some (stB x) := by
  obtain ⟨n, -, hn, h32, -, -, hs⟩ := stB_spec x h
  have h1 := hs k hk
  obtain ⟨c, -, h2, h3⟩ := store_some n h32 x.f1 h.lt h.l1 k hk
  rw [← hn] at h2 h3
  rw [h1] at h3
  injection h3 with h3
  rw [h3]
  exact h2
theorem valid_s (x : BI) (h : okB x) : spec_l07Block.f [x] = some true := by
  obtain ⟨b, h1, h2, -⟩ := valid_some x.f0 x.f1
  have h3 := valid_i x h
  rw [h3] at h2
  obtain rfl := Option.some.inj h2
  exact h1
theorem invalid_s (x : BI) (h : impl_ValidBlock.f x.f0 x.f1 = some false) : spec_l07Block.f [x] = some false := by
  obtain ⟨b, h1, h2, -⟩ := valid_some x.f0 x.f1
  rw [h] at h2
  obtain rfl := Option.some.inj h2
  exact h1
theorem StoreBlock_s (x : BI) (h : okB x) (k : Nat) (hk : 1073741825 ≤ k) : spec_StoreBlock.f k x.f0 x.f1 = some (stB x, true) := by
  have h1 : spec_l07Block.f [(⟨x.f0, x.f1⟩ : BI)] = some true := valid_s x h
  have h2 : spec_l07Store.f k [(⟨x.f0, x.f1⟩ : BI)] = some (stB x) := store_s x h k hk
  unfold spec_StoreBlock.f
  rw [h1, Option.bind_some, if_pos rfl, h2, Option.bind_some]
theorem StoreBlock_no (x : BI) (h : impl_ValidBlock.f x.f0 x.f1 = some false) (k : Nat) : impl_StoreBlock.f k x.f0 x.f1 = some (⟨#[]⟩, false) ∧ spec_StoreBlock.f k x.f0 x.f1 = some (⟨#[]⟩, false) := by
  have h1 : spec_l07Block.f [(⟨x.f0, x.f1⟩ : BI)] = some false := invalid_s x h
  unfold impl_StoreBlock.f spec_StoreBlock.f
  rw [h, h1]
  exact ⟨rfl, rfl⟩
theorem StoreBlocks_sl (l : List BI) (h : ∀ x ∈ l, okB x) (h8 : l.length ≤ 8) : ∀ (d k i : Nat), i + d = l.length → 1073741825 + d ≤ k → spec_StoreBlocks.l0 (k + 1) l (cat (l.take i)) (l.length : Int) (i : Int) = some (cat l, true)
  | 0, k, i, hd, hk => by
    rw [spec_StoreBlocks.l0, if_neg (by omega), List.take_of_length_le (by omega)]
  | d + 1, 0, i, hd, hk => by omega
  | d + 1, k + 1, i, hd, hk => by
    have hi : i < l.length := by omega
    have hx := h _ (List.getElem_mem hi)
    have hz := cat_size (l.take i) (fun x hx => h x (List.mem_of_mem_take hx))
    have hz2 := (stB_size _ hx).2
    rw [List.length_take] at hz
    have e1 : wrap64 ((i : Int) + 1) = ((i + 1 : Nat) : Int) := by rw [w64 (by omega) (by omega)]; omega
    rw [spec_StoreBlocks.l0, if_pos (by omega), if_pos (by omega), if_pos (by omega), rdB_in hi, valid_s _ hx, Option.bind_some, if_pos rfl, store_s _ hx (k + 1) (by omega), Option.bind_some, if_pos (by omega), e1, ← cat_snoc l i hi]
    exact StoreBlocks_sl l h h8 d k (i + 1) (by omega) (by omega)
theorem StoreBlocks_s (l : List BI) (h : ∀ x ∈ l, okB x) (h8 : l.length ≤ 8) (k : Nat) (hk : 1073741840 ≤ k) : spec_StoreBlocks.f k l = some (cat l, true) := by
  obtain ⟨k, rfl⟩ : ∃ q, k = q + 1 := ⟨k - 1, by omega⟩
  unfold spec_StoreBlocks.f
  rw [if_neg (by omega)]
  exact StoreBlocks_sl l h h8 l.length k 0 (by omega) (by omega)
theorem StoreBlocks_no (l : List BI) (h8 : ¬ l.length ≤ 8) (k : Nat) : impl_StoreBlocks.f k l = some (⟨#[]⟩, false) ∧ spec_StoreBlocks.f k l = some (⟨#[]⟩, false) := by
  unfold impl_StoreBlocks.f spec_StoreBlocks.f
  rw [if_pos (by omega), if_pos (by omega)]
  exact ⟨rfl, rfl⟩
end Go.Proofs.Ythnjgcdajjodjaa.StdPure
