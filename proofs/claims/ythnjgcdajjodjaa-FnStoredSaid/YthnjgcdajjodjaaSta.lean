/- FnStored: what is drawn, packed and compared. -/
import Derived.Test.YthnjgcdajjodjaaStd2
import Derived.Test.YthnjgcdajjodjaaPFnStoredx
set_option linter.unusedVariables false
set_option linter.unusedSimpArgs false
namespace Go.Proofs.Ythnjgcdajjodjaa.StdPure2
open Go.RowKit Go.Proofs.YthnjgcdajjodjaaW.PrintWords Go.Proofs.YthnjgcdajjodjaaW.PrintFl Go.Proofs.Ythnjgcdajjodjaa.PFnStored
/-- bytes -/
def Byts (l : List Int) : Prop := ∀ x ∈ l, 0 ≤ x ∧ x < 256
theorem byts_rd {l : List Int} (h : Byts l) (i : Int) : 0 ≤ rd l i ∧ rd l i < 256 := by
  unfold rd
  rw [List.getD_eq_getElem?_getD]
  rcases hh : l[i.toNat]? with _ | x
  · decide
  · exact h x (List.mem_of_getElem? hh)
theorem bits255 (x : Int) : 0 ≤ wrap64 (Go.bits .and .u64 x 255) ∧ wrap64 (Go.bits .and .u64 x 255) < 256 := by
  have h : Go.bits .and .u64 x 255 = IntKind.u64.wrap ((BitVec.ofInt 64 x &&& BitVec.ofInt 64 255).toNat : Int) := rfl
  have h2 : (BitVec.ofInt 64 x &&& BitVec.ofInt 64 255).toNat < 256 := by
    rw [BitVec.toNat_and]
    exact Nat.lt_of_le_of_lt Nat.and_le_right (by decide)
  generalize (BitVec.ofInt 64 x &&& BitVec.ofInt 64 255).toNat = y at h h2
  rw [h]
  have h3 : IntKind.u64.wrap (y : Int) = (y : Int) := by rw [IntKind.wrap_u64]; omega
  rw [h3]
  unfold wrap64
  omega
/-- one choice's byte -/
theorem next_some (c : List Int) (hb : Byts c) (hc : c.length ≤ 1048576) (a s : Int) (h0 : 0 ≤ a) (h1 : a ≤ 100000000) : ∃ r s', spec_l00Src_next.f c a s = some (r, a + 1, s') ∧ 0 ≤ r ∧ r < 256 := by
  have e1 : wrap64 (a + 1) = a + 1 := by unfold wrap64; omega
  unfold spec_l00Src_next.f
  rw [e1]
  by_cases c1 : a < (c.length : Int)
  · rw [if_pos c1, if_pos h0, if_pos (by omega)]
    obtain ⟨g0, g1⟩ := byts_rd hb a
    refine ⟨_, _, rfl, ?_⟩
    generalize rd c a = z at *
    have : wrap64 z = z := by unfold wrap64; omega
    rw [this]; exact ⟨g0, g1⟩
  · rw [if_neg c1, if_neg (by omega)]
    exact ⟨_, _, rfl, bits255 _⟩
/-- a choice -/
theorem pick_some (c : List Int) (hb : Byts c) (hc : c.length ≤ 1048576) (a s n : Int) (h0 : 0 ≤ a) (h1 : a ≤ 90000000) (hn : 1 < n) (hn2 : n ≤ 65536) : ∃ r a' s', spec_l00Src_pick.f c a s n = some (r, a', s') ∧ 0 ≤ r ∧ r < n ∧ a ≤ a' ∧ a' ≤ a + 2 := by
  obtain ⟨r, s1, e1, g1, g2⟩ := next_some c hb hc a s h0 (by omega)
  unfold spec_l00Src_pick.f
  rw [if_neg (by omega), e1, Option.bind_some]
  dsimp only
  by_cases c1 : n > 200
  · obtain ⟨r2, s2, e2, g3, g4⟩ := next_some c hb hc (a + 1) s1 (by omega) (by omega)
    rw [if_pos c1, e2, Option.bind_some, if_neg (by omega)]
    have h3 : wrap64 (wrap64 (r * 256) + r2) = r * 256 + r2 := by unfold wrap64; omega
    refine ⟨_, _, _, rfl, ?_, ?_, by dsimp only; clear h3; omega, by dsimp only; clear h3; omega⟩
    · dsimp only; rw [h3, Int.tmod_eq_emod_of_nonneg (by omega)]; exact Int.emod_nonneg _ (by omega)
    · dsimp only; rw [h3, Int.tmod_eq_emod_of_nonneg (by omega)]; exact Int.emod_lt_of_pos _ (by omega)
  · rw [if_neg c1, if_neg (by omega)]
    refine ⟨_, _, _, rfl, ?_, ?_, by omega, by omega⟩
    · rw [Int.tmod_eq_emod_of_nonneg g1]; exact Int.emod_nonneg _ (by omega)
    · rw [Int.tmod_eq_emod_of_nonneg g1]; exact Int.emod_lt_of_pos _ (by omega)
theorem one_some (c : List Int) (hb : Byts c) (hc : c.length ≤ 1048576) (a s n : Int) (h0 : 0 ≤ a) (h1 : a ≤ 90000000) (hn : 1 < n) (hn2 : n ≤ 65536) : ∃ r a' s', spec_l00Src_one.f c a s n = some (r, a', s') ∧ a ≤ a' ∧ a' ≤ a + 2 := by
  obtain ⟨r, a', s', e, -, -, g1, g2⟩ := pick_some c hb hc a s n h0 h1 hn hn2
  unfold spec_l00Src_one.f
  rw [e]
  exact ⟨_, _, _, rfl, g1, g2⟩
theorem among_some (c : List Int) (hb : Byts c) (hc : c.length ≤ 1048576) (a s : Int) (l : List Int) (hl : 1 < l.length) (hl2 : l.length ≤ 65536) (h0 : 0 ≤ a) (h1 : a ≤ 90000000) : ∃ r a' s', spec_l00Src_among.f c a s l = some (r, a', s') ∧ r ∈ l ∧ a ≤ a' ∧ a' ≤ a + 2 := by
  obtain ⟨r, a', s', e, g3, g4, g1, g2⟩ := pick_some c hb hc a s (l.length : Int) h0 h1 (by omega) (by omega)
  unfold spec_l00Src_among.f
  rw [e, Option.bind_some, if_pos g3, if_pos g4]
  refine ⟨_, _, _, rfl, ?_, g1, g2⟩
  dsimp only
  unfold rd
  rw [List.getD_eq_getElem?_getD, List.getElem?_eq_getElem (by omega)]
  exact List.getElem_mem _
theorem plain_all : ∀ n : Fin 129, (foprOk .quo .f32 (floatOfInt .f32 ((n.val : Int) - 64)) 1088421888 = true ∧ fopr .quo .f32 (floatOfInt .f32 ((n.val : Int) - 64)) 1088421888 < 4294967296) ∧ (foprOk .quo .f32 (floatOfInt .f32 ((n.val : Int) - 64)) 1098907648 = true ∧ fopr .quo .f32 (floatOfInt .f32 ((n.val : Int) - 64)) 1098907648 < 4294967296) := by decide +kernel
theorem wide_all : ∀ n : Fin 129, ∀ y ∈ ([8388608, 2130706432, 1610612736, 536870912] : List Nat), (foprOk .mul .f32 (fopr .quo .f32 (floatOfInt .f32 ((n.val : Int) - 64)) 1088421888) y = true ∧ fopr .mul .f32 (fopr .quo .f32 (floatOfInt .f32 ((n.val : Int) - 64)) 1088421888) y < 4294967296) ∧ (foprOk .mul .f32 (fopr .quo .f32 (floatOfInt .f32 ((n.val : Int) - 64)) 1098907648) y = true ∧ fopr .mul .f32 (fopr .quo .f32 (floatOfInt .f32 ((n.val : Int) - 64)) 1098907648) y < 4294967296) := by decide +kernel
theorem eighth_all : ∀ n : Fin 17, foprOk .quo .f32 (floatOfInt .f32 (n.val : Int)) 1090519040 = true ∧ fopr .quo .f32 (floatOfInt .f32 (n.val : Int)) 1090519040 < 4294967296 := by decide +kernel
theorem fromB (n : Int) (h0 : 0 ≤ n) (h1 : n < 4294967296) : spec_l01From.f n = some n.toNat := by
  obtain ⟨v, rfl⟩ := Int.eq_ofNat_of_zero_le h0
  unfold spec_l01From.f
  congr 1
  omega
/-- a plain number is drawn -/
theorem plain_some (c : List Int) (hb : Byts c) (hc : c.length ≤ 1048576) (a s : Int) (h0 : 0 ≤ a) (h1 : a ≤ 80000000) : ∃ (n : Fin 129) (x : Nat) (a' s' : Int), spec_l01DrawPlain.f c a s = some (x, a', s') ∧ (x = fopr .quo .f32 (floatOfInt .f32 ((n.val : Int) - 64)) 1088421888 ∨ x = fopr .quo .f32 (floatOfInt .f32 ((n.val : Int) - 64)) 1098907648) ∧ a ≤ a' ∧ a' ≤ a + 4 := by
  obtain ⟨r, a1, s1, e1, g1, g2, g3, g4⟩ := pick_some c hb hc a s 129 h0 (by omega) (by decide) (by decide)
  obtain ⟨q, a2, s2, e2, g5, g6⟩ := one_some c hb hc a1 s1 4 (by omega) (by omega) (by decide) (by decide)
  obtain ⟨n, hn⟩ : ∃ n : Fin 129, r = (n.val : Int) := ⟨⟨r.toNat, by omega⟩, by show r = (r.toNat : Int); omega⟩
  have e3 : wrap64 (r - 64) = (n.val : Int) - 64 := by rw [hn]; have := n.isLt; unfold wrap64; omega
  obtain ⟨⟨p1, -⟩, ⟨p2, -⟩⟩ := plain_all n
  unfold spec_l01DrawPlain.f
  rw [e1, Option.bind_some]
  dsimp only
  rw [e2, Option.bind_some, e3]
  dsimp only
  cases q with
  | true => rw [if_pos rfl, if_pos p1]; exact ⟨n, _, _, _, rfl, .inl rfl, by omega, by omega⟩
  | false => rw [if_neg (by decide), if_pos p2]; exact ⟨n, _, _, _, rfl, .inr rfl, by omega, by omega⟩
/-- a number is drawn -/
theorem float_some (c : List Int) (hb : Byts c) (hc : c.length ≤ 1048576) (a s : Int) (h0 : 0 ≤ a) (h1 : a ≤ 70000000) : ∃ (x : Nat) (a' s' : Int), spec_l01DrawFloat.f c a s = some (x, a', s') ∧ x < 4294967296 ∧ a ≤ a' ∧ a' ≤ a + 20 := by
  obtain ⟨q, a1, s1, e1, g1, g2⟩ := one_some c hb hc a s 12 h0 (by omega) (by decide) (by decide)
  unfold spec_l01DrawFloat.f
  rw [e1, Option.bind_some]
  dsimp only
  cases q with
  | false =>
    obtain ⟨n, x, a2, s2, e2, hx, g3, g4⟩ := plain_some c hb hc a1 s1 (by omega) (by omega)
    rw [if_neg (by decide), e2]
    refine ⟨_, _, _, rfl, ?_, by dsimp only; omega, by dsimp only; omega⟩
    obtain ⟨⟨-, p1⟩, ⟨-, p2⟩⟩ := plain_all n
    dsimp only
    rcases hx with rfl | rfl
    · exact p1
    · exact p2
  | true =>
    rw [if_pos rfl]
    obtain ⟨r, a2, s2, e2, g3, g4, g5, g6⟩ := pick_some c hb hc a1 s1 4 (by omega) (by omega) (by decide) (by decide)
    rw [e2, Option.bind_some]
    dsimp only
    by_cases c1 : r = 0
    · rw [if_pos c1]
      obtain ⟨x, a3, s3, e3, hx, g7, g8⟩ := among_some c hb hc a2 s2 [0, 2147483648, 2139095040, 4286578688, 2143289344, 1, 2139095039, 8388608, 8388607, 2147483649] (by decide) (by decide) (by omega) (by omega)
      have hr : 0 ≤ x ∧ x < 4294967296 := by
        simp only [List.mem_cons, List.not_mem_nil, or_false] at hx
        rcases hx with h | h | h | h | h | h | h | h | h | h <;> (rw [h]; decide)
      rw [e3, Option.bind_some]
      dsimp only
      rw [fromB x hr.1 hr.2, Option.bind_some]
      exact ⟨_, _, _, rfl, by omega, by omega, by omega⟩
    · rw [if_neg c1]
      by_cases c2 : r = 1
      · rw [if_pos c2]
        obtain ⟨x, a3, s3, e3, k1, k2, g7, g8⟩ := pick_some c hb hc a2 s2 65536 (by omega) (by omega) (by decide) (by decide)
        obtain ⟨y, a4, s4, e4, k3, k4, g9, g10⟩ := pick_some c hb hc a3 s3 65536 (by omega) (by omega) (by decide) (by decide)
        have e5 : wrap64 (wrap64 (x * 65536) + y) = x * 65536 + y := by unfold wrap64; omega
        rw [e3, Option.bind_some]
        dsimp only
        rw [e4, Option.bind_some]
        dsimp only
        rw [e5, fromB _ (by omega) (by omega), Option.bind_some]
        exact ⟨_, _, _, rfl, by clear e5; omega, by clear e5; omega, by clear e5; omega⟩
      · rw [if_neg c2]
        by_cases c3 : r = 2
        · rw [if_pos c3]
          obtain ⟨x, a3, s3, e3, k1, k2, g7, g8⟩ := pick_some c hb hc a2 s2 65536 (by omega) (by omega) (by decide) (by decide)
          have e5 : wrap64 (x * 65536) = x * 65536 := by unfold wrap64; omega
          rw [e3, Option.bind_some]
          dsimp only
          rw [e5, fromB _ (by omega) (by omega), Option.bind_some]
          exact ⟨_, _, _, rfl, by clear e5; omega, by clear e5; omega, by clear e5; omega⟩
        · rw [if_neg c3]
          obtain ⟨n, x, a3, s3, e3, hx, g7, g8⟩ := plain_some c hb hc a2 s2 (by omega) (by omega)
          obtain ⟨y, a4, s4, e4, hy, g9, g10⟩ := among_some c hb hc a3 s3 [8388608, 2130706432, 1610612736, 536870912] (by decide) (by decide) (by omega) (by omega)
          have hr : 0 ≤ y ∧ y < 4294967296 ∧ y.toNat ∈ ([8388608, 2130706432, 1610612736, 536870912] : List Nat) := by
            simp only [List.mem_cons, List.not_mem_nil, or_false] at hy
            rcases hy with h | h | h | h <;> (rw [h]; decide)
          obtain ⟨⟨p1, p2⟩, ⟨p3, p4⟩⟩ := wide_all n _ hr.2.2
          rw [e3, Option.bind_some]
          dsimp only
          rw [e4, Option.bind_some]
          dsimp only
          rw [fromB y hr.1 hr.2.1, Option.bind_some]
          rcases hx with rfl | rfl
          · rw [if_pos p1]; exact ⟨_, _, _, rfl, p2, by omega, by omega⟩
          · rw [if_pos p3]; exact ⟨_, _, _, rfl, p4, by omega, by omega⟩
/-- a block is drawn -/
theorem drawl_some (c : List Int) (hb : Byts c) (hc : c.length ≤ 1048576) (t : Int) : ∀ (d k : Nat) (a s : Int) (l : List Nat), l.length + d ≤ 8 → (∀ x ∈ l, x < 4294967296) → 0 ≤ a → a + 30 * (d : Int) ≤ 60000000 → d < k →
    ∃ (l2 : List Nat) (a' s' : Int), spec_l07DrawOk.l0 k (d : Int) c a s t l = some (t, l2, a', s') ∧ l2.length = l.length + d ∧ (∀ x ∈ l2, x < 4294967296) ∧ a ≤ a' ∧ a' ≤ a + 30 * (d : Int)
  | d, 0, a, s, l, _, _, _, _, hk => by omega
  | 0, k + 1, a, s, l, hl, hx, h0, h1, hk => by
    rw [spec_l07DrawOk.l0, if_neg (by omega)]
    exact ⟨_, _, _, rfl, rfl, hx, by omega, by omega⟩
  | d + 1, k + 1, a, s, l, hl, hx, h0, h1, hk => by
    obtain ⟨r, a1, s1, e1, g1, g2, g3, g4⟩ := pick_some c hb hc a s 17 h0 (by omega) (by decide) (by decide)
    obtain ⟨q, a2, s2, e2, g5, g6⟩ := one_some c hb hc a1 s1 20 (by omega) (by omega) (by decide) (by decide)
    obtain ⟨n, hn⟩ : ∃ n : Fin 17, r = (n.val : Int) := ⟨⟨r.toNat, by omega⟩, by show r = (r.toNat : Int); omega⟩
    obtain ⟨p1, p2⟩ := eighth_all n
    rw [← hn] at p1 p2
    have e3 : wrap64 (((d + 1 : Nat) : Int) - 1) = (d : Int) := by unfold wrap64; omega
    have hap : ∀ v : Nat, v < 4294967296 → ∀ x ∈ l ++ [v], x < 4294967296 := fun v hv x h => by
      rcases List.mem_append.1 h with h | h
      · exact hx x h
      · rw [List.mem_singleton.1 h]; exact hv
    rw [spec_l07DrawOk.l0, if_pos (by omega), e1, Option.bind_some]
    dsimp only
    rw [if_pos p1, e2, Option.bind_some]
    dsimp only
    cases q with
    | true =>
      obtain ⟨x, a3, s3, e4, hx3, g7, g8⟩ := float_some c hb hc a2 s2 (by omega) (by omega)
      rw [if_pos rfl, e4, Option.bind_some]
      dsimp only
      rw [if_pos (by omega), e3]
      obtain ⟨l2, a4, s4, e5, k1, k2, k3, k4⟩ := drawl_some c hb hc t d k a3 s3 (l ++ [x]) (by rw [List.length_append, List.length_singleton]; omega) (hap x hx3) (by omega) (by omega) (by omega)
      refine ⟨l2, a4, s4, e5, ?_, k2, by omega, by omega⟩
      rw [k1, List.length_append, List.length_singleton]; omega
    | false =>
      rw [if_neg (by decide), if_pos (by omega), e3]
      obtain ⟨l2, a4, s4, e5, k1, k2, k3, k4⟩ := drawl_some c hb hc t d k a2 s2 (l ++ [_]) (by rw [List.length_append, List.length_singleton]; omega) (hap _ p2) (by omega) (by omega) (by omega)
      refine ⟨l2, a4, s4, e5, ?_, k2, by omega, by omega⟩
      rw [k1, List.length_append, List.length_singleton]; omega
theorem drawOk_some (c : List Int) (hb : Byts c) (hc : c.length ≤ 1048576) (a s : Int) (h0 : 0 ≤ a) (h1 : a ≤ 50000000) (k : Nat) (hk : 20 ≤ k) :
    ∃ (x : BI) (a' s' : Int), spec_l07DrawOk.f k c a s = some (x.f0, x.f1, a', s') ∧ okB x ∧ a ≤ a' ∧ a' ≤ a + 300 := by
  obtain ⟨t, a1, s1, e1, g1, g2, g3, g4⟩ := pick_some c hb hc a s 65536 h0 (by omega) (by decide) (by decide)
  obtain ⟨n, a2, s2, e2, g5, g6, g7, g8⟩ := pick_some c hb hc a1 s1 8 (by omega) (by omega) (by decide) (by decide)
  obtain ⟨d, hd⟩ : ∃ d : Nat, n = (d : Int) := ⟨n.toNat, by omega⟩
  have e3 : wrap64 (1 + n) = ((d + 1 : Nat) : Int) := by rw [hd]; unfold wrap64; omega
  obtain ⟨l2, a4, s4, e5, k1, k2, k3, k4⟩ := drawl_some c hb hc t (d + 1) k a2 s2 [] (by rw [List.length_nil]; omega) (fun x h => by cases h) (by clear e3; omega) (by clear e3; omega) (by clear e3; omega)
  unfold spec_l07DrawOk.f
  rw [e1, Option.bind_some]
  dsimp only
  rw [e2, Option.bind_some, e3]
  clear e3
  rw [List.length_nil] at k1
  exact ⟨⟨t, l2⟩, a4, s4, e5, ⟨g1, by show t < 4294967296; omega, by show 1 ≤ l2.length; omega, by show l2.length ≤ 256; omega, k2⟩, by omega, by omega⟩
theorem drawb_some (c : List Int) (hb : Byts c) (hc : c.length ≤ 1048576) : ∀ (d k : Nat) (a s : Int) (l : List BI), l.length + d ≤ 8 → (∀ x ∈ l, okB x) → 0 ≤ a → a + 400 * (d : Int) ≤ 40000000 → d + 20 < k →
    ∃ l2 : List BI, spec_B10Blocks.l0 k l (d : Int) c a s = some l2 ∧ l2.length = l.length + d ∧ (∀ x ∈ l2, okB x)
  | d, 0, a, s, l, _, _, _, _, hk => by omega
  | 0, k + 1, a, s, l, hl, hx, h0, h1, hk => by
    rw [spec_B10Blocks.l0, if_neg (by omega)]
    exact ⟨_, rfl, rfl, hx⟩
  | d + 1, k + 1, a, s, l, hl, hx, h0, h1, hk => by
    obtain ⟨x, a1, s1, e1, hok, g1, g2⟩ := drawOk_some c hb hc a s h0 (by omega) k (by omega)
    have e3 : wrap64 (((d + 1 : Nat) : Int) - 1) = (d : Int) := by unfold wrap64; omega
    rw [spec_B10Blocks.l0, if_pos (by omega), e1, Option.bind_some]
    dsimp only
    rw [if_pos (by omega), e3]
    obtain ⟨l2, e4, k1, k2⟩ := drawb_some c hb hc d k a1 s1 (l ++ [x]) (by rw [List.length_append, List.length_singleton]; omega) (fun y h => by
      rcases List.mem_append.1 h with h | h
      · exact hx y h
      · rw [List.mem_singleton.1 h]; exact hok) (by omega) (by omega) (by omega)
    refine ⟨l2, e4, ?_, k2⟩
    rw [k1, List.length_append, List.length_singleton]; omega
/-- the drawn blocks -/
theorem blocks_some (c : List Int) (hb : Byts c) (hc : c.length ≤ 1048576) : ∃ l : List BI, l.length ≤ 8 ∧ (∀ x ∈ l, okB x) ∧ ∀ k, 40 ≤ k → spec_B10Blocks.f k c = some l := by
  obtain ⟨n, a2, s2, e2, g5, g6, g7, g8⟩ := pick_some c hb hc 0 0 5 (by decide) (by decide) (by decide) (by decide)
  obtain ⟨d, hd⟩ : ∃ d : Nat, n = (d : Int) := ⟨n.toNat, by omega⟩
  obtain ⟨l, e4, k1, k2⟩ := drawb_some c hb hc d 40 a2 s2 [] (by rw [List.length_nil]; omega) (fun x h => by cases h) (by omega) (by omega) (by omega)
  rw [List.length_nil] at k1
  refine ⟨l, by omega, k2, fun k hk => at_rounds (g := fun k => spec_B10Blocks.f k c) (spec_B10Blocks.mono _) hk ?_⟩
  unfold spec_B10Blocks.f spec_l00From.f
  rw [Option.bind_some]
  dsimp only
  rw [e2, Option.bind_some]
  dsimp only
  rw [hd]
  exact e4
theorem same_s (x y : Nat) (hx : x < 4294967296) (hy : y < 4294967296) : spec_l01Same.f x y = some (if isN .f32 x || isN .f32 y then (isN .f32 x && isN .f32 y) else x == y) := by
  unfold spec_l01Same.f spec_l01Bits.f
  rw [fne_self, fne_self]
  rw [w64 (x := (x : Int)) (by omega) (by omega), w64 (x := (y : Int)) (by omega) (by omega)]
  rcases nx : isN .f32 x <;> rcases ny : isN .f32 y
  · simp only [Bool.false_eq_true, if_false, Option.bind_some, Bool.or_self]
    by_cases e : x = y
    · subst e; simp
    · have : ¬ ((x : Int) = (y : Int)) := by omega
      rw [beq_eq_false_iff_ne.2 this, beq_eq_false_iff_ne.2 e]
  · simp only [Bool.false_eq_true, if_false, if_true, Option.bind_some, Bool.or_true, Bool.false_and]
    have : (x : Int) ≠ 2143289344 := by
      intro e
      have : x = 2143289344 := by omega
      subst this
      exact absurd nx (by decide +kernel)
    simpa using this
  · simp only [Bool.false_eq_true, if_false, if_true, Option.bind_some, Bool.true_or, Bool.true_and]
    have : (2143289344 : Int) ≠ y := by
      intro e
      have : y = 2143289344 := by omega
      subst this
      exact absurd ny (by decide +kernel)
    simpa using this
  · rfl
theorem sign_s {x : Nat} (hx : x < 4294967296) (h : isN .f32 x = false) : math_Signbit.f (fconv .f32 x .f64) = some (decide (2147483648 ≤ x)) := by
  obtain ⟨_, r, hr, he⟩ := wide_sign hx h
  unfold math_Signbit.f
  rw [he]
  congr 1
  by_cases c : 2147483648 ≤ x
  · rw [if_pos c]
    unfold wrap64
    simp only [c, decide_true, decide_eq_true_eq]
    omega
  · rw [if_neg c, w64 (by omega) (by omega)]
    simp only [c, decide_false, decide_eq_false_iff_not]
    omega
theorem same_i (x y : Nat) (hx : x < 4294967296) (hy : y < 4294967296) (k : Nat) (hk : 0 < k) : impl_SameNumber.f k x y = spec_l01Same.f x y := by
  rw [same_s x y hx hy]
  obtain ⟨k, rfl⟩ : ∃ m, k = m + 1 := ⟨k - 1, by omega⟩
  unfold impl_SameNumber.f
  rw [fne_self, fne_self]
  simp only [impl_SameNumber.j0, fne_self]
  rcases nx : isN .f32 x <;> rcases ny : isN .f32 y
  · have h1 := (wide_sign hx nx).1
    have h2 := (wide_sign hy ny).1
    simp only [Bool.false_eq_true, if_false, Bool.or_self, h1, h2, if_true, sign_s hx nx, sign_s hy ny, Option.bind_some]
    rw [← same_word hx hy nx ny]
    rcases feq .f32 x y <;> simp
  all_goals simp
theorem same_cn (x : Nat) (hx : x < 4294967296) (k : Nat) (hk : 0 < k) : impl_SameNumber.f k (cn .f32 x) x = some true ∧ spec_SameNumber.f (cn .f32 x) x = some true := by
  have h2 : spec_l01Same.f (cn .f32 x) x = some true := by
    unfold spec_l01Same.f spec_l01Bits.f
    have h1 : ∀ y : Nat, y < 4294967296 → (if fne .f32 y y = true then (some 2143289344 : Option Int) else some (wrap64 (y : Int))) = some ((cn .f32 y : Nat) : Int) := fun y hy => by
      rw [fne_self]
      unfold cn
      split
      · rfl
      · rw [w64 (by omega) (by omega)]
    rw [h1 _ (cn_lt hx), h1 _ hx, Option.bind_some, Option.bind_some, cn_cn]
    simp
  refine ⟨?_, ?_⟩
  · rw [same_i _ _ (cn_lt hx) hx k hk]; exact h2
  · unfold spec_SameNumber.f
    rw [h2]; rfl
theorem canons_rd (l : List Nat) (i : Nat) (h : i < l.length) : rdOf (0 : Nat) (canons l) (i : Int) = cn .f32 (rdOf (0 : Nat) l (i : Int)) := by
  unfold rdOf
  rw [Int.toNat_natCast, List.getD_eq_getElem?_getD, List.getD_eq_getElem?_getD, List.getElem?_eq_getElem h, List.getElem?_eq_getElem (by rw [canons_len]; exact h)]
  simp only [Option.getD_some]
  unfold canons
  rw [List.getElem_map]
theorem samel_cn (l : List Nat) (hx : ∀ x ∈ l, x < 4294967296) (hl : l.length ≤ 256) : ∀ (d k i : Nat), i + d = l.length → d + 1 < k →
    impl_sameNumbers.l0 k l (canons l) (l.length : Int) (i : Int) = some true ∧ laws_b10List.l0 k (canons l) l (l.length : Int) (i : Int) = some true
  | d, 0, i, _, hk => by omega
  | 0, k + 1, i, h, hk => by
    rw [impl_sameNumbers.l0, laws_b10List.l0, if_neg (by omega), if_neg (by omega)]; exact ⟨rfl, rfl⟩
  | d + 1, k + 1, i, h, hk => by
    obtain ⟨h1, h2⟩ := same_cn _ (rdl_lt hx (i : Int)) k (by omega)
    have e1 : wrap64 ((i : Int) + 1) = ((i + 1 : Nat) : Int) := by unfold wrap64; omega
    have hc : (canons l).length = l.length := canons_len l
    rw [impl_sameNumbers.l0, laws_b10List.l0, if_pos (by omega), if_pos (by omega), if_pos (by omega), if_pos (by omega), if_pos (by omega), if_pos (by omega), if_pos (by omega), if_pos (by omega), canons_rd l i (by omega), h1, h2, Option.bind_some, Option.bind_some, if_pos rfl, if_pos rfl, e1]
    exact samel_cn l hx hl d k (i + 1) (by omega) (by omega)
theorem SameBlock_cn (x : BI) (h : okB x) (k : Nat) (hk : 300 ≤ k) : impl_SameBlock.f k x.f0 (canons x.f1) x.f0 x.f1 = some true ∧ laws_b10List.f k (canons x.f1) x.f1 = some true := by
  have h1 := h.l1
  obtain ⟨h2, h3⟩ := samel_cn x.f1 h.lt h.l1 x.f1.length k 0 (by omega) (by omega)
  have hc : (canons x.f1).length = x.f1.length := canons_len _
  constructor
  · unfold impl_SameBlock.f impl_sameNumbers.f
    rw [if_pos rfl, if_pos (by omega), hc, show ((0 : Int)) = ((0 : Nat) : Int) from rfl, h2]; rfl
  · unfold laws_b10List.f
    rw [if_pos (by omega), hc]
    exact h3
theorem Pack_i (x : BI) (h : okB x) (k : Nat) (hk : 1073741825 ≤ k) : impl_PackValues.f k x.f1 = some (strOfNums (packFrom 0 (canons x.f1)), true) ∧ impl_UnpackValues.f k (strOfNums (packFrom 0 (canons x.f1))) = some (canons x.f1, true) := by
  have h0 := h.l0
  have h1 := h.l1
  have h2 := pack_i x.f1 h.lt (by omega) k (by omega)
  have h3 := pack_i (canons x.f1) (canons_lt h.lt) (by rw [canons_len]; omega) k (by omega)
  rw [canons2] at h3
  have h4 := unpack_pack (canons x.f1) (canons_lt h.lt) (by rw [canons_len]; omega) (by rw [canons_len]; omega) k (by omega)
  constructor
  · unfold impl_PackValues.f
    rw [within_n, decide_eq_true ⟨h0, h1⟩, Option.bind_some, if_pos rfl, h2, Option.bind_some]
  · unfold impl_UnpackValues.f
    rw [h4, Option.bind_some, if_pos rfl]
    dsimp only
    rw [h3, Option.bind_some, if_pos rfl]
theorem at_some (c : List Int) (hb : Byts c) (i n : Int) (hi : 0 ≤ i) (hi2 : i ≤ 1000000) (hn : 1 < n) (hn2 : n ≤ 65536) : ∃ r, laws_b10At.f c i n = some r ∧ 0 ≤ r ∧ r < n := by
  unfold laws_b10At.f
  rw [if_neg (by omega)]
  by_cases h : i < (c.length : Int)
  · obtain ⟨g1, g2⟩ := byts_rd hb i
    have e1 : wrap64 (rd c i) = rd c i := by generalize rd c i = z at *; unfold wrap64; omega
    rw [if_pos h, if_pos hi, if_neg (by omega), e1]
    refine ⟨_, rfl, ?_, ?_⟩
    · rw [Int.tmod_eq_emod_of_nonneg g1]; exact Int.emod_nonneg _ (by omega)
    · rw [Int.tmod_eq_emod_of_nonneg g1]; exact Int.emod_lt_of_pos _ (by omega)
  · have e1 : wrap64 (wrap64 (i * 37) + 11) = i * 37 + 11 := by unfold wrap64; omega
    rw [if_neg h, if_neg (by omega), e1]
    refine ⟨_, rfl, ?_, ?_⟩
    · rw [Int.tmod_eq_emod_of_nonneg (by omega)]; exact Int.emod_nonneg _ (by omega)
    · rw [Int.tmod_eq_emod_of_nonneg (by omega)]; exact Int.emod_lt_of_pos _ (by omega)
end Go.Proofs.Ythnjgcdajjodjaa.StdPure2
