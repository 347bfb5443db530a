/- PredictorText: what is left of the law beside the walk: both tell the same text, or none. -/
import Derived.Test.YtbojmdjghfhmbaaDoorPFnExactPredictorTextx
import Derived.Test.YtbojmdjghfhmbaaDoorLm
import Derived.Test.YtbojmdjghfhmbaaDoorOf
set_option linter.unusedVariables false
set_option linter.unusedSimpArgs false
namespace Go.Proofs.YtbojmdjghfhmbaaDoor.PtPure
open Go.RowKit Go.Proofs.YtbojmdjghfhmbaaDoorW.PrintWords Go.Proofs.YtbojmdjghfhmbaaDoorW.PrintMore Go.Proofs.YtbojmdjghfhmbaaDoorW.PrintFl Go.Proofs.YtbojmdjghfhmbaaDoor Go.Proofs.YtbojmdjghfhmbaaDoor.PFnExactPredictorText Go.Proofs.YtbojmdjghfhmbaaDoor.Lm
theorem w64 {x : Int} (h0 : -9223372036854775808 ≤ x) (h1 : x ≤ 9223372036854775807) : wrap64 x = x := by
  unfold wrap64; omega
theorem szF_some (l : List Nat) (hl : l.length ≤ 9223372036854775807) (a : Int) (ha : 0 ≤ a) (hb : a ≤ 1048576) : ∃ r, laws_szFloat32S.f l a = some r ∧ (r < 0 ∨ 0 ≤ r ∧ r ≤ 1048576 ∧ l.length ≤ 1048576) := by
  unfold laws_szFloat32S.f
  rw [w64 (x := a - l.length) (by omega) (by omega)]
  split
  · exact ⟨_, rfl, .inl (by omega)⟩
  · exact ⟨_, rfl, .inr (by omega)⟩
theorem toFl_some (l : List Nat) (hl : l.length ≤ 1048576) : ∀ (k : Nat) (ys : List Nat) (i : Nat), i ≤ l.length → l.length - i < k → ys.length = l.length → ys.take i = l.take i → laws_toFloat32S.l0 k l ys (i : Int) = some l
  | 0, ys, i, h1, hk, hy, ht => by omega
  | k + 1, ys, i, h1, hk, hy, ht => by
    unfold laws_toFloat32S.l0
    by_cases c : (i : Int) < (l.length : Int)
    · rw [if_pos c, if_pos (by omega), if_pos (by omega), w64 (by omega) (by omega)]
      have e : ((i : Int) + 1) = ((i + 1 : Nat) : Int) := by omega
      rw [e]
      refine toFl_some l hl k _ (i + 1) (by omega) (by omega) (by rw [List.length_set]; exact hy) ?_
      have hil : i < l.length := by omega
      show (ys.set ((i : Int)).toNat (rdOf 0 l (i : Int))).take (i + 1) = _
      rw [Int.toNat_natCast]
      refine take_set_succ hil hy ht ?_
      unfold rdOf
      rw [Int.toNat_natCast, List.getD_eq_getElem?_getD, List.getElem?_eq_getElem hil]
      rfl
    · rw [if_neg c]
      have : i = l.length := by omega
      subst this
      rw [List.take_length, List.take_of_length_le (by omega)] at ht
      rw [ht]
theorem toF_some (l : List Nat) (hl : l.length ≤ 1048576) (k : Nat) (hk : 1048577 ≤ k) : laws_toFloat32S.f k l = some l := by
  unfold laws_toFloat32S.f
  rw [if_pos (by omega), if_pos (by omega)]
  exact toFl_some l hl k _ 0 (by omega) (by omega) (by rw [List.length_replicate]; omega) rfl
/-! texts of lists of numbers -/
def bitsN (a : Nat) : Nat := if fne .f32 a a = true then 2143289344 else a
theorem bitsN_lt {a : Nat} (h : a < 4294967296) : bitsN a < 4294967296 := by unfold bitsN; split <;> omega
def hexL (a : Nat) : List UInt8 := (strOfNums (dgs (bitsN a) 8)).data.toList
theorem hexL_len (a : Nat) : (hexL a).length = 8 := by
  unfold hexL strOfNums
  rw [List.toList_toArray, List.length_map, hx_len]
theorem hexL_eq (a : Nat) : strOfNums (dgs (bitsN a) 8) = ⟨(hexL a).toArray⟩ := by unfold hexL; rfl
theorem dgs_hi (n : Nat) : ∀ j, j ≤ 8 → dgs (n + 4294967296) j = dgs n j
  | 0, _ => rfl
  | j + 1, h => by
    rw [dgs, dgs, dgs_hi n j (by omega)]
    have h2 : (n + 4294967296) / 16 ^ j % 16 = n / 16 ^ j % 16 := by
      have h3 : j = 0 ∨ j = 1 ∨ j = 2 ∨ j = 3 ∨ j = 4 ∨ j = 5 ∨ j = 6 ∨ j = 7 := by omega
      rcases h3 with rfl | rfl | rfl | rfl | rfl | rfl | rfl | rfl <;> (simp only [Nat.reducePow]; omega)
    rw [h2]
theorem str_tail (x : Int) (l : List Int) (n : Nat) (hn : n = (strOfNums (x :: l)).size) : (strOfNums (x :: l)).extract 1 n = strOfNums l := by
  have hs : (strOfNums (x :: l)).size = l.length + 1 := by unfold strOfNums; show (List.toArray _).size = _; simp
  apply ByteArray.ext
  apply Array.toList_inj.1
  rw [ByteArray.data_extract, Array.toList_extract]
  unfold strOfNums
  rw [List.toList_toArray, List.toList_toArray, List.map_cons, hn, hs]
  simp [List.extract]
  exact List.take_of_length_le (by rw [List.length_map]; exact Nat.le_refl _)
theorem hex_impl (a : Nat) (ha : a < 4294967296) : impl_hexText.f a = some ⟨(hexL a).toArray⟩ := by
  have hb : impl_BitsOf.f a = some ((bitsN a : Nat) : Int) := by
    unfold impl_BitsOf.f bitsN
    split
    · rfl
    · rw [w64 (by omega) (by omega)]
  have hl := bitsN_lt ha
  unfold impl_hexText.f strconv_FormatInt.f
  rw [hb, Option.bind_some, w64 (by omega) (by omega), if_pos ⟨by omega, by omega, rfl⟩, Option.bind_some]
  have e : (((bitsN a : Nat) : Int) + 4294967296).toNat = bitsN a + 4294967296 := by omega
  have hs : (strOfNums (dgs (bitsN a + 4294967296) 9)).size = 9 := by
    unfold strOfNums; show (List.toArray _).size = _; rw [List.size_toArray, List.length_map, hx_len]
  rw [e, if_pos (by rw [hs]; decide), dgs, dgs_hi _ 8 (Nat.le_refl _), str_tail _ _ _ rfl, hexL_eq]
theorem wrapi64 (n : Int) (h₀ : 0 ≤ n) (h₁ : n < 2 ^ 63) : IntKind.i64.wrap n = n := by rw [IntKind.wrap_i64]; omega
theorem bt_lit : ∀ m : Fin 16, bt (⟨#[48, 49, 50, 51, 52, 53, 54, 55, 56, 57, 97, 98, 99, 100, 101, 102]⟩ : ByteArray) (m.1 : Int) = hexd m.1 := by decide
theorem dig_at (n j : Nat) (hn : n < 4294967296) (hj : j < 8) : Go.bits .and .i64 (shr .i64 (n : Int) (IntKind.u64.wrap ((4 * j : Nat) : Int))) 15 = ((n / 16 ^ j % 16 : Nat) : Int) := by
  have hw : IntKind.u64.wrap ((4 * j : Nat) : Int) = ((4 * j : Nat) : Int) := wraps_u64' _ (by omega) (by omega)
  have hs : shr .i64 (n : Int) ((4 * j : Nat) : Int) = ((n / 16 ^ j : Nat) : Int) := by
    unfold shr
    rw [Int.toNat_natCast]
    have h3 : j = 0 ∨ j = 1 ∨ j = 2 ∨ j = 3 ∨ j = 4 ∨ j = 5 ∨ j = 6 ∨ j = 7 := by omega
    rcases h3 with rfl | rfl | rfl | rfl | rfl | rfl | rfl | rfl <;> rfl
  have hle : n / 16 ^ j ≤ n := Nat.div_le_self _ _
  rw [hw, hs]
  generalize n / 16 ^ j = q at hle ⊢
  have hb := bits_mask .i64 63 (by decide) (fun x h0 h1 => wrapi64 x h0 h1) 4 (by decide) (q : Int) (by omega) (by omega)
  rw [show ((2 : Int) ^ 4 - 1) = 15 from rfl, show ((2 : Int) ^ 4) = 16 from rfl] at hb
  rw [hb]; omega
theorem hex_loop (n : Nat) (hn : n < 4294967296) : ∀ (j k : Nat) (acc : List Int), j ≤ 8 → acc.length + j ≤ 8 → j < k → spec_l01Hex.l0 k (n : Int) acc (((4 * j : Nat) : Int) - 4) = some (strOfNums (acc ++ dgs n j))
  | _, 0, _, _, _, h => by omega
  | 0, k + 1, acc, _, _, _ => by
    rw [spec_l01Hex.l0, if_neg (by omega), dgs, List.append_nil]
  | j + 1, k + 1, acc, hj, hl, hk => by
    have e : (((4 * (j + 1) : Nat) : Int) - 4) = ((4 * j : Nat) : Int) := by omega
    have hm : n / 16 ^ j % 16 < 16 := Nat.mod_lt _ (by decide)
    have hb := bt_lit ⟨n / 16 ^ j % 16, hm⟩
    have hw : IntKind.u64.wrap ((4 * j : Nat) : Int) = ((4 * j : Nat) : Int) := wraps_u64' _ (by omega) (by omega)
    rw [spec_l01Hex.l0, e, dig_at n j hn (by omega), if_pos (by omega), if_pos (by rw [hw]; omega), if_pos (by omega), if_pos (by omega), if_pos (by omega), hb, w64 (by omega) (by omega), hex_loop n hn j k _ (by omega) (by simp; omega) (by omega), dgs, List.append_assoc]
    rfl
theorem hex_spec (k a : Nat) (ha : a < 4294967296) (hk : 9 ≤ k) : spec_l01Hex.f k a = some ⟨(hexL a).toArray⟩ := by
  have hb : spec_l01Bits.f a = some ((bitsN a : Nat) : Int) := by
    unfold spec_l01Bits.f bitsN
    split
    · rfl
    · rw [w64 (by omega) (by omega)]
  unfold spec_l01Hex.f
  rw [hb, Option.bind_some]
  have h := hex_loop (bitsN a) (bitsN_lt ha) 8 k [] (by decide) (by decide) (by omega)
  rw [List.nil_append, hexL_eq] at h
  exact h
def hexTl (l : List Nat) : List UInt8 := (l.map fun x => (44 : UInt8) :: hexL x).flatten
theorem hexTl_len : ∀ l : List Nat, (hexTl l).length = 9 * l.length
  | [] => rfl
  | x :: l => by
    have := hexTl_len l
    unfold hexTl at this ⊢
    rw [List.map_cons, List.flatten_cons, List.length_append, this, List.length_cons, List.length_cons, hexL_len]; omega
def ntL : List Nat → List UInt8
  | [] => [110, 111, 110, 101]
  | x :: l => hexL x ++ hexTl l
theorem ntL_len (l : List Nat) : (ntL l).length ≤ 4 + 9 * l.length := by
  cases l with
  | nil => decide
  | cons x l => rw [ntL, List.length_append, hexL_len, hexTl_len, List.length_cons]; omega
theorem sz_arr (l : List UInt8) : (⟨l.toArray⟩ : ByteArray).size = l.length := by show (List.toArray _).size = _; simp
theorem arr_app (a b : List UInt8) : (⟨a.toArray⟩ : ByteArray) ++ ⟨b.toArray⟩ = ⟨(a ++ b).toArray⟩ := by
  apply ByteArray.ext
  rw [ByteArray.data_append]
  simp
theorem rdN_at {l : List Nat} {i : Nat} (h : i < l.length) : rdOf (0 : Nat) l (i : Int) = l[i]'h := by
  unfold rdOf
  rw [Int.toNat_natCast, List.getD_eq_getElem?_getD, List.getElem?_eq_getElem h]; rfl
theorem nt_loop (l : List Nat) (hx : ∀ x ∈ l, x < 4294967296) (hl : l.length ≤ 1048576) : ∀ (d i k : Nat) (acc : List UInt8), i + d = l.length → acc.length + 9 * d ≤ 10000000 → d + 9 < k → spec_l01NText.l0 k l ⟨acc.toArray⟩ (i : Int) = some ⟨(acc ++ hexTl (l.drop i)).toArray⟩
  | _, _, 0, _, _, _, h => by omega
  | 0, i, k + 1, acc, h1, h2, h3 => by
    obtain rfl : i = l.length := by omega
    rw [spec_l01NText.l0, if_neg (by omega), List.drop_length]
    show _ = some (⟨(acc ++ []).toArray⟩ : ByteArray)
    rw [List.append_nil]
  | d + 1, i, k + 1, acc, h1, h2, h3 => by
    have hi : i < l.length := by omega
    have e : ((i : Int) + 1) = ((i + 1 : Nat) : Int) := by omega
    have hz : (⟨#[44]⟩ : ByteArray) = ⟨([44] : List UInt8).toArray⟩ := rfl
    rw [spec_l01NText.l0, if_pos (by omega), if_pos (by omega), rdN_at hi, hex_spec k _ (hx _ (List.getElem_mem _)) (by omega), Option.bind_some, if_pos (by rw [sz_arr, hexL_len]; omega), hz, arr_app, if_pos (by rw [sz_arr, sz_arr, List.length_append, hexL_len]; simp; omega), arr_app, w64 (by omega) (by omega), e,
      nt_loop l hx hl d (i + 1) k _ (by omega) (by rw [List.length_append, List.length_append, hexL_len]; simp; omega) (by omega)]
    rw [List.drop_eq_getElem_cons hi]
    unfold hexTl
    rw [List.map_cons, List.flatten_cons, List.append_assoc]
    rfl
theorem nt_spec (l : List Nat) (hx : ∀ x ∈ l, x < 4294967296) (hl : l.length ≤ 1048576) (k : Nat) (hk : 1048600 ≤ k) : spec_l01NText.f k l = some ⟨(ntL l).toArray⟩ := by
  unfold spec_l01NText.f
  cases l with
  | nil => rfl
  | cons x l =>
    rw [if_neg (by rw [List.length_cons]; omega), if_pos (by rw [List.length_cons]; omega)]
    have h0 : rdOf (0 : Nat) (x :: l) 0 = x := rfl
    rw [h0, hex_spec k x (hx x List.mem_cons_self) (by omega), Option.bind_some]
    have h := nt_loop (x :: l) hx hl l.length 1 k (hexL x) (by rw [List.length_cons]; omega) (by rw [hexL_len]; rw [List.length_cons] at hl; omega) (by rw [List.length_cons] at hl; omega)
    exact h
theorem ni_loop (l : List Nat) (hx : ∀ x ∈ l, x < 4294967296) (hl : l.length ≤ 1048576) : ∀ (d i k : Nat) (ys : List ByteArray), i + d = l.length → ys.length = l.length → ys.take i = (l.take i).map (fun x => ⟨(hexL x).toArray⟩) → d < k → impl_numbersText.l0 k ys l (l.length : Int) (i : Int) = (strings_Join.f (l.map fun x => ⟨(hexL x).toArray⟩) (⟨#[44]⟩ : ByteArray)).bind fun t => some t
  | _, _, 0, _, _, _, _, h => by omega
  | 0, i, k + 1, ys, h1, h2, h3, h4 => by
    obtain rfl : i = l.length := by omega
    rw [impl_numbersText.l0, if_neg (by omega)]
    rw [List.take_of_length_le (by omega), List.take_length] at h3
    rw [h3]
  | d + 1, i, k + 1, ys, h1, h2, h3, h4 => by
    have hi : i < l.length := by omega
    have e : ((i : Int) + 1) = ((i + 1 : Nat) : Int) := by omega
    rw [impl_numbersText.l0, if_pos (by omega), if_pos (by omega), if_pos (by omega), rdN_at hi, hex_impl _ (hx _ (List.getElem_mem _)), Option.bind_some, if_pos (by omega), w64 (by omega) (by omega), e, Int.toNat_natCast]
    refine ni_loop l hx hl d (i + 1) k _ (by omega) (by rw [List.length_set]; exact h2) ?_ (by omega)
    rw [List.map_take] at h3 ⊢
    exact take_set_succ (xs := l.map fun x => (⟨(hexL x).toArray⟩ : ByteArray)) (by rw [List.length_map]; exact hi) (by rw [List.length_map]; exact h2) h3 (by rw [List.getElem?_map, List.getElem?_eq_getElem hi]; rfl)
theorem nt_impl (l : List Nat) (hx : ∀ x ∈ l, x < 4294967296) (hl : l.length ≤ 1048576) (k : Nat) (hk : 1048600 ≤ k) : impl_numbersText.f k l = some ⟨(ntL l).toArray⟩ := by
  unfold impl_numbersText.f
  cases l with
  | nil => rfl
  | cons x l =>
    rw [if_neg (by rw [List.length_cons]; omega), if_pos (by rw [List.length_cons]; omega), if_pos (by rw [Int.toNat_natCast]; omega), Int.toNat_natCast]
    have h := ni_loop (x :: l) hx hl (x :: l).length 0 k (List.replicate (x :: l).length (⟨#[]⟩ : ByteArray)) (by omega) (by rw [List.length_replicate]) rfl (by omega)
    refine h.trans ?_
    unfold strings_Join.f
    have hj : Lib.join (((x :: l).map fun x => (⟨(hexL x).toArray⟩ : ByteArray)).map (·.data.toList)) (⟨#[44]⟩ : ByteArray).data.toList = ntL (x :: l) := by
      rw [List.map_map]
      show Lib.join (_ :: _) [44] = _
      rw [Lib.join_cons, ntL]
      unfold Lib.joinTail hexTl
      rw [List.map_map]
      rfl
    have h5 := ntL_len (x :: l)
    rw [hj, if_pos ⟨by rw [List.length_map]; omega, by omega⟩]
    rfl
theorem fin_spec_l (l : List Nat) (hl : l.length ≤ 1048576) : ∀ (d i k : Nat), i + d = l.length → d < k → spec_l02Finite.l0 k l (i : Int) = some ((l.drop i).all finB)
  | _, _, 0, _, h => by omega
  | 0, i, k + 1, h1, h2 => by
    obtain rfl : i = l.length := by omega
    rw [spec_l02Finite.l0, if_neg (by omega), List.drop_length]; rfl
  | d + 1, i, k + 1, h1, h2 => by
    have hi : i < l.length := by omega
    have e : ((i : Int) + 1) = ((i + 1 : Nat) : Int) := by omega
    rw [spec_l02Finite.l0, if_pos (by omega), if_pos (by omega), rdN_at hi, spec_l01Finite.f, Option.bind_some, w64 (by omega) (by omega), e, fin_spec_l l hl d (i + 1) k (by omega) (by omega), List.drop_eq_getElem_cons hi, List.all_cons]
    cases finB l[i] <;> rfl
theorem fin_impl_l (l : List Nat) (hl : l.length ≤ 1048576) : ∀ (d i k : Nat), i + d = l.length → d < k → impl_areFinite.l0 k l (l.length : Int) (i : Int) = some ((l.drop i).all finB)
  | _, _, 0, _, h => by omega
  | 0, i, k + 1, h1, h2 => by
    obtain rfl : i = l.length := by omega
    rw [impl_areFinite.l0, if_neg (by omega), List.drop_length]; rfl
  | d + 1, i, k + 1, h1, h2 => by
    have hi : i < l.length := by omega
    have e : ((i : Int) + 1) = ((i + 1 : Nat) : Int) := by omega
    rw [impl_areFinite.l0, if_pos (by omega), if_pos (by omega), if_pos (by omega), rdN_at hi, impl_IsFinite.f, Option.bind_some, w64 (by omega) (by omega), e, fin_impl_l l hl d (i + 1) k (by omega) (by omega), List.drop_eq_getElem_cons hi, List.all_cons]
    cases finB l[i] <;> rfl
theorem valid_both (l : List Nat) (g : Nat) (hl : l.length ≤ 1048576) (k : Nat) (hk : 1048600 ≤ k) : ∃ b, spec_l04Is.f k [(⟨l, g⟩ : S35)] = some b ∧ impl_ValidPredictor.f k l g = some b := by
  have h1 : spec_l02Finite.f k l = some (l.all finB) := fin_spec_l l hl l.length 0 k (by omega) (by omega)
  have h2 : impl_areFinite.f k l = some (l.all finB) := fin_impl_l l hl l.length 0 k (by omega) (by omega)
  have hr : rd_T35 [(⟨l, g⟩ : S35)] 0 = ⟨l, g⟩ := rfl
  have h3 : spec_l02Least.f g = some (finB g && fge .f32 g 0) := by
    unfold spec_l02Least.f spec_l01Finite.f
    rw [Option.bind_some]
    cases finB g <;> rfl
  unfold spec_l04Is.f impl_ValidPredictor.f impl_within.f impl_IsFinite.f
  rw [if_pos (show (0 : Int) < (([(⟨l, g⟩ : S35)] : List S35).length : Int) by show (0 : Int) < 1; decide), hr]
  dsimp only
  rw [h1, h2, h3]
  by_cases c : (l.length : Int) ≥ 1
  · rw [if_pos c, if_pos c]
    by_cases d : (l.length : Int) ≤ 16
    · rw [if_pos d, Option.bind_some, Option.bind_some]
      simp only [d, decide_true, if_true, Option.bind_some]
      cases l.all finB
      · exact ⟨false, rfl, rfl⟩
      · simp only [if_true]
        cases finB g
        · exact ⟨false, rfl, rfl⟩
        · exact ⟨_, rfl, rfl⟩
    · rw [if_neg d, Option.bind_some, if_neg (by simpa using d)]
      exact ⟨false, rfl, rfl⟩
  · rw [if_neg c, if_neg c]
    exact ⟨false, rfl, rfl⟩
theorem text_both (l : List Nat) (g : Nat) (hx : ∀ x ∈ l, x < 4294967296) (hg : g < 4294967296) (hl : l.length ≤ 1048576) (k : Nat) (hk : 1048600 ≤ k) : ∃ t, spec_l08Predictor.f k [(⟨l, g⟩ : S35)] = some t ∧ impl_predictorText.f k l g = some t := by
  have hr : rd_T35 [(⟨l, g⟩ : S35)] 0 = ⟨l, g⟩ := rfl
  have hg' : ∀ x ∈ [g], x < 4294967296 := by intro x h; rw [List.mem_singleton] at h; rw [h]; exact hg
  have h1 := nt_spec l hx hl k hk
  have h2 := nt_impl l hx hl k hk
  have h3 := nt_spec [g] hg' (by simp) k hk
  have h4 := nt_impl [g] hg' (by simp) k hk
  have s1 := ntL_len l
  have s2 := ntL_len [g]
  have hz : (⟨#[59]⟩ : ByteArray) = ⟨([59] : List UInt8).toArray⟩ := rfl
  have hone : [g].length = 1 := rfl
  have hone2 : ([59] : List UInt8).length = 1 := rfl
  unfold spec_l08Predictor.f impl_predictorText.f
  rw [if_pos (show (0 : Int) < (([(⟨l, g⟩ : S35)] : List S35).length : Int) by show (0 : Int) < 1; decide), hr]
  dsimp only
  rw [h1, h2, h3, h4]
  simp only [Option.bind_some]
  have c1 : (⟨(ntL l).toArray⟩ : ByteArray).size + 1 ≤ 9223372036854775807 := by rw [sz_arr]; omega
  have c2 : ((⟨(ntL l).toArray⟩ : ByteArray) ++ (⟨#[59]⟩ : ByteArray)).size + (⟨(ntL [g]).toArray⟩ : ByteArray).size ≤ 9223372036854775807 := by
    rw [hz, arr_app, sz_arr, sz_arr, List.length_append]; omega
  rw [if_pos c1, if_pos c2]
  exact ⟨_, rfl, rfl⟩
theorem pure (l : List Nat) (g : Nat) (h0 : l.length ≤ 9223372036854775807) (hx : ∀ x ∈ l, x < 4294967296) (hg : g < 4294967296) : laws_FnExactPredictorText.f 1048610 l g = some true := by
  unfold laws_FnExactPredictorText.f laws_szPredictor.f
  obtain ⟨r0, e0, hr0⟩ := szF_some l h0 1048576 (by omega) (by omega)
  rw [e0, Option.bind_some]
  by_cases c : r0 < 0
  · rw [if_pos c, Option.bind_some, if_pos (by decide)]
  · have hl : l.length ≤ 1048576 := by omega
    rw [if_neg c, Option.bind_some, if_neg c]
    have ht : ∀ k, 1048577 ≤ k → laws_toPredictor.f k l g = some (l, g) := by
      intro k hk
      unfold laws_toPredictor.f
      rw [toF_some l hl k hk, Option.bind_some]
    have he : laws_eqPredictor.f l g l g = some true := by
      unfold laws_eqPredictor.f
      rw [if_pos ⟨rfl, rfl, hl, hx, hg⟩]
    have hj : laws_FnExactPredictorText.j0 1048610 false l g l g = some true := by
      show laws_FnExactPredictorText.j0 (1048609 + 1) false l g l g = some true
      rw [laws_FnExactPredictorText.j0, if_neg (by decide), ht 1048609 (by omega), Option.bind_some]
      dsimp only
      rw [he, Option.bind_some, if_pos rfl]
    obtain ⟨b, v1, v2⟩ := valid_both l g hl 1048610 (by omega)
    obtain ⟨t, t1, t2⟩ := text_both l g hx hg hl 1048610 (by omega)
    rw [ht 1048610 (by omega)]
    simp only [Option.bind_some]
    unfold spec_PredictorText.f impl_PredictorText.f
    rw [v1, v2, t1, t2]
    simp only [Option.bind_some]
    cases b
    · rw [if_neg (by decide)]
      simp only [Option.bind_some, if_true]
      exact hj
    · rw [if_pos rfl]
      simp only [Option.bind_some, if_true]
      exact hj
end Go.Proofs.YtbojmdjghfhmbaaDoor.PtPure
namespace Go.Proofs.YtbojmdjghfhmbaaDoor
open Go.RowKit Go.Proofs.YtbojmdjghfhmbaaDoorW.PrintWords Go.Proofs.YtbojmdjghfhmbaaDoorW.PrintFl Go.ChangeShapes Go.WideShapes
theorem opens_pred : Opens Tryd.prog 32 (Kd.iso (Kd.pair (Kd.slice 22 (Kd.float .f32)) (Kd.float .f32)) (fun x : List Nat × Nat => x)) (fun x => (x.1.length ≤ 9223372036854775807 ∧ ∀ y ∈ x.1, y < 4294967296) ∧ x.2 < 4294967296) :=
  opens_imp (opens_struct (P := Tryd.prog) (fun x : List Nat × Nat => x) (fun x => x) (fun _ => rfl) Tryd.underlying32 rfl (N := 2) (by kernel_rfl)
    (opensF_cons rfl (off' := 1) (by kernel_rfl) (opens_slice (B := 4) _ Tryd.underlying30 (by kernel_rfl) (by kernel_rfl) (opens_raw Tryd.underlying22)) (opensF_last rfl (by kernel_rfl) (opens_raw Tryd.underlying22))))
    (fun x h => ⟨⟨h.1.1, h.1.2.2⟩, h.2⟩)
theorem predictorText_w (cs0 : Array Value) (y0 : List Nat × Nat) (w : World) (hT : GLh w) (k0 : (Kd.iso (Kd.pair (Kd.slice 22 (Kd.float .f32)) (Kd.float .f32)) (fun x : List Nat × Nat => x)).K w y0 cs0.toList) (z0 : (y0.1.length ≤ 9223372036854775807 ∧ ∀ y ∈ y0.1, y < 4294967296) ∧ y0.2 < 4294967296) :
    Calls Tryd.prog 4 #[.agg cs0] w fun e w' => e = .returned (.bool true) ∧ Below w.heap.size w w' := by
  obtain ⟨_, _, e0, ⟨A0, c0, rfl, hl0, hr0⟩, rfl⟩ := k0
  obtain rfl : cs0 = #[.slice A0 y0.1.length c0, .float .f32 y0.2] := by rw [← Array.toArray_toList (xs := cs0), e0]; rfl
  exact PFnExactPredictorText.laws_FnExactPredictorText.calls 1048610 A0 c0 y0.1 y0.2 true w hr0 hl0 hT (PtPure.pure y0.1 y0.2 z0.1.1 z0.1.2 z0.2)
end Go.Proofs.YtbojmdjghfhmbaaDoor
