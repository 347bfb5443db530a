/- TubeText: what is left of the law beside the walk: both tell the same text, or none. -/
import Derived.Test.YtbojmdjghfhmbaaDoorPFnExactTubeTextx
import Derived.Test.YtbojmdjghfhmbaaDoorLm
import Derived.Test.YtbojmdjghfhmbaaDoorOf
set_option linter.unusedVariables false
set_option linter.unusedSimpArgs false
namespace Go.Proofs.YtbojmdjghfhmbaaDoor.TtPure
open Go.RowKit Go.Proofs.YtbojmdjghfhmbaaDoorW.PrintWords Go.Proofs.YtbojmdjghfhmbaaDoorW.PrintMore Go.Proofs.YtbojmdjghfhmbaaDoorW.PrintFl Go.Proofs.YtbojmdjghfhmbaaDoor Go.Proofs.YtbojmdjghfhmbaaDoor.PFnExactTubeText Go.Proofs.YtbojmdjghfhmbaaDoor.Lm
theorem w64 {x : Int} (h0 : -9223372036854775808 ≤ x) (h1 : x ≤ 9223372036854775807) : wrap64 x = x := by
  unfold wrap64; omega
theorem szF_some (l : List Nat) (hl : l.length ≤ 9223372036854775807) (a : Int) (ha : 0 ≤ a) (hb : a ≤ 1048576) : ∃ r, laws_szFloat32S.f l a = some r ∧ (r < 0 ∨ 0 ≤ r ∧ r ≤ 1048576 ∧ l.length ≤ 1048576) := by
  unfold laws_szFloat32S.f
  rw [w64 (x := a - l.length) (by omega) (by omega)]
  split
  · exact ⟨_, rfl, .inl (by omega)⟩
  · exact ⟨_, rfl, .inr (by omega)⟩
theorem toFl_some (l : List Nat) (hl : l.length ≤ 1048576) : ∀ (k : Nat) (ys : List Nat) (i : Nat), i ≤ l.length → l.length - i < k → ys.length = l.length → ys.take i = l.take i → laws_toFloat32S.l0 k l ys (i : Int) = some l
  | 0, ys, i, h1, hk, hy, ht => by omega
  | k + 1, ys, i, h1, hk, hy, ht => by
    unfold laws_toFloat32S.l0
    by_cases c : (i : Int) < (l.length : Int)
    · rw [if_pos c, if_pos (by omega), if_pos (by omega), w64 (by omega) (by omega)]
      have e : ((i : Int) + 1) = ((i + 1 : Nat) : Int) := by omega
      rw [e]
      refine toFl_some l hl k _ (i + 1) (by omega) (by omega) (by rw [List.length_set]; exact hy) ?_
      have hil : i < l.length := by omega
      show (ys.set ((i : Int)).toNat (rdOf 0 l (i : Int))).take (i + 1) = _
      rw [Int.toNat_natCast]
      refine take_set_succ hil hy ht ?_
      unfold rdOf
      rw [Int.toNat_natCast, List.getD_eq_getElem?_getD, List.getElem?_eq_getElem hil]
      rfl
    · rw [if_neg c]
      have : i = l.length := by omega
      subst this
      rw [List.take_length, List.take_of_length_le (by omega)] at ht
      rw [ht]
theorem toF_some (l : List Nat) (hl : l.length ≤ 1048576) (k : Nat) (hk : 1048577 ≤ k) : laws_toFloat32S.f k l = some l := by
  unfold laws_toFloat32S.f
  rw [if_pos (by omega), if_pos (by omega)]
  exact toFl_some l hl k _ 0 (by omega) (by omega) (by rw [List.length_replicate]; omega) rfl
/-! texts of lists of numbers -/
def bitsN (a : Nat) : Nat := if fne .f32 a a = true then 2143289344 else a
theorem bitsN_lt {a : Nat} (h : a < 4294967296) : bitsN a < 4294967296 := by unfold bitsN; split <;> omega
def hexL (a : Nat) : List UInt8 := (strOfNums (dgs (bitsN a) 8)).data.toList
theorem hexL_len (a : Nat) : (hexL a).length = 8 := by
  unfold hexL strOfNums
  rw [List.toList_toArray, List.length_map, hx_len]
theorem hexL_eq (a : Nat) : strOfNums (dgs (bitsN a) 8) = ⟨(hexL a).toArray⟩ := by unfold hexL; rfl
theorem dgs_hi (n : Nat) : ∀ j, j ≤ 8 → dgs (n + 4294967296) j = dgs n j
  | 0, _ => rfl
  | j + 1, h => by
    rw [dgs, dgs, dgs_hi n j (by omega)]
    have h2 : (n + 4294967296) / 16 ^ j % 16 = n / 16 ^ j % 16 := by
      have h3 : j = 0 ∨ j = 1 ∨ j = 2 ∨ j = 3 ∨ j = 4 ∨ j = 5 ∨ j = 6 ∨ j = 7 := by omega
      rcases h3 with rfl | rfl | rfl | rfl | rfl | rfl | rfl | rfl <;> (simp only [Nat.reducePow]; omega)
    rw [h2]
theorem str_tail (x : Int) (l : List Int) (n : Nat) (hn : n = (strOfNums (x :: l)).size) : (strOfNums (x :: l)).extract 1 n = strOfNums l := by
  have hs : (strOfNums (x :: l)).size = l.length + 1 := by unfold strOfNums; show (List.toArray _).size = _; simp
  apply ByteArray.ext
  apply Array.toList_inj.1
  rw [ByteArray.data_extract, Array.toList_extract]
  unfold strOfNums
  rw [List.toList_toArray, List.toList_toArray, List.map_cons, hn, hs]
  simp [List.extract]
  exact List.take_of_length_le (by rw [List.length_map]; exact Nat.le_refl _)
theorem hex_impl (a : Nat) (ha : a < 4294967296) : impl_hexText.f a = some ⟨(hexL a).toArray⟩ := by
  have hb : impl_BitsOf.f a = some ((bitsN a : Nat) : Int) := by
    unfold impl_BitsOf.f bitsN
    split
    · rfl
    · rw [w64 (by omega) (by omega)]
  have hl := bitsN_lt ha
  unfold impl_hexText.f strconv_FormatInt.f
  rw [hb, Option.bind_some, w64 (by omega) (by omega), if_pos ⟨by omega, by omega, rfl⟩, Option.bind_some]
  have e : (((bitsN a : Nat) : Int) + 4294967296).toNat = bitsN a + 4294967296 := by omega
  have hs : (strOfNums (dgs (bitsN a + 4294967296) 9)).size = 9 := by
    unfold strOfNums; show (List.toArray _).size = _; rw [List.size_toArray, List.length_map, hx_len]
  rw [e, if_pos (by rw [hs]; decide), dgs, dgs_hi _ 8 (Nat.le_refl _), str_tail _ _ _ rfl, hexL_eq]
theorem wrapi64 (n : Int) (h₀ : 0 ≤ n) (h₁ : n < 2 ^ 63) : IntKind.i64.wrap n = n := by rw [IntKind.wrap_i64]; omega
theorem bt_lit : ∀ m : Fin 16, bt (⟨#[48, 49, 50, 51, 52, 53, 54, 55, 56, 57, 97, 98, 99, 100, 101, 102]⟩ : ByteArray) (m.1 : Int) = hexd m.1 := by decide
theorem dig_at (n j : Nat) (hn : n < 4294967296) (hj : j < 8) : Go.bits .and .i64 (shr .i64 (n : Int) (IntKind.u64.wrap ((4 * j : Nat) : Int))) 15 = ((n / 16 ^ j % 16 : Nat) : Int) := by
  have hw : IntKind.u64.wrap ((4 * j : Nat) : Int) = ((4 * j : Nat) : Int) := wraps_u64' _ (by omega) (by omega)
  have hs : shr .i64 (n : Int) ((4 * j : Nat) : Int) = ((n / 16 ^ j : Nat) : Int) := by
    unfold shr
    rw [Int.toNat_natCast]
    have h3 : j = 0 ∨ j = 1 ∨ j = 2 ∨ j = 3 ∨ j = 4 ∨ j = 5 ∨ j = 6 ∨ j = 7 := by omega
    rcases h3 with rfl | rfl | rfl | rfl | rfl | rfl | rfl | rfl <;> rfl
  have hle : n / 16 ^ j ≤ n := Nat.div_le_self _ _
  rw [hw, hs]
  generalize n / 16 ^ j = q at hle ⊢
  have hb := bits_mask .i64 63 (by decide) (fun x h0 h1 => wrapi64 x h0 h1) 4 (by decide) (q : Int) (by omega) (by omega)
  rw [show ((2 : Int) ^ 4 - 1) = 15 from rfl, show ((2 : Int) ^ 4) = 16 from rfl] at hb
  rw [hb]; omega
theorem hex_loop (n : Nat) (hn : n < 4294967296) : ∀ (j k : Nat) (acc : List Int), j ≤ 8 → acc.length + j ≤ 8 → j < k → spec_l01Hex.l0 k (n : Int) acc (((4 * j : Nat) : Int) - 4) = some (strOfNums (acc ++ dgs n j))
  | _, 0, _, _, _, h => by omega
  | 0, k + 1, acc, _, _, _ => by
    rw [spec_l01Hex.l0, if_neg (by omega), dgs, List.append_nil]
  | j + 1, k + 1, acc, hj, hl, hk => by
    have e : (((4 * (j + 1) : Nat) : Int) - 4) = ((4 * j : Nat) : Int) := by omega
    have hm : n / 16 ^ j % 16 < 16 := Nat.mod_lt _ (by decide)
    have hb := bt_lit ⟨n / 16 ^ j % 16, hm⟩
    have hw : IntKind.u64.wrap ((4 * j : Nat) : Int) = ((4 * j : Nat) : Int) := wraps_u64' _ (by omega) (by omega)
    rw [spec_l01Hex.l0, e, dig_at n j hn (by omega), if_pos (by omega), if_pos (by rw [hw]; omega), if_pos (by omega), if_pos (by omega), if_pos (by omega), hb, w64 (by omega) (by omega), hex_loop n hn j k _ (by omega) (by simp; omega) (by omega), dgs, List.append_assoc]
    rfl
theorem hex_spec (k a : Nat) (ha : a < 4294967296) (hk : 9 ≤ k) : spec_l01Hex.f k a = some ⟨(hexL a).toArray⟩ := by
  have hb : spec_l01Bits.f a = some ((bitsN a : Nat) : Int) := by
    unfold spec_l01Bits.f bitsN
    split
    · rfl
    · rw [w64 (by omega) (by omega)]
  unfold spec_l01Hex.f
  rw [hb, Option.bind_some]
  have h := hex_loop (bitsN a) (bitsN_lt ha) 8 k [] (by decide) (by decide) (by omega)
  rw [List.nil_append, hexL_eq] at h
  exact h
def hexTl (l : List Nat) : List UInt8 := (l.map fun x => (44 : UInt8) :: hexL x).flatten
theorem hexTl_len : ∀ l : List Nat, (hexTl l).length = 9 * l.length
  | [] => rfl
  | x :: l => by
    have := hexTl_len l
    unfold hexTl at this ⊢
    rw [List.map_cons, List.flatten_cons, List.length_append, this, List.length_cons, List.length_cons, hexL_len]; omega
def ntL : List Nat → List UInt8
  | [] => [110, 111, 110, 101]
  | x :: l => hexL x ++ hexTl l
theorem ntL_len (l : List Nat) : (ntL l).length ≤ 4 + 9 * l.length := by
  cases l with
  | nil => decide
  | cons x l => rw [ntL, List.length_append, hexL_len, hexTl_len, List.length_cons]; omega
theorem sz_arr (l : List UInt8) : (⟨l.toArray⟩ : ByteArray).size = l.length := by show (List.toArray _).size = _; simp
theorem arr_app (a b : List UInt8) : (⟨a.toArray⟩ : ByteArray) ++ ⟨b.toArray⟩ = ⟨(a ++ b).toArray⟩ := by
  apply ByteArray.ext
  rw [ByteArray.data_append]
  simp
theorem rdN_at {l : List Nat} {i : Nat} (h : i < l.length) : rdOf (0 : Nat) l (i : Int) = l[i]'h := by
  unfold rdOf
  rw [Int.toNat_natCast, List.getD_eq_getElem?_getD, List.getElem?_eq_getElem h]; rfl
theorem nt_loop (l : List Nat) (hx : ∀ x ∈ l, x < 4294967296) (hl : l.length ≤ 1048576) : ∀ (d i k : Nat) (acc : List UInt8), i + d = l.length → acc.length + 9 * d ≤ 10000000 → d + 9 < k → spec_l01NText.l0 k l ⟨acc.toArray⟩ (i : Int) = some ⟨(acc ++ hexTl (l.drop i)).toArray⟩
  | _, _, 0, _, _, _, h => by omega
  | 0, i, k + 1, acc, h1, h2, h3 => by
    obtain rfl : i = l.length := by omega
    rw [spec_l01NText.l0, if_neg (by omega), List.drop_length]
    show _ = some (⟨(acc ++ []).toArray⟩ : ByteArray)
    rw [List.append_nil]
  | d + 1, i, k + 1, acc, h1, h2, h3 => by
    have hi : i < l.length := by omega
    have e : ((i : Int) + 1) = ((i + 1 : Nat) : Int) := by omega
    have hz : (⟨#[44]⟩ : ByteArray) = ⟨([44] : List UInt8).toArray⟩ := rfl
    rw [spec_l01NText.l0, if_pos (by omega), if_pos (by omega), rdN_at hi, hex_spec k _ (hx _ (List.getElem_mem _)) (by omega), Option.bind_some, if_pos (by rw [sz_arr, hexL_len]; omega), hz, arr_app, if_pos (by rw [sz_arr, sz_arr, List.length_append, hexL_len]; simp; omega), arr_app, w64 (by omega) (by omega), e,
      nt_loop l hx hl d (i + 1) k _ (by omega) (by rw [List.length_append, List.length_append, hexL_len]; simp; omega) (by omega)]
    rw [List.drop_eq_getElem_cons hi]
    unfold hexTl
    rw [List.map_cons, List.flatten_cons, List.append_assoc]
    rfl
theorem nt_spec (l : List Nat) (hx : ∀ x ∈ l, x < 4294967296) (hl : l.length ≤ 1048576) (k : Nat) (hk : 1048600 ≤ k) : spec_l01NText.f k l = some ⟨(ntL l).toArray⟩ := by
  unfold spec_l01NText.f
  cases l with
  | nil => rfl
  | cons x l =>
    rw [if_neg (by rw [List.length_cons]; omega), if_pos (by rw [List.length_cons]; omega)]
    have h0 : rdOf (0 : Nat) (x :: l) 0 = x := rfl
    rw [h0, hex_spec k x (hx x List.mem_cons_self) (by omega), Option.bind_some]
    have h := nt_loop (x :: l) hx hl l.length 1 k (hexL x) (by rw [List.length_cons]; omega) (by rw [hexL_len]; rw [List.length_cons] at hl; omega) (by rw [List.length_cons] at hl; omega)
    exact h
theorem ni_loop (l : List Nat) (hx : ∀ x ∈ l, x < 4294967296) (hl : l.length ≤ 1048576) : ∀ (d i k : Nat) (ys : List ByteArray), i + d = l.length → ys.length = l.length → ys.take i = (l.take i).map (fun x => ⟨(hexL x).toArray⟩) → d < k → impl_numbersText.l0 k ys l (l.length : Int) (i : Int) = (strings_Join.f (l.map fun x => ⟨(hexL x).toArray⟩) (⟨#[44]⟩ : ByteArray)).bind fun t => some t
  | _, _, 0, _, _, _, _, h => by omega
  | 0, i, k + 1, ys, h1, h2, h3, h4 => by
    obtain rfl : i = l.length := by omega
    rw [impl_numbersText.l0, if_neg (by omega)]
    rw [List.take_of_length_le (by omega), List.take_length] at h3
    rw [h3]
  | d + 1, i, k + 1, ys, h1, h2, h3, h4 => by
    have hi : i < l.length := by omega
    have e : ((i : Int) + 1) = ((i + 1 : Nat) : Int) := by omega
    rw [impl_numbersText.l0, if_pos (by omega), if_pos (by omega), if_pos (by omega), rdN_at hi, hex_impl _ (hx _ (List.getElem_mem _)), Option.bind_some, if_pos (by omega), w64 (by omega) (by omega), e, Int.toNat_natCast]
    refine ni_loop l hx hl d (i + 1) k _ (by omega) (by rw [List.length_set]; exact h2) ?_ (by omega)
    rw [List.map_take] at h3 ⊢
    exact take_set_succ (xs := l.map fun x => (⟨(hexL x).toArray⟩ : ByteArray)) (by rw [List.length_map]; exact hi) (by rw [List.length_map]; exact h2) h3 (by rw [List.getElem?_map, List.getElem?_eq_getElem hi]; rfl)
theorem nt_impl (l : List Nat) (hx : ∀ x ∈ l, x < 4294967296) (hl : l.length ≤ 1048576) (k : Nat) (hk : 1048600 ≤ k) : impl_numbersText.f k l = some ⟨(ntL l).toArray⟩ := by
  unfold impl_numbersText.f
  cases l with
  | nil => rfl
  | cons x l =>
    rw [if_neg (by rw [List.length_cons]; omega), if_pos (by rw [List.length_cons]; omega), if_pos (by rw [Int.toNat_natCast]; omega), Int.toNat_natCast]
    have h := ni_loop (x :: l) hx hl (x :: l).length 0 k (List.replicate (x :: l).length (⟨#[]⟩ : ByteArray)) (by omega) (by rw [List.length_replicate]) rfl (by omega)
    refine h.trans ?_
    unfold strings_Join.f
    have hj : Lib.join (((x :: l).map fun x => (⟨(hexL x).toArray⟩ : ByteArray)).map (·.data.toList)) (⟨#[44]⟩ : ByteArray).data.toList = ntL (x :: l) := by
      rw [List.map_map]
      show Lib.join (_ :: _) [44] = _
      rw [Lib.join_cons, ntL]
      unfold Lib.joinTail hexTl
      rw [List.map_map]
      rfl
    have h5 := ntL_len (x :: l)
    rw [hj, if_pos ⟨by rw [List.length_map]; omega, by omega⟩]
    rfl
theorem fin_nan (x : Nat) (h : finB x = true) : (FloatKind.f32.format.read x).isNaN = false := by
  cases hr : FloatKind.f32.format.read x with
  | number s m e => rfl
  | infinity s => rfl
  | nan s t =>
    exfalso
    have : floatBits .sub .f32 x x = none := by
      simp [floatBits, Ieee.Format.sub, hr, Ieee.Datum.sum, Ieee.Datum.opposite]
    unfold finB foprOk at h
    rw [this] at h
    cases h
theorem gt_le (x : Nat) (h : finB x = true) : fgr .f32 x 0 = !fle .f32 x 0 := by
  have hn := fin_nan x h
  have h0 : FloatKind.f32.format.read 0 = .number false 0 (-149) := by decide +kernel
  unfold fgr fle Ieee.Format.order
  rw [h0]
  cases hr : FloatKind.f32.format.read x with
  | nan s t => rw [hr] at hn; cases hn
  | infinity s => cases s <;> rfl
  | number s m e =>
    have ho : ∃ o, (Ieee.Datum.number s m e).order (Ieee.Datum.number false 0 (-149)) = some o := ⟨_, rfl⟩
    obtain ⟨o, ho⟩ := ho
    rw [ho]
    cases o <;> rfl
def ab (x : Nat) : Bool := finB x && fgr .f32 x 0
theorem ab_spec (x : Nat) : spec_l02Above.f x = some (ab x) := by
  unfold spec_l02Above.f spec_l01Finite.f ab
  rw [Option.bind_some]
  cases finB x <;> rfl
theorem areas_spec (l : List Nat) (hl : l.length ≤ 16) (h1 : 1 ≤ l.length) : ∀ (d i k : Nat), i + d = l.length → 2 * d + 1 < k → spec_l02Areas.l0 k l (i : Int) = some ((l.drop i).all ab)
  | _, _, 0, _, h => by omega
  | _, _, 1, _, h => by omega
  | 0, i, k + 2, h2, h3 => by
    obtain rfl : i = l.length := by omega
    rw [spec_l02Areas.l0, if_neg (by omega), spec_l02Areas.j1, if_neg (by decide), if_pos (by omega), List.drop_length, decide_eq_true (by omega)]
    rfl
  | d + 1, i, k + 2, h2, h3 => by
    have hi : i < l.length := by omega
    have e : ((i : Int) + 1) = ((i + 1 : Nat) : Int) := by omega
    rw [spec_l02Areas.l0, if_pos (by omega), decide_eq_true (by omega), spec_l02Areas.j1, if_pos rfl, if_pos (by omega), if_pos (by omega), rdN_at hi, ab_spec, Option.bind_some, w64 (by omega) (by omega), e, areas_spec l hl h1 d (i + 1) k (by omega) (by omega), List.drop_eq_getElem_cons hi, List.all_cons]
    cases ab l[i] <;> rfl
theorem areas_long (l : List Nat) (hl : ¬ (1 ≤ l.length ∧ l.length ≤ 16)) (k : Nat) (hk : 2 ≤ k) : spec_l02Areas.f k l = some false := by
  obtain ⟨k, rfl⟩ : ∃ m, k = m + 2 := ⟨k - 2, by omega⟩
  unfold spec_l02Areas.f
  rw [spec_l02Areas.l0]
  by_cases c : l.length = 0
  · rw [if_neg (by omega), spec_l02Areas.j1, if_neg (by decide), if_neg (by omega)]
  · rw [if_pos (by omega), decide_eq_false (by omega), spec_l02Areas.j1, if_neg (by decide), if_pos (by omega), decide_eq_false (by omega)]
def ends (a b c : Nat) : Option Bool := if (fgr .f32 a 0) = true then (if (fle .f32 a 1065353216) = true then ((impl_isBetween.f b 3212836864 1065353216).bind fun t161 => (if t161 = true then ((impl_isBetween.f c 3212836864 1065353216).bind fun t162 => (some t162)) else (some false))) else (some false)) else (some false)
theorem ends_some (a b c : Nat) : ∃ r, ends a b c = some r := by
  unfold ends impl_isBetween.f
  by_cases h1 : (fgr .f32 a 0) = true
  · rw [if_pos h1]
    by_cases h2 : (fle .f32 a 1065353216) = true
    · rw [if_pos h2]
      by_cases h3 : (fge .f32 b 3212836864) = true
      · rw [if_pos h3, Option.bind_some]
        split
        · split <;> exact ⟨_, rfl⟩
        · exact ⟨_, rfl⟩
      · rw [if_neg h3, Option.bind_some]; exact ⟨_, rfl⟩
    · rw [if_neg h2]; exact ⟨_, rfl⟩
  · rw [if_neg h1]; exact ⟨_, rfl⟩
theorem areas_impl (l : List Nat) (hl : l.length ≤ 16) (a b c : Nat) : ∀ (d i k : Nat), i + d = l.length → d < k → impl_ValidTube.l0 k l (l.length : Int) (i : Int) l a b c = if ((l.drop i).all ab) = true then ends a b c else some false
  | _, _, 0, _, h => by omega
  | 0, i, k + 1, h2, h3 => by
    obtain rfl : i = l.length := by omega
    rw [impl_ValidTube.l0, if_neg (by omega), List.drop_length]
    rfl
  | d + 1, i, k + 1, h2, h3 => by
    have hi : i < l.length := by omega
    have e : ((i : Int) + 1) = ((i + 1 : Nat) : Int) := by omega
    rw [impl_ValidTube.l0, if_pos (by omega), if_pos (by omega), if_pos (by omega), rdN_at hi, impl_IsFinite.f, Option.bind_some, w64 (by omega) (by omega), e, areas_impl l hl a b c d (i + 1) k (by omega) (by omega), List.drop_eq_getElem_cons hi, List.all_cons]
    unfold ab
    by_cases f : finB l[i] = true
    · rw [gt_le _ f, f]
      cases fle .f32 l[i] 0
      · simp
      · simp
    · rw [Bool.not_eq_true] at f
      rw [f]; simp
theorem valid_both (l : List Nat) (a b c : Nat) (k : Nat) (hk : 1048600 ≤ k) : ∃ r, spec_l02Is.f k [(⟨l, a, b, c⟩ : S43)] = some r ∧ impl_ValidTube.f k l a b c = some r := by
  have hr : rd_T43 [(⟨l, a, b, c⟩ : S43)] 0 = ⟨l, a, b, c⟩ := rfl
  unfold spec_l02Is.f
  rw [if_pos (show (0 : Int) < (([(⟨l, a, b, c⟩ : S43)] : List S43).length : Int) by show (0 : Int) < 1; decide), hr]
  dsimp only
  by_cases h : 1 ≤ l.length ∧ l.length ≤ 16
  · have h1 : spec_l02Areas.f k l = some (l.all ab) := areas_spec l h.2 h.1 l.length 0 k (by omega) (by omega)
    have h2 : impl_ValidTube.l0 k l (l.length : Int) 0 l a b c = if l.all ab = true then ends a b c else some false := areas_impl l h.2 a b c l.length 0 k (by omega) (by omega)
    have h3 : impl_within.f (l.length : Int) 1 16 = some true := by
      unfold impl_within.f; rw [if_pos (by omega), decide_eq_true (by omega)]
    unfold impl_ValidTube.f
    rw [h1, h3, Option.bind_some, Option.bind_some, if_pos rfl, h2]
    obtain ⟨r, hr⟩ := ends_some a b c
    cases l.all ab
    · exact ⟨false, rfl, rfl⟩
    · exact ⟨r, hr, hr⟩
  · have h3 : impl_within.f (l.length : Int) 1 16 = some false := by
      unfold impl_within.f
      split
      · rw [decide_eq_false (by omega)]
      · rfl
    unfold impl_ValidTube.f
    rw [areas_long l h k (by omega), h3]
    exact ⟨false, rfl, rfl⟩
theorem text_both (l : List Nat) (a b c : Nat) (hx : ∀ x ∈ l, x < 4294967296) (ha : a < 4294967296) (hb : b < 4294967296) (hc : c < 4294967296) (hl : l.length ≤ 1048576) (k : Nat) (hk : 1048600 ≤ k) : ∃ t, spec_l08Tube.f k [(⟨l, a, b, c⟩ : S43)] = some t ∧ impl_tubeText.f k l a b c = some t := by
  have hr : rd_T43 [(⟨l, a, b, c⟩ : S43)] 0 = ⟨l, a, b, c⟩ := rfl
  have hg' : ∀ x ∈ [a, b, c], x < 4294967296 := by
    intro x h
    rcases List.mem_cons.1 h with rfl | h
    · exact ha
    rcases List.mem_cons.1 h with rfl | h
    · exact hb
    rw [List.mem_singleton] at h; rw [h]; exact hc
  have h1 := nt_spec l hx hl k hk
  have h2 := nt_impl l hx hl k hk
  have h3 := nt_spec [a, b, c] hg' (by simp) k hk
  have h4 := nt_impl [a, b, c] hg' (by simp) k hk
  have s1 := ntL_len l
  have s2 := ntL_len [a, b, c]
  have hz : (⟨#[59]⟩ : ByteArray) = ⟨([59] : List UInt8).toArray⟩ := rfl
  have hone : [a, b, c].length = 3 := rfl
  have hone2 : ([59] : List UInt8).length = 1 := rfl
  unfold spec_l08Tube.f impl_tubeText.f
  rw [if_pos (show (0 : Int) < (([(⟨l, a, b, c⟩ : S43)] : List S43).length : Int) by show (0 : Int) < 1; decide), hr]
  dsimp only
  rw [h1, h2, h3, h4]
  simp only [Option.bind_some]
  have c1 : (⟨(ntL l).toArray⟩ : ByteArray).size + 1 ≤ 9223372036854775807 := by rw [sz_arr]; omega
  have c2 : ((⟨(ntL l).toArray⟩ : ByteArray) ++ (⟨#[59]⟩ : ByteArray)).size + (⟨(ntL [a, b, c]).toArray⟩ : ByteArray).size ≤ 9223372036854775807 := by
    rw [hz, arr_app, sz_arr, sz_arr, List.length_append]; omega
  rw [if_pos c1, if_pos c2]
  exact ⟨_, rfl, rfl⟩
theorem pure (l : List Nat) (a b c : Nat) (h0 : l.length ≤ 9223372036854775807) (hx : ∀ x ∈ l, x < 4294967296) (ha : a < 4294967296) (hb : b < 4294967296) (hc : c < 4294967296) : laws_FnExactTubeText.f 1048610 l a b c = some true := by
  unfold laws_FnExactTubeText.f laws_szTube.f
  obtain ⟨r0, e0, hr0⟩ := szF_some l h0 1048576 (by omega) (by omega)
  rw [e0, Option.bind_some]
  by_cases cc : r0 < 0
  · rw [if_pos cc, Option.bind_some, if_pos (by decide)]
  · have hl : l.length ≤ 1048576 := by omega
    rw [if_neg cc, Option.bind_some, if_neg cc]
    have ht : ∀ k, 1048577 ≤ k → laws_toTube.f k l a b c = some (l, a, b, c) := by
      intro k hk
      unfold laws_toTube.f
      rw [toF_some l hl k hk, Option.bind_some]
    have he : laws_eqTube.f l a b c l a b c = some true := by
      unfold laws_eqTube.f
      rw [if_pos ⟨rfl, rfl, rfl, rfl, hl, hx, ha, hb, hc⟩]
    have hj : laws_FnExactTubeText.j0 1048610 false l a b c l a b c = some true := by
      show laws_FnExactTubeText.j0 (1048609 + 1) false l a b c l a b c = some true
      rw [laws_FnExactTubeText.j0, if_neg (by decide), ht 1048609 (by omega), Option.bind_some]
      dsimp only
      rw [he, Option.bind_some, if_pos rfl]
    obtain ⟨r, v1, v2⟩ := valid_both l a b c 1048610 (by omega)
    obtain ⟨t, t1, t2⟩ := text_both l a b c hx ha hb hc hl 1048610 (by omega)
    rw [ht 1048610 (by omega)]
    simp only [Option.bind_some]
    unfold spec_TubeText.f impl_TubeText.f
    rw [v1, v2, t1, t2]
    simp only [Option.bind_some]
    cases r
    · rw [if_neg (by decide)]
      simp only [Option.bind_some, if_true]
      exact hj
    · rw [if_pos rfl]
      simp only [Option.bind_some, if_true]
      exact hj
end Go.Proofs.YtbojmdjghfhmbaaDoor.TtPure
namespace Go.Proofs.YtbojmdjghfhmbaaDoor
open Go.RowKit Go.Proofs.YtbojmdjghfhmbaaDoorW.PrintWords Go.Proofs.YtbojmdjghfhmbaaDoorW.PrintFl Go.ChangeShapes Go.WideShapes
abbrev tubeKd : Kd (List Nat × Nat × Nat × Nat) := Kd.iso (Kd.pair (Kd.slice 22 (Kd.float .f32)) (Kd.pair (Kd.float .f32) (Kd.pair (Kd.float .f32) (Kd.float .f32)))) (fun x : List Nat × Nat × Nat × Nat => x)
abbrev tubeOk (x : List Nat × Nat × Nat × Nat) : Prop := (x.1.length ≤ 9223372036854775807 ∧ ∀ y ∈ x.1, y < 4294967296) ∧ x.2.1 < 4294967296 ∧ x.2.2.1 < 4294967296 ∧ x.2.2.2 < 4294967296
theorem opens_tube : Opens Tryd.prog 40 tubeKd tubeOk :=
  opens_imp (opens_struct (P := Tryd.prog) (fun x : List Nat × Nat × Nat × Nat => x) (fun x => x) (fun _ => rfl) Tryd.underlying40 rfl (N := 4) (by kernel_rfl)
    (opensF_cons rfl (off' := 1) (by kernel_rfl) (opens_slice (B := 4) _ Tryd.underlying30 (by kernel_rfl) (by kernel_rfl) (opens_raw Tryd.underlying22))
      (opensF_cons rfl (off' := 2) (by kernel_rfl) (opens_raw Tryd.underlying22) (opensF_cons rfl (off' := 3) (by kernel_rfl) (opens_raw Tryd.underlying22) (opensF_last rfl (by kernel_rfl) (opens_raw Tryd.underlying22))))))
    (fun x h => ⟨⟨h.1.1, h.1.2.2⟩, h.2.1, h.2.2.1, h.2.2.2⟩)
theorem tubeText_w (cs0 : Array Value) (y0 : List Nat × Nat × Nat × Nat) (w : World) (hT : GLh w) (k0 : tubeKd.K w y0 cs0.toList) (z0 : tubeOk y0) :
    Calls Tryd.prog 5 #[.agg cs0] w fun e w' => e = .returned (.bool true) ∧ Below w.heap.size w w' := by
  obtain ⟨_, _, e0, ⟨A0, c0, rfl, hl0, hr0⟩, _, _, rfl, rfl, _, _, rfl, rfl, rfl⟩ := k0
  obtain rfl : cs0 = #[.slice A0 y0.1.length c0, .float .f32 y0.2.1, .float .f32 y0.2.2.1, .float .f32 y0.2.2.2] := by rw [← Array.toArray_toList (xs := cs0), e0]; rfl
  exact PFnExactTubeText.laws_FnExactTubeText.calls 1048610 A0 c0 y0.1 y0.2.1 y0.2.2.1 y0.2.2.2 true w hr0 hl0 hT (TtPure.pure y0.1 y0.2.1 y0.2.2.1 y0.2.2.2 z0.1.1 z0.1.2 z0.2.1 z0.2.2.1 z0.2.2.2)
end Go.Proofs.YtbojmdjghfhmbaaDoor
