import Derived.Test.YtbojmdjghfhmbaaDoorPFnExactThroatTextx
import Derived.Test.YtbojmdjghfhmbaaDoorLm
import Derived.Test.YtbojmdjghfhmbaaDoorOf
set_option linter.unusedVariables false
set_option linter.unusedSimpArgs false
namespace Go.Proofs.YtbojmdjghfhmbaaDoor.ThPure
open Go.RowKit Go.Proofs.YtbojmdjghfhmbaaDoorW.PrintWords Go.Proofs.YtbojmdjghfhmbaaDoorW.PrintMore Go.Proofs.YtbojmdjghfhmbaaDoorW.PrintFl Go.Proofs.YtbojmdjghfhmbaaDoor Go.Proofs.YtbojmdjghfhmbaaDoor.PFnExactThroatText Go.Proofs.YtbojmdjghfhmbaaDoor.Lm
theorem w64 {x : Int} (h0 : -9223372036854775808 ≤ x) (h1 : x ≤ 9223372036854775807) : wrap64 x = x := by
  unfold wrap64; omega
def bitsN (a : Nat) : Nat := if fne .f32 a a = true then 2143289344 else a
theorem bitsN_lt {a : Nat} (h : a < 4294967296) : bitsN a < 4294967296 := by unfold bitsN; split <;> omega
def hexL (a : Nat) : List UInt8 := (strOfNums (dgs (bitsN a) 8)).data.toList
theorem hexL_len (a : Nat) : (hexL a).length = 8 := by
  unfold hexL strOfNums
  rw [List.toList_toArray, List.length_map, hx_len]
theorem hexL_eq (a : Nat) : strOfNums (dgs (bitsN a) 8) = ⟨(hexL a).toArray⟩ := by unfold hexL; rfl
theorem dgs_hi (n : Nat) : ∀ j, j ≤ 8 → dgs (n + 4294967296) j = dgs n j
  | 0, _ => rfl
  | j + 1, h => by
    rw [dgs, dgs, dgs_hi n j (by omega)]
    have h2 : (n + 4294967296) / 16 ^ j % 16 = n / 16 ^ j % 16 := by
      have h3 : j = 0 ∨ j = 1 ∨ j = 2 ∨ j = 3 ∨ j = 4 ∨ j = 5 ∨ j = 6 ∨ j = 7 := by omega
      rcases h3 with rfl | rfl | rfl | rfl | rfl | rfl | rfl | rfl <;> (simp only [Nat.reducePow]; omega)
    rw [h2]
theorem str_tail (x : Int) (l : List Int) (n : Nat) (hn : n = (strOfNums (x :: l)).size) : (strOfNums (x :: l)).extract 1 n = strOfNums l := by
  have hs : (strOfNums (x :: l)).size = l.length + 1 := by unfold strOfNums; show (List.toArray _).size = _; simp
  apply ByteArray.ext
  apply Array.toList_inj.1
  rw [ByteArray.data_extract, Array.toList_extract]
  unfold strOfNums
  rw [List.toList_toArray, List.toList_toArray, List.map_cons, hn, hs]
  simp [List.extract]
  exact List.take_of_length_le (by rw [List.length_map]; exact Nat.le_refl _)
theorem hex_impl (a : Nat) (ha : a < 4294967296) : impl_hexText.f a = some ⟨(hexL a).toArray⟩ := by
  have hb : impl_BitsOf.f a = some ((bitsN a : Nat) : Int) := by
    unfold impl_BitsOf.f bitsN
    split
    · rfl
    · rw [w64 (by omega) (by omega)]
  have hl := bitsN_lt ha
  unfold impl_hexText.f strconv_FormatInt.f
  rw [hb, Option.bind_some, w64 (by omega) (by omega), if_pos ⟨by omega, by omega, rfl⟩, Option.bind_some]
  have e : (((bitsN a : Nat) : Int) + 4294967296).toNat = bitsN a + 4294967296 := by omega
  have hs : (strOfNums (dgs (bitsN a + 4294967296) 9)).size = 9 := by
    unfold strOfNums; show (List.toArray _).size = _; rw [List.size_toArray, List.length_map, hx_len]
  rw [e, if_pos (by rw [hs]; decide), dgs, dgs_hi _ 8 (Nat.le_refl _), str_tail _ _ _ rfl, hexL_eq]
theorem wrapi64 (n : Int) (h₀ : 0 ≤ n) (h₁ : n < 2 ^ 63) : IntKind.i64.wrap n = n := by rw [IntKind.wrap_i64]; omega
theorem bt_lit : ∀ m : Fin 16, bt (⟨#[48, 49, 50, 51, 52, 53, 54, 55, 56, 57, 97, 98, 99, 100, 101, 102]⟩ : ByteArray) (m.1 : Int) = hexd m.1 := by decide
theorem dig_at (n j : Nat) (hn : n < 4294967296) (hj : j < 8) : Go.bits .and .i64 (shr .i64 (n : Int) (IntKind.u64.wrap ((4 * j : Nat) : Int))) 15 = ((n / 16 ^ j % 16 : Nat) : Int) := by
  have hw : IntKind.u64.wrap ((4 * j : Nat) : Int) = ((4 * j : Nat) : Int) := wraps_u64' _ (by omega) (by omega)
  have hs : shr .i64 (n : Int) ((4 * j : Nat) : Int) = ((n / 16 ^ j : Nat) : Int) := by
    unfold shr
    rw [Int.toNat_natCast]
    have h3 : j = 0 ∨ j = 1 ∨ j = 2 ∨ j = 3 ∨ j = 4 ∨ j = 5 ∨ j = 6 ∨ j = 7 := by omega
    rcases h3 with rfl | rfl | rfl | rfl | rfl | rfl | rfl | rfl <;> rfl
  have hle : n / 16 ^ j ≤ n := Nat.div_le_self _ _
  rw [hw, hs]
  generalize n / 16 ^ j = q at hle ⊢
  have hb := bits_mask .i64 63 (by decide) (fun x h0 h1 => wrapi64 x h0 h1) 4 (by decide) (q : Int) (by omega) (by omega)
  rw [show ((2 : Int) ^ 4 - 1) = 15 from rfl, show ((2 : Int) ^ 4) = 16 from rfl] at hb
  rw [hb]; omega
theorem hex_loop (n : Nat) (hn : n < 4294967296) : ∀ (j k : Nat) (acc : List Int), j ≤ 8 → acc.length + j ≤ 8 → j < k → spec_l01Hex.l0 k (n : Int) acc (((4 * j : Nat) : Int) - 4) = some (strOfNums (acc ++ dgs n j))
  | _, 0, _, _, _, h => by omega
  | 0, k + 1, acc, _, _, _ => by
    rw [spec_l01Hex.l0, if_neg (by omega), dgs, List.append_nil]
  | j + 1, k + 1, acc, hj, hl, hk => by
    have e : (((4 * (j + 1) : Nat) : Int) - 4) = ((4 * j : Nat) : Int) := by omega
    have hm : n / 16 ^ j % 16 < 16 := Nat.mod_lt _ (by decide)
    have hb := bt_lit ⟨n / 16 ^ j % 16, hm⟩
    have hw : IntKind.u64.wrap ((4 * j : Nat) : Int) = ((4 * j : Nat) : Int) := wraps_u64' _ (by omega) (by omega)
    rw [spec_l01Hex.l0, e, dig_at n j hn (by omega), if_pos (by omega), if_pos (by rw [hw]; omega), if_pos (by omega), if_pos (by omega), if_pos (by omega), hb, w64 (by omega) (by omega), hex_loop n hn j k _ (by omega) (by simp; omega) (by omega), dgs, List.append_assoc]
    rfl
theorem hex_spec (k a : Nat) (ha : a < 4294967296) (hk : 9 ≤ k) : spec_l01Hex.f k a = some ⟨(hexL a).toArray⟩ := by
  have hb : spec_l01Bits.f a = some ((bitsN a : Nat) : Int) := by
    unfold spec_l01Bits.f bitsN
    split
    · rfl
    · rw [w64 (by omega) (by omega)]
  unfold spec_l01Hex.f
  rw [hb, Option.bind_some]
  have h := hex_loop (bitsN a) (bitsN_lt ha) 8 k [] (by decide) (by decide) (by omega)
  rw [List.nil_append, hexL_eq] at h
  exact h
def hexTl (l : List Nat) : List UInt8 := (l.map fun x => (44 : UInt8) :: hexL x).flatten
theorem hexTl_len : ∀ l : List Nat, (hexTl l).length = 9 * l.length
  | [] => rfl
  | x :: l => by
    have := hexTl_len l
    unfold hexTl at this ⊢
    rw [List.map_cons, List.flatten_cons, List.length_append, this, List.length_cons, List.length_cons, hexL_len]; omega
def ntL : List Nat → List UInt8
  | [] => [110, 111, 110, 101]
  | x :: l => hexL x ++ hexTl l
theorem ntL_len (l : List Nat) : (ntL l).length ≤ 4 + 9 * l.length := by
  cases l with
  | nil => decide
  | cons x l => rw [ntL, List.length_append, hexL_len, hexTl_len, List.length_cons]; omega
theorem sz_arr (l : List UInt8) : (⟨l.toArray⟩ : ByteArray).size = l.length := by show (List.toArray _).size = _; simp
theorem arr_app (a b : List UInt8) : (⟨a.toArray⟩ : ByteArray) ++ ⟨b.toArray⟩ = ⟨(a ++ b).toArray⟩ := by
  apply ByteArray.ext
  rw [ByteArray.data_append]
  simp
theorem rdN_at {l : List Nat} {i : Nat} (h : i < l.length) : rdOf (0 : Nat) l (i : Int) = l[i]'h := by
  unfold rdOf
  rw [Int.toNat_natCast, List.getD_eq_getElem?_getD, List.getElem?_eq_getElem h]; rfl
theorem nt_loop (l : List Nat) (hx : ∀ x ∈ l, x < 4294967296) (hl : l.length ≤ 1048576) : ∀ (d i k : Nat) (acc : List UInt8), i + d = l.length → acc.length + 9 * d ≤ 10000000 → d + 9 < k → spec_l01NText.l0 k l ⟨acc.toArray⟩ (i : Int) = some ⟨(acc ++ hexTl (l.drop i)).toArray⟩
  | _, _, 0, _, _, _, h => by omega
  | 0, i, k + 1, acc, h1, h2, h3 => by
    obtain rfl : i = l.length := by omega
    rw [spec_l01NText.l0, if_neg (by omega), List.drop_length]
    show _ = some (⟨(acc ++ []).toArray⟩ : ByteArray)
    rw [List.append_nil]
  | d + 1, i, k + 1, acc, h1, h2, h3 => by
    have hi : i < l.length := by omega
    have e : ((i : Int) + 1) = ((i + 1 : Nat) : Int) := by omega
    have hz : (⟨#[44]⟩ : ByteArray) = ⟨([44] : List UInt8).toArray⟩ := rfl
    rw [spec_l01NText.l0, if_pos (by omega), if_pos (by omega), rdN_at hi, hex_spec k _ (hx _ (List.getElem_mem _)) (by omega), Option.bind_some, if_pos (by rw [sz_arr, hexL_len]; omega), hz, arr_app, if_pos (by rw [sz_arr, sz_arr, List.length_append, hexL_len]; simp; omega), arr_app, w64 (by omega) (by omega), e,
      nt_loop l hx hl d (i + 1) k _ (by omega) (by rw [List.length_append, List.length_append, hexL_len]; simp; omega) (by omega)]
    rw [List.drop_eq_getElem_cons hi]
    unfold hexTl
    rw [List.map_cons, List.flatten_cons, List.append_assoc]
    rfl
theorem nt_spec (l : List Nat) (hx : ∀ x ∈ l, x < 4294967296) (hl : l.length ≤ 1048576) (k : Nat) (hk : 1048600 ≤ k) : spec_l01NText.f k l = some ⟨(ntL l).toArray⟩ := by
  unfold spec_l01NText.f
  cases l with
  | nil => rfl
  | cons x l =>
    rw [if_neg (by rw [List.length_cons]; omega), if_pos (by rw [List.length_cons]; omega)]
    have h0 : rdOf (0 : Nat) (x :: l) 0 = x := rfl
    rw [h0, hex_spec k x (hx x List.mem_cons_self) (by omega), Option.bind_some]
    have h := nt_loop (x :: l) hx hl l.length 1 k (hexL x) (by rw [List.length_cons]; omega) (by rw [hexL_len]; rw [List.length_cons] at hl; omega) (by rw [List.length_cons] at hl; omega)
    exact h
theorem ni_loop (l : List Nat) (hx : ∀ x ∈ l, x < 4294967296) (hl : l.length ≤ 1048576) : ∀ (d i k : Nat) (ys : List ByteArray), i + d = l.length → ys.length = l.length → ys.take i = (l.take i).map (fun x => ⟨(hexL x).toArray⟩) → d < k → impl_numbersText.l0 k ys l (l.length : Int) (i : Int) = (strings_Join.f (l.map fun x => ⟨(hexL x).toArray⟩) (⟨#[44]⟩ : ByteArray)).bind fun t => some t
  | _, _, 0, _, _, _, _, h => by omega
  | 0, i, k + 1, ys, h1, h2, h3, h4 => by
    obtain rfl : i = l.length := by omega
    rw [impl_numbersText.l0, if_neg (by omega)]
    rw [List.take_of_length_le (by omega), List.take_length] at h3
    rw [h3]
  | d + 1, i, k + 1, ys, h1, h2, h3, h4 => by
    have hi : i < l.length := by omega
    have e : ((i : Int) + 1) = ((i + 1 : Nat) : Int) := by omega
    rw [impl_numbersText.l0, if_pos (by omega), if_pos (by omega), if_pos (by omega), rdN_at hi, hex_impl _ (hx _ (List.getElem_mem _)), Option.bind_some, if_pos (by omega), w64 (by omega) (by omega), e, Int.toNat_natCast]
    refine ni_loop l hx hl d (i + 1) k _ (by omega) (by rw [List.length_set]; exact h2) ?_ (by omega)
    rw [List.map_take] at h3 ⊢
    exact take_set_succ (xs := l.map fun x => (⟨(hexL x).toArray⟩ : ByteArray)) (by rw [List.length_map]; exact hi) (by rw [List.length_map]; exact h2) h3 (by rw [List.getElem?_map, List.getElem?_eq_getElem hi]; rfl)
theorem nt_impl (l : List Nat) (hx : ∀ x ∈ l, x < 4294967296) (hl : l.length ≤ 1048576) (k : Nat) (hk : 1048600 ≤ k) : impl_numbersText.f k l = some ⟨(ntL l).toArray⟩ := by
  unfold impl_numbersText.f
  cases l with
  | nil => rfl
  | cons x l =>
    rw [if_neg (by rw [List.length_cons]; omega), if_pos (by rw [List.length_cons]; omega), if_pos (by rw [Int.toNat_natCast]; omega), Int.toNat_natCast]
    have h := ni_loop (x :: l) hx hl (x :: l).length 0 k (List.replicate (x :: l).length (⟨#[]⟩ : ByteArray)) (by omega) (by rw [List.length_replicate]) rfl (by omega)
    refine h.trans ?_
    unfold strings_Join.f
    have hj : Lib.join (((x :: l).map fun x => (⟨(hexL x).toArray⟩ : ByteArray)).map (·.data.toList)) (⟨#[44]⟩ : ByteArray).data.toList = ntL (x :: l) := by
      rw [List.map_map]
      show Lib.join (_ :: _) [44] = _
      rw [Lib.join_cons, ntL]
      unfold Lib.joinTail hexTl
      rw [List.map_map]
      rfl
    have h5 := ntL_len (x :: l)
    rw [hj, if_pos ⟨by rw [List.length_map]; omega, by omega⟩]
    rfl
theorem num_fin {x : Nat} {s : Bool} {m : Nat} {e : Int} (h : FloatKind.f32.format.read x = .number s m e) : finB x = true := by
  have h1 : floatBits .sub .f32 x x = some 0 := by
    show ((FloatKind.f32.format.read x).sum (FloatKind.f32.format.read x).opposite).map FloatKind.f32.format.write = _
    rw [h]
    have ht : Ieee.signed s m (e - min e e).toNat + Ieee.signed (!s) m (e - min e e).toNat = 0 := by
      unfold Ieee.signed
      cases s <;> simp <;> omega
    simp only [Ieee.Datum.opposite, Ieee.Datum.sum, ht, if_true]
    cases s <;> rfl
  unfold finB foprOk fopr
  rw [h1]
  have h0 : feq .f32 0 0 = true := by decide +kernel
  exact h0
theorem gr_cases {x : Nat} (h : fgr .f32 x 0 = true) : FloatKind.f32.format.read x = .infinity false ∨ ∃ s m e, FloatKind.f32.format.read x = .number s m e := by
  have h0 : FloatKind.f32.format.read 0 = .number false 0 (-149) := by decide +kernel
  unfold fgr Ieee.Format.order at h
  rw [h0] at h
  cases hr : FloatKind.f32.format.read x with
  | nan s t => rw [hr] at h; cases h
  | infinity s => cases s with
    | false => exact .inl rfl
    | true => rw [hr] at h; cases h
  | number s m e => exact .inr ⟨s, m, e, rfl⟩
theorem inf_word : FloatKind.f32.format.write (.infinity false) = 2139095040 := by decide +kernel
theorem inf_le : fle .f32 2139095040 1065353216 = false := by decide +kernel
theorem add_some {x y : Nat} (hx : fgr .f32 x 0 = true) (hy : fgr .f32 y 0 = true) : foprOk .add .f32 x y = true ∧ (finB x = true ∧ finB y = true ∨ fle .f32 (fopr .add .f32 x y) 1065353216 = false) := by
  have hb : floatBits .add .f32 x y = ((FloatKind.f32.format.read x).sum (FloatKind.f32.format.read y)).map FloatKind.f32.format.write := rfl
  have key : ∀ d, (FloatKind.f32.format.read x).sum (FloatKind.f32.format.read y) = some d → foprOk .add .f32 x y = true ∧ fopr .add .f32 x y = FloatKind.f32.format.write d := by
    intro d hd
    unfold foprOk fopr
    rw [hb, hd]
    exact ⟨rfl, rfl⟩
  rcases gr_cases hx with h1 | ⟨s, m, e, h1⟩ <;> rcases gr_cases hy with h2 | ⟨s2, m2, e2, h2⟩
  · obtain ⟨k1, k2⟩ := key (.infinity false) (by rw [h1, h2]; rfl)
    exact ⟨k1, .inr (by rw [k2, inf_word]; exact inf_le)⟩
  · obtain ⟨k1, k2⟩ := key (.infinity false) (by rw [h1, h2]; rfl)
    exact ⟨k1, .inr (by rw [k2, inf_word]; exact inf_le)⟩
  · obtain ⟨k1, k2⟩ := key (.infinity false) (by rw [h1, h2]; rfl)
    exact ⟨k1, .inr (by rw [k2, inf_word]; exact inf_le)⟩
  · obtain ⟨k1, k2⟩ := key _ (by rw [h1, h2]; rfl)
    exact ⟨k1, .inl ⟨num_fin h1, num_fin h2⟩⟩
def lastB (b s : Nat) : Bool := finB b && fge .f32 b 0 && fge .f32 s 0 && fle .f32 s 1056964608
theorem last_spec (b s : Nat) : ((spec_l02Least.f b).bind fun t119 => (if t119 = true then (if (fge .f32 s 0) = true then (some (fle .f32 s 1056964608)) else (some false)) else (some false))) = some (lastB b s) := by
  unfold spec_l02Least.f spec_l01Finite.f lastB
  cases finB b <;> cases fge .f32 b 0 <;> cases fge .f32 s 0 <;> rfl
theorem last_impl (b s : Nat) : ((impl_IsFinite.f b).bind fun t157 => (if t157 = true then (if (fge .f32 b 0) = true then ((impl_isBetween.f s 0 1056964608).bind fun t158 => (some t158)) else (some false)) else (some false))) = some (lastB b s) := by
  unfold impl_IsFinite.f impl_isBetween.f lastB
  cases finB b <;> cases fge .f32 b 0 <;> cases fge .f32 s 0 <;> rfl
theorem mid (o c : Nat) (X : Bool) : ∃ t : Bool,
    ((spec_l02Above.f o).bind fun t109 => (if t109 = true then ((spec_l02Above.f c).bind fun t112 => (if t112 = true then (if (foprOk .add .f32 o c) = true then (if (fle .f32 (fopr .add .f32 o c) 1065353216) = true then (some X) else (some false)) else (none)) else (some false))) else (some false))) = some t
    ∧ (if (fgr .f32 o 0) = true then (if (fgr .f32 c 0) = true then (if (foprOk .add .f32 o c) = true then (if (fle .f32 (fopr .add .f32 o c) 1065353216) = true then (some X) else (some false)) else (none)) else (some false)) else (some false)) = some t := by
  have ha : ∀ x, spec_l02Above.f x = some (finB x && fgr .f32 x 0) := by
    intro x
    unfold spec_l02Above.f spec_l01Finite.f
    cases finB x <;> rfl
  rw [ha o, ha c]
  by_cases h1 : fgr .f32 o 0 = true
  · by_cases h2 : fgr .f32 c 0 = true
    · obtain ⟨k1, k2⟩ := add_some h1 h2
      rw [h1, h2, k1]
      rcases k2 with ⟨f1, f2⟩ | k3
      · rw [f1, f2]
        cases fle .f32 (fopr .add .f32 o c) 1065353216
        · exact ⟨false, rfl, rfl⟩
        · exact ⟨X, rfl, rfl⟩
      · rw [k3]
        refine ⟨false, ?_, rfl⟩
        cases finB o <;> cases finB c <;> rfl
    · rw [Bool.not_eq_true] at h2
      rw [h1, h2]
      refine ⟨false, ?_, rfl⟩
      cases finB o <;> cases finB c <;> rfl
  · rw [Bool.not_eq_true] at h1
    rw [h1]
    refine ⟨false, ?_, rfl⟩
    cases finB o <;> rfl
theorem valid_both (p o c b s : Nat) : ∃ r, spec_l03Throat.f [(⟨p, o, c, b, s⟩ : S27)] = some r ∧ impl_ValidThroat.f p o c b s = some r := by
  have hr : rd_T27 [(⟨p, o, c, b, s⟩ : S27)] 0 = ⟨p, o, c, b, s⟩ := rfl
  unfold spec_l03Throat.f
  rw [if_pos (show (0 : Int) < (([(⟨p, o, c, b, s⟩ : S27)] : List S27).length : Int) by show (0 : Int) < 1; decide), hr]
  dsimp only
  unfold impl_ValidThroat.f
  rw [last_spec, last_impl]
  have hb : impl_isBetween.f p 1073741824 1148846080 = some (fge .f32 p 1073741824 && fle .f32 p 1148846080) := by
    unfold impl_isBetween.f
    cases fge .f32 p 1073741824 <;> rfl
  obtain ⟨t, m1, m2⟩ := mid o c (lastB b s)
  rw [m1, m2, hb, Option.bind_some]
  cases fge .f32 p 1073741824 <;> cases fle .f32 p 1148846080 <;> first | exact ⟨t, rfl, rfl⟩ | exact ⟨false, rfl, rfl⟩
theorem pure (p o c b s : Nat) (hp : p < 4294967296) (ho : o < 4294967296) (hc : c < 4294967296) (hb : b < 4294967296) (hs : s < 4294967296) : laws_FnExactThroatText.f 1048610 p o c b s = some true := by
  have hg' : ∀ x ∈ [p, o, c, b, s], x < 4294967296 := by
    intro x h
    simp only [List.mem_cons, List.not_mem_nil, or_false] at h
    rcases h with rfl | rfl | rfl | rfl | rfl <;> assumption
  have h3 := nt_spec [p, o, c, b, s] hg' (by simp) 1048610 (by omega)
  have h4 := nt_impl [p, o, c, b, s] hg' (by simp) 1048610 (by omega)
  have hr : rd_T27 [(⟨p, o, c, b, s⟩ : S27)] 0 = ⟨p, o, c, b, s⟩ := rfl
  obtain ⟨r, v1, v2⟩ := valid_both p o c b s
  have t1 : spec_l08Throat.f 1048610 [(⟨p, o, c, b, s⟩ : S27)] = some ⟨(ntL [p, o, c, b, s]).toArray⟩ := by
    unfold spec_l08Throat.f
    rw [if_pos (show (0 : Int) < (([(⟨p, o, c, b, s⟩ : S27)] : List S27).length : Int) by show (0 : Int) < 1; decide), hr]
    dsimp only
    rw [h3, Option.bind_some]
  have t2 : impl_throatText.f 1048610 p o c b s = some ⟨(ntL [p, o, c, b, s]).toArray⟩ := by
    unfold impl_throatText.f
    rw [h4, Option.bind_some]
  unfold laws_FnExactThroatText.f laws_toThroat.f
  simp only [Option.bind_some]
  unfold spec_ThroatText.f impl_ThroatText.f
  rw [v1, v2, t1, t2]
  simp only [Option.bind_some]
  cases r
  · rw [if_neg (by decide)]
    simp only [Option.bind_some, if_true]
    rfl
  · rw [if_pos rfl]
    simp only [Option.bind_some, if_true]
    rfl
end Go.Proofs.YtbojmdjghfhmbaaDoor.ThPure
namespace Go.Proofs.YtbojmdjghfhmbaaDoor
open Go.RowKit Go.Proofs.YtbojmdjghfhmbaaDoorW.PrintWords Go.Proofs.YtbojmdjghfhmbaaDoorW.PrintFl Go.ChangeShapes Go.WideShapes
abbrev throatKd : Kd (Nat × Nat × Nat × Nat × Nat) := Kd.iso (Kd.pair (Kd.float .f32) (Kd.pair (Kd.float .f32) (Kd.pair (Kd.float .f32) (Kd.pair (Kd.float .f32) (Kd.float .f32))))) (fun x : Nat × Nat × Nat × Nat × Nat => x)
abbrev throatOk (x : Nat × Nat × Nat × Nat × Nat) : Prop := x.1 < 4294967296 ∧ x.2.1 < 4294967296 ∧ x.2.2.1 < 4294967296 ∧ x.2.2.2.1 < 4294967296 ∧ x.2.2.2.2 < 4294967296
theorem opens_throat : Opens Tryd.prog 24 throatKd throatOk :=
  opens_imp (opens_struct (P := Tryd.prog) (fun x : Nat × Nat × Nat × Nat × Nat => x) (fun x => x) (fun _ => rfl) Tryd.underlying24 rfl (N := 5) (by kernel_rfl)
    (opensF_cons rfl (off' := 1) (by kernel_rfl) (opens_raw Tryd.underlying22) (opensF_cons rfl (off' := 2) (by kernel_rfl) (opens_raw Tryd.underlying22)
      (opensF_cons rfl (off' := 3) (by kernel_rfl) (opens_raw Tryd.underlying22) (opensF_cons rfl (off' := 4) (by kernel_rfl) (opens_raw Tryd.underlying22) (opensF_last rfl (by kernel_rfl) (opens_raw Tryd.underlying22)))))))
    (fun x h => h)
theorem throatText_w (cs0 : Array Value) (y0 : Nat × Nat × Nat × Nat × Nat) (w : World) (hT : GLh w) (k0 : throatKd.K w y0 cs0.toList) (z0 : throatOk y0) :
    Calls Tryd.prog 3 #[.agg cs0] w fun e w' => e = .returned (.bool true) ∧ Below w.heap.size w w' := by
  obtain ⟨_, _, e0, rfl, _, _, rfl, rfl, _, _, rfl, rfl, _, _, rfl, rfl, rfl⟩ := k0
  obtain rfl : cs0 = #[.float .f32 y0.1, .float .f32 y0.2.1, .float .f32 y0.2.2.1, .float .f32 y0.2.2.2.1, .float .f32 y0.2.2.2.2] := by rw [← Array.toArray_toList (xs := cs0), e0]; rfl
  exact PFnExactThroatText.laws_FnExactThroatText.calls 1048610 y0.1 y0.2.1 y0.2.2.1 y0.2.2.2.1 y0.2.2.2.2 true w hT (ThPure.pure _ _ _ _ _ z0.1 z0.2.1 z0.2.2.1 z0.2.2.2.1 z0.2.2.2.2)
end Go.Proofs.YtbojmdjghfhmbaaDoor
