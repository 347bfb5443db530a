import Derived.Test.YtdfpfiecpcgffaaDoorPFnExactSoundsTextx
import Derived.Test.YtdfpfiecpcgffaaDoorLm
import Derived.Test.YtdfpfiecpcgffaaDoorOf
set_option linter.unusedVariables false
set_option linter.unusedSimpArgs false
namespace Go.Proofs.YtdfpfiecpcgffaaDoor.StxPure
open Go.RowKit Go.Proofs.YtdfpfiecpcgffaaDoorW.PrintWords Go.Proofs.YtdfpfiecpcgffaaDoorW.PrintMore Go.Proofs.YtdfpfiecpcgffaaDoorW.PrintFl Go.Proofs.YtdfpfiecpcgffaaDoor Go.Proofs.YtdfpfiecpcgffaaDoor.PFnExactSoundsText Go.Proofs.YtdfpfiecpcgffaaDoor.Lm
theorem w64 {x : Int} (h0 : -9223372036854775808 ≤ x) (h1 : x ≤ 9223372036854775807) : wrap64 x = x := by
  unfold wrap64; omega
theorem szF_some (l : List Nat) (hl : l.length ≤ 9223372036854775807) (a : Int) (ha : 0 ≤ a) (hb : a ≤ 1048576) : ∃ r, laws_szFloat32S.f l a = some r ∧ (r < 0 ∨ 0 ≤ r ∧ r ≤ 1048576 ∧ l.length ≤ 1048576) := by
  unfold laws_szFloat32S.f
  rw [w64 (x := a - l.length) (by omega) (by omega)]
  split
  · exact ⟨_, rfl, .inl (by omega)⟩
  · exact ⟨_, rfl, .inr (by omega)⟩
theorem toFl_some (l : List Nat) (hl : l.length ≤ 1048576) : ∀ (k : Nat) (ys : List Nat) (i : Nat), i ≤ l.length → l.length - i < k → ys.length = l.length → ys.take i = l.take i → laws_toFloat32S.l0 k l ys (i : Int) = some l
  | 0, ys, i, h1, hk, hy, ht => by omega
  | k + 1, ys, i, h1, hk, hy, ht => by
    unfold laws_toFloat32S.l0
    by_cases c : (i : Int) < (l.length : Int)
    · rw [if_pos c, if_pos (by omega), if_pos (by omega), w64 (by omega) (by omega)]
      have e : ((i : Int) + 1) = ((i + 1 : Nat) : Int) := by omega
      rw [e]
      refine toFl_some l hl k _ (i + 1) (by omega) (by omega) (by rw [List.length_set]; exact hy) ?_
      have hil : i < l.length := by omega
      show (ys.set ((i : Int)).toNat (rdOf 0 l (i : Int))).take (i + 1) = _
      rw [Int.toNat_natCast]
      refine take_set_succ hil hy ht ?_
      unfold rdOf
      rw [Int.toNat_natCast, List.getD_eq_getElem?_getD, List.getElem?_eq_getElem hil]
      rfl
    · rw [if_neg c]
      have : i = l.length := by omega
      subst this
      rw [List.take_length, List.take_of_length_le (by omega)] at ht
      rw [ht]
theorem toF_some (l : List Nat) (hl : l.length ≤ 1048576) (k : Nat) (hk : 1048577 ≤ k) : laws_toFloat32S.f k l = some l := by
  unfold laws_toFloat32S.f
  rw [if_pos (by omega), if_pos (by omega)]
  exact toFl_some l hl k _ 0 (by omega) (by omega) (by rw [List.length_replicate]; omega) rfl
def bitsN (a : Nat) : Nat := if fne .f32 a a = true then 2143289344 else a
theorem bitsN_lt {a : Nat} (h : a < 4294967296) : bitsN a < 4294967296 := by unfold bitsN; split <;> omega
def hexL (a : Nat) : List UInt8 := (strOfNums (dgs (bitsN a) 8)).data.toList
theorem hexL_len (a : Nat) : (hexL a).length = 8 := by
  unfold hexL strOfNums
  rw [List.toList_toArray, List.length_map, hx_len]
theorem hexL_eq (a : Nat) : strOfNums (dgs (bitsN a) 8) = ⟨(hexL a).toArray⟩ := by unfold hexL; rfl
theorem dgs_hi (n : Nat) : ∀ j, j ≤ 8 → dgs (n + 4294967296) j = dgs n j
  | 0, _ => rfl
  | j + 1, h => by
    rw [dgs, dgs, dgs_hi n j (by omega)]
    have h2 : (n + 4294967296) / 16 ^ j % 16 = n / 16 ^ j % 16 := by
      have h3 : j = 0 ∨ j = 1 ∨ j = 2 ∨ j = 3 ∨ j = 4 ∨ j = 5 ∨ j = 6 ∨ j = 7 := by omega
      rcases h3 with rfl | rfl | rfl | rfl | rfl | rfl | rfl | rfl <;> (simp only [Nat.reducePow]; omega)
    rw [h2]
theorem str_tail (x : Int) (l : List Int) (n : Nat) (hn : n = (strOfNums (x :: l)).size) : (strOfNums (x :: l)).extract 1 n = strOfNums l := by
  have hs : (strOfNums (x :: l)).size = l.length + 1 := by unfold strOfNums; show (List.toArray _).size = _; simp
  apply ByteArray.ext
  apply Array.toList_inj.1
  rw [ByteArray.data_extract, Array.toList_extract]
  unfold strOfNums
  rw [List.toList_toArray, List.toList_toArray, List.map_cons, hn, hs]
  simp [List.extract]
  exact List.take_of_length_le (by rw [List.length_map]; exact Nat.le_refl _)
theorem hex_impl (a : Nat) (ha : a < 4294967296) : impl_hexText.f a = some ⟨(hexL a).toArray⟩ := by
  have hb : impl_BitsOf.f a = some ((bitsN a : Nat) : Int) := by
    unfold impl_BitsOf.f bitsN
    split
    · rfl
    · rw [w64 (by omega) (by omega)]
  have hl := bitsN_lt ha
  unfold impl_hexText.f strconv_FormatInt.f
  rw [hb, Option.bind_some, w64 (by omega) (by omega), if_pos ⟨by omega, by omega, rfl⟩, Option.bind_some]
  have e : (((bitsN a : Nat) : Int) + 4294967296).toNat = bitsN a + 4294967296 := by omega
  have hs : (strOfNums (dgs (bitsN a + 4294967296) 9)).size = 9 := by
    unfold strOfNums; show (List.toArray _).size = _; rw [List.size_toArray, List.length_map, hx_len]
  rw [e, if_pos (by rw [hs]; decide), dgs, dgs_hi _ 8 (Nat.le_refl _), str_tail _ _ _ rfl, hexL_eq]
theorem wrapi64 (n : Int) (h₀ : 0 ≤ n) (h₁ : n < 2 ^ 63) : IntKind.i64.wrap n = n := by rw [IntKind.wrap_i64]; omega
theorem bt_lit : ∀ m : Fin 16, bt (⟨#[48, 49, 50, 51, 52, 53, 54, 55, 56, 57, 97, 98, 99, 100, 101, 102]⟩ : ByteArray) (m.1 : Int) = hexd m.1 := by decide
theorem dig_at (n j : Nat) (hn : n < 4294967296) (hj : j < 8) : Go.bits .and .i64 (shr .i64 (n : Int) (IntKind.u64.wrap ((4 * j : Nat) : Int))) 15 = ((n / 16 ^ j % 16 : Nat) : Int) := by
  have hw : IntKind.u64.wrap ((4 * j : Nat) : Int) = ((4 * j : Nat) : Int) := wraps_u64' _ (by omega) (by omega)
  have hs : shr .i64 (n : Int) ((4 * j : Nat) : Int) = ((n / 16 ^ j : Nat) : Int) := by
    unfold shr
    rw [Int.toNat_natCast]
    have h3 : j = 0 ∨ j = 1 ∨ j = 2 ∨ j = 3 ∨ j = 4 ∨ j = 5 ∨ j = 6 ∨ j = 7 := by omega
    rcases h3 with rfl | rfl | rfl | rfl | rfl | rfl | rfl | rfl <;> rfl
  have hle : n / 16 ^ j ≤ n := Nat.div_le_self _ _
  rw [hw, hs]
  generalize n / 16 ^ j = q at hle ⊢
  have hb := bits_mask .i64 63 (by decide) (fun x h0 h1 => wrapi64 x h0 h1) 4 (by decide) (q : Int) (by omega) (by omega)
  rw [show ((2 : Int) ^ 4 - 1) = 15 from rfl, show ((2 : Int) ^ 4) = 16 from rfl] at hb
  rw [hb]; omega
theorem hex_loop (n : Nat) (hn : n < 4294967296) : ∀ (j k : Nat) (acc : List Int), j ≤ 8 → acc.length + j ≤ 8 → j < k → spec_l01Hex.l0 k (n : Int) acc (((4 * j : Nat) : Int) - 4) = some (strOfNums (acc ++ dgs n j))
  | _, 0, _, _, _, h => by omega
  | 0, k + 1, acc, _, _, _ => by
    rw [spec_l01Hex.l0, if_neg (by omega), dgs, List.append_nil]
  | j + 1, k + 1, acc, hj, hl, hk => by
    have e : (((4 * (j + 1) : Nat) : Int) - 4) = ((4 * j : Nat) : Int) := by omega
    have hm : n / 16 ^ j % 16 < 16 := Nat.mod_lt _ (by decide)
    have hb := bt_lit ⟨n / 16 ^ j % 16, hm⟩
    have hw : IntKind.u64.wrap ((4 * j : Nat) : Int) = ((4 * j : Nat) : Int) := wraps_u64' _ (by omega) (by omega)
    rw [spec_l01Hex.l0, e, dig_at n j hn (by omega), if_pos (by omega), if_pos (by rw [hw]; omega), if_pos (by omega), if_pos (by omega), if_pos (by omega), hb, w64 (by omega) (by omega), hex_loop n hn j k _ (by omega) (by simp; omega) (by omega), dgs, List.append_assoc]
    rfl
theorem hex_spec (k a : Nat) (ha : a < 4294967296) (hk : 9 ≤ k) : spec_l01Hex.f k a = some ⟨(hexL a).toArray⟩ := by
  have hb : spec_l01Bits.f a = some ((bitsN a : Nat) : Int) := by
    unfold spec_l01Bits.f bitsN
    split
    · rfl
    · rw [w64 (by omega) (by omega)]
  unfold spec_l01Hex.f
  rw [hb, Option.bind_some]
  have h := hex_loop (bitsN a) (bitsN_lt ha) 8 k [] (by decide) (by decide) (by omega)
  rw [List.nil_append, hexL_eq] at h
  exact h
def hexTl (l : List Nat) : List UInt8 := (l.map fun x => (44 : UInt8) :: hexL x).flatten
theorem hexTl_len : ∀ l : List Nat, (hexTl l).length = 9 * l.length
  | [] => rfl
  | x :: l => by
    have := hexTl_len l
    unfold hexTl at this ⊢
    rw [List.map_cons, List.flatten_cons, List.length_append, this, List.length_cons, List.length_cons, hexL_len]; omega
def ntL : List Nat → List UInt8
  | [] => [110, 111, 110, 101]
  | x :: l => hexL x ++ hexTl l
theorem ntL_len (l : List Nat) : (ntL l).length ≤ 4 + 9 * l.length := by
  cases l with
  | nil => decide
  | cons x l => rw [ntL, List.length_append, hexL_len, hexTl_len, List.length_cons]; omega
theorem sz_arr (l : List UInt8) : (⟨l.toArray⟩ : ByteArray).size = l.length := by show (List.toArray _).size = _; simp
theorem arr_app (a b : List UInt8) : (⟨a.toArray⟩ : ByteArray) ++ ⟨b.toArray⟩ = ⟨(a ++ b).toArray⟩ := by
  apply ByteArray.ext
  rw [ByteArray.data_append]
  simp
theorem rdN_at {l : List Nat} {i : Nat} (h : i < l.length) : rdOf (0 : Nat) l (i : Int) = l[i]'h := by
  unfold rdOf
  rw [Int.toNat_natCast, List.getD_eq_getElem?_getD, List.getElem?_eq_getElem h]; rfl
theorem nt_loop (l : List Nat) (hx : ∀ x ∈ l, x < 4294967296) (hl : l.length ≤ 1048576) : ∀ (d i k : Nat) (acc : List UInt8), i + d = l.length → acc.length + 9 * d ≤ 10000000 → d + 9 < k → spec_l01NText.l0 k l ⟨acc.toArray⟩ (i : Int) = some ⟨(acc ++ hexTl (l.drop i)).toArray⟩
  | _, _, 0, _, _, _, h => by omega
  | 0, i, k + 1, acc, h1, h2, h3 => by
    obtain rfl : i = l.length := by omega
    rw [spec_l01NText.l0, if_neg (by omega), List.drop_length]
    show _ = some (⟨(acc ++ []).toArray⟩ : ByteArray)
    rw [List.append_nil]
  | d + 1, i, k + 1, acc, h1, h2, h3 => by
    have hi : i < l.length := by omega
    have e : ((i : Int) + 1) = ((i + 1 : Nat) : Int) := by omega
    have hz : (⟨#[44]⟩ : ByteArray) = ⟨([44] : List UInt8).toArray⟩ := rfl
    rw [spec_l01NText.l0, if_pos (by omega), if_pos (by omega), rdN_at hi, hex_spec k _ (hx _ (List.getElem_mem _)) (by omega), Option.bind_some, if_pos (by rw [sz_arr, hexL_len]; omega), hz, arr_app, if_pos (by rw [sz_arr, sz_arr, List.length_append, hexL_len]; simp; omega), arr_app, w64 (by omega) (by omega), e,
      nt_loop l hx hl d (i + 1) k _ (by omega) (by rw [List.length_append, List.length_append, hexL_len]; simp; omega) (by omega)]
    rw [List.drop_eq_getElem_cons hi]
    unfold hexTl
    rw [List.map_cons, List.flatten_cons, List.append_assoc]
    rfl
theorem nt_spec (l : List Nat) (hx : ∀ x ∈ l, x < 4294967296) (hl : l.length ≤ 1048576) (k : Nat) (hk : 1048600 ≤ k) : spec_l01NText.f k l = some ⟨(ntL l).toArray⟩ := by
  unfold spec_l01NText.f
  cases l with
  | nil => rfl
  | cons x l =>
    rw [if_neg (by rw [List.length_cons]; omega), if_pos (by rw [List.length_cons]; omega)]
    have h0 : rdOf (0 : Nat) (x :: l) 0 = x := rfl
    rw [h0, hex_spec k x (hx x List.mem_cons_self) (by omega), Option.bind_some]
    have h := nt_loop (x :: l) hx hl l.length 1 k (hexL x) (by rw [List.length_cons]; omega) (by rw [hexL_len]; rw [List.length_cons] at hl; omega) (by rw [List.length_cons] at hl; omega)
    exact h
theorem ni_loop (l : List Nat) (hx : ∀ x ∈ l, x < 4294967296) (hl : l.length ≤ 1048576) : ∀ (d i k : Nat) (ys : List ByteArray), i + d = l.length → ys.length = l.length → ys.take i = (l.take i).map (fun x => ⟨(hexL x).toArray⟩) → d < k → impl_numbersText.l0 k ys l (l.length : Int) (i : Int) = (strings_Join.f (l.map fun x => ⟨(hexL x).toArray⟩) (⟨#[44]⟩ : ByteArray)).bind fun t => some t
  | _, _, 0, _, _, _, _, h => by omega
  | 0, i, k + 1, ys, h1, h2, h3, h4 => by
    obtain rfl : i = l.length := by omega
    rw [impl_numbersText.l0, if_neg (by omega)]
    rw [List.take_of_length_le (by omega), List.take_length] at h3
    rw [h3]
  | d + 1, i, k + 1, ys, h1, h2, h3, h4 => by
    have hi : i < l.length := by omega
    have e : ((i : Int) + 1) = ((i + 1 : Nat) : Int) := by omega
    rw [impl_numbersText.l0, if_pos (by omega), if_pos (by omega), if_pos (by omega), rdN_at hi, hex_impl _ (hx _ (List.getElem_mem _)), Option.bind_some, if_pos (by omega), w64 (by omega) (by omega), e, Int.toNat_natCast]
    refine ni_loop l hx hl d (i + 1) k _ (by omega) (by rw [List.length_set]; exact h2) ?_ (by omega)
    rw [List.map_take] at h3 ⊢
    exact take_set_succ (xs := l.map fun x => (⟨(hexL x).toArray⟩ : ByteArray)) (by rw [List.length_map]; exact hi) (by rw [List.length_map]; exact h2) h3 (by rw [List.getElem?_map, List.getElem?_eq_getElem hi]; rfl)
theorem nt_impl (l : List Nat) (hx : ∀ x ∈ l, x < 4294967296) (hl : l.length ≤ 1048576) (k : Nat) (hk : 1048600 ≤ k) : impl_numbersText.f k l = some ⟨(ntL l).toArray⟩ := by
  unfold impl_numbersText.f
  cases l with
  | nil => rfl
  | cons x l =>
    rw [if_neg (by rw [List.length_cons]; omega), if_pos (by rw [List.length_cons]; omega), if_pos (by rw [Int.toNat_natCast]; omega), Int.toNat_natCast]
    have h := ni_loop (x :: l) hx hl (x :: l).length 0 k (List.replicate (x :: l).length (⟨#[]⟩ : ByteArray)) (by omega) (by rw [List.length_replicate]) rfl (by omega)
    refine h.trans ?_
    unfold strings_Join.f
    have hj : Lib.join (((x :: l).map fun x => (⟨(hexL x).toArray⟩ : ByteArray)).map (·.data.toList)) (⟨#[44]⟩ : ByteArray).data.toList = ntL (x :: l) := by
      rw [List.map_map]
      show Lib.join (_ :: _) [44] = _
      rw [Lib.join_cons, ntL]
      unfold Lib.joinTail hexTl
      rw [List.map_map]
      rfl
    have h5 := ntL_len (x :: l)
    rw [hj, if_pos ⟨by rw [List.length_map]; omega, by omega⟩]
    rfl
theorem fin_nan (x : Nat) (h : finB x = true) : (FloatKind.f32.format.read x).isNaN = false := by
  cases hr : FloatKind.f32.format.read x with
  | number s m e => rfl
  | infinity s => rfl
  | nan s t =>
    exfalso
    have : floatBits .sub .f32 x x = none := by
      simp [floatBits, Ieee.Format.sub, hr, Ieee.Datum.sum, Ieee.Datum.opposite]
    unfold finB foprOk at h
    rw [this] at h
    cases h
theorem gt_le (x : Nat) (h : finB x = true) : fgr .f32 x 0 = !fle .f32 x 0 := by
  have hn := fin_nan x h
  have h0 : FloatKind.f32.format.read 0 = .number false 0 (-149) := by decide +kernel
  unfold fgr fle Ieee.Format.order
  rw [h0]
  cases hr : FloatKind.f32.format.read x with
  | nan s t => rw [hr] at hn; cases hn
  | infinity s => cases s <;> rfl
  | number s m e =>
    have ho : ∃ o, (Ieee.Datum.number s m e).order (Ieee.Datum.number false 0 (-149)) = some o := ⟨_, rfl⟩
    obtain ⟨o, ho⟩ := ho
    rw [ho]
    cases o <;> rfl
def ab (x : Nat) : Bool := finB x && fgr .f32 x 0
theorem ab_spec (x : Nat) : spec_l02Above.f x = some (ab x) := by
  unfold spec_l02Above.f spec_l01Finite.f ab
  rw [Option.bind_some]
  cases finB x <;> rfl
theorem areas_spec (l : List Nat) (hl : l.length ≤ 16) (h1 : 1 ≤ l.length) : ∀ (d i k : Nat), i + d = l.length → 2 * d + 1 < k → spec_l02Areas.l0 k l (i : Int) = some ((l.drop i).all ab)
  | _, _, 0, _, h => by omega
  | _, _, 1, _, h => by omega
  | 0, i, k + 2, h2, h3 => by
    obtain rfl : i = l.length := by omega
    rw [spec_l02Areas.l0, if_neg (by omega), spec_l02Areas.j1, if_neg (by decide), if_pos (by omega), List.drop_length, decide_eq_true (by omega)]
    rfl
  | d + 1, i, k + 2, h2, h3 => by
    have hi : i < l.length := by omega
    have e : ((i : Int) + 1) = ((i + 1 : Nat) : Int) := by omega
    rw [spec_l02Areas.l0, if_pos (by omega), decide_eq_true (by omega), spec_l02Areas.j1, if_pos rfl, if_pos (by omega), if_pos (by omega), rdN_at hi, ab_spec, Option.bind_some, w64 (by omega) (by omega), e, areas_spec l hl h1 d (i + 1) k (by omega) (by omega), List.drop_eq_getElem_cons hi, List.all_cons]
    cases ab l[i] <;> rfl
theorem areas_long (l : List Nat) (hl : ¬ (1 ≤ l.length ∧ l.length ≤ 16)) (k : Nat) (hk : 2 ≤ k) : spec_l02Areas.f k l = some false := by
  obtain ⟨k, rfl⟩ : ∃ m, k = m + 2 := ⟨k - 2, by omega⟩
  unfold spec_l02Areas.f
  rw [spec_l02Areas.l0]
  by_cases c : l.length = 0
  · rw [if_neg (by omega), spec_l02Areas.j1, if_neg (by decide), if_neg (by omega)]
  · rw [if_pos (by omega), decide_eq_false (by omega), spec_l02Areas.j1, if_neg (by decide), if_pos (by omega), decide_eq_false (by omega)]
abbrev LS := S55
abbrev IS := S58
def cv1 (x : LS) : IS := ⟨x.f0, x.f1, x.f2, x.f3, x.f4, x.f5⟩
def okS (x : LS) : Prop := x.f0.size ≤ 140737488351232 ∧ (x.f1.length ≤ 9223372036854775807 ∧ ∀ y ∈ x.f1, y < 4294967296) ∧ x.f2 < 4294967296 ∧ x.f3 < 4294967296 ∧ x.f4 < 4294967296 ∧ x.f5 < 4294967296
theorem rdL_at {l : List LS} {i : Nat} (h : i < l.length) : rd_T55 l (i : Int) = l[i]'h := by
  unfold rd_T55
  rw [Int.toNat_natCast, List.getD_eq_getElem?_getD, List.getElem?_eq_getElem h]; rfl
theorem rdI_at {l : List IS} {i : Nat} (h : i < l.length) : rd_T58 l (i : Int) = l[i]'h := by
  unfold rd_T58
  rw [Int.toNat_natCast, List.getD_eq_getElem?_getD, List.getElem?_eq_getElem h]; rfl
theorem szS_some (x : LS) (hx : okS x) (a : Int) (ha : 0 ≤ a) (hb : a ≤ 1048576) : ∃ r, laws_szSound.f x.f0 x.f1 x.f2 x.f3 x.f4 x.f5 a = some r ∧ (r < 0 ∨ 0 ≤ r ∧ r ≤ 1048576 ∧ x.f0.size ≤ 1048576 ∧ x.f1.length ≤ 1048576) := by
  have h1 := hx.1
  unfold laws_szSound.f
  rw [w64 (x := a - x.f0.size) (by omega) (by omega)]
  split
  · exact ⟨_, rfl, .inl (by omega)⟩
  · obtain ⟨r, e, hr⟩ := szF_some x.f1 hx.2.1.1 (a - x.f0.size) (by omega) (by omega)
    rw [e, Option.bind_some]
    split
    · exact ⟨_, rfl, .inl (by omega)⟩
    · exact ⟨_, rfl, .inr (by omega)⟩
theorem szl_some (l : List LS) (hl : l.length ≤ 1048576) (hx : ∀ x ∈ l, okS x) : ∀ (d i k : Nat) (a : Int), i + d = l.length → d < k → 0 ≤ a → a ≤ 1048576 → ∃ r, laws_szSoundS.l0 k l a (i : Int) = some r ∧ (r < 0 ∨ 0 ≤ r ∧ ∀ x ∈ l.drop i, x.f0.size ≤ 1048576 ∧ x.f1.length ≤ 1048576)
  | _, _, 0, _, _, h, _, _ => by omega
  | 0, i, k + 1, a, h1, h2, h3, h4 => by
    obtain rfl : i = l.length := by omega
    refine ⟨a, ?_, .inr ⟨h3, by rw [List.drop_length]; simp⟩⟩
    rw [laws_szSoundS.l0, if_neg (by omega)]
  | d + 1, i, k + 1, a, h1, h2, h3, h4 => by
    have hi : i < l.length := by omega
    have e : ((i : Int) + 1) = ((i + 1 : Nat) : Int) := by omega
    obtain ⟨r, er, hr⟩ := szS_some l[i] (hx _ (List.getElem_mem _)) a h3 h4
    rw [laws_szSoundS.l0, if_pos (by omega), if_pos (by omega), rdL_at hi, er, Option.bind_some, w64 (by omega) (by omega), e]
    by_cases c : r < 0
    · rw [if_pos c]; exact ⟨_, rfl, .inl (by omega)⟩
    · rw [if_neg c]
      obtain ⟨r2, er2, hr2⟩ := szl_some l hl hx d (i + 1) k r (by omega) (by omega) (by omega) (by omega)
      refine ⟨r2, er2, ?_⟩
      rcases hr2 with hr2 | ⟨h5, h6⟩
      · exact .inl hr2
      · refine .inr ⟨h5, fun x hm => ?_⟩
        rw [List.drop_eq_getElem_cons hi] at hm
        rcases List.mem_cons.1 hm with rfl | hm
        · omega
        · exact h6 x hm
theorem szL_some (l : List LS) (hl : l.length ≤ 9223372036854775807) (hx : ∀ x ∈ l, okS x) (k : Nat) (hk : 1048600 ≤ k) : ∃ r, laws_szSoundS.f k l 1048576 = some r ∧ (r < 0 ∨ l.length ≤ 1048576 ∧ ∀ x ∈ l, x.f0.size ≤ 1048576 ∧ x.f1.length ≤ 1048576) := by
  unfold laws_szSoundS.f
  rw [w64 (x := (1048576 : Int) - l.length) (by omega) (by omega)]
  split
  · exact ⟨_, rfl, .inl (by omega)⟩
  · obtain ⟨r, e, hr⟩ := szl_some l (by omega) hx l.length 0 k (1048576 - l.length) (by omega) (by omega) (by omega) (by omega)
    refine ⟨r, e, ?_⟩
    rcases hr with hr | ⟨h1, h2⟩
    · exact .inl hr
    · exact .inr ⟨by omega, h2⟩
theorem toS_loop (l : List LS) (hl : l.length ≤ 1048576) (hz : ∀ x ∈ l, x.f1.length ≤ 1048576) : ∀ (d i k : Nat) (ys : List IS), i + d = l.length → ys.length = l.length → ys.take i = (l.take i).map cv1 → d + 1048577 < k → laws_toSoundS.l0 k l ys (i : Int) = some (l.map cv1)
  | _, _, 0, _, _, _, _, h => by omega
  | 0, i, k + 1, ys, h1, h2, h3, h4 => by
    obtain rfl : i = l.length := by omega
    rw [laws_toSoundS.l0, if_neg (by omega)]
    rw [List.take_of_length_le (by omega), List.take_length] at h3
    rw [h3]
  | d + 1, i, k + 1, ys, h1, h2, h3, h4 => by
    have hi : i < l.length := by omega
    have e : ((i : Int) + 1) = ((i + 1 : Nat) : Int) := by omega
    have ht : laws_toSound.f k l[i].f0 l[i].f1 l[i].f2 l[i].f3 l[i].f4 l[i].f5 = some (l[i].f0, l[i].f1, l[i].f2, l[i].f3, l[i].f4, l[i].f5) := by
      unfold laws_toSound.f
      rw [toF_some _ (hz _ (List.getElem_mem _)) k (by omega), Option.bind_some]
    rw [laws_toSoundS.l0, if_pos (by omega), if_pos (by omega), rdL_at hi, ht, Option.bind_some, if_pos (by omega), w64 (by omega) (by omega), e, Int.toNat_natCast]
    refine toS_loop l hl hz d (i + 1) k _ (by omega) (by rw [List.length_set]; exact h2) ?_ (by omega)
    rw [List.map_take] at h3 ⊢
    exact take_set_succ (xs := l.map cv1) (by rw [List.length_map]; exact hi) (by rw [List.length_map]; exact h2) h3 (by rw [List.getElem?_map, List.getElem?_eq_getElem hi]; rfl)
theorem toS_some (l : List LS) (hl : l.length ≤ 1048576) (hz : ∀ x ∈ l, x.f1.length ≤ 1048576) (k : Nat) (hk : 2100000 ≤ k) : laws_toSoundS.f k l = some (l.map cv1) := by
  unfold laws_toSoundS.f
  rw [if_pos (by omega), if_pos (by omega), Int.toNat_natCast]
  exact toS_loop l hl hz l.length 0 k _ (by omega) (by rw [List.length_replicate]) rfl (by omega)
def okI (x : IS) : Prop := x.f0.size ≤ 1048576 ∧ x.f1.length ≤ 1048576 ∧ (∀ y ∈ x.f1, y < 4294967296) ∧ x.f2 < 4294967296 ∧ x.f3 < 4294967296 ∧ x.f4 < 4294967296 ∧ x.f5 < 4294967296
theorem eqS_loop (l : List IS) (hl : l.length ≤ 1048576) (hx : ∀ x ∈ l, okI x) : ∀ (d i k : Nat), i + d = l.length → d < k → laws_eqSoundS.l0 k l l (i : Int) = some true
  | _, _, 0, _, h => by omega
  | 0, i, k + 1, h1, h2 => by
    obtain rfl : i = l.length := by omega
    rw [laws_eqSoundS.l0, if_neg (by omega)]
  | d + 1, i, k + 1, h1, h2 => by
    have hi : i < l.length := by omega
    have e : ((i : Int) + 1) = ((i + 1 : Nat) : Int) := by omega
    obtain ⟨o1, o2, o3, o4, o5, o6, o7⟩ := hx l[i] (List.getElem_mem _)
    have he : laws_eqSound.f l[i].f0 l[i].f1 l[i].f2 l[i].f3 l[i].f4 l[i].f5 l[i].f0 l[i].f1 l[i].f2 l[i].f3 l[i].f4 l[i].f5 = some true := by
      unfold laws_eqSound.f
      rw [if_pos ⟨rfl, rfl, rfl, rfl, rfl, rfl, o2, o3, o4, o5, o6, o7⟩]
    rw [laws_eqSoundS.l0, if_pos (by omega), if_pos (by omega), if_pos (by omega), rdI_at hi, he, Option.bind_some, if_pos rfl, w64 (by omega) (by omega), e]
    exact eqS_loop l hl hx d (i + 1) k (by omega) (by omega)
theorem eqS_some (l : List IS) (hl : l.length ≤ 1048576) (hx : ∀ x ∈ l, okI x) (k : Nat) (hk : 1048600 ≤ k) : laws_eqSoundS.f k l l = some true := by
  unfold laws_eqSoundS.f
  rw [if_pos rfl]
  exact eqS_loop l hl hx l.length 0 k (by omega) (by omega)
theorem bt_ok (s : ByteArray) (i : Nat) : ∃ b : Bool, (decide (bt s (i : Int) < 97) || decide (bt s (i : Int) > 122)) = !b := ⟨_, (Bool.not_not _).symm⟩
def lt1 (s : ByteArray) (i : Nat) : Bool := !(decide (bt s (i : Int) < 97) || decide (bt s (i : Int) > 122))
def nm (s : ByteArray) : Nat → Nat → Bool
  | 0, _ => true
  | d + 1, i => lt1 s i && nm s d (i + 1)
theorem nm_spec (s : ByteArray) (h4 : s.size ≤ 4) (h1 : 1 ≤ s.size) : ∀ (d i k : Nat), i + d = s.size → 2 * d + 1 < k → spec_l06Name.l0 k s (i : Int) = some (nm s d i)
  | _, _, 0, _, h => by omega
  | _, _, 1, _, h => by omega
  | 0, i, k + 2, h2, h3 => by
    rw [spec_l06Name.l0, if_neg (by omega), spec_l06Name.j1, if_neg (by decide), if_pos (by omega), decide_eq_true (by omega)]
    rfl
  | d + 1, i, k + 2, h2, h3 => by
    have e : ((i : Int) + 1) = ((i + 1 : Nat) : Int) := by omega
    rw [spec_l06Name.l0, if_pos (by omega), decide_eq_true (by omega), spec_l06Name.j1, if_pos rfl, if_pos (by omega), if_pos (by omega), w64 (by omega) (by omega), e, nm_spec s h4 h1 d (i + 1) k (by omega) (by omega), nm]
    unfold lt1
    by_cases c1 : bt s (i : Int) < 97
    · rw [if_pos c1]; simp [c1]
    · rw [if_neg c1]
      by_cases c2 : bt s (i : Int) > 122
      · rw [if_pos c2]; simp [c2]
      · rw [if_neg c2]; simp [c1, c2]
theorem nm_impl (s : ByteArray) (h4 : s.size ≤ 4) : ∀ (d i k : Nat), i + d = s.size → d < k → impl_IsName.l0 k s (i : Int) = some (nm s d i && decide (1 ≤ s.size))
  | _, _, 0, _, h => by omega
  | 0, i, k + 1, h2, h3 => by
    rw [impl_IsName.l0, if_neg (by omega)]
    unfold impl_within.f
    by_cases c : (s.size : Int) ≥ 1
    · rw [if_pos c, decide_eq_true (show (s.size : Int) ≤ 8 by omega), decide_eq_true (show 1 ≤ s.size by omega)]; rfl
    · rw [if_neg c, decide_eq_false (show ¬ 1 ≤ s.size by omega)]; rfl
  | d + 1, i, k + 1, h2, h3 => by
    have e : ((i : Int) + 1) = ((i + 1 : Nat) : Int) := by omega
    rw [impl_IsName.l0, if_pos (by omega), if_pos (by omega), w64 (by omega) (by omega), e, nm_impl s h4 d (i + 1) k (by omega) (by omega), nm]
    unfold lt1
    by_cases c1 : bt s (i : Int) < 97
    · rw [if_pos c1]; simp [c1]
    · rw [if_neg c1]
      by_cases c2 : bt s (i : Int) > 122
      · rw [if_pos c2]; simp [c2]
      · rw [if_neg c2]; simp [c1, c2]
theorem name_both (s : ByteArray) (hs : s.size ≤ 1048576) : ∃ b : Bool, ∀ k, 64 ≤ k → spec_l06Name.f k s = some b ∧ impl_isSoundName.f k s = some b := by
  by_cases h : 1 ≤ s.size ∧ s.size ≤ 4
  · refine ⟨nm s s.size 0, fun k hk => ⟨nm_spec s h.2 h.1 s.size 0 k (by omega) (by omega), ?_⟩⟩
    have h2 : impl_IsName.f k s = some (nm s s.size 0 && decide (1 ≤ s.size)) := nm_impl s h.2 s.size 0 k (by omega) (by omega)
    unfold impl_isSoundName.f
    rw [if_pos (by omega), h2, decide_eq_true h.1, Bool.and_true]; rfl
  · refine ⟨false, fun k hk => ⟨?_, ?_⟩⟩
    · obtain ⟨k, rfl⟩ : ∃ m, k = m + 2 := ⟨k - 2, by omega⟩
      unfold spec_l06Name.f
      rw [spec_l06Name.l0]
      by_cases c : s.size = 0
      · rw [if_neg (by omega), spec_l06Name.j1, if_neg (by decide), if_neg (by omega)]
      · rw [if_pos (by omega), decide_eq_false (by omega), spec_l06Name.j1, if_neg (by decide), if_pos (by omega), decide_eq_false (by omega)]
    · unfold impl_isSoundName.f
      by_cases c : s.size = 0
      · have h2 : impl_IsName.f k s = some (nm s s.size 0 && decide (1 ≤ s.size)) := nm_impl s (by omega) s.size 0 k (by omega) (by omega)
        rw [if_pos (by omega), h2, decide_eq_false (by omega), Bool.and_false]; rfl
      · rw [if_neg (by omega)]
theorem afin_impl (l : List Nat) (hl : l.length ≤ 1048576) : ∀ (d i k : Nat), i + d = l.length → d < k → impl_areFinite.l0 k l (l.length : Int) (i : Int) = some ((l.drop i).all finB)
  | _, _, 0, _, h => by omega
  | 0, i, k + 1, h1, h2 => by
    obtain rfl : i = l.length := by omega
    rw [impl_areFinite.l0, if_neg (by omega), List.drop_length]; rfl
  | d + 1, i, k + 1, h1, h2 => by
    have hi : i < l.length := by omega
    have e : ((i : Int) + 1) = ((i + 1 : Nat) : Int) := by omega
    rw [impl_areFinite.l0, if_pos (by omega), if_pos (by omega), if_pos (by omega), rdN_at hi, impl_IsFinite.f, Option.bind_some, w64 (by omega) (by omega), e, afin_impl l hl d (i + 1) k (by omega) (by omega), List.drop_eq_getElem_cons hi, List.all_cons]
    cases finB l[i] <;> rfl
theorem cont_impl (l : List Nat) (hl : l.length ≤ 1048576) : ∀ (d i k : Nat), i + d = l.length → d < k → ∃ r : Int, slices_IndexFunc_v_impl_areAreas_1.l0 k l (l.length : Int) (i : Int) = some r ∧ decide (r ≥ 0) = (l.drop i).any fun x => fle .f32 x 0
  | _, _, 0, _, h => by omega
  | 0, i, k + 1, h1, h2 => by
    obtain rfl : i = l.length := by omega
    refine ⟨-1, ?_, by rw [List.drop_length]; rfl⟩
    rw [slices_IndexFunc_v_impl_areAreas_1.l0, if_neg (by omega)]
  | d + 1, i, k + 1, h1, h2 => by
    have hi : i < l.length := by omega
    have e : ((i : Int) + 1) = ((i + 1 : Nat) : Int) := by omega
    rw [slices_IndexFunc_v_impl_areAreas_1.l0, if_pos (by omega), if_pos (by omega), if_pos (by omega), rdN_at hi, impl_areAreas_1.f, Option.bind_some, w64 (by omega) (by omega), e, List.drop_eq_getElem_cons hi, List.any_cons]
    by_cases c : fle .f32 l[i] 0 = true
    · rw [if_pos c]
      exact ⟨_, rfl, by rw [c, decide_eq_true (by omega)]; rfl⟩
    · rw [if_neg c]
      obtain ⟨r, h3, h4⟩ := cont_impl l hl d (i + 1) k (by omega) (by omega)
      refine ⟨r, h3, ?_⟩
      rw [Bool.not_eq_true] at c
      rw [h4, c, Bool.false_or]
theorem all_ab (l : List Nat) : (l.all finB && !(l.any fun x => fle .f32 x 0)) = l.all ab := by
  induction l with
  | nil => rfl
  | cons x l ih =>
    rw [List.all_cons, List.any_cons, List.all_cons, ← ih]
    unfold ab
    by_cases f : finB x = true
    · rw [gt_le x f, f]
      cases fle .f32 x 0 <;> simp
    · rw [Bool.not_eq_true] at f
      rw [f]; simp
theorem areas_both (l : List Nat) (hl : l.length ≤ 1048576) : ∃ b : Bool, ∀ k, 64 ≤ k → spec_l02Areas.f k l = some b ∧ impl_areAreas.f k l = some b := by
  by_cases h : 1 ≤ l.length ∧ l.length ≤ 16
  · refine ⟨l.all ab, fun k hk => ⟨areas_spec l h.2 h.1 l.length 0 k (by omega) (by omega), ?_⟩⟩
    have h3 : impl_within.f (l.length : Int) 1 16 = some true := by
      unfold impl_within.f; rw [if_pos (by omega), decide_eq_true (by omega)]
    have h4 : impl_areFinite.f k l = some (l.all finB) := afin_impl l hl l.length 0 k (by omega) (by omega)
    obtain ⟨r, h5, h6⟩ := cont_impl l hl l.length 0 k (by omega) (by omega)
    have h7 : slices_ContainsFunc_v_impl_areAreas_1.f k l = some (l.any fun x => fle .f32 x 0) := by
      unfold slices_ContainsFunc_v_impl_areAreas_1.f slices_IndexFunc_v_impl_areAreas_1.f
      rw [show ((0 : Int)) = ((0 : Nat) : Int) from rfl, h5, Option.bind_some]
      exact congrArg some h6
    unfold impl_areAreas.f
    rw [h3, Option.bind_some, if_pos rfl, h4, Option.bind_some, h7, Option.bind_some, ← all_ab]
    cases l.all finB <;> rfl
  · refine ⟨false, fun k hk => ⟨areas_long l h k (by omega), ?_⟩⟩
    have h3 : impl_within.f (l.length : Int) 1 16 = some false := by
      unfold impl_within.f
      split
      · rw [decide_eq_false (by omega)]
      · rfl
    unfold impl_areAreas.f
    rw [h3]; rfl
set_option maxRecDepth 20000 in
set_option maxHeartbeats 1000000 in
theorem sound_both (x : IS) (hx : okI x) : ∃ b : Bool, ∀ k, 64 ≤ k → spec_l06Sound.f k [x] = some b ∧ impl_ValidSound.f k x.f0 x.f1 x.f2 x.f3 x.f4 x.f5 = some b := by
  obtain ⟨b1, n1⟩ := name_both x.f0 hx.1
  obtain ⟨b2, n2⟩ := areas_both x.f1 hx.2.1
  have s1 : spec_l02Least.f x.f3 = some (finB x.f3 && fge .f32 x.f3 0) := by
    unfold spec_l02Least.f spec_l01Finite.f
    cases finB x.f3 <;> rfl
  have s2 : ∀ y, spec_l02Share.f y = some (fge .f32 y 0 && fle .f32 y 1065353216) := by
    intro y
    unfold spec_l02Share.f
    cases fge .f32 y 0 <;> rfl
  have s3 : ∀ y, impl_isBetween.f y 0 1065353216 = some (fge .f32 y 0 && fle .f32 y 1065353216) := by
    intro y
    unfold impl_isBetween.f
    cases fge .f32 y 0 <;> rfl
  refine ⟨b1 && b2 && (finB x.f2 && fgr .f32 x.f2 0) && (finB x.f3 && fge .f32 x.f3 0) && (fge .f32 x.f4 0 && fle .f32 x.f4 1065353216) && (fge .f32 x.f5 0 && fle .f32 x.f5 1065353216), fun k hk => ⟨?_, ?_⟩⟩
  · have hr : rd_T58 [x] 0 = x := rfl
    unfold spec_l06Sound.f
    rw [if_pos (show (0 : Int) < (([x] : List IS).length : Int) by show (0 : Int) < 1; decide), hr, (n1 k hk).1, (n2 k hk).1, ab_spec, s1, s2, s2]
    simp only [Option.bind_some]
    unfold ab
    cases b1 <;> cases b2 <;> cases finB x.f2 <;> cases fgr .f32 x.f2 0 <;> cases (finB x.f3 && fge .f32 x.f3 0) <;> cases (fge .f32 x.f4 0 && fle .f32 x.f4 1065353216) <;> cases (fge .f32 x.f5 0 && fle .f32 x.f5 1065353216) <;> rfl
  · unfold impl_ValidSound.f impl_IsFinite.f
    rw [(n1 k hk).2, (n2 k hk).2, s3, s3]
    simp only [Option.bind_some]
    cases b1 <;> cases b2 <;> cases finB x.f2 <;> cases fgr .f32 x.f2 0 <;> cases finB x.f3 <;> cases fge .f32 x.f3 0 <;> cases (fge .f32 x.f4 0 && fle .f32 x.f4 1065353216) <;> cases (fge .f32 x.f5 0 && fle .f32 x.f5 1065353216) <;> rfl
def soundB (x : IS) : Bool := (spec_l06Sound.f 64 [x]).getD false
theorem sound_k (x : IS) (hx : okI x) (k : Nat) (hk : 64 ≤ k) : spec_l06Sound.f k [x] = some (soundB x) ∧ impl_ValidSound.f k x.f0 x.f1 x.f2 x.f3 x.f4 x.f5 = some (soundB x) := by
  obtain ⟨b, h⟩ := sound_both x hx
  have hb : soundB x = b := by unfold soundB; rw [(h 64 (by omega)).1]; rfl
  rw [hb]; exact h k hk
def lessP (L : List IS) (i : Nat) : Bool := decide (i = 0) || Op.bytesLess ((rd_T58 L ((i - 1 : Nat) : Int)).f0.toList) ((rd_T58 L (i : Int)).f0.toList)
def cnd (L : List IS) (i : Nat) : Bool := soundB (rd_T58 L (i : Int)) && (decide ((rd_T58 L (i : Int)).f1.length = (rd_T58 L 0).f1.length) && lessP L i)
def allc (L : List IS) : Nat → Nat → Bool
  | 0, _ => true
  | d + 1, i => cnd L i && allc L d (i + 1)
theorem are_step (L : List IS) (i : Nat) (R : Option Bool) (rest : Bool) (hi : i < L.length) (hR : R = some rest) (hl : L.length ≤ 1048576) :
    (if soundB (rd_T58 L (i : Int)) = true then (if 0 < (L.length : Int) then (if (((rd_T58 L (i : Int)).f1).length : Int) = (((rd_T58 L 0).f1).length : Int) then (if (i : Int) > 0 then (if 0 ≤ (wrap64 ((i : Int) - 1)) then (if (wrap64 ((i : Int) - 1)) < (L.length : Int) then (if ((Op.bytesLess (((rd_T58 L (wrap64 ((i : Int) - 1))).f0).toList) (((rd_T58 L (i : Int)).f0).toList)) = true) then R else (some false)) else (none)) else (none)) else R) else (some false)) else (none)) else (some false)) = some (cnd L i && rest) := by
  unfold cnd
  by_cases c1 : soundB (rd_T58 L (i : Int)) = true
  · rw [if_pos c1, c1, if_pos (by omega)]
    by_cases c2 : (rd_T58 L (i : Int)).f1.length = (rd_T58 L 0).f1.length
    · rw [if_pos (by omega), decide_eq_true c2]
      unfold lessP
      by_cases c3 : i = 0
      · rw [if_neg (by omega), decide_eq_true c3, hR]; simp
      · have e : wrap64 ((i : Int) - 1) = ((i - 1 : Nat) : Int) := by rw [w64 (by omega) (by omega)]; omega
        rw [if_pos (by omega), e, if_pos (by omega), if_pos (by omega), decide_eq_false c3]
        by_cases c4 : Op.bytesLess (((rd_T58 L ((i - 1 : Nat) : Int)).f0).toList) (((rd_T58 L (i : Int)).f0).toList) = true
        · rw [if_pos c4, c4, hR]; simp
        · rw [if_neg c4]
          rw [Bool.not_eq_true] at c4
          rw [c4]; simp
    · rw [if_neg (by omega), decide_eq_false c2]; simp
  · rw [if_neg c1]
    rw [Bool.not_eq_true] at c1
    rw [c1]; simp
theorem are_spec (L : List IS) (hl : L.length ≤ 16) (hx : ∀ x ∈ L, okI x) : ∀ (d i k : Nat), i + d = L.length → 2 * d + 80 < k → spec_l06Are.l0 k L (i : Int) = some (allc L d i)
  | _, _, 0, _, h => by omega
  | _, _, 1, _, h => by omega
  | 0, i, k + 2, h2, h3 => by
    rw [spec_l06Are.l0, if_neg (by omega), spec_l06Are.j1, if_neg (by decide), decide_eq_true (by omega)]
    rfl
  | d + 1, i, k + 2, h2, h3 => by
    have hi : i < L.length := by omega
    have e : ((i : Int) + 1) = ((i + 1 : Nat) : Int) := by omega
    have ho : okI (rd_T58 L (i : Int)) := by rw [rdI_at hi]; exact hx _ (List.getElem_mem _)
    rw [spec_l06Are.l0, if_pos (by omega), decide_eq_true (by omega), spec_l06Are.j1, if_pos rfl, if_pos (by omega), if_pos (by omega), (sound_k _ ho k (by omega)).1, Option.bind_some, w64 (x := (i : Int) + 1) (by omega) (by omega), e]
    exact are_step L i _ _ hi (are_spec L hl hx d (i + 1) k (by omega) (by omega)) (by omega)
theorem are_impl (L : List IS) (hl : L.length ≤ 1048576) (hx : ∀ x ∈ L, okI x) : ∀ (d i k : Nat), i + d = L.length → d + 80 < k → impl_AreSounds.l0 k L L (L.length : Int) (i : Int) = some (allc L d i && decide (L.length ≤ 16))
  | _, _, 0, _, h => by omega
  | 0, i, k + 1, h2, h3 => by
    rw [impl_AreSounds.l0, if_neg (by omega)]
    by_cases c : L.length ≤ 16
    · rw [decide_eq_true c, decide_eq_true (by omega)]; rfl
    · rw [decide_eq_false c, decide_eq_false (by omega)]; rfl
  | d + 1, i, k + 1, h2, h3 => by
    have hi : i < L.length := by omega
    have e : ((i : Int) + 1) = ((i + 1 : Nat) : Int) := by omega
    have ho : okI (rd_T58 L (i : Int)) := by rw [rdI_at hi]; exact hx _ (List.getElem_mem _)
    rw [impl_AreSounds.l0, if_pos (by omega), if_pos (by omega), if_pos (by omega), (sound_k _ ho k (by omega)).2, Option.bind_some, w64 (x := (i : Int) + 1) (by omega) (by omega), e]
    refine (are_step L i _ _ hi (are_impl L hl hx d (i + 1) k (by omega) (by omega)) (by omega)).trans ?_
    rw [allc, Bool.and_assoc]
theorem are_both (L : List IS) (hl : L.length ≤ 1048576) (hx : ∀ x ∈ L, okI x) (k : Nat) (hk : 2100000 ≤ k) : ∃ b, spec_l06Are.f k L = some b ∧ impl_AreSounds.f k L = some b := by
  have h2 : impl_AreSounds.f k L = some (allc L L.length 0 && decide (L.length ≤ 16)) := are_impl L hl hx L.length 0 k (by omega) (by omega)
  by_cases c : L.length ≤ 16
  · refine ⟨allc L L.length 0, are_spec L c hx L.length 0 k (by omega) (by omega), ?_⟩
    rw [h2, decide_eq_true c, Bool.and_true]
  · refine ⟨false, ?_, by rw [h2, decide_eq_false c, Bool.and_false]⟩
    obtain ⟨k, rfl⟩ : ∃ m, k = m + 2 := ⟨k - 2, by omega⟩
    unfold spec_l06Are.f
    rw [spec_l06Are.l0, if_pos (by omega), decide_eq_false (by omega), spec_l06Are.j1, if_neg (by decide), decide_eq_false (by omega)]
def four (x : IS) : List Nat := [x.f2, x.f3, x.f4, x.f5]
def TL (x : IS) : List UInt8 := x.f0.data.toList ++ [58] ++ ntL x.f1 ++ [58] ++ ntL (four x)
theorem four_ok (x : IS) (hx : okI x) : ∀ y ∈ four x, y < 4294967296 := by
  intro y h
  obtain ⟨o1, o2, o3, o4, o5, o6, o7⟩ := hx
  unfold four at h
  simp only [List.mem_cons, List.not_mem_nil, or_false] at h
  rcases h with rfl | rfl | rfl | rfl <;> assumption
theorem size_dt (s : ByteArray) : s.data.toList.length = s.size := by rw [Array.length_toList]; rfl
theorem TL_len (x : IS) (hx : okI x) : (TL x).length ≤ 11000000 := by
  have h1 := ntL_len x.f1
  have h2 := ntL_len (four x)
  have h3 : (four x).length = 4 := rfl
  have h4 := size_dt x.f0
  have h5 := hx.1
  have h6 := hx.2.1
  unfold TL
  simp only [List.length_append, List.length_cons, List.length_nil]
  omega
theorem piece (x : IS) : ((((x.f0 ++ (⟨#[58]⟩ : ByteArray)) ++ (⟨(ntL x.f1).toArray⟩ : ByteArray)) ++ (⟨#[58]⟩ : ByteArray)) ++ (⟨(ntL (four x)).toArray⟩ : ByteArray)) = ⟨(TL x).toArray⟩ := by
  apply ByteArray.ext
  apply Array.toList_inj.1
  simp only [ByteArray.data_append, Array.toList_append, TL]
theorem psize (x : IS) (hx : okI x) : x.f0.size + 1 ≤ 9223372036854775807 ∧ (x.f0 ++ (⟨#[58]⟩ : ByteArray)).size + (⟨(ntL x.f1).toArray⟩ : ByteArray).size ≤ 9223372036854775807 ∧ ((x.f0 ++ (⟨#[58]⟩ : ByteArray)) ++ (⟨(ntL x.f1).toArray⟩ : ByteArray)).size + 1 ≤ 9223372036854775807 ∧ (((x.f0 ++ (⟨#[58]⟩ : ByteArray)) ++ (⟨(ntL x.f1).toArray⟩ : ByteArray)) ++ (⟨#[58]⟩ : ByteArray)).size + (⟨(ntL (four x)).toArray⟩ : ByteArray).size ≤ 9223372036854775807 := by
  have h1 := ntL_len x.f1
  have h2 := ntL_len (four x)
  have h3 : (four x).length = 4 := rfl
  have h5 := hx.1
  have h6 := hx.2.1
  have h7 : (⟨#[58]⟩ : ByteArray).size = 1 := rfl
  refine ⟨by omega, ?_, ?_, ?_⟩ <;> simp only [ByteArray.size_append, sz_arr, h7] <;> omega
def tl (l : List IS) : List UInt8 := (l.map fun x => (47 : UInt8) :: TL x).flatten
set_option maxRecDepth 20000 in
theorem st_loop (L : List IS) (hl : L.length ≤ 1048576) (hx : ∀ x ∈ L, okI x) : ∀ (d i k : Nat) (acc : List UInt8), 1 ≤ i → i + d = L.length → acc.length + 11000001 * d ≤ 100000000000000 → d + 1048610 < k → spec_l08Sounds.l0 k L ⟨acc.toArray⟩ (i : Int) = some ⟨(acc ++ tl (L.drop i)).toArray⟩
  | _, _, 0, _, _, _, _, h => by omega
  | 0, i, k + 1, acc, h0, h1, h2, h3 => by
    obtain rfl : i = L.length := by omega
    rw [spec_l08Sounds.l0, if_neg (by omega), List.drop_length]
    show _ = some (⟨(acc ++ []).toArray⟩ : ByteArray)
    rw [List.append_nil]
  | d + 1, i, k + 1, acc, h0, h1, h2, h3 => by
    have hk : 1048600 ≤ k := by clear h2; omega
    have hi : i < L.length := by clear h2; omega
    have e : ((i : Int) + 1) = ((i + 1 : Nat) : Int) := by omega
    have ho : okI (L[i]) := hx _ (List.getElem_mem _)
    obtain ⟨p1, p2, p3, p4⟩ := psize L[i] ho
    have n1 := nt_spec L[i].f1 ho.2.2.1 ho.2.1 k hk
    have n2 := nt_spec (four L[i]) (four_ok _ ho) (by show 4 ≤ _; decide) k hk
    have hz : (⟨#[47]⟩ : ByteArray) = ⟨([47] : List UInt8).toArray⟩ := rfl
    have hT := TL_len L[i] ho
    unfold four at n2
    rw [spec_l08Sounds.l0, if_pos (by omega), if_pos (by omega), if_pos (by rw [sz_arr]; omega), if_pos (by omega), rdI_at hi, if_pos p1, n1, Option.bind_some, if_pos p2, if_pos p3, n2, Option.bind_some]
    have hp := piece L[i]
    unfold four at hp p4
    rw [if_pos p4, hp, hz, arr_app, if_pos (by rw [sz_arr, sz_arr, List.length_append]; simp; omega), arr_app, w64 (by omega) (by omega), e, st_loop L hl hx d (i + 1) k _ (by omega) (by omega) (by rw [List.length_append, List.length_append]; simp; omega) (by omega)]
    rw [List.drop_eq_getElem_cons hi]
    unfold tl
    rw [List.map_cons, List.flatten_cons]
    simp
def stL : List IS → List UInt8
  | [] => [110, 111, 110, 101]
  | x :: l => TL x ++ tl l
theorem st_spec (L : List IS) (hl : L.length ≤ 1048576) (hx : ∀ x ∈ L, okI x) (k : Nat) (hk : 3000000 ≤ k) : spec_l08Sounds.f k L = some ⟨(stL L).toArray⟩ := by
  unfold spec_l08Sounds.f
  cases L with
  | nil => rfl
  | cons x L =>
    obtain ⟨k, rfl⟩ : ∃ m, k = m + 1 := ⟨k - 1, by omega⟩
    have ho : okI x := hx _ List.mem_cons_self
    obtain ⟨p1, p2, p3, p4⟩ := psize x ho
    have n1 := nt_spec x.f1 ho.2.2.1 ho.2.1 k (by omega)
    have n2 := nt_spec (four x) (four_ok _ ho) (by show 4 ≤ _; omega) k (by omega)
    have hT := TL_len x ho
    have hp := piece x
    have h0 : rd_T58 (x :: L) 0 = x := rfl
    have hz : (⟨#[]⟩ : ByteArray) = ⟨([] : List UInt8).toArray⟩ := rfl
    unfold four at n2 hp p4
    rw [List.length_cons] at hl
    rw [if_neg (by rw [List.length_cons]; omega), spec_l08Sounds.l0, if_pos (by rw [List.length_cons]; omega), if_neg (by omega), if_pos (by omega), h0, if_pos p1, n1, Option.bind_some, if_pos p2, if_pos p3, n2, Option.bind_some, if_pos p4, hp, hz, if_pos (by rw [sz_arr, sz_arr]; simp; omega), arr_app, w64 (by omega) (by omega)]
    have h := st_loop (x :: L) (by rw [List.length_cons]; omega) hx L.length 1 k ([] ++ TL x) (by omega) (by rw [List.length_cons]; omega) (by simp; omega) (by omega)
    refine h.trans ?_
    rfl
theorem si_loop (L : List IS) (hl : L.length ≤ 1048576) (hx : ∀ x ∈ L, okI x) : ∀ (d i k : Nat) (ys : List ByteArray), i + d = L.length → ys.length = L.length → ys.take i = (L.take i).map (fun x => ⟨(TL x).toArray⟩) → d + 1048610 < k → impl_soundsText.l0 k ys L (L.length : Int) (i : Int) = (strings_Join.f (L.map fun x => ⟨(TL x).toArray⟩) (⟨#[47]⟩ : ByteArray)).bind fun t => some t
  | _, _, 0, _, _, _, _, h => by omega
  | 0, i, k + 1, ys, h1, h2, h3, h4 => by
    obtain rfl : i = L.length := by omega
    rw [impl_soundsText.l0, if_neg (by omega)]
    rw [List.take_of_length_le (by omega), List.take_length] at h3
    rw [h3]
  | d + 1, i, k + 1, ys, h1, h2, h3, h4 => by
    have hi : i < L.length := by omega
    have e : ((i : Int) + 1) = ((i + 1 : Nat) : Int) := by omega
    have ho : okI (L[i]) := hx _ (List.getElem_mem _)
    obtain ⟨p1, p2, p3, p4⟩ := psize L[i] ho
    have n1 := nt_impl L[i].f1 ho.2.2.1 ho.2.1 k (by omega)
    have n2 := nt_impl (four L[i]) (four_ok _ ho) (by show 4 ≤ _; omega) k (by omega)
    have hp := piece L[i]
    unfold four at n2 hp p4
    rw [impl_soundsText.l0, if_pos (by omega), if_pos (by omega), if_pos (by omega), rdI_at hi, if_pos p1, n1, Option.bind_some, if_pos p2, if_pos p3, n2, Option.bind_some, if_pos p4, hp, if_pos (by omega), w64 (by omega) (by omega), e, Int.toNat_natCast]
    refine si_loop L hl hx d (i + 1) k _ (by omega) (by rw [List.length_set]; exact h2) ?_ (by omega)
    rw [List.map_take] at h3 ⊢
    exact take_set_succ (xs := L.map fun x => (⟨(TL x).toArray⟩ : ByteArray)) (by rw [List.length_map]; exact hi) (by rw [List.length_map]; exact h2) h3 (by rw [List.getElem?_map, List.getElem?_eq_getElem hi]; rfl)
theorem tl_len : ∀ (L : List IS), (∀ x ∈ L, okI x) → (tl L).length ≤ 11000001 * L.length
  | [], _ => by decide
  | x :: L, hx => by
    have h1 := tl_len L fun y hy => hx y (List.mem_cons_of_mem _ hy)
    have h2 := TL_len x (hx x List.mem_cons_self)
    unfold tl at h1 ⊢
    rw [List.map_cons, List.flatten_cons, List.length_append, List.length_cons, List.length_cons]; omega
theorem st_impl (L : List IS) (hl : L.length ≤ 1048576) (hx : ∀ x ∈ L, okI x) (k : Nat) (hk : 3000000 ≤ k) : impl_soundsText.f k L = some ⟨(stL L).toArray⟩ := by
  unfold impl_soundsText.f
  cases L with
  | nil => rfl
  | cons x L =>
    rw [if_neg (by rw [List.length_cons]; omega), if_pos (by rw [List.length_cons]; omega), if_pos (by rw [Int.toNat_natCast]; omega), Int.toNat_natCast]
    have h := si_loop (x :: L) hl hx (x :: L).length 0 k (List.replicate (x :: L).length (⟨#[]⟩ : ByteArray)) (by omega) (by rw [List.length_replicate]) rfl (by omega)
    refine h.trans ?_
    unfold strings_Join.f
    have hj : Lib.join (((x :: L).map fun x => (⟨(TL x).toArray⟩ : ByteArray)).map (·.data.toList)) (⟨#[47]⟩ : ByteArray).data.toList = stL (x :: L) := by
      rw [List.map_map]
      show Lib.join (_ :: _) [47] = _
      rw [Lib.join_cons, stL]
      unfold Lib.joinTail tl
      rw [List.map_map]
      rfl
    have h5 := tl_len L fun y hy => hx y (List.mem_cons_of_mem _ hy)
    have h6 := TL_len x (hx x List.mem_cons_self)
    have h7 : (stL (x :: L)).length ≤ 140737488355328 := by
      rw [stL, List.length_append]
      rw [List.length_cons] at hl; omega
    rw [hj, if_pos ⟨by rw [List.length_map]; omega, h7⟩]
    rfl
theorem pure (l : List LS) (h0 : l.length ≤ 9223372036854775807) (hx : ∀ x ∈ l, okS x) : laws_FnExactSoundsText.f 3000010 l = some true := by
  unfold laws_FnExactSoundsText.f
  obtain ⟨r0, e0, hr0⟩ := szL_some l h0 hx 3000010 (by omega)
  rw [e0, Option.bind_some]
  by_cases c : r0 < 0
  · rw [if_pos c]
  · obtain ⟨hl, hz⟩ := hr0.resolve_left c
    rw [if_neg c]
    obtain ⟨L, hL⟩ : ∃ L, l.map cv1 = L := ⟨_, rfl⟩
    have hll : L.length ≤ 1048576 := by rw [← hL, List.length_map]; exact hl
    have hok : ∀ x ∈ L, okI x := by
      intro x hm
      rw [← hL] at hm
      obtain ⟨y, hy, rfl⟩ := List.mem_map.1 hm
      obtain ⟨o1, ⟨o2, o3⟩, o4, o5, o6, o7⟩ := hx y hy
      exact ⟨(hz y hy).1, (hz y hy).2, o3, o4, o5, o6, o7⟩
    have ht : ∀ k, 2100000 ≤ k → laws_toSoundS.f k l = some L := fun k hk => by rw [← hL]; exact toS_some l hl (fun x hm => (hz x hm).2) k hk
    obtain ⟨b, v1, v2⟩ := are_both L hll hok 3000010 (by omega)
    have t1 := st_spec L hll hok 3000010 (by omega)
    have t2 := st_impl L hll hok 3000010 (by omega)
    have hj : laws_FnExactSoundsText.j0 3000010 l L false = some true := by
      show laws_FnExactSoundsText.j0 (3000009 + 1) l L false = some true
      rw [laws_FnExactSoundsText.j0, if_neg (by decide), ht 3000009 (by omega), Option.bind_some, eqS_some L hll hok 3000009 (by omega), Option.bind_some, if_pos rfl]
    rw [ht 3000010 (by omega)]
    simp only [Option.bind_some]
    unfold spec_SoundsText.f impl_SoundsText.f
    rw [v1, v2, t1, t2]
    simp only [Option.bind_some]
    cases b
    · rw [if_neg (by decide)]
      simp only [Option.bind_some, if_true]
      exact hj
    · rw [if_pos rfl]
      simp only [Option.bind_some, if_true]
      exact hj
end Go.Proofs.YtdfpfiecpcgffaaDoor.StxPure
namespace Go.Proofs.YtdfpfiecpcgffaaDoor
open Go.RowKit Go.Proofs.YtdfpfiecpcgffaaDoorW.PrintWords Go.Proofs.YtdfpfiecpcgffaaDoorW.PrintFl Go.ChangeShapes Go.WideShapes Go.Proofs.YtdfpfiecpcgffaaDoor.PFnExactSoundsText
theorem opens_soundS : Opens Tryd.prog 55 k55 StxPure.okS :=
  opens_imp (opens_struct (P := Tryd.prog) (fun x : S55 => (x.f0, x.f1, x.f2, x.f3, x.f4, x.f5)) (fun x => ⟨x.1, x.2.1, x.2.2.1, x.2.2.2.1, x.2.2.2.2.1, x.2.2.2.2.2⟩) (fun _ => rfl) Tryd.underlying55 rfl (N := 6) (by kernel_rfl)
    (opensF_cons rfl (off' := 1) (by kernel_rfl) (opens_str Tryd.underlying9) (opensF_cons rfl (off' := 2) (by kernel_rfl) (opens_slice (B := 4) _ Tryd.underlying37 (by kernel_rfl) (by kernel_rfl) (opens_raw Tryd.underlying30))
      (opensF_cons rfl (off' := 3) (by kernel_rfl) (opens_raw Tryd.underlying30) (opensF_cons rfl (off' := 4) (by kernel_rfl) (opens_raw Tryd.underlying30) (opensF_cons rfl (off' := 5) (by kernel_rfl) (opens_raw Tryd.underlying30) (opensF_last rfl (by kernel_rfl) (opens_raw Tryd.underlying30))))))))
    (fun x h => ⟨h.1, ⟨h.2.1.1, h.2.1.2.2⟩, h.2.2.1, h.2.2.2.1, h.2.2.2.2.1, h.2.2.2.2.2⟩)
theorem opens_sounds : Opens Tryd.prog 22 (Kd.slice 55 k55) (fun l => l.length ≤ 9223372036854775807 ∧ l.length * 56 ≤ 140737488351232 ∧ ∀ x ∈ l, StxPure.okS x) :=
  opens_slice _ Tryd.underlying22 (by kernel_rfl) (by kernel_rfl) opens_soundS
theorem soundsText_w (A0 : Option Addr) (c0 : Nat) (l0 : List S55) (w : World) (hT : GLh w) (hr0 : Kd.C k55 w A0 l0.length l0) (hc0 : l0.length ≤ c0) (z0 : l0.length ≤ 9223372036854775807 ∧ l0.length * 56 ≤ 140737488351232 ∧ ∀ x ∈ l0, StxPure.okS x) :
    Calls Tryd.prog 3 #[.slice A0 l0.length c0] w fun e w' => e = .returned (.bool true) ∧ Below w.heap.size w w' :=
  laws_FnExactSoundsText.calls 3000010 A0 c0 l0 true w hr0 hc0 hT (StxPure.pure l0 z0.1 z0.2.2)
end Go.Proofs.YtdfpfiecpcgffaaDoor
