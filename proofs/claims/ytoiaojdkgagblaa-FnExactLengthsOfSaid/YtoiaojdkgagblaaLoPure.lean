import Derived.Test.YtoiaojdkgagblaaSdmLo
import Derived.Test.YtoiaojdkgagblaaLm
import Derived.Test.YtoiaojdkgagblaaOf
set_option linter.unusedVariables false
set_option linter.unusedSimpArgs false
namespace Go.Proofs.Ytoiaojdkgagblaa.LoPure
open Go.RowKit Go.Proofs.YtoiaojdkgagblaaW.PrintWords Go.Proofs.YtoiaojdkgagblaaW.PrintMore Go.Proofs.YtoiaojdkgagblaaW.PrintFl Go.Proofs.Ytoiaojdkgagblaa Go.Proofs.Ytoiaojdkgagblaa.PFnExactLengthsOf Go.Proofs.Ytoiaojdkgagblaa.Lm Go.Proofs.Ytoiaojdkgagblaa.Sdm
theorem rdN_at {l : List Nat} {i : Nat} (h : i < l.length) : rdOf (0 : Nat) l (i : Int) = l[i]'h := by
  unfold rdOf
  rw [Int.toNat_natCast, List.getD_eq_getElem?_getD, List.getElem?_eq_getElem h]; rfl
theorem rdB_at {l : List Bool} {i : Nat} (h : i < l.length) : rdOf false l (i : Int) = l[i]'h := by
  unfold rdOf
  rw [Int.toNat_natCast, List.getD_eq_getElem?_getD, List.getElem?_eq_getElem h]; rfl
theorem w64 {x : Int} (h0 : -9223372036854775808 ≤ x) (h1 : x ≤ 9223372036854775807) : wrap64 x = x := by
  unfold wrap64; omega
theorem szF_some (l : List Nat) (hl : l.length ≤ 9223372036854775807) (a : Int) (ha : 0 ≤ a) (hb : a ≤ 1048576) : ∃ r, laws_szFloat32S.f l a = some r ∧ (r < 0 ∨ 0 ≤ r ∧ r ≤ 1048576 ∧ l.length ≤ 1048576) := by
  unfold laws_szFloat32S.f
  rw [w64 (x := a - l.length) (by omega) (by omega)]
  split
  · exact ⟨_, rfl, .inl (by omega)⟩
  · exact ⟨_, rfl, .inr (by omega)⟩
theorem toFl_some (l : List Nat) (hl : l.length ≤ 1048576) : ∀ (k : Nat) (ys : List Nat) (i : Nat), i ≤ l.length → l.length - i < k → ys.length = l.length → ys.take i = l.take i → laws_toFloat32S.l0 k l ys (i : Int) = some l
  | 0, ys, i, h1, hk, hy, ht => by omega
  | k + 1, ys, i, h1, hk, hy, ht => by
    unfold laws_toFloat32S.l0
    by_cases c : (i : Int) < (l.length : Int)
    · rw [if_pos c, if_pos (by omega), if_pos (by omega), w64 (by omega) (by omega)]
      have e : ((i : Int) + 1) = ((i + 1 : Nat) : Int) := by omega
      rw [e]
      refine toFl_some l hl k _ (i + 1) (by omega) (by omega) (by rw [List.length_set]; exact hy) ?_
      have hil : i < l.length := by omega
      show (ys.set ((i : Int)).toNat (rdOf 0 l (i : Int))).take (i + 1) = _
      rw [Int.toNat_natCast]
      refine take_set_succ hil hy ht ?_
      unfold rdOf
      rw [Int.toNat_natCast, List.getD_eq_getElem?_getD, List.getElem?_eq_getElem hil]
      rfl
    · rw [if_neg c]
      have : i = l.length := by omega
      subst this
      rw [List.take_length, List.take_of_length_le (by omega)] at ht
      rw [ht]
theorem toF_some (l : List Nat) (hl : l.length ≤ 1048576) (k : Nat) (hk : 1048577 ≤ k) : laws_toFloat32S.f k l = some l := by
  unfold laws_toFloat32S.f
  rw [if_pos (by omega), if_pos (by omega)]
  exact toFl_some l hl k _ 0 (by omega) (by omega) (by rw [List.length_replicate]; omega) rfl
theorem fin_nan (x : Nat) (h : finB x = true) : (FloatKind.f32.format.read x).isNaN = false := by
  cases hr : FloatKind.f32.format.read x with
  | number s m e => rfl
  | infinity s => rfl
  | nan s t =>
    exfalso
    have : floatBits .sub .f32 x x = none := by
      simp [floatBits, Ieee.Format.sub, hr, Ieee.Datum.sum, Ieee.Datum.opposite]
    unfold finB foprOk at h
    rw [this] at h
    cases h
theorem gt_le (x : Nat) (h : finB x = true) : fgr .f32 x 0 = !fle .f32 x 0 := by
  have hn := fin_nan x h
  have h0 : FloatKind.f32.format.read 0 = .number false 0 (-149) := by decide +kernel
  unfold fgr fle Ieee.Format.order
  rw [h0]
  cases hr : FloatKind.f32.format.read x with
  | nan s t => rw [hr] at hn; cases hn
  | infinity s => cases s <;> rfl
  | number s m e =>
    have ho : ∃ o, (Ieee.Datum.number s m e).order (Ieee.Datum.number false 0 (-149)) = some o := ⟨_, rfl⟩
    obtain ⟨o, ho⟩ := ho
    rw [ho]
    cases o <;> rfl
def ab (x : Nat) : Bool := finB x && fgr .f32 x 0
theorem ab_spec (x : Nat) : spec_l02Above.f x = some (ab x) := by
  unfold spec_l02Above.f spec_l01Finite.f ab
  rw [Option.bind_some]
  cases finB x <;> rfl
theorem areas_spec (l : List Nat) (hl : l.length ≤ 16) (h1 : 1 ≤ l.length) : ∀ (d i k : Nat), i + d = l.length → 2 * d + 1 < k → spec_l02Areas.l0 k l (i : Int) = some ((l.drop i).all ab)
  | _, _, 0, _, h => by omega
  | _, _, 1, _, h => by omega
  | 0, i, k + 2, h2, h3 => by
    obtain rfl : i = l.length := by omega
    rw [spec_l02Areas.l0, if_neg (by omega), spec_l02Areas.j1, if_neg (by decide), if_pos (by omega), List.drop_length, decide_eq_true (by omega)]
    rfl
  | d + 1, i, k + 2, h2, h3 => by
    have hi : i < l.length := by omega
    have e : ((i : Int) + 1) = ((i + 1 : Nat) : Int) := by omega
    rw [spec_l02Areas.l0, if_pos (by omega), decide_eq_true (by omega), spec_l02Areas.j1, if_pos rfl, if_pos (by omega), if_pos (by omega), rdN_at hi, ab_spec, Option.bind_some, w64 (by omega) (by omega), e, areas_spec l hl h1 d (i + 1) k (by omega) (by omega), List.drop_eq_getElem_cons hi, List.all_cons]
    cases ab l[i] <;> rfl
theorem areas_long (l : List Nat) (hl : ¬ (1 ≤ l.length ∧ l.length ≤ 16)) (k : Nat) (hk : 2 ≤ k) : spec_l02Areas.f k l = some false := by
  obtain ⟨k, rfl⟩ : ∃ m, k = m + 2 := ⟨k - 2, by omega⟩
  unfold spec_l02Areas.f
  rw [spec_l02Areas.l0]
  by_cases c : l.length = 0
  · rw [if_neg (by omega), spec_l02Areas.j1, if_neg (by decide), if_neg (by omega)]
  · rw [if_pos (by omega), decide_eq_false (by omega), spec_l02Areas.j1, if_neg (by decide), if_pos (by omega), decide_eq_false (by omega)]
abbrev LS := S135
abbrev IS := S138
def cv1 (x : LS) : IS := ⟨x.f0, x.f1, x.f2, x.f3, x.f4, x.f5⟩
def okS (x : LS) : Prop := x.f0.size ≤ 140737488351232 ∧ (x.f1.length ≤ 9223372036854775807 ∧ ∀ y ∈ x.f1, y < 4294967296) ∧ x.f2 < 4294967296 ∧ x.f3 < 4294967296 ∧ x.f4 < 4294967296 ∧ x.f5 < 4294967296
theorem rdL_at {l : List LS} {i : Nat} (h : i < l.length) : rd_T135 l (i : Int) = l[i]'h := by
  unfold rd_T135
  rw [Int.toNat_natCast, List.getD_eq_getElem?_getD, List.getElem?_eq_getElem h]; rfl
theorem rdI_at {l : List IS} {i : Nat} (h : i < l.length) : rd_T138 l (i : Int) = l[i]'h := by
  unfold rd_T138
  rw [Int.toNat_natCast, List.getD_eq_getElem?_getD, List.getElem?_eq_getElem h]; rfl
theorem szS_some (x : LS) (hx : okS x) (a : Int) (ha : 0 ≤ a) (hb : a ≤ 1048576) : ∃ r, laws_szSound.f x.f0 x.f1 x.f2 x.f3 x.f4 x.f5 a = some r ∧ (r < 0 ∨ 0 ≤ r ∧ r ≤ 1048576 ∧ x.f0.size ≤ 1048576 ∧ x.f1.length ≤ 1048576) := by
  have h1 := hx.1
  unfold laws_szSound.f
  rw [w64 (x := a - x.f0.size) (by omega) (by omega)]
  split
  · exact ⟨_, rfl, .inl (by omega)⟩
  · obtain ⟨r, e, hr⟩ := szF_some x.f1 hx.2.1.1 (a - x.f0.size) (by omega) (by omega)
    rw [e, Option.bind_some]
    split
    · exact ⟨_, rfl, .inl (by omega)⟩
    · exact ⟨_, rfl, .inr (by omega)⟩
theorem szl_some (l : List LS) (hl : l.length ≤ 1048576) (hx : ∀ x ∈ l, okS x) : ∀ (d i k : Nat) (a : Int), i + d = l.length → d < k → 0 ≤ a → a ≤ 1048576 → ∃ r, laws_szSoundS.l0 k l a (i : Int) = some r ∧ (r < 0 ∨ (0 ≤ r ∧ r ≤ 1048576) ∧ ∀ x ∈ l.drop i, x.f0.size ≤ 1048576 ∧ x.f1.length ≤ 1048576)
  | _, _, 0, _, _, h, _, _ => by omega
  | 0, i, k + 1, a, h1, h2, h3, h4 => by
    obtain rfl : i = l.length := by omega
    refine ⟨a, ?_, .inr ⟨⟨h3, h4⟩, by rw [List.drop_length]; simp⟩⟩
    rw [laws_szSoundS.l0, if_neg (by omega)]
  | d + 1, i, k + 1, a, h1, h2, h3, h4 => by
    have hi : i < l.length := by omega
    have e : ((i : Int) + 1) = ((i + 1 : Nat) : Int) := by omega
    obtain ⟨r, er, hr⟩ := szS_some l[i] (hx _ (List.getElem_mem _)) a h3 h4
    rw [laws_szSoundS.l0, if_pos (by omega), if_pos (by omega), rdL_at hi, er, Option.bind_some, w64 (by omega) (by omega), e]
    by_cases c : r < 0
    · rw [if_pos c]; exact ⟨_, rfl, .inl (by omega)⟩
    · rw [if_neg c]
      obtain ⟨r2, er2, hr2⟩ := szl_some l hl hx d (i + 1) k r (by omega) (by omega) (by omega) (by omega)
      refine ⟨r2, er2, ?_⟩
      rcases hr2 with hr2 | ⟨h5, h6⟩
      · exact .inl hr2
      · refine .inr ⟨h5, fun x hm => ?_⟩
        rw [List.drop_eq_getElem_cons hi] at hm
        rcases List.mem_cons.1 hm with rfl | hm
        · omega
        · exact h6 x hm
theorem szL_some (l : List LS) (hl : l.length ≤ 9223372036854775807) (hx : ∀ x ∈ l, okS x) (k : Nat) (hk : 1048600 ≤ k) : ∃ r, laws_szSoundS.f k l 1048576 = some r ∧ (r < 0 ∨ (0 ≤ r ∧ r ≤ 1048576) ∧ l.length ≤ 1048576 ∧ ∀ x ∈ l, x.f0.size ≤ 1048576 ∧ x.f1.length ≤ 1048576) := by
  unfold laws_szSoundS.f
  rw [w64 (x := (1048576 : Int) - l.length) (by omega) (by omega)]
  split
  · exact ⟨_, rfl, .inl (by omega)⟩
  · obtain ⟨r, e, hr⟩ := szl_some l (by omega) hx l.length 0 k (1048576 - l.length) (by omega) (by omega) (by omega) (by omega)
    refine ⟨r, e, ?_⟩
    rcases hr with hr | ⟨h1, h2⟩
    · exact .inl hr
    · exact .inr ⟨h1, by omega, h2⟩
theorem toS_loop (l : List LS) (hl : l.length ≤ 1048576) (hz : ∀ x ∈ l, x.f1.length ≤ 1048576) : ∀ (d i k : Nat) (ys : List IS), i + d = l.length → ys.length = l.length → ys.take i = (l.take i).map cv1 → d + 1048577 < k → laws_toSoundS.l0 k l ys (i : Int) = some (l.map cv1)
  | _, _, 0, _, _, _, _, h => by omega
  | 0, i, k + 1, ys, h1, h2, h3, h4 => by
    obtain rfl : i = l.length := by omega
    rw [laws_toSoundS.l0, if_neg (by omega)]
    rw [List.take_of_length_le (by omega), List.take_length] at h3
    rw [h3]
  | d + 1, i, k + 1, ys, h1, h2, h3, h4 => by
    have hi : i < l.length := by omega
    have e : ((i : Int) + 1) = ((i + 1 : Nat) : Int) := by omega
    have ht : laws_toSound.f k l[i].f0 l[i].f1 l[i].f2 l[i].f3 l[i].f4 l[i].f5 = some (l[i].f0, l[i].f1, l[i].f2, l[i].f3, l[i].f4, l[i].f5) := by
      unfold laws_toSound.f
      rw [toF_some _ (hz _ (List.getElem_mem _)) k (by omega), Option.bind_some]
    rw [laws_toSoundS.l0, if_pos (by omega), if_pos (by omega), rdL_at hi, ht, Option.bind_some, if_pos (by omega), w64 (by omega) (by omega), e, Int.toNat_natCast]
    refine toS_loop l hl hz d (i + 1) k _ (by omega) (by rw [List.length_set]; exact h2) ?_ (by omega)
    rw [List.map_take] at h3 ⊢
    exact take_set_succ (xs := l.map cv1) (by rw [List.length_map]; exact hi) (by rw [List.length_map]; exact h2) h3 (by rw [List.getElem?_map, List.getElem?_eq_getElem hi]; rfl)
theorem toS_some (l : List LS) (hl : l.length ≤ 1048576) (hz : ∀ x ∈ l, x.f1.length ≤ 1048576) (k : Nat) (hk : 2100000 ≤ k) : laws_toSoundS.f k l = some (l.map cv1) := by
  unfold laws_toSoundS.f
  rw [if_pos (by omega), if_pos (by omega), Int.toNat_natCast]
  exact toS_loop l hl hz l.length 0 k _ (by omega) (by rw [List.length_replicate]) rfl (by omega)
def okI (x : IS) : Prop := x.f0.size ≤ 1048576 ∧ x.f1.length ≤ 1048576 ∧ (∀ y ∈ x.f1, y < 4294967296) ∧ x.f2 < 4294967296 ∧ x.f3 < 4294967296 ∧ x.f4 < 4294967296 ∧ x.f5 < 4294967296
theorem eqS_loop (l : List IS) (hl : l.length ≤ 1048576) (hx : ∀ x ∈ l, okI x) : ∀ (d i k : Nat), i + d = l.length → d < k → laws_eqSoundS.l0 k l l (i : Int) = some true
  | _, _, 0, _, h => by omega
  | 0, i, k + 1, h1, h2 => by
    obtain rfl : i = l.length := by omega
    rw [laws_eqSoundS.l0, if_neg (by omega)]
  | d + 1, i, k + 1, h1, h2 => by
    have hi : i < l.length := by omega
    have e : ((i : Int) + 1) = ((i + 1 : Nat) : Int) := by omega
    obtain ⟨o1, o2, o3, o4, o5, o6, o7⟩ := hx l[i] (List.getElem_mem _)
    have he : laws_eqSound.f l[i].f0 l[i].f1 l[i].f2 l[i].f3 l[i].f4 l[i].f5 l[i].f0 l[i].f1 l[i].f2 l[i].f3 l[i].f4 l[i].f5 = some true := by
      unfold laws_eqSound.f
      rw [if_pos ⟨rfl, rfl, rfl, rfl, rfl, rfl, o2, o3, o4, o5, o6, o7⟩]
    rw [laws_eqSoundS.l0, if_pos (by omega), if_pos (by omega), if_pos (by omega), rdI_at hi, he, Option.bind_some, if_pos rfl, w64 (by omega) (by omega), e]
    exact eqS_loop l hl hx d (i + 1) k (by omega) (by omega)
theorem eqS_some (l : List IS) (hl : l.length ≤ 1048576) (hx : ∀ x ∈ l, okI x) (k : Nat) (hk : 1048600 ≤ k) : laws_eqSoundS.f k l l = some true := by
  unfold laws_eqSoundS.f
  rw [if_pos rfl]
  exact eqS_loop l hl hx l.length 0 k (by omega) (by omega)
theorem bt_ok (s : ByteArray) (i : Nat) : ∃ b : Bool, (decide (bt s (i : Int) < 97) || decide (bt s (i : Int) > 122)) = !b := ⟨_, (Bool.not_not _).symm⟩
def lt1 (s : ByteArray) (i : Nat) : Bool := !(decide (bt s (i : Int) < 97) || decide (bt s (i : Int) > 122))
def nm (s : ByteArray) : Nat → Nat → Bool
  | 0, _ => true
  | d + 1, i => lt1 s i && nm s d (i + 1)
theorem nm_spec (s : ByteArray) (h4 : s.size ≤ 4) (h1 : 1 ≤ s.size) : ∀ (d i k : Nat), i + d = s.size → 2 * d + 1 < k → spec_l06Name.l0 k s (i : Int) = some (nm s d i)
  | _, _, 0, _, h => by omega
  | _, _, 1, _, h => by omega
  | 0, i, k + 2, h2, h3 => by
    rw [spec_l06Name.l0, if_neg (by omega), spec_l06Name.j1, if_neg (by decide), if_pos (by omega), decide_eq_true (by omega)]
    rfl
  | d + 1, i, k + 2, h2, h3 => by
    have e : ((i : Int) + 1) = ((i + 1 : Nat) : Int) := by omega
    rw [spec_l06Name.l0, if_pos (by omega), decide_eq_true (by omega), spec_l06Name.j1, if_pos rfl, if_pos (by omega), if_pos (by omega), w64 (by omega) (by omega), e, nm_spec s h4 h1 d (i + 1) k (by omega) (by omega), nm]
    unfold lt1
    by_cases c1 : bt s (i : Int) < 97
    · rw [if_pos c1]; simp [c1]
    · rw [if_neg c1]
      by_cases c2 : bt s (i : Int) > 122
      · rw [if_pos c2]; simp [c2]
      · rw [if_neg c2]; simp [c1, c2]
theorem nm_impl (s : ByteArray) (h4 : s.size ≤ 4) : ∀ (d i k : Nat), i + d = s.size → d < k → impl_IsName.l0 k s (i : Int) = some (nm s d i && decide (1 ≤ s.size))
  | _, _, 0, _, h => by omega
  | 0, i, k + 1, h2, h3 => by
    rw [impl_IsName.l0, if_neg (by omega)]
    unfold impl_within.f
    by_cases c : (s.size : Int) ≥ 1
    · rw [if_pos c, decide_eq_true (show (s.size : Int) ≤ 8 by omega), decide_eq_true (show 1 ≤ s.size by omega)]; rfl
    · rw [if_neg c, decide_eq_false (show ¬ 1 ≤ s.size by omega)]; rfl
  | d + 1, i, k + 1, h2, h3 => by
    have e : ((i : Int) + 1) = ((i + 1 : Nat) : Int) := by omega
    rw [impl_IsName.l0, if_pos (by omega), if_pos (by omega), w64 (by omega) (by omega), e, nm_impl s h4 d (i + 1) k (by omega) (by omega), nm]
    unfold lt1
    by_cases c1 : bt s (i : Int) < 97
    · rw [if_pos c1]; simp [c1]
    · rw [if_neg c1]
      by_cases c2 : bt s (i : Int) > 122
      · rw [if_pos c2]; simp [c2]
      · rw [if_neg c2]; simp [c1, c2]
theorem name_both (s : ByteArray) (hs : s.size ≤ 1048576) : ∃ b : Bool, ∀ k, 64 ≤ k → spec_l06Name.f k s = some b ∧ impl_isSoundName.f k s = some b := by
  by_cases h : 1 ≤ s.size ∧ s.size ≤ 4
  · refine ⟨nm s s.size 0, fun k hk => ⟨nm_spec s h.2 h.1 s.size 0 k (by omega) (by omega), ?_⟩⟩
    have h2 : impl_IsName.f k s = some (nm s s.size 0 && decide (1 ≤ s.size)) := nm_impl s h.2 s.size 0 k (by omega) (by omega)
    unfold impl_isSoundName.f
    rw [if_pos (by omega), h2, decide_eq_true h.1, Bool.and_true]; rfl
  · refine ⟨false, fun k hk => ⟨?_, ?_⟩⟩
    · obtain ⟨k, rfl⟩ : ∃ m, k = m + 2 := ⟨k - 2, by omega⟩
      unfold spec_l06Name.f
      rw [spec_l06Name.l0]
      by_cases c : s.size = 0
      · rw [if_neg (by omega), spec_l06Name.j1, if_neg (by decide), if_neg (by omega)]
      · rw [if_pos (by omega), decide_eq_false (by omega), spec_l06Name.j1, if_neg (by decide), if_pos (by omega), decide_eq_false (by omega)]
    · unfold impl_isSoundName.f
      by_cases c : s.size = 0
      · have h2 : impl_IsName.f k s = some (nm s s.size 0 && decide (1 ≤ s.size)) := nm_impl s (by omega) s.size 0 k (by omega) (by omega)
        rw [if_pos (by omega), h2, decide_eq_false (by omega), Bool.and_false]; rfl
      · rw [if_neg (by omega)]
theorem afin_impl (l : List Nat) (hl : l.length ≤ 1048576) : ∀ (d i k : Nat), i + d = l.length → d < k → impl_areFinite.l0 k l (l.length : Int) (i : Int) = some ((l.drop i).all finB)
  | _, _, 0, _, h => by omega
  | 0, i, k + 1, h1, h2 => by
    obtain rfl : i = l.length := by omega
    rw [impl_areFinite.l0, if_neg (by omega), List.drop_length]; rfl
  | d + 1, i, k + 1, h1, h2 => by
    have hi : i < l.length := by omega
    have e : ((i : Int) + 1) = ((i + 1 : Nat) : Int) := by omega
    rw [impl_areFinite.l0, if_pos (by omega), if_pos (by omega), if_pos (by omega), rdN_at hi, impl_IsFinite.f, Option.bind_some, w64 (by omega) (by omega), e, afin_impl l hl d (i + 1) k (by omega) (by omega), List.drop_eq_getElem_cons hi, List.all_cons]
    cases finB l[i] <;> rfl
theorem cont_impl (l : List Nat) (hl : l.length ≤ 1048576) : ∀ (d i k : Nat), i + d = l.length → d < k → ∃ r : Int, slices_IndexFunc_v_impl_areAreas_1.l0 k l (l.length : Int) (i : Int) = some r ∧ decide (r ≥ 0) = (l.drop i).any fun x => fle .f32 x 0
  | _, _, 0, _, h => by omega
  | 0, i, k + 1, h1, h2 => by
    obtain rfl : i = l.length := by omega
    refine ⟨-1, ?_, by rw [List.drop_length]; rfl⟩
    rw [slices_IndexFunc_v_impl_areAreas_1.l0, if_neg (by omega)]
  | d + 1, i, k + 1, h1, h2 => by
    have hi : i < l.length := by omega
    have e : ((i : Int) + 1) = ((i + 1 : Nat) : Int) := by omega
    rw [slices_IndexFunc_v_impl_areAreas_1.l0, if_pos (by omega), if_pos (by omega), if_pos (by omega), rdN_at hi, impl_areAreas_1.f, Option.bind_some, w64 (by omega) (by omega), e, List.drop_eq_getElem_cons hi, List.any_cons]
    by_cases c : fle .f32 l[i] 0 = true
    · rw [if_pos c]
      exact ⟨_, rfl, by rw [c, decide_eq_true (by omega)]; rfl⟩
    · rw [if_neg c]
      obtain ⟨r, h3, h4⟩ := cont_impl l hl d (i + 1) k (by omega) (by omega)
      refine ⟨r, h3, ?_⟩
      rw [Bool.not_eq_true] at c
      rw [h4, c, Bool.false_or]
theorem all_ab (l : List Nat) : (l.all finB && !(l.any fun x => fle .f32 x 0)) = l.all ab := by
  induction l with
  | nil => rfl
  | cons x l ih =>
    rw [List.all_cons, List.any_cons, List.all_cons, ← ih]
    unfold ab
    by_cases f : finB x = true
    · rw [gt_le x f, f]
      cases fle .f32 x 0 <;> simp
    · rw [Bool.not_eq_true] at f
      rw [f]; simp
theorem areas_both (l : List Nat) (hl : l.length ≤ 1048576) : ∃ b : Bool, ∀ k, 64 ≤ k → spec_l02Areas.f k l = some b ∧ impl_areAreas.f k l = some b := by
  by_cases h : 1 ≤ l.length ∧ l.length ≤ 16
  · refine ⟨l.all ab, fun k hk => ⟨areas_spec l h.2 h.1 l.length 0 k (by omega) (by omega), ?_⟩⟩
    have h3 : impl_within.f (l.length : Int) 1 16 = some true := by
      unfold impl_within.f; rw [if_pos (by omega), decide_eq_true (by omega)]
    have h4 : impl_areFinite.f k l = some (l.all finB) := afin_impl l hl l.length 0 k (by omega) (by omega)
    obtain ⟨r, h5, h6⟩ := cont_impl l hl l.length 0 k (by omega) (by omega)
    have h7 : slices_ContainsFunc_v_impl_areAreas_1.f k l = some (l.any fun x => fle .f32 x 0) := by
      unfold slices_ContainsFunc_v_impl_areAreas_1.f slices_IndexFunc_v_impl_areAreas_1.f
      rw [show ((0 : Int)) = ((0 : Nat) : Int) from rfl, h5, Option.bind_some]
      exact congrArg some h6
    unfold impl_areAreas.f
    rw [h3, Option.bind_some, if_pos rfl, h4, Option.bind_some, h7, Option.bind_some, ← all_ab]
    cases l.all finB <;> rfl
  · refine ⟨false, fun k hk => ⟨areas_long l h k (by omega), ?_⟩⟩
    have h3 : impl_within.f (l.length : Int) 1 16 = some false := by
      unfold impl_within.f
      split
      · rw [decide_eq_false (by omega)]
      · rfl
    unfold impl_areAreas.f
    rw [h3]; rfl
set_option maxRecDepth 20000 in
set_option maxHeartbeats 1000000 in
theorem sound_both (x : IS) (hx : okI x) : ∃ b : Bool, ∀ k, 64 ≤ k → spec_l06Sound.f k [x] = some b ∧ impl_ValidSound.f k x.f0 x.f1 x.f2 x.f3 x.f4 x.f5 = some b := by
  obtain ⟨b1, n1⟩ := name_both x.f0 hx.1
  obtain ⟨b2, n2⟩ := areas_both x.f1 hx.2.1
  have s1 : spec_l02Least.f x.f3 = some (finB x.f3 && fge .f32 x.f3 0) := by
    unfold spec_l02Least.f spec_l01Finite.f
    cases finB x.f3 <;> rfl
  have s2 : ∀ y, spec_l02Share.f y = some (fge .f32 y 0 && fle .f32 y 1065353216) := by
    intro y
    unfold spec_l02Share.f
    cases fge .f32 y 0 <;> rfl
  have s3 : ∀ y, impl_isBetween.f y 0 1065353216 = some (fge .f32 y 0 && fle .f32 y 1065353216) := by
    intro y
    unfold impl_isBetween.f
    cases fge .f32 y 0 <;> rfl
  refine ⟨b1 && b2 && (finB x.f2 && fgr .f32 x.f2 0) && (finB x.f3 && fge .f32 x.f3 0) && (fge .f32 x.f4 0 && fle .f32 x.f4 1065353216) && (fge .f32 x.f5 0 && fle .f32 x.f5 1065353216), fun k hk => ⟨?_, ?_⟩⟩
  · have hr : rd_T138 [x] 0 = x := rfl
    unfold spec_l06Sound.f
    rw [if_pos (show (0 : Int) < (([x] : List IS).length : Int) by show (0 : Int) < 1; decide), hr, (n1 k hk).1, (n2 k hk).1, ab_spec, s1, s2, s2]
    simp only [Option.bind_some]
    unfold ab
    cases b1 <;> cases b2 <;> cases finB x.f2 <;> cases fgr .f32 x.f2 0 <;> cases (finB x.f3 && fge .f32 x.f3 0) <;> cases (fge .f32 x.f4 0 && fle .f32 x.f4 1065353216) <;> cases (fge .f32 x.f5 0 && fle .f32 x.f5 1065353216) <;> rfl
  · unfold impl_ValidSound.f impl_IsFinite.f
    rw [(n1 k hk).2, (n2 k hk).2, s3, s3]
    simp only [Option.bind_some]
    cases b1 <;> cases b2 <;> cases finB x.f2 <;> cases fgr .f32 x.f2 0 <;> cases finB x.f3 <;> cases fge .f32 x.f3 0 <;> cases (fge .f32 x.f4 0 && fle .f32 x.f4 1065353216) <;> cases (fge .f32 x.f5 0 && fle .f32 x.f5 1065353216) <;> rfl
def soundB (x : IS) : Bool := (spec_l06Sound.f 64 [x]).getD false
theorem sound_k (x : IS) (hx : okI x) (k : Nat) (hk : 64 ≤ k) : spec_l06Sound.f k [x] = some (soundB x) ∧ impl_ValidSound.f k x.f0 x.f1 x.f2 x.f3 x.f4 x.f5 = some (soundB x) := by
  obtain ⟨b, h⟩ := sound_both x hx
  have hb : soundB x = b := by unfold soundB; rw [(h 64 (by omega)).1]; rfl
  rw [hb]; exact h k hk
def lessP (L : List IS) (i : Nat) : Bool := decide (i = 0) || Op.bytesLess ((rd_T138 L ((i - 1 : Nat) : Int)).f0.toList) ((rd_T138 L (i : Int)).f0.toList)
def cnd (L : List IS) (i : Nat) : Bool := soundB (rd_T138 L (i : Int)) && (decide ((rd_T138 L (i : Int)).f1.length = (rd_T138 L 0).f1.length) && lessP L i)
def allc (L : List IS) : Nat → Nat → Bool
  | 0, _ => true
  | d + 1, i => cnd L i && allc L d (i + 1)
theorem are_step (L : List IS) (i : Nat) (R : Option Bool) (rest : Bool) (hi : i < L.length) (hR : R = some rest) (hl : L.length ≤ 1048576) :
    (if soundB (rd_T138 L (i : Int)) = true then (if 0 < (L.length : Int) then (if (((rd_T138 L (i : Int)).f1).length : Int) = (((rd_T138 L 0).f1).length : Int) then (if (i : Int) > 0 then (if 0 ≤ (wrap64 ((i : Int) - 1)) then (if (wrap64 ((i : Int) - 1)) < (L.length : Int) then (if ((Op.bytesLess (((rd_T138 L (wrap64 ((i : Int) - 1))).f0).toList) (((rd_T138 L (i : Int)).f0).toList)) = true) then R else (some false)) else (none)) else (none)) else R) else (some false)) else (none)) else (some false)) = some (cnd L i && rest) := by
  unfold cnd
  by_cases c1 : soundB (rd_T138 L (i : Int)) = true
  · rw [if_pos c1, c1, if_pos (by omega)]
    by_cases c2 : (rd_T138 L (i : Int)).f1.length = (rd_T138 L 0).f1.length
    · rw [if_pos (by omega), decide_eq_true c2]
      unfold lessP
      by_cases c3 : i = 0
      · rw [if_neg (by omega), decide_eq_true c3, hR]; simp
      · have e : wrap64 ((i : Int) - 1) = ((i - 1 : Nat) : Int) := by rw [w64 (by omega) (by omega)]; omega
        rw [if_pos (by omega), e, if_pos (by omega), if_pos (by omega), decide_eq_false c3]
        by_cases c4 : Op.bytesLess (((rd_T138 L ((i - 1 : Nat) : Int)).f0).toList) (((rd_T138 L (i : Int)).f0).toList) = true
        · rw [if_pos c4, c4, hR]; simp
        · rw [if_neg c4]
          rw [Bool.not_eq_true] at c4
          rw [c4]; simp
    · rw [if_neg (by omega), decide_eq_false c2]; simp
  · rw [if_neg c1]
    rw [Bool.not_eq_true] at c1
    rw [c1]; simp
theorem are_spec (L : List IS) (hl : L.length ≤ 16) (hx : ∀ x ∈ L, okI x) : ∀ (d i k : Nat), i + d = L.length → 2 * d + 80 < k → spec_l06Are.l0 k L (i : Int) = some (allc L d i)
  | _, _, 0, _, h => by omega
  | _, _, 1, _, h => by omega
  | 0, i, k + 2, h2, h3 => by
    rw [spec_l06Are.l0, if_neg (by omega), spec_l06Are.j1, if_neg (by decide), decide_eq_true (by omega)]
    rfl
  | d + 1, i, k + 2, h2, h3 => by
    have hi : i < L.length := by omega
    have e : ((i : Int) + 1) = ((i + 1 : Nat) : Int) := by omega
    have ho : okI (rd_T138 L (i : Int)) := by rw [rdI_at hi]; exact hx _ (List.getElem_mem _)
    rw [spec_l06Are.l0, if_pos (by omega), decide_eq_true (by omega), spec_l06Are.j1, if_pos rfl, if_pos (by omega), if_pos (by omega), (sound_k _ ho k (by omega)).1, Option.bind_some, w64 (x := (i : Int) + 1) (by omega) (by omega), e]
    exact are_step L i _ _ hi (are_spec L hl hx d (i + 1) k (by omega) (by omega)) (by omega)
theorem are_impl (L : List IS) (hl : L.length ≤ 1048576) (hx : ∀ x ∈ L, okI x) : ∀ (d i k : Nat), i + d = L.length → d + 80 < k → impl_AreSounds.l0 k L L (L.length : Int) (i : Int) = some (allc L d i && decide (L.length ≤ 16))
  | _, _, 0, _, h => by omega
  | 0, i, k + 1, h2, h3 => by
    rw [impl_AreSounds.l0, if_neg (by omega)]
    by_cases c : L.length ≤ 16
    · rw [decide_eq_true c, decide_eq_true (by omega)]; rfl
    · rw [decide_eq_false c, decide_eq_false (by omega)]; rfl
  | d + 1, i, k + 1, h2, h3 => by
    have hi : i < L.length := by omega
    have e : ((i : Int) + 1) = ((i + 1 : Nat) : Int) := by omega
    have ho : okI (rd_T138 L (i : Int)) := by rw [rdI_at hi]; exact hx _ (List.getElem_mem _)
    rw [impl_AreSounds.l0, if_pos (by omega), if_pos (by omega), if_pos (by omega), (sound_k _ ho k (by omega)).2, Option.bind_some, w64 (x := (i : Int) + 1) (by omega) (by omega), e]
    refine (are_step L i _ _ hi (are_impl L hl hx d (i + 1) k (by omega) (by omega)) (by omega)).trans ?_
    rw [allc, Bool.and_assoc]
theorem are_both (L : List IS) (hl : L.length ≤ 1048576) (hx : ∀ x ∈ L, okI x) (k : Nat) (hk : 2100000 ≤ k) : ∃ b, spec_l06Are.f k L = some b ∧ impl_AreSounds.f k L = some b := by
  have h2 : impl_AreSounds.f k L = some (allc L L.length 0 && decide (L.length ≤ 16)) := are_impl L hl hx L.length 0 k (by omega) (by omega)
  by_cases c : L.length ≤ 16
  · refine ⟨allc L L.length 0, are_spec L c hx L.length 0 k (by omega) (by omega), ?_⟩
    rw [h2, decide_eq_true c, Bool.and_true]
  · refine ⟨false, ?_, by rw [h2, decide_eq_false c, Bool.and_false]⟩
    obtain ⟨k, rfl⟩ : ∃ m, k = m + 2 := ⟨k - 2, by omega⟩
    unfold spec_l06Are.f
    rw [spec_l06Are.l0, if_pos (by omega), decide_eq_false (by omega), spec_l06Are.j1, if_neg (by decide), decide_eq_false (by omega)]
theorem rdS_at {l : List ByteArray} {i : Nat} (h : i < l.length) : rdOf ByteArray.empty l (i : Int) = l[i]'h := by
  unfold rdOf
  rw [Int.toNat_natCast, List.getD_eq_getElem?_getD, List.getElem?_eq_getElem h]; rfl
theorem mtl (m : Nat) : ∀ (k x : Nat) (s : ByteArray), x < 10 ^ m → m < k → s.size + m ≤ 1000 → x ≤ 100000000000000000 → ∃ t, laws_markText.l0 k (x : Int) s = some t := by
  induction m with
  | zero =>
    intro k x s hx hk hs h9
    obtain ⟨k, rfl⟩ : ∃ m, k = m + 1 := ⟨k - 1, by omega⟩
    have hx0 : x = 0 := by simpa using hx
    rw [laws_markText.l0, if_neg (by omega), if_pos (by omega)]
    exact ⟨_, rfl⟩
  | succ m ih =>
    intro k x s hx hk hs h9
    obtain ⟨k, rfl⟩ : ∃ m, k = m + 1 := ⟨k - 1, by omega⟩
    by_cases c : (x : Int) > 0
    · have hd : wrap64 (Int.tdiv (x : Int) 10) = ((x / 10 : Nat) : Int) := by
        rw [Int.tdiv_eq_ediv_of_nonneg (by omega), w64 (by omega) (by omega)]; omega
      have h10 : x / 10 < 10 ^ m := by
        rw [Nat.pow_succ] at hx
        exact Nat.div_lt_of_lt_mul (by rw [Nat.mul_comm]; exact hx)
      rw [laws_markText.l0, if_pos c, Option.bind_some, hd]
      have hsz : ∀ z : Int, (strOfNums [z]).size = 1 := fun z => by simp [strOfNums, ByteArray.size]
      rw [hsz, if_pos (by omega)]
      exact ih k (x / 10) _ h10 (by omega) (by rw [ByteArray.size_append, hsz]; omega) (by omega)
    · rw [laws_markText.l0, if_neg c, if_pos (by omega)]
      exact ⟨_, rfl⟩
theorem mt_some (x : Nat) (hx : x < 10000000000000000) (k : Nat) (hk : 16 < k) : ∃ t, laws_markText.f k (x : Int) = some t := by
  unfold laws_markText.f
  by_cases c : (x : Int) ≤ 0
  · rw [if_pos c]; exact ⟨_, rfl⟩
  · rw [if_neg c]
    exact mtl 16 k x _ (by omega) hk (by decide) (by omega)
theorem mkA_ok : ∀ n, n < 2200 → fne .f32 (floatOfInt .f32 (n : Nat)) (floatOfInt .f32 (n : Nat)) = false := by
  have h : (List.range 2200).all (fun n => !fne .f32 (floatOfInt .f32 (n : Nat)) (floatOfInt .f32 (n : Nat))) = true := by kernel_rfl
  intro n hn
  have := List.all_eq_true.1 h n (List.mem_range.2 hn)
  simpa using this
def marksA (a n : Nat) : List Nat := (List.range n).map fun j => floatOfInt .f32 ((a + j : Nat) : Int)
theorem marksA_len (a n : Nat) : (marksA a n).length = n := by unfold marksA; rw [List.length_map, List.length_range]
theorem marksA_at {a n i : Nat} (h : i < n) : (marksA a n)[i]? = some (floatOfInt .f32 ((a + i : Nat) : Int)) := by
  unfold marksA
  rw [List.getElem?_map, List.getElem?_range h]; rfl
theorem marklA (a n : Nat) (ha : a ≤ 1000000000000000) (hn : n ≤ 1048576) : ∀ (d k : Nat) (xs : List Nat) (i : Nat), i + d = n → xs.length = n → xs.take i = (marksA a n).take i → d < k →
    laws_markFloat32S.l0 k xs ((a + i : Nat) : Int) (i : Int) = some (((a + n : Nat) : Int), marksA a n)
  | d, 0, xs, i, h1, hl, ht, hk => by omega
  | 0, k + 1, xs, i, h1, hl, ht, hk => by
    unfold laws_markFloat32S.l0
    obtain rfl : i = n := by omega
    rw [if_neg (by omega), List.take_of_length_le (by omega), List.take_of_length_le (by rw [marksA_len]; omega)] at *
    rw [ht]
  | d + 1, k + 1, xs, i, h1, hl, ht, hk => by
    unfold laws_markFloat32S.l0
    have e1 : wrap64 ((i : Int) + 1) = ((i + 1 : Nat) : Int) := by rw [w64 (by omega) (by omega)]; omega
    have e2 : wrap64 (((a + i : Nat) : Int) + 1) = ((a + (i + 1) : Nat) : Int) := by rw [w64 (by omega) (by omega)]; omega
    rw [if_pos (by omega), if_pos (by omega), e1, e2]
    refine marklA a n ha hn d k _ (i + 1) (by omega) (by rw [List.length_set]; exact hl) ?_ (by omega)
    rw [Int.toNat_natCast]
    exact take_set_succ (by rw [marksA_len]; omega) (by rw [marksA_len]; exact hl) ht (marksA_at (by omega))
theorem markA_some (a : Nat) (ha : a ≤ 1000000000000000) (l : List Nat) (hl : l.length ≤ 1048576) (k : Nat) (hk : l.length < k) : laws_markFloat32S.f k l (a : Int) = some (((a + l.length : Nat) : Int), marksA a l.length) :=
  marklA a l.length ha hl l.length k l 0 (by omega) rfl rfl hk
theorem heldlA (a n : Nat) (ha : a + n ≤ 2200) : ∀ (d k : Nat) (i : Nat), i + d = n → d < k →
    laws_heldFloat32S.l0 k (marksA a n) ((a + i : Nat) : Int) (i : Int) = some ((a + n : Nat) : Int)
  | d, 0, i, h1, hk => by omega
  | 0, k + 1, i, h1, hk => by
    unfold laws_heldFloat32S.l0
    obtain rfl : i = n := by omega
    rw [if_neg (by rw [marksA_len]; omega)]
  | d + 1, k + 1, i, h1, hk => by
    unfold laws_heldFloat32S.l0
    have e1 : wrap64 ((i : Int) + 1) = ((i + 1 : Nat) : Int) := by rw [w64 (by omega) (by omega)]; omega
    have e2 : wrap64 (((a + i : Nat) : Int) + 1) = ((a + (i + 1) : Nat) : Int) := by rw [w64 (by omega) (by omega)]; omega
    have e3 : rdOf (0 : Nat) (marksA a n) (i : Int) = floatOfInt .f32 ((a + i : Nat) : Int) := by
      unfold rdOf
      rw [Int.toNat_natCast, List.getD_eq_getElem?_getD, marksA_at (by omega)]; rfl
    rw [if_pos (by rw [marksA_len]; omega), if_pos (by omega), e3, mkA_ok (a + i) (by omega), if_neg (by simp), e1, e2]
    exact heldlA a n ha d k (i + 1) (by omega) (by omega)
theorem heldA_some (a n : Nat) (ha : a + n ≤ 2200) (k : Nat) (hk : n < k) : laws_heldFloat32S.f k (marksA a n) (a : Int) = some ((a + n : Nat) : Int) :=
  heldlA a n ha n k 0 (by omega) hk
theorem eqF_some (l : List Nat) (hl : l.length ≤ 1048576) (hb : ∀ x ∈ l, x < 4294967296) : laws_eqFloat32S.f l l = some true := by
  unfold laws_eqFloat32S.f
  rw [if_pos ⟨rfl, hl, hb⟩]
theorem eqSl (l : List ByteArray) (hl : l.length ≤ 4194304) (d : Nat) : ∀ (k i : Nat), i + d = l.length → d < k → laws_eqStringS.l0 k l l (i : Int) = some true := by
  induction d with
  | zero =>
    intro k i h1 hk
    obtain ⟨k, rfl⟩ : ∃ m, k = m + 1 := ⟨k - 1, by omega⟩
    rw [laws_eqStringS.l0, if_neg (nlt (by omega))]
  | succ d ih =>
    intro k i h1 hk
    obtain ⟨k, rfl⟩ : ∃ m, k = m + 1 := ⟨k - 1, by omega⟩
    have hi : i < l.length := by omega
    rw [laws_eqStringS.l0, if_pos (lt' hi), if_pos (nn i), if_pos (lt' hi), if_pos rfl, up hi (by omega)]
    exact ih k (i + 1) (by omega) (by omega)
theorem eqSs (l : List ByteArray) (hl : l.length ≤ 4194303) (k : Nat) (hk : 4194304 ≤ k) : laws_eqStringS.f k l l = some true := by
  unfold laws_eqStringS.f
  rw [if_pos rfl]
  exact eqSl l (by omega) l.length k 0 (by omega) (by omega)
theorem eqS1 (l : List ByteArray) (hl : l.length ≤ 1048576) (k : Nat) (hk : l.length < k) : laws_eqStringS.f k l l = some true := by
  unfold laws_eqStringS.f
  rw [if_pos rfl]
  exact eqSl l (by omega) l.length k 0 (by omega) hk
def ssum (l : List ByteArray) : Nat := (l.map (·.size)).sum
theorem size_le_sum : ∀ (l : List ByteArray) (x : ByteArray), x ∈ l → x.size ≤ ssum l
  | y :: l, x, h => by
    unfold ssum
    rw [List.map_cons, List.sum_cons]
    rcases List.mem_cons.1 h with rfl | h
    · omega
    · have := size_le_sum l x h
      unfold ssum at this; omega
theorem szSl (l : List ByteArray) (hl : l.length ≤ 1048576) (hz : ∀ x ∈ l, x.size ≤ 140737488351232) : ∀ (d i n k : Nat), i + d = l.length → n ≤ 1048576 → d < k → ∃ r, laws_szStringS.l0 k l (n : Int) (i : Int) = some r ∧ (r < 0 ∨ ssum (l.drop i) ≤ n)
  | d, i, n, 0, h1, h2, h3 => by omega
  | 0, i, n, k + 1, h1, h2, h3 => by
    obtain rfl : i = l.length := by omega
    refine ⟨n, by rw [laws_szStringS.l0, if_neg (by omega)], .inr ?_⟩
    rw [List.drop_length]; exact Nat.zero_le _
  | d + 1, i, n, k + 1, h1, h2, h3 => by
    have hi : i < l.length := by omega
    have hx := hz _ (List.getElem_mem hi)
    have hs : ssum (l.drop i) = l[i].size + ssum (l.drop (i + 1)) := by unfold ssum; rw [List.drop_eq_getElem_cons hi, List.map_cons, List.sum_cons]
    have e1 : wrap64 ((n : Int) - (l[i].size : Int)) = (n : Int) - (l[i].size : Int) := w64 (by omega) (by omega)
    rw [laws_szStringS.l0, if_pos (lt' hi), if_pos (nn i), rdS_at hi, e1, hs]
    clear e1
    by_cases c : (n : Int) - (l[i].size : Int) < 0
    · exact ⟨-1, by rw [if_pos c], .inl (by decide)⟩
    · obtain ⟨r, h4, h5⟩ := szSl l hl hz d (i + 1) (n - l[i].size) k (by omega) (by omega) (by omega)
      refine ⟨r, ?_, h5.imp id (fun h => by omega)⟩
      rw [if_neg c, up hi (by omega), show (n : Int) - (l[i].size : Int) = ((n - l[i].size : Nat) : Int) by omega]; exact h4
theorem szS (l : List ByteArray) (hl : l.length ≤ 9223372036854775807) (hz : ∀ x ∈ l, x.size ≤ 140737488351232) : ∃ r, (∀ k, 1048577 ≤ k → laws_szStringS.f k l 1048576 = some r) ∧ (r < 0 ∨ l.length ≤ 1048576 ∧ ssum l ≤ 1048576) := by
  have e1 : wrap64 (1048576 - (l.length : Int)) = 1048576 - (l.length : Int) := w64 (by omega) (by omega)
  by_cases c : (1048576 : Int) - (l.length : Int) < 0
  · refine ⟨-1, fun k _ => ?_, .inl (by decide)⟩
    unfold laws_szStringS.f
    rw [e1, if_pos c]
  · obtain ⟨r, h4, h5⟩ := szSl l (by clear e1; omega) hz l.length 0 (1048576 - l.length) 1048577 (by omega) (by omega) (by clear e1; omega)
    rw [List.drop_zero] at h5
    refine ⟨r, fun k hk => ?_, h5.imp id (fun h => ⟨by clear e1; omega, by omega⟩)⟩
    refine at_rounds (g := fun k => laws_szStringS.f k l 1048576) (fun k => laws_szStringS.mono _ _ k) hk ?_
    unfold laws_szStringS.f
    rw [e1, if_neg c, show (1048576 : Int) - (l.length : Int) = ((1048576 - l.length : Nat) : Int) by clear e1; omega]; exact h4
theorem toSl (l : List ByteArray) (hl : l.length ≤ 1048576) (d : Nat) : ∀ (k : Nat) (ys : List ByteArray) (i : Nat), i + d = l.length → d < k → ys.length = l.length → ys.take i = l.take i → laws_toStringS.l0 k l ys (i : Int) = some l := by
  induction d with
  | zero =>
    intro k ys i h1 hk hy ht
    obtain ⟨k, rfl⟩ : ∃ m, k = m + 1 := ⟨k - 1, by omega⟩
    obtain rfl : i = l.length := by omega
    rw [laws_toStringS.l0, if_neg (nlt (Nat.le_refl _))]
    rw [List.take_of_length_le (by omega), List.take_of_length_le (Nat.le_refl _)] at ht
    rw [ht]
  | succ d ih =>
    intro k ys i h1 hk hy ht
    obtain ⟨k, rfl⟩ : ∃ m, k = m + 1 := ⟨k - 1, by omega⟩
    have hi : i < l.length := by omega
    have hiy : i < ys.length := by omega
    have hset := take_set_succ hi hy ht (List.getElem?_eq_getElem hi)
    rw [laws_toStringS.l0, if_pos (lt' hi), if_pos (nn i), rdS_at hi, if_pos (lt' hiy), up hi (by omega), Int.toNat_natCast]
    exact ih k _ (i + 1) (by omega) (by omega) (by rw [List.length_set]; exact hy) hset
theorem toS (l : List ByteArray) (hl : l.length ≤ 1048576) (k : Nat) (hk : 1048577 ≤ k) : laws_toStringS.f k l = some l := by
  unfold laws_toStringS.f
  rw [if_pos (nn _), if_pos (by omega)]
  exact toSl l hl l.length k _ 0 (by omega) (by omega) (by rw [List.length_replicate]; omega) rfl
def nnan (x : Nat) : Prop := ∀ s t, FloatKind.f32.format.read x ≠ .nan s t
theorem word_ok (s : Bool) (r : Nat) (hr : r ≤ 2139095040) : nnan (FloatKind.f32.format.word s r) ∧ FloatKind.f32.format.word s r < 4294967296 := by
  have e1 : FloatKind.f32.format.signWeight = 2147483648 := by decide +kernel
  have e2 : FloatKind.f32.format.infRung = 2139095040 := by decide +kernel
  have hw : FloatKind.f32.format.word s r % 2147483648 = r ∧ FloatKind.f32.format.word s r < 4294967296 := by
    unfold Ieee.Format.word
    rw [e1]
    cases s <;> simp <;> omega
  refine ⟨fun s2 t => ?_, hw.2⟩
  unfold Ieee.Format.read
  simp only [e1, e2, hw.1]
  split
  · exact fun h => by cases h
  · split
    · exact fun h => by cases h
    · split
      · exact fun h => by cases h
      · omega
theorem write_ok (d : Ieee.Datum) (hd : ∀ s t, d ≠ .nan s t) : nnan (FloatKind.f32.format.write d) ∧ FloatKind.f32.format.write d < 4294967296 := by
  have e2 : FloatKind.f32.format.infRung = 2139095040 := by decide +kernel
  cases d with
  | nan s t => exact absurd rfl (hd s t)
  | infinity s => exact word_ok s _ (by rw [e2]; exact Nat.le_refl _)
  | number s m e =>
    show nnan (FloatKind.f32.format.nearest s m e) ∧ FloatKind.f32.format.nearest s m e < 4294967296
    unfold Ieee.Format.nearest
    split
    · exact word_ok s 0 (by decide)
    · exact word_ok s _ (by rw [e2]; exact Nat.min_le_right _ _)
theorem mul_ok (x c m : Nat) (e : Int) (hx : nnan x) (hc : FloatKind.f32.format.read c = .number false m e) (hm : m ≠ 0) : foprOk .mul .f32 x c = true ∧ nnan (fopr .mul .f32 x c) ∧ fopr .mul .f32 x c < 4294967296 := by
  have hb : floatBits .mul .f32 x c = ((FloatKind.f32.format.read x).product (FloatKind.f32.format.read c)).map FloatKind.f32.format.write := rfl
  have key : ∀ d, (FloatKind.f32.format.read x).product (FloatKind.f32.format.read c) = some d → (∀ s t, d ≠ .nan s t) → foprOk .mul .f32 x c = true ∧ nnan (fopr .mul .f32 x c) ∧ fopr .mul .f32 x c < 4294967296 := by
    intro d hd hn
    unfold foprOk fopr
    rw [hb, hd]
    exact ⟨rfl, write_ok d hn⟩
  rw [hc] at key
  cases hr : FloatKind.f32.format.read x with
  | nan s t => exact absurd hr (hx s t)
  | infinity s => exact key (.infinity (s ^^ false)) (by rw [hr]; simp [Ieee.Datum.product, hm]) (fun s t h => by cases h)
  | number s m2 e2 => exact key (.number (s ^^ false) (m2 * m) (e2 + e)) (by rw [hr]; rfl) (fun s t h => by cases h)
theorem fin_nn (x : Nat) (h : finB x = true) : nnan x := by
  intro s t hr
  have h2 := fin_nan x h
  rw [hr] at h2
  cases h2
theorem mul125 (x : Nat) (hx : nnan x) : foprOk .mul .f32 x 1067450368 = true ∧ nnan (fopr .mul .f32 x 1067450368) ∧ fopr .mul .f32 x 1067450368 < 4294967296 :=
  mul_ok x _ 10485760 (-23) hx (by decide +kernel) (by decide)
theorem mul150 (x : Nat) (hx : nnan x) : foprOk .mul .f32 x 1069547520 = true ∧ nnan (fopr .mul .f32 x 1069547520) ∧ fopr .mul .f32 x 1069547520 < 4294967296 :=
  mul_ok x _ 12582912 (-23) hx (by decide +kernel) (by decide)
def fnd (L : List IS) (s : ByteArray) : Nat → Nat → Int
  | 0, _ => -1
  | d + 1, i => if (rd_T138 L (i : Int)).f0.toList = s.toList then (i : Int) else fnd L s d (i + 1)
theorem fnd_in (L : List IS) (s : ByteArray) : ∀ d i, fnd L s d i = -1 ∨ ∃ j : Nat, fnd L s d i = (j : Int) ∧ j < i + d
  | 0, i => .inl rfl
  | d + 1, i => by
    unfold fnd
    split
    · exact .inr ⟨i, rfl, by omega⟩
    · rcases fnd_in L s d (i + 1) with h | ⟨j, h, hj⟩
      · exact .inl h
      · exact .inr ⟨j, h, by omega⟩
theorem find_spec (L : List IS) (hl : L.length ≤ 1048576) (s : ByteArray) : ∀ (d i k : Nat), i + d = L.length → d < k → spec_l06Find.l0 k L s (i : Int) = some (fnd L s d i)
  | _, _, 0, _, h => by omega
  | 0, i, k + 1, h1, h2 => by
    rw [spec_l06Find.l0, if_neg (by omega)]; rfl
  | d + 1, i, k + 1, h1, h2 => by
    have e : ((i : Int) + 1) = ((i + 1 : Nat) : Int) := by omega
    rw [spec_l06Find.l0, if_pos (by omega), if_pos (by omega), fnd]
    split
    · rfl
    · rw [w64 (by omega) (by omega), e]; exact find_spec L hl s d (i + 1) k (by omega) (by omega)
theorem fs1 (x : IS) (s : ByteArray) : impl_findSound_1.f x.f0 x.f1 x.f2 x.f3 x.f4 x.f5 [(⟨s⟩ : S9)] = some (x.f0.toList == s.toList) := rfl
theorem find_impl (L : List IS) (hl : L.length ≤ 1048576) (s : ByteArray) : ∀ (d i k : Nat), i + d = L.length → d < k → slices_IndexFunc_v_impl_findSound_1.l0 k L (L.length : Int) (i : Int) [(⟨s⟩ : S9)] = some (fnd L s d i)
  | _, _, 0, _, h => by omega
  | 0, i, k + 1, h1, h2 => by
    rw [slices_IndexFunc_v_impl_findSound_1.l0, if_neg (by omega)]; rfl
  | d + 1, i, k + 1, h1, h2 => by
    have e : ((i : Int) + 1) = ((i + 1 : Nat) : Int) := by omega
    rw [slices_IndexFunc_v_impl_findSound_1.l0, if_pos (by omega), if_pos (by omega), if_pos (by omega), fs1, Option.bind_some, fnd]
    by_cases c : (rd_T138 L (i : Int)).f0.toList = s.toList
    · rw [if_pos (by rw [c]; exact beq_self_eq_true _), if_pos c]
    · rw [if_neg (by rw [beq_iff_eq]; exact c), if_neg c, w64 (by omega) (by omega), e]; exact find_impl L hl s d (i + 1) k (by omega) (by omega)
def fd (L : List IS) (s : ByteArray) : Int := fnd L s L.length 0
theorem fd_spec (L : List IS) (hl : L.length ≤ 1048576) (s : ByteArray) (k : Nat) (hk : 1048577 ≤ k) : spec_l06Find.f k L s = some (fd L s) := find_spec L hl s L.length 0 k (by omega) (by omega)
theorem fd_impl (L : List IS) (hl : L.length ≤ 1048576) (s : ByteArray) (k : Nat) (hk : 1048577 ≤ k) : impl_findSound.f k L s = some (fd L s) := by
  unfold impl_findSound.f slices_IndexFunc_v_impl_findSound_1.f
  have h := find_impl L hl s L.length 0 k (by omega) (by omega)
  rw [show ((0 : Nat) : Int) = 0 from rfl] at h
  rw [h]; rfl
theorem fd_in (L : List IS) (s : ByteArray) : fd L s = -1 ∨ ∃ j : Nat, fd L s = (j : Int) ∧ j < L.length := by
  rcases fnd_in L s L.length 0 with h | ⟨j, h, hj⟩
  · exact .inl h
  · exact .inr ⟨j, h, by omega⟩
def hit (L : List IS) (s : ByteArray) : Bool := !decide (fd L s < 0)
theorem names_spec (L : List IS) (hl : L.length ≤ 1048576) (ns : List ByteArray) (hn : ns.length ≤ 24) (b : Bool) (hb : ∀ k, 2100000 ≤ k → spec_l06Are.f k L = some b) : ∀ (d i k : Nat), i + d = ns.length → 2 * d + 2100010 < k → spec_l06Names.l0 k L ns (i : Int) = some ((ns.drop i).all (hit L) && (b && decide (1 ≤ ns.length)))
  | _, _, 0, _, h => by omega
  | _, _, 1, _, h => by omega
  | 0, i, k + 2, h1, h2 => by
    obtain rfl : i = ns.length := by omega
    rw [spec_l06Names.l0, if_neg (by omega), spec_l06Names.j1, if_neg (by decide), hb k (by omega), Option.bind_some, List.drop_length]
    cases b with
    | false => rfl
    | true =>
      rw [if_pos rfl]
      by_cases c : 1 ≤ ns.length
      · rw [if_pos (by omega), decide_eq_true c, decide_eq_true (by omega)]; rfl
      · rw [if_neg (by omega), decide_eq_false c]; rfl
  | d + 1, i, k + 2, h1, h2 => by
    have hi : i < ns.length := by omega
    have e : ((i : Int) + 1) = ((i + 1 : Nat) : Int) := by omega
    rw [spec_l06Names.l0, if_pos (by omega), decide_eq_true (by omega), spec_l06Names.j1, if_pos rfl, if_pos (by omega), if_pos (by omega), rdS_at hi, fd_spec L hl _ k (by omega), Option.bind_some, List.drop_eq_getElem_cons hi, List.all_cons]
    unfold hit
    by_cases c : fd L ns[i] < 0
    · rw [if_pos c, decide_eq_true c]; rfl
    · rw [if_neg c, decide_eq_false c, w64 (by omega) (by omega), e, names_spec L hl ns hn b hb d (i + 1) k (by omega) (by omega)]; rfl
theorem an1 (k : Nat) (s : ByteArray) (L : List IS) : impl_areNames_1.f k s [(⟨L⟩ : S64)] = (impl_findSound.f k L s).bind fun t => some (decide (t < 0)) := rfl
theorem names_impl (L : List IS) (hl : L.length ≤ 1048576) (ns : List ByteArray) (hn : ns.length ≤ 1048576) : ∀ (d i k : Nat), i + d = ns.length → d + 1048580 < k → ∃ r : Int, slices_IndexFunc_v_impl_areNames_1.l0 k ns (ns.length : Int) (i : Int) [(⟨L⟩ : S64)] = some r ∧ decide (r ≥ 0) = !((ns.drop i).all (hit L))
  | _, _, 0, _, h => by omega
  | 0, i, k + 1, h1, h2 => by
    obtain rfl : i = ns.length := by omega
    rw [slices_IndexFunc_v_impl_areNames_1.l0, if_neg (by omega), List.drop_length]
    exact ⟨_, rfl, rfl⟩
  | d + 1, i, k + 1, h1, h2 => by
    have hi : i < ns.length := by omega
    have e : ((i : Int) + 1) = ((i + 1 : Nat) : Int) := by omega
    rw [slices_IndexFunc_v_impl_areNames_1.l0, if_pos (by omega), if_pos (by omega), if_pos (by omega), rdS_at hi, an1, fd_impl L hl _ k (by omega), Option.bind_some, Option.bind_some, List.drop_eq_getElem_cons hi, List.all_cons]
    unfold hit
    by_cases c : fd L ns[i] < 0
    · rw [decide_eq_true c, if_pos rfl]
      exact ⟨_, rfl, by rw [decide_eq_true (by omega)]; rfl⟩
    · rw [decide_eq_false c, if_neg (by decide), w64 (by omega) (by omega), e]
      obtain ⟨r, h3, h4⟩ := names_impl L hl ns hn d (i + 1) k (by omega) (by omega)
      exact ⟨r, h3, h4⟩
theorem names_both (L : List IS) (hl : L.length ≤ 1048576) (hx : ∀ x ∈ L, okI x) (ns : List ByteArray) (hn : ns.length ≤ 1048576) : ∃ b : Bool, (∀ k, 4000000 ≤ k → spec_l06Names.f k L ns = some b ∧ impl_areNames.f k L ns = some b) ∧ (b = true → ns.length ≤ 24 ∧ ns.all (hit L) = true ∧ impl_AreSounds.f 2100000 L = some true) := by
  obtain ⟨b, hb1, hb2⟩ := are_both L hl hx 2100000 (by omega)
  have hs : ∀ k, 2100000 ≤ k → spec_l06Are.f k L = some b := fun k hk => at_rounds (g := fun k => spec_l06Are.f k L) (spec_l06Are.mono L) hk hb1
  have hi : ∀ k, 2100000 ≤ k → impl_AreSounds.f k L = some b := fun k hk => at_rounds (g := fun k => impl_AreSounds.f k L) (impl_AreSounds.mono L) hk hb2
  by_cases c : ns.length ≤ 24
  · refine ⟨ns.all (hit L) && (b && decide (1 ≤ ns.length)), fun k hk => ⟨?_, ?_⟩, fun h => ?_⟩
    · have h := names_spec L hl ns c b hs ns.length 0 k (by omega) (by omega)
      rw [List.drop_zero] at h
      exact h
    · obtain ⟨r, h3, h4⟩ := names_impl L hl ns hn ns.length 0 k (by omega) (by omega)
      rw [List.drop_zero] at h4
      unfold impl_areNames.f impl_within.f slices_ContainsFunc_v_impl_areNames_1.f slices_IndexFunc_v_impl_areNames_1.f
      rw [show ((0 : Nat) : Int) = 0 from rfl] at h3
      rw [hi k (by omega), Option.bind_some, h3, Option.bind_some, h4]
      cases b with
      | false => simp
      | true =>
        rw [if_pos rfl]
        by_cases c1 : 1 ≤ ns.length
        · rw [if_pos (by omega), Option.bind_some, decide_eq_true (by omega), if_pos rfl, decide_eq_true c1]
          cases ns.all (hit L) <;> rfl
        · rw [if_neg (by omega), decide_eq_false c1]
          simp
    · rw [Bool.and_eq_true, Bool.and_eq_true] at h
      obtain ⟨h5, h6, -⟩ := h
      subst h6
      exact ⟨c, h5, hb2⟩
  · refine ⟨false, fun k hk => ⟨?_, ?_⟩, fun h => by cases h⟩
    · obtain ⟨k, rfl⟩ : ∃ m, k = m + 2 := ⟨k - 2, by omega⟩
      unfold spec_l06Names.f
      rw [spec_l06Names.l0, if_pos (by omega), decide_eq_false (by omega), spec_l06Names.j1, if_neg (by decide), hs k (by omega), Option.bind_some]
      cases b with
      | false => rfl
      | true => rw [if_pos rfl, if_pos (by omega), decide_eq_false (by omega)]
    · unfold impl_areNames.f impl_within.f
      rw [hi k (by omega), Option.bind_some]
      cases b with
      | false => rfl
      | true => rw [if_pos rfl, if_pos (by omega), Option.bind_some, decide_eq_false (by omega), if_neg (by decide)]
theorem snd_fin (x : IS) (h : spec_l06Sound.f 64 [x] = some true) : finB x.f2 = true := by
  have h0 : rd_T138 [x] 0 = x := rfl
  unfold spec_l06Sound.f at h
  rw [if_pos (by simp), h0] at h
  obtain ⟨b1, -, h⟩ := Option.bind_eq_some_iff.mp h
  cases b1 with
  | false => simp at h
  | true =>
    rw [if_pos rfl] at h
    obtain ⟨b2, -, h⟩ := Option.bind_eq_some_iff.mp h
    cases b2 with
    | false => simp at h
    | true =>
      rw [if_pos rfl, ab_spec, Option.bind_some] at h
      cases hf : finB x.f2 with
      | true => rfl
      | false => unfold ab at h; rw [hf] at h; simp at h
theorem allc_at (L : List IS) : ∀ d i, allc L d i = true → ∀ j, i ≤ j → j < i + d → soundB (rd_T138 L (j : Int)) = true
  | 0, i, _, j, h1, h2 => by omega
  | d + 1, i, h, j, h1, h2 => by
    rw [allc, Bool.and_eq_true] at h
    by_cases c : j = i
    · subst c
      have := h.1
      unfold cnd at this
      rw [Bool.and_eq_true] at this
      exact this.1
    · exact allc_at L d (i + 1) h.2 j (by omega) (by omega)
theorem are_fin (L : List IS) (hl : L.length ≤ 1048576) (hx : ∀ x ∈ L, okI x) (h : impl_AreSounds.f 2100000 L = some true) (j : Nat) (hj : j < L.length) : finB (rd_T138 L (j : Int)).f2 = true := by
  have h2 : impl_AreSounds.f 2100000 L = some (allc L L.length 0 && decide (L.length ≤ 16)) := are_impl L hl hx L.length 0 2100000 (by omega) (by omega)
  rw [h2] at h
  injection h with h
  rw [Bool.and_eq_true] at h
  have h3 := allc_at L L.length 0 h.1 j (by omega) (by omega)
  have ho : okI (rd_T138 L (j : Int)) := by rw [rdI_at hj]; exact hx _ (List.getElem_mem _)
  refine snd_fin _ ?_
  rw [(sound_k _ ho 64 (by omega)).1, h3]
def lv (L : List IS) (ns : List ByteArray) (st : List Bool) (i : Nat) : Nat :=
  let y := (rd_T138 L (fd L (rdOf ByteArray.empty ns (i : Int)))).f2
  let y1 := if rdOf false st (i : Int) = true then fopr .mul .f32 y 1067450368 else y
  if i + 1 = ns.length then fopr .mul .f32 y1 1069547520 else y1
structure GoodL (L : List IS) (ns : List ByteArray) (st : List Bool) : Prop where
  hl : L.length ≤ 1048576
  hx : ∀ x ∈ L, okI x
  hn : ns.length ≤ 24
  hs : st.length = ns.length
  hit : ∀ i : Nat, i < ns.length → ∃ j : Nat, fd L (rdOf ByteArray.empty ns (i : Int)) = (j : Int) ∧ j < L.length
  fin : ∀ j : Nat, j < L.length → finB (rd_T138 L (j : Int)).f2 = true
theorem lv_lt {L : List IS} {ns : List ByteArray} {st : List Bool} (g : GoodL L ns st) (i : Nat) (hi : i < ns.length) : lv L ns st i < 4294967296 := by
  obtain ⟨j, hj, hjl⟩ := g.hit i hi
  have hf := fin_nn _ (g.fin j hjl)
  have h32 : (rd_T138 L (j : Int)).f2 < 4294967296 := by rw [rdI_at hjl]; exact (g.hx _ (List.getElem_mem _)).2.2.2.1
  unfold lv
  rw [hj]
  simp only
  obtain ⟨-, m2, m3⟩ := mul125 _ hf
  split
  · split
    · exact (mul150 _ m2).2.2
    · exact (mul150 _ hf).2.2
  · split
    · exact m3
    · exact h32
theorem len_spec {L : List IS} {ns : List ByteArray} {st : List Bool} (g : GoodL L ns st) (k i : Nat) (acc : List Nat) (hi : i < ns.length) (ha : acc.length ≤ 24) (hk : 1048577 ≤ k) : spec_l06Lengths.l0 (k + 1) L ns st acc (i : Int) = spec_l06Lengths.l0 k L ns st (acc ++ [lv L ns st i]) ((i + 1 : Nat) : Int) := by
  obtain ⟨j, hj, hjl⟩ := g.hit i hi
  have hf := fin_nn _ (g.fin j hjl)
  obtain ⟨m1, m2, m3⟩ := mul125 _ hf
  have m4 := (mul150 _ m2).1
  have m5 := (mul150 _ hf).1
  have hs := g.hs
  have hn := g.hn
  have e : wrap64 ((i : Int) + 1) = ((i + 1 : Nat) : Int) := by rw [w64 (by omega) (by omega)]; omega
  have e2 : wrap64 ((ns.length : Int) - 1) = (ns.length : Int) - 1 := w64 (by omega) (by omega)
  have hlt : acc.length < 35184372088832 := by omega
  rw [spec_l06Lengths.l0, if_pos (by omega), if_pos (by omega), fd_spec L g.hl _ k hk, Option.bind_some, hj, if_pos (by omega), if_pos (by omega), if_pos (by omega), e, e2]
  unfold lv
  rw [hj]
  simp only
  by_cases c1 : rdOf false st (i : Int) = true
  · rw [if_pos c1, if_pos c1, if_pos m1]
    by_cases c2 : i + 1 = ns.length
    · rw [if_pos (by omega), if_pos c2, if_pos m4, if_pos hlt]
    · rw [if_neg (by omega), if_neg c2, if_pos hlt]
  · rw [if_neg c1, if_neg c1]
    by_cases c2 : i + 1 = ns.length
    · rw [if_pos (by omega), if_pos c2, if_pos m5, if_pos hlt]
    · rw [if_neg (by omega), if_neg c2, if_pos hlt]
theorem len_impl {L : List IS} {ns : List ByteArray} {st : List Bool} (g : GoodL L ns st) (k i : Nat) (ys : List Nat) (hi : i < ns.length) (hy : ys.length = ns.length) (hk : 1048577 ≤ k) : impl_lengthsOf.l0 (k + 1) L ns st ys ns (ns.length : Int) (i : Int) = impl_lengthsOf.l0 k L ns st (ys.set i (lv L ns st i)) ns (ns.length : Int) ((i + 1 : Nat) : Int) := by
  obtain ⟨j, hj, hjl⟩ := g.hit i hi
  have hf := fin_nn _ (g.fin j hjl)
  obtain ⟨m1, m2, m3⟩ := mul125 _ hf
  have m4 := (mul150 _ m2).1
  have m5 := (mul150 _ hf).1
  have hs := g.hs
  have hn := g.hn
  have e : wrap64 ((i : Int) + 1) = ((i + 1 : Nat) : Int) := by rw [w64 (by omega) (by omega)]; omega
  have e2 : wrap64 ((ns.length : Int) - 1) = (ns.length : Int) - 1 := w64 (by omega) (by omega)
  have hlt : (i : Int) < (ys.length : Int) := by omega
  rw [impl_lengthsOf.l0, if_pos (by omega), if_pos (by omega), if_pos (by omega), fd_impl L g.hl _ k hk, Option.bind_some, hj, if_pos (by omega), if_pos (by omega), if_pos (by omega), e, e2, Int.toNat_natCast]
  unfold lv
  rw [hj]
  simp only
  by_cases c1 : rdOf false st (i : Int) = true
  · rw [if_pos c1, if_pos c1, if_pos m1]
    by_cases c2 : i + 1 = ns.length
    · rw [if_pos (by omega), if_pos c2, if_pos m4, if_pos hlt]
    · rw [if_neg (by omega), if_neg c2, if_pos hlt]
  · rw [if_neg c1, if_neg c1]
    by_cases c2 : i + 1 = ns.length
    · rw [if_pos (by omega), if_pos c2, if_pos m5, if_pos hlt]
    · rw [if_neg (by omega), if_neg c2, if_pos hlt]
def lvs (L : List IS) (ns : List ByteArray) (st : List Bool) : List Nat := (List.range ns.length).map (lv L ns st)
theorem lvs_len (L : List IS) (ns : List ByteArray) (st : List Bool) : (lvs L ns st).length = ns.length := by unfold lvs; rw [List.length_map, List.length_range]
def res (xs : List Nat) : List Nat × Bool := if xs.all finB = true then (xs, true) else ([], false)
theorem list_spec (l : List Nat) (hl : l.length ≤ 1048576) : ∀ (d i k : Nat), i + d = l.length → d < k → spec_l02List.l0 k l (i : Int) = some (if (l.drop i).all finB = true then (l, true) else ([], false))
  | _, _, 0, _, h => by omega
  | 0, i, k + 1, h1, h2 => by
    obtain rfl : i = l.length := by omega
    rw [spec_l02List.l0, if_neg (by omega), List.drop_length]; rfl
  | d + 1, i, k + 1, h1, h2 => by
    have hi : i < l.length := by omega
    have e : ((i : Int) + 1) = ((i + 1 : Nat) : Int) := by omega
    unfold spec_l02List.l0 spec_l01Finite.f
    rw [if_pos (by omega), if_pos (by omega), rdN_at hi, Option.bind_some, List.drop_eq_getElem_cons hi, List.all_cons]
    cases hf : finB l[i] with
    | false => rw [if_neg (by decide), Bool.false_and, if_neg (by decide)]
    | true => rw [if_pos rfl, Bool.true_and, w64 (by omega) (by omega), e]; exact list_spec l hl d (i + 1) k (by omega) (by omega)
theorem lens_spec {L : List IS} {ns : List ByteArray} {st : List Bool} (g : GoodL L ns st) : ∀ (d i k : Nat), i + d = ns.length → d + 1048600 < k → spec_l06Lengths.l0 k L ns st ((List.range i).map (lv L ns st)) (i : Int) = some (res (lvs L ns st))
  | _, _, 0, _, h => by omega
  | 0, i, k + 1, h1, h2 => by
    obtain rfl : i = ns.length := by omega
    have hn := g.hn
    have h := list_spec (lvs L ns st) (by rw [lvs_len]; omega) (lvs L ns st).length 0 k (by omega) (by rw [lvs_len]; omega)
    rw [List.drop_zero] at h
    rw [spec_l06Lengths.l0, if_neg (by omega)]
    show (spec_l02List.f k (lvs L ns st)).bind _ = _
    unfold spec_l02List.f
    rw [show ((0 : Nat) : Int) = 0 from rfl] at h
    rw [h]; rfl
  | d + 1, i, k + 1, h1, h2 => by
    have hn := g.hn
    rw [len_spec g k i _ (by omega) (by rw [List.length_map, List.length_range]; omega) (by omega)]
    have := lens_spec g d (i + 1) k (by omega) (by omega)
    rw [List.range_succ, List.map_append] at this
    exact this
theorem lens_impl {L : List IS} {ns : List ByteArray} {st : List Bool} (g : GoodL L ns st) : ∀ (d i k : Nat) (ys : List Nat), i + d = ns.length → ys.length = ns.length → ys.take i = (lvs L ns st).take i → d + 1048600 < k → impl_lengthsOf.l0 k L ns st ys ns (ns.length : Int) (i : Int) = some (res (lvs L ns st))
  | _, _, 0, _, _, _, _, h => by omega
  | 0, i, k + 1, ys, h1, hy, ht, h2 => by
    obtain rfl : i = ns.length := by omega
    have hn := g.hn
    rw [List.take_of_length_le (by omega), List.take_of_length_le (by rw [lvs_len]; omega)] at ht
    subst ht
    have h := afin_impl (lvs L ns st) (by omega) (lvs L ns st).length 0 k (by omega) (by omega)
    rw [List.drop_zero, show ((0 : Nat) : Int) = 0 from rfl] at h
    rw [impl_lengthsOf.l0, if_neg (by omega)]
    unfold impl_checkedNumbers.f impl_areFinite.f res
    rw [h, Option.bind_some]
    cases (lvs L ns st).all finB <;> rfl
  | d + 1, i, k + 1, ys, h1, hy, ht, h2 => by
    have hn := g.hn
    rw [len_impl g k i ys (by omega) hy (by omega)]
    refine lens_impl g d (i + 1) k _ (by omega) (by rw [List.length_set]; exact hy) ?_ (by omega)
    refine take_set_succ (by rw [lvs_len]; omega) (by rw [lvs_len]; exact hy) ht ?_
    unfold lvs
    rw [List.getElem?_map, List.getElem?_range (by omega)]; rfl
theorem both (L : List IS) (hl : L.length ≤ 1048576) (hx : ∀ x ∈ L, okI x) (ns : List ByteArray) (hn : ns.length ≤ 1048576) (st : List Bool) (hs : st.length ≤ 1048576) : ∃ (r : List Nat) (b : Bool), r.length ≤ 24 ∧ (∀ x ∈ r, x < 4294967296) ∧ ∀ k, 4000000 ≤ k → spec_LengthsOf.f k L ns st = some (r, b) ∧ impl_LengthsOf.f k L ns st = some (r, b) := by
  obtain ⟨b, h1, h2⟩ := names_both L hl hx ns hn
  cases b with
  | false =>
    refine ⟨[], false, by simp, by simp, fun k hk => ?_⟩
    unfold spec_LengthsOf.f impl_LengthsOf.f
    rw [(h1 k hk).1, (h1 k hk).2]
    exact ⟨rfl, rfl⟩
  | true =>
    by_cases c : (st.length : Int) = (ns.length : Int)
    · obtain ⟨h3, h4, h5⟩ := h2 rfl
      have g : GoodL L ns st := ⟨hl, hx, h3, by omega, fun i hi => by
        rw [List.all_eq_true] at h4
        have h6 := h4 _ (List.getElem_mem hi)
        unfold hit at h6
        rw [rdS_at hi]
        rcases fd_in L ns[i] with h7 | h7
        · rw [h7] at h6; cases h6
        · exact h7, are_fin L hl hx h5⟩
      refine ⟨(res (lvs L ns st)).1, (res (lvs L ns st)).2, ?_, ?_, fun k hk => ?_⟩
      · unfold res
        split
        · simp only; rw [lvs_len]; exact h3
        · simp
      · unfold res
        split
        · intro x hx2
          simp only at hx2
          unfold lvs at hx2
          obtain ⟨i, hi, rfl⟩ := List.mem_map.1 hx2
          exact lv_lt g i (List.mem_range.1 hi)
        · simp
      · unfold spec_LengthsOf.f impl_LengthsOf.f spec_l06Lengths.f impl_lengthsOf.f
        have k1 := lens_spec g ns.length 0 k (by omega) (by omega)
        have k2 := lens_impl g ns.length 0 k (List.replicate ns.length 0) (by omega) (by rw [List.length_replicate]) rfl (by omega)
        rw [show ((0 : Nat) : Int) = 0 from rfl] at k1 k2
        rw [(h1 k hk).1, (h1 k hk).2, Option.bind_some, Option.bind_some, if_pos rfl, if_pos rfl, if_pos c, if_pos c, if_pos (by omega), if_pos (by omega), Int.toNat_natCast, k2]
        refine ⟨?_, rfl⟩
        refine (congrArg (fun o => Option.bind o _) k1).trans rfl
    · refine ⟨[], false, by simp, by simp, fun k hk => ?_⟩
      unfold spec_LengthsOf.f impl_LengthsOf.f
      rw [(h1 k hk).1, (h1 k hk).2, Option.bind_some, Option.bind_some, if_pos rfl, if_pos rfl, if_neg c, if_neg c]
      exact ⟨rfl, rfl⟩
end Go.Proofs.Ytoiaojdkgagblaa.LoPure
