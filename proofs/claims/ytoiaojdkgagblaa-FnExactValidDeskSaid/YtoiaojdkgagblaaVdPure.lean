import Derived.Test.YtoiaojdkgagblaaPFnExactValidDeskx
import Derived.Test.YtoiaojdkgagblaaLm
import Derived.Test.YtoiaojdkgagblaaOf
set_option linter.unusedVariables false
set_option linter.unusedSimpArgs false
namespace Go.Proofs.Ytoiaojdkgagblaa.VdPure
open Go.RowKit Go.Proofs.YtoiaojdkgagblaaW.PrintWords Go.Proofs.YtoiaojdkgagblaaW.PrintMore Go.Proofs.YtoiaojdkgagblaaW.PrintFl Go.Proofs.Ytoiaojdkgagblaa Go.Proofs.Ytoiaojdkgagblaa.PFnExactValidDesk Go.Proofs.Ytoiaojdkgagblaa.Lm
theorem rdN_at {l : List Nat} {i : Nat} (h : i < l.length) : rdOf (0 : Nat) l (i : Int) = l[i]'h := by
  unfold rdOf
  rw [Int.toNat_natCast, List.getD_eq_getElem?_getD, List.getElem?_eq_getElem h]; rfl
theorem w64 {x : Int} (h0 : -9223372036854775808 ≤ x) (h1 : x ≤ 9223372036854775807) : wrap64 x = x := by
  unfold wrap64; omega
theorem szF_some (l : List Nat) (hl : l.length ≤ 9223372036854775807) (a : Int) (ha : 0 ≤ a) (hb : a ≤ 1048576) : ∃ r, laws_szFloat32S.f l a = some r ∧ (r < 0 ∨ 0 ≤ r ∧ r ≤ 1048576 ∧ l.length ≤ 1048576) := by
  unfold laws_szFloat32S.f
  rw [w64 (x := a - l.length) (by omega) (by omega)]
  split
  · exact ⟨_, rfl, .inl (by omega)⟩
  · exact ⟨_, rfl, .inr (by omega)⟩
theorem toFl_some (l : List Nat) (hl : l.length ≤ 1048576) : ∀ (k : Nat) (ys : List Nat) (i : Nat), i ≤ l.length → l.length - i < k → ys.length = l.length → ys.take i = l.take i → laws_toFloat32S.l0 k l ys (i : Int) = some l
  | 0, ys, i, h1, hk, hy, ht => by omega
  | k + 1, ys, i, h1, hk, hy, ht => by
    unfold laws_toFloat32S.l0
    by_cases c : (i : Int) < (l.length : Int)
    · rw [if_pos c, if_pos (by omega), if_pos (by omega), w64 (by omega) (by omega)]
      have e : ((i : Int) + 1) = ((i + 1 : Nat) : Int) := by omega
      rw [e]
      refine toFl_some l hl k _ (i + 1) (by omega) (by omega) (by rw [List.length_set]; exact hy) ?_
      have hil : i < l.length := by omega
      show (ys.set ((i : Int)).toNat (rdOf 0 l (i : Int))).take (i + 1) = _
      rw [Int.toNat_natCast]
      refine take_set_succ hil hy ht ?_
      unfold rdOf
      rw [Int.toNat_natCast, List.getD_eq_getElem?_getD, List.getElem?_eq_getElem hil]
      rfl
    · rw [if_neg c]
      have : i = l.length := by omega
      subst this
      rw [List.take_length, List.take_of_length_le (by omega)] at ht
      rw [ht]
theorem toF_some (l : List Nat) (hl : l.length ≤ 1048576) (k : Nat) (hk : 1048577 ≤ k) : laws_toFloat32S.f k l = some l := by
  unfold laws_toFloat32S.f
  rw [if_pos (by omega), if_pos (by omega)]
  exact toFl_some l hl k _ 0 (by omega) (by omega) (by rw [List.length_replicate]; omega) rfl
theorem fin_nan (x : Nat) (h : finB x = true) : (FloatKind.f32.format.read x).isNaN = false := by
  cases hr : FloatKind.f32.format.read x with
  | number s m e => rfl
  | infinity s => rfl
  | nan s t =>
    exfalso
    have : floatBits .sub .f32 x x = none := by
      simp [floatBits, Ieee.Format.sub, hr, Ieee.Datum.sum, Ieee.Datum.opposite]
    unfold finB foprOk at h
    rw [this] at h
    cases h
theorem gt_le (x : Nat) (h : finB x = true) : fgr .f32 x 0 = !fle .f32 x 0 := by
  have hn := fin_nan x h
  have h0 : FloatKind.f32.format.read 0 = .number false 0 (-149) := by decide +kernel
  unfold fgr fle Ieee.Format.order
  rw [h0]
  cases hr : FloatKind.f32.format.read x with
  | nan s t => rw [hr] at hn; cases hn
  | infinity s => cases s <;> rfl
  | number s m e =>
    have ho : ∃ o, (Ieee.Datum.number s m e).order (Ieee.Datum.number false 0 (-149)) = some o := ⟨_, rfl⟩
    obtain ⟨o, ho⟩ := ho
    rw [ho]
    cases o <;> rfl
theorem num_fin {x : Nat} {s : Bool} {m : Nat} {e : Int} (h : FloatKind.f32.format.read x = .number s m e) : finB x = true := by
  have h1 : floatBits .sub .f32 x x = some 0 := by
    show ((FloatKind.f32.format.read x).sum (FloatKind.f32.format.read x).opposite).map FloatKind.f32.format.write = _
    rw [h]
    have ht : Ieee.signed s m (e - min e e).toNat + Ieee.signed (!s) m (e - min e e).toNat = 0 := by
      unfold Ieee.signed
      cases s <;> simp <;> omega
    simp only [Ieee.Datum.opposite, Ieee.Datum.sum, ht, if_true]
    cases s <;> rfl
  unfold finB foprOk fopr
  rw [h1]
  have h0 : feq .f32 0 0 = true := by decide +kernel
  exact h0
theorem gr_cases {x : Nat} (h : fgr .f32 x 0 = true) : FloatKind.f32.format.read x = .infinity false ∨ ∃ s m e, FloatKind.f32.format.read x = .number s m e := by
  have h0 : FloatKind.f32.format.read 0 = .number false 0 (-149) := by decide +kernel
  unfold fgr Ieee.Format.order at h
  rw [h0] at h
  cases hr : FloatKind.f32.format.read x with
  | nan s t => rw [hr] at h; cases h
  | infinity s => cases s with
    | false => exact .inl rfl
    | true => rw [hr] at h; cases h
  | number s m e => exact .inr ⟨s, m, e, rfl⟩
theorem inf_word : FloatKind.f32.format.write (.infinity false) = 2139095040 := by decide +kernel
theorem inf_le : fle .f32 2139095040 1065353216 = false := by decide +kernel
theorem add_some {x y : Nat} (hx : fgr .f32 x 0 = true) (hy : fgr .f32 y 0 = true) : foprOk .add .f32 x y = true ∧ (finB x = true ∧ finB y = true ∨ fle .f32 (fopr .add .f32 x y) 1065353216 = false) := by
  have hb : floatBits .add .f32 x y = ((FloatKind.f32.format.read x).sum (FloatKind.f32.format.read y)).map FloatKind.f32.format.write := rfl
  have key : ∀ d, (FloatKind.f32.format.read x).sum (FloatKind.f32.format.read y) = some d → foprOk .add .f32 x y = true ∧ fopr .add .f32 x y = FloatKind.f32.format.write d := by
    intro d hd
    unfold foprOk fopr
    rw [hb, hd]
    exact ⟨rfl, rfl⟩
  rcases gr_cases hx with h1 | ⟨s, m, e, h1⟩ <;> rcases gr_cases hy with h2 | ⟨s2, m2, e2, h2⟩
  · obtain ⟨k1, k2⟩ := key (.infinity false) (by rw [h1, h2]; rfl)
    exact ⟨k1, .inr (by rw [k2, inf_word]; exact inf_le)⟩
  · obtain ⟨k1, k2⟩ := key (.infinity false) (by rw [h1, h2]; rfl)
    exact ⟨k1, .inr (by rw [k2, inf_word]; exact inf_le)⟩
  · obtain ⟨k1, k2⟩ := key (.infinity false) (by rw [h1, h2]; rfl)
    exact ⟨k1, .inr (by rw [k2, inf_word]; exact inf_le)⟩
  · obtain ⟨k1, k2⟩ := key _ (by rw [h1, h2]; rfl)
    exact ⟨k1, .inl ⟨num_fin h1, num_fin h2⟩⟩
def ab (x : Nat) : Bool := finB x && fgr .f32 x 0
theorem ab_spec (x : Nat) : spec_l02Above.f x = some (ab x) := by
  unfold spec_l02Above.f spec_l01Finite.f ab
  rw [Option.bind_some]
  cases finB x <;> rfl
theorem areas_spec (l : List Nat) (hl : l.length ≤ 16) (h1 : 1 ≤ l.length) : ∀ (d i k : Nat), i + d = l.length → 2 * d + 1 < k → spec_l02Areas.l0 k l (i : Int) = some ((l.drop i).all ab)
  | _, _, 0, _, h => by omega
  | _, _, 1, _, h => by omega
  | 0, i, k + 2, h2, h3 => by
    obtain rfl : i = l.length := by omega
    rw [spec_l02Areas.l0, if_neg (by omega), spec_l02Areas.j1, if_neg (by decide), if_pos (by omega), List.drop_length, decide_eq_true (by omega)]
    rfl
  | d + 1, i, k + 2, h2, h3 => by
    have hi : i < l.length := by omega
    have e : ((i : Int) + 1) = ((i + 1 : Nat) : Int) := by omega
    rw [spec_l02Areas.l0, if_pos (by omega), decide_eq_true (by omega), spec_l02Areas.j1, if_pos rfl, if_pos (by omega), if_pos (by omega), rdN_at hi, ab_spec, Option.bind_some, w64 (by omega) (by omega), e, areas_spec l hl h1 d (i + 1) k (by omega) (by omega), List.drop_eq_getElem_cons hi, List.all_cons]
    cases ab l[i] <;> rfl
theorem areas_long (l : List Nat) (hl : ¬ (1 ≤ l.length ∧ l.length ≤ 16)) (k : Nat) (hk : 2 ≤ k) : spec_l02Areas.f k l = some false := by
  obtain ⟨k, rfl⟩ : ∃ m, k = m + 2 := ⟨k - 2, by omega⟩
  unfold spec_l02Areas.f
  rw [spec_l02Areas.l0]
  by_cases c : l.length = 0
  · rw [if_neg (by omega), spec_l02Areas.j1, if_neg (by decide), if_neg (by omega)]
  · rw [if_pos (by omega), decide_eq_false (by omega), spec_l02Areas.j1, if_neg (by decide), if_pos (by omega), decide_eq_false (by omega)]
abbrev LS := S135
abbrev IS := S138
def cv1 (x : LS) : IS := ⟨x.f0, x.f1, x.f2, x.f3, x.f4, x.f5⟩
def okS (x : LS) : Prop := x.f0.size ≤ 140737488351232 ∧ (x.f1.length ≤ 9223372036854775807 ∧ ∀ y ∈ x.f1, y < 4294967296) ∧ x.f2 < 4294967296 ∧ x.f3 < 4294967296 ∧ x.f4 < 4294967296 ∧ x.f5 < 4294967296
theorem rdL_at {l : List LS} {i : Nat} (h : i < l.length) : rd_T135 l (i : Int) = l[i]'h := by
  unfold rd_T135
  rw [Int.toNat_natCast, List.getD_eq_getElem?_getD, List.getElem?_eq_getElem h]; rfl
theorem rdI_at {l : List IS} {i : Nat} (h : i < l.length) : rd_T138 l (i : Int) = l[i]'h := by
  unfold rd_T138
  rw [Int.toNat_natCast, List.getD_eq_getElem?_getD, List.getElem?_eq_getElem h]; rfl
theorem szS_some (x : LS) (hx : okS x) (a : Int) (ha : 0 ≤ a) (hb : a ≤ 1048576) : ∃ r, laws_szSound.f x.f0 x.f1 x.f2 x.f3 x.f4 x.f5 a = some r ∧ (r < 0 ∨ 0 ≤ r ∧ r ≤ 1048576 ∧ x.f0.size ≤ 1048576 ∧ x.f1.length ≤ 1048576) := by
  have h1 := hx.1
  unfold laws_szSound.f
  rw [w64 (x := a - x.f0.size) (by omega) (by omega)]
  split
  · exact ⟨_, rfl, .inl (by omega)⟩
  · obtain ⟨r, e, hr⟩ := szF_some x.f1 hx.2.1.1 (a - x.f0.size) (by omega) (by omega)
    rw [e, Option.bind_some]
    split
    · exact ⟨_, rfl, .inl (by omega)⟩
    · exact ⟨_, rfl, .inr (by omega)⟩
theorem szl_some (l : List LS) (hl : l.length ≤ 1048576) (hx : ∀ x ∈ l, okS x) : ∀ (d i k : Nat) (a : Int), i + d = l.length → d < k → 0 ≤ a → a ≤ 1048576 → ∃ r, laws_szSoundS.l0 k l a (i : Int) = some r ∧ (r < 0 ∨ (0 ≤ r ∧ r ≤ 1048576) ∧ ∀ x ∈ l.drop i, x.f0.size ≤ 1048576 ∧ x.f1.length ≤ 1048576)
  | _, _, 0, _, _, h, _, _ => by omega
  | 0, i, k + 1, a, h1, h2, h3, h4 => by
    obtain rfl : i = l.length := by omega
    refine ⟨a, ?_, .inr ⟨⟨h3, h4⟩, by rw [List.drop_length]; simp⟩⟩
    rw [laws_szSoundS.l0, if_neg (by omega)]
  | d + 1, i, k + 1, a, h1, h2, h3, h4 => by
    have hi : i < l.length := by omega
    have e : ((i : Int) + 1) = ((i + 1 : Nat) : Int) := by omega
    obtain ⟨r, er, hr⟩ := szS_some l[i] (hx _ (List.getElem_mem _)) a h3 h4
    rw [laws_szSoundS.l0, if_pos (by omega), if_pos (by omega), rdL_at hi, er, Option.bind_some, w64 (by omega) (by omega), e]
    by_cases c : r < 0
    · rw [if_pos c]; exact ⟨_, rfl, .inl (by omega)⟩
    · rw [if_neg c]
      obtain ⟨r2, er2, hr2⟩ := szl_some l hl hx d (i + 1) k r (by omega) (by omega) (by omega) (by omega)
      refine ⟨r2, er2, ?_⟩
      rcases hr2 with hr2 | ⟨h5, h6⟩
      · exact .inl hr2
      · refine .inr ⟨h5, fun x hm => ?_⟩
        rw [List.drop_eq_getElem_cons hi] at hm
        rcases List.mem_cons.1 hm with rfl | hm
        · omega
        · exact h6 x hm
theorem szL_some (l : List LS) (hl : l.length ≤ 9223372036854775807) (hx : ∀ x ∈ l, okS x) (k : Nat) (hk : 1048600 ≤ k) : ∃ r, laws_szSoundS.f k l 1048576 = some r ∧ (r < 0 ∨ (0 ≤ r ∧ r ≤ 1048576) ∧ l.length ≤ 1048576 ∧ ∀ x ∈ l, x.f0.size ≤ 1048576 ∧ x.f1.length ≤ 1048576) := by
  unfold laws_szSoundS.f
  rw [w64 (x := (1048576 : Int) - l.length) (by omega) (by omega)]
  split
  · exact ⟨_, rfl, .inl (by omega)⟩
  · obtain ⟨r, e, hr⟩ := szl_some l (by omega) hx l.length 0 k (1048576 - l.length) (by omega) (by omega) (by omega) (by omega)
    refine ⟨r, e, ?_⟩
    rcases hr with hr | ⟨h1, h2⟩
    · exact .inl hr
    · exact .inr ⟨h1, by omega, h2⟩
theorem toS_loop (l : List LS) (hl : l.length ≤ 1048576) (hz : ∀ x ∈ l, x.f1.length ≤ 1048576) : ∀ (d i k : Nat) (ys : List IS), i + d = l.length → ys.length = l.length → ys.take i = (l.take i).map cv1 → d + 1048577 < k → laws_toSoundS.l0 k l ys (i : Int) = some (l.map cv1)
  | _, _, 0, _, _, _, _, h => by omega
  | 0, i, k + 1, ys, h1, h2, h3, h4 => by
    obtain rfl : i = l.length := by omega
    rw [laws_toSoundS.l0, if_neg (by omega)]
    rw [List.take_of_length_le (by omega), List.take_length] at h3
    rw [h3]
  | d + 1, i, k + 1, ys, h1, h2, h3, h4 => by
    have hi : i < l.length := by omega
    have e : ((i : Int) + 1) = ((i + 1 : Nat) : Int) := by omega
    have ht : laws_toSound.f k l[i].f0 l[i].f1 l[i].f2 l[i].f3 l[i].f4 l[i].f5 = some (l[i].f0, l[i].f1, l[i].f2, l[i].f3, l[i].f4, l[i].f5) := by
      unfold laws_toSound.f
      rw [toF_some _ (hz _ (List.getElem_mem _)) k (by omega), Option.bind_some]
    rw [laws_toSoundS.l0, if_pos (by omega), if_pos (by omega), rdL_at hi, ht, Option.bind_some, if_pos (by omega), w64 (by omega) (by omega), e, Int.toNat_natCast]
    refine toS_loop l hl hz d (i + 1) k _ (by omega) (by rw [List.length_set]; exact h2) ?_ (by omega)
    rw [List.map_take] at h3 ⊢
    exact take_set_succ (xs := l.map cv1) (by rw [List.length_map]; exact hi) (by rw [List.length_map]; exact h2) h3 (by rw [List.getElem?_map, List.getElem?_eq_getElem hi]; rfl)
theorem toS_some (l : List LS) (hl : l.length ≤ 1048576) (hz : ∀ x ∈ l, x.f1.length ≤ 1048576) (k : Nat) (hk : 2100000 ≤ k) : laws_toSoundS.f k l = some (l.map cv1) := by
  unfold laws_toSoundS.f
  rw [if_pos (by omega), if_pos (by omega), Int.toNat_natCast]
  exact toS_loop l hl hz l.length 0 k _ (by omega) (by rw [List.length_replicate]) rfl (by omega)
def okI (x : IS) : Prop := x.f0.size ≤ 1048576 ∧ x.f1.length ≤ 1048576 ∧ (∀ y ∈ x.f1, y < 4294967296) ∧ x.f2 < 4294967296 ∧ x.f3 < 4294967296 ∧ x.f4 < 4294967296 ∧ x.f5 < 4294967296
theorem eqS_loop (l : List IS) (hl : l.length ≤ 1048576) (hx : ∀ x ∈ l, okI x) : ∀ (d i k : Nat), i + d = l.length → d < k → laws_eqSoundS.l0 k l l (i : Int) = some true
  | _, _, 0, _, h => by omega
  | 0, i, k + 1, h1, h2 => by
    obtain rfl : i = l.length := by omega
    rw [laws_eqSoundS.l0, if_neg (by omega)]
  | d + 1, i, k + 1, h1, h2 => by
    have hi : i < l.length := by omega
    have e : ((i : Int) + 1) = ((i + 1 : Nat) : Int) := by omega
    obtain ⟨o1, o2, o3, o4, o5, o6, o7⟩ := hx l[i] (List.getElem_mem _)
    have he : laws_eqSound.f l[i].f0 l[i].f1 l[i].f2 l[i].f3 l[i].f4 l[i].f5 l[i].f0 l[i].f1 l[i].f2 l[i].f3 l[i].f4 l[i].f5 = some true := by
      unfold laws_eqSound.f
      rw [if_pos ⟨rfl, rfl, rfl, rfl, rfl, rfl, o2, o3, o4, o5, o6, o7⟩]
    rw [laws_eqSoundS.l0, if_pos (by omega), if_pos (by omega), if_pos (by omega), rdI_at hi, he, Option.bind_some, if_pos rfl, w64 (by omega) (by omega), e]
    exact eqS_loop l hl hx d (i + 1) k (by omega) (by omega)
theorem eqS_some (l : List IS) (hl : l.length ≤ 1048576) (hx : ∀ x ∈ l, okI x) (k : Nat) (hk : 1048600 ≤ k) : laws_eqSoundS.f k l l = some true := by
  unfold laws_eqSoundS.f
  rw [if_pos rfl]
  exact eqS_loop l hl hx l.length 0 k (by omega) (by omega)
theorem bt_ok (s : ByteArray) (i : Nat) : ∃ b : Bool, (decide (bt s (i : Int) < 97) || decide (bt s (i : Int) > 122)) = !b := ⟨_, (Bool.not_not _).symm⟩
def lt1 (s : ByteArray) (i : Nat) : Bool := !(decide (bt s (i : Int) < 97) || decide (bt s (i : Int) > 122))
def nm (s : ByteArray) : Nat → Nat → Bool
  | 0, _ => true
  | d + 1, i => lt1 s i && nm s d (i + 1)
theorem nm_spec (s : ByteArray) (h4 : s.size ≤ 4) (h1 : 1 ≤ s.size) : ∀ (d i k : Nat), i + d = s.size → 2 * d + 1 < k → spec_l06Name.l0 k s (i : Int) = some (nm s d i)
  | _, _, 0, _, h => by omega
  | _, _, 1, _, h => by omega
  | 0, i, k + 2, h2, h3 => by
    rw [spec_l06Name.l0, if_neg (by omega), spec_l06Name.j1, if_neg (by decide), if_pos (by omega), decide_eq_true (by omega)]
    rfl
  | d + 1, i, k + 2, h2, h3 => by
    have e : ((i : Int) + 1) = ((i + 1 : Nat) : Int) := by omega
    rw [spec_l06Name.l0, if_pos (by omega), decide_eq_true (by omega), spec_l06Name.j1, if_pos rfl, if_pos (by omega), if_pos (by omega), w64 (by omega) (by omega), e, nm_spec s h4 h1 d (i + 1) k (by omega) (by omega), nm]
    unfold lt1
    by_cases c1 : bt s (i : Int) < 97
    · rw [if_pos c1]; simp [c1]
    · rw [if_neg c1]
      by_cases c2 : bt s (i : Int) > 122
      · rw [if_pos c2]; simp [c2]
      · rw [if_neg c2]; simp [c1, c2]
theorem nm_impl (s : ByteArray) (h4 : s.size ≤ 4) : ∀ (d i k : Nat), i + d = s.size → d < k → impl_IsName.l0 k s (i : Int) = some (nm s d i && decide (1 ≤ s.size))
  | _, _, 0, _, h => by omega
  | 0, i, k + 1, h2, h3 => by
    rw [impl_IsName.l0, if_neg (by omega)]
    unfold impl_within.f
    by_cases c : (s.size : Int) ≥ 1
    · rw [if_pos c, decide_eq_true (show (s.size : Int) ≤ 8 by omega), decide_eq_true (show 1 ≤ s.size by omega)]; rfl
    · rw [if_neg c, decide_eq_false (show ¬ 1 ≤ s.size by omega)]; rfl
  | d + 1, i, k + 1, h2, h3 => by
    have e : ((i : Int) + 1) = ((i + 1 : Nat) : Int) := by omega
    rw [impl_IsName.l0, if_pos (by omega), if_pos (by omega), w64 (by omega) (by omega), e, nm_impl s h4 d (i + 1) k (by omega) (by omega), nm]
    unfold lt1
    by_cases c1 : bt s (i : Int) < 97
    · rw [if_pos c1]; simp [c1]
    · rw [if_neg c1]
      by_cases c2 : bt s (i : Int) > 122
      · rw [if_pos c2]; simp [c2]
      · rw [if_neg c2]; simp [c1, c2]
theorem name_both (s : ByteArray) (hs : s.size ≤ 1048576) : ∃ b : Bool, ∀ k, 64 ≤ k → spec_l06Name.f k s = some b ∧ impl_isSoundName.f k s = some b := by
  by_cases h : 1 ≤ s.size ∧ s.size ≤ 4
  · refine ⟨nm s s.size 0, fun k hk => ⟨nm_spec s h.2 h.1 s.size 0 k (by omega) (by omega), ?_⟩⟩
    have h2 : impl_IsName.f k s = some (nm s s.size 0 && decide (1 ≤ s.size)) := nm_impl s h.2 s.size 0 k (by omega) (by omega)
    unfold impl_isSoundName.f
    rw [if_pos (by omega), h2, decide_eq_true h.1, Bool.and_true]; rfl
  · refine ⟨false, fun k hk => ⟨?_, ?_⟩⟩
    · obtain ⟨k, rfl⟩ : ∃ m, k = m + 2 := ⟨k - 2, by omega⟩
      unfold spec_l06Name.f
      rw [spec_l06Name.l0]
      by_cases c : s.size = 0
      · rw [if_neg (by omega), spec_l06Name.j1, if_neg (by decide), if_neg (by omega)]
      · rw [if_pos (by omega), decide_eq_false (by omega), spec_l06Name.j1, if_neg (by decide), if_pos (by omega), decide_eq_false (by omega)]
    · unfold impl_isSoundName.f
      by_cases c : s.size = 0
      · have h2 : impl_IsName.f k s = some (nm s s.size 0 && decide (1 ≤ s.size)) := nm_impl s (by omega) s.size 0 k (by omega) (by omega)
        rw [if_pos (by omega), h2, decide_eq_false (by omega), Bool.and_false]; rfl
      · rw [if_neg (by omega)]
theorem afin_impl (l : List Nat) (hl : l.length ≤ 1048576) : ∀ (d i k : Nat), i + d = l.length → d < k → impl_areFinite.l0 k l (l.length : Int) (i : Int) = some ((l.drop i).all finB)
  | _, _, 0, _, h => by omega
  | 0, i, k + 1, h1, h2 => by
    obtain rfl : i = l.length := by omega
    rw [impl_areFinite.l0, if_neg (by omega), List.drop_length]; rfl
  | d + 1, i, k + 1, h1, h2 => by
    have hi : i < l.length := by omega
    have e : ((i : Int) + 1) = ((i + 1 : Nat) : Int) := by omega
    rw [impl_areFinite.l0, if_pos (by omega), if_pos (by omega), if_pos (by omega), rdN_at hi, impl_IsFinite.f, Option.bind_some, w64 (by omega) (by omega), e, afin_impl l hl d (i + 1) k (by omega) (by omega), List.drop_eq_getElem_cons hi, List.all_cons]
    cases finB l[i] <;> rfl
theorem cont_impl (l : List Nat) (hl : l.length ≤ 1048576) : ∀ (d i k : Nat), i + d = l.length → d < k → ∃ r : Int, slices_IndexFunc_v_impl_areAreas_1.l0 k l (l.length : Int) (i : Int) = some r ∧ decide (r ≥ 0) = (l.drop i).any fun x => fle .f32 x 0
  | _, _, 0, _, h => by omega
  | 0, i, k + 1, h1, h2 => by
    obtain rfl : i = l.length := by omega
    refine ⟨-1, ?_, by rw [List.drop_length]; rfl⟩
    rw [slices_IndexFunc_v_impl_areAreas_1.l0, if_neg (by omega)]
  | d + 1, i, k + 1, h1, h2 => by
    have hi : i < l.length := by omega
    have e : ((i : Int) + 1) = ((i + 1 : Nat) : Int) := by omega
    rw [slices_IndexFunc_v_impl_areAreas_1.l0, if_pos (by omega), if_pos (by omega), if_pos (by omega), rdN_at hi, impl_areAreas_1.f, Option.bind_some, w64 (by omega) (by omega), e, List.drop_eq_getElem_cons hi, List.any_cons]
    by_cases c : fle .f32 l[i] 0 = true
    · rw [if_pos c]
      exact ⟨_, rfl, by rw [c, decide_eq_true (by omega)]; rfl⟩
    · rw [if_neg c]
      obtain ⟨r, h3, h4⟩ := cont_impl l hl d (i + 1) k (by omega) (by omega)
      refine ⟨r, h3, ?_⟩
      rw [Bool.not_eq_true] at c
      rw [h4, c, Bool.false_or]
theorem all_ab (l : List Nat) : (l.all finB && !(l.any fun x => fle .f32 x 0)) = l.all ab := by
  induction l with
  | nil => rfl
  | cons x l ih =>
    rw [List.all_cons, List.any_cons, List.all_cons, ← ih]
    unfold ab
    by_cases f : finB x = true
    · rw [gt_le x f, f]
      cases fle .f32 x 0 <;> simp
    · rw [Bool.not_eq_true] at f
      rw [f]; simp
theorem areas_both (l : List Nat) (hl : l.length ≤ 1048576) : ∃ b : Bool, ∀ k, 64 ≤ k → spec_l02Areas.f k l = some b ∧ impl_areAreas.f k l = some b := by
  by_cases h : 1 ≤ l.length ∧ l.length ≤ 16
  · refine ⟨l.all ab, fun k hk => ⟨areas_spec l h.2 h.1 l.length 0 k (by omega) (by omega), ?_⟩⟩
    have h3 : impl_within.f (l.length : Int) 1 16 = some true := by
      unfold impl_within.f; rw [if_pos (by omega), decide_eq_true (by omega)]
    have h4 : impl_areFinite.f k l = some (l.all finB) := afin_impl l hl l.length 0 k (by omega) (by omega)
    obtain ⟨r, h5, h6⟩ := cont_impl l hl l.length 0 k (by omega) (by omega)
    have h7 : slices_ContainsFunc_v_impl_areAreas_1.f k l = some (l.any fun x => fle .f32 x 0) := by
      unfold slices_ContainsFunc_v_impl_areAreas_1.f slices_IndexFunc_v_impl_areAreas_1.f
      rw [show ((0 : Int)) = ((0 : Nat) : Int) from rfl, h5, Option.bind_some]
      exact congrArg some h6
    unfold impl_areAreas.f
    rw [h3, Option.bind_some, if_pos rfl, h4, Option.bind_some, h7, Option.bind_some, ← all_ab]
    cases l.all finB <;> rfl
  · refine ⟨false, fun k hk => ⟨areas_long l h k (by omega), ?_⟩⟩
    have h3 : impl_within.f (l.length : Int) 1 16 = some false := by
      unfold impl_within.f
      split
      · rw [decide_eq_false (by omega)]
      · rfl
    unfold impl_areAreas.f
    rw [h3]; rfl
set_option maxRecDepth 20000 in
set_option maxHeartbeats 1000000 in
theorem sound_both (x : IS) (hx : okI x) : ∃ b : Bool, ∀ k, 64 ≤ k → spec_l06Sound.f k [x] = some b ∧ impl_ValidSound.f k x.f0 x.f1 x.f2 x.f3 x.f4 x.f5 = some b := by
  obtain ⟨b1, n1⟩ := name_both x.f0 hx.1
  obtain ⟨b2, n2⟩ := areas_both x.f1 hx.2.1
  have s1 : spec_l02Least.f x.f3 = some (finB x.f3 && fge .f32 x.f3 0) := by
    unfold spec_l02Least.f spec_l01Finite.f
    cases finB x.f3 <;> rfl
  have s2 : ∀ y, spec_l02Share.f y = some (fge .f32 y 0 && fle .f32 y 1065353216) := by
    intro y
    unfold spec_l02Share.f
    cases fge .f32 y 0 <;> rfl
  have s3 : ∀ y, impl_isBetween.f y 0 1065353216 = some (fge .f32 y 0 && fle .f32 y 1065353216) := by
    intro y
    unfold impl_isBetween.f
    cases fge .f32 y 0 <;> rfl
  refine ⟨b1 && b2 && (finB x.f2 && fgr .f32 x.f2 0) && (finB x.f3 && fge .f32 x.f3 0) && (fge .f32 x.f4 0 && fle .f32 x.f4 1065353216) && (fge .f32 x.f5 0 && fle .f32 x.f5 1065353216), fun k hk => ⟨?_, ?_⟩⟩
  · have hr : rd_T138 [x] 0 = x := rfl
    unfold spec_l06Sound.f
    rw [if_pos (show (0 : Int) < (([x] : List IS).length : Int) by show (0 : Int) < 1; decide), hr, (n1 k hk).1, (n2 k hk).1, ab_spec, s1, s2, s2]
    simp only [Option.bind_some]
    unfold ab
    cases b1 <;> cases b2 <;> cases finB x.f2 <;> cases fgr .f32 x.f2 0 <;> cases (finB x.f3 && fge .f32 x.f3 0) <;> cases (fge .f32 x.f4 0 && fle .f32 x.f4 1065353216) <;> cases (fge .f32 x.f5 0 && fle .f32 x.f5 1065353216) <;> rfl
  · unfold impl_ValidSound.f impl_IsFinite.f
    rw [(n1 k hk).2, (n2 k hk).2, s3, s3]
    simp only [Option.bind_some]
    cases b1 <;> cases b2 <;> cases finB x.f2 <;> cases fgr .f32 x.f2 0 <;> cases finB x.f3 <;> cases fge .f32 x.f3 0 <;> cases (fge .f32 x.f4 0 && fle .f32 x.f4 1065353216) <;> cases (fge .f32 x.f5 0 && fle .f32 x.f5 1065353216) <;> rfl
def soundB (x : IS) : Bool := (spec_l06Sound.f 64 [x]).getD false
theorem sound_k (x : IS) (hx : okI x) (k : Nat) (hk : 64 ≤ k) : spec_l06Sound.f k [x] = some (soundB x) ∧ impl_ValidSound.f k x.f0 x.f1 x.f2 x.f3 x.f4 x.f5 = some (soundB x) := by
  obtain ⟨b, h⟩ := sound_both x hx
  have hb : soundB x = b := by unfold soundB; rw [(h 64 (by omega)).1]; rfl
  rw [hb]; exact h k hk
def lessP (L : List IS) (i : Nat) : Bool := decide (i = 0) || Op.bytesLess ((rd_T138 L ((i - 1 : Nat) : Int)).f0.toList) ((rd_T138 L (i : Int)).f0.toList)
def cnd (L : List IS) (i : Nat) : Bool := soundB (rd_T138 L (i : Int)) && (decide ((rd_T138 L (i : Int)).f1.length = (rd_T138 L 0).f1.length) && lessP L i)
def allc (L : List IS) : Nat → Nat → Bool
  | 0, _ => true
  | d + 1, i => cnd L i && allc L d (i + 1)
theorem are_step (L : List IS) (i : Nat) (R : Option Bool) (rest : Bool) (hi : i < L.length) (hR : R = some rest) (hl : L.length ≤ 1048576) :
    (if soundB (rd_T138 L (i : Int)) = true then (if 0 < (L.length : Int) then (if (((rd_T138 L (i : Int)).f1).length : Int) = (((rd_T138 L 0).f1).length : Int) then (if (i : Int) > 0 then (if 0 ≤ (wrap64 ((i : Int) - 1)) then (if (wrap64 ((i : Int) - 1)) < (L.length : Int) then (if ((Op.bytesLess (((rd_T138 L (wrap64 ((i : Int) - 1))).f0).toList) (((rd_T138 L (i : Int)).f0).toList)) = true) then R else (some false)) else (none)) else (none)) else R) else (some false)) else (none)) else (some false)) = some (cnd L i && rest) := by
  unfold cnd
  by_cases c1 : soundB (rd_T138 L (i : Int)) = true
  · rw [if_pos c1, c1, if_pos (by omega)]
    by_cases c2 : (rd_T138 L (i : Int)).f1.length = (rd_T138 L 0).f1.length
    · rw [if_pos (by omega), decide_eq_true c2]
      unfold lessP
      by_cases c3 : i = 0
      · rw [if_neg (by omega), decide_eq_true c3, hR]; simp
      · have e : wrap64 ((i : Int) - 1) = ((i - 1 : Nat) : Int) := by rw [w64 (by omega) (by omega)]; omega
        rw [if_pos (by omega), e, if_pos (by omega), if_pos (by omega), decide_eq_false c3]
        by_cases c4 : Op.bytesLess (((rd_T138 L ((i - 1 : Nat) : Int)).f0).toList) (((rd_T138 L (i : Int)).f0).toList) = true
        · rw [if_pos c4, c4, hR]; simp
        · rw [if_neg c4]
          rw [Bool.not_eq_true] at c4
          rw [c4]; simp
    · rw [if_neg (by omega), decide_eq_false c2]; simp
  · rw [if_neg c1]
    rw [Bool.not_eq_true] at c1
    rw [c1]; simp
theorem are_spec (L : List IS) (hl : L.length ≤ 16) (hx : ∀ x ∈ L, okI x) : ∀ (d i k : Nat), i + d = L.length → 2 * d + 80 < k → spec_l06Are.l0 k L (i : Int) = some (allc L d i)
  | _, _, 0, _, h => by omega
  | _, _, 1, _, h => by omega
  | 0, i, k + 2, h2, h3 => by
    rw [spec_l06Are.l0, if_neg (by omega), spec_l06Are.j1, if_neg (by decide), decide_eq_true (by omega)]
    rfl
  | d + 1, i, k + 2, h2, h3 => by
    have hi : i < L.length := by omega
    have e : ((i : Int) + 1) = ((i + 1 : Nat) : Int) := by omega
    have ho : okI (rd_T138 L (i : Int)) := by rw [rdI_at hi]; exact hx _ (List.getElem_mem _)
    rw [spec_l06Are.l0, if_pos (by omega), decide_eq_true (by omega), spec_l06Are.j1, if_pos rfl, if_pos (by omega), if_pos (by omega), (sound_k _ ho k (by omega)).1, Option.bind_some, w64 (x := (i : Int) + 1) (by omega) (by omega), e]
    exact are_step L i _ _ hi (are_spec L hl hx d (i + 1) k (by omega) (by omega)) (by omega)
theorem are_impl (L : List IS) (hl : L.length ≤ 1048576) (hx : ∀ x ∈ L, okI x) : ∀ (d i k : Nat), i + d = L.length → d + 80 < k → impl_AreSounds.l0 k L L (L.length : Int) (i : Int) = some (allc L d i && decide (L.length ≤ 16))
  | _, _, 0, _, h => by omega
  | 0, i, k + 1, h2, h3 => by
    rw [impl_AreSounds.l0, if_neg (by omega)]
    by_cases c : L.length ≤ 16
    · rw [decide_eq_true c, decide_eq_true (by omega)]; rfl
    · rw [decide_eq_false c, decide_eq_false (by omega)]; rfl
  | d + 1, i, k + 1, h2, h3 => by
    have hi : i < L.length := by omega
    have e : ((i : Int) + 1) = ((i + 1 : Nat) : Int) := by omega
    have ho : okI (rd_T138 L (i : Int)) := by rw [rdI_at hi]; exact hx _ (List.getElem_mem _)
    rw [impl_AreSounds.l0, if_pos (by omega), if_pos (by omega), if_pos (by omega), (sound_k _ ho k (by omega)).2, Option.bind_some, w64 (x := (i : Int) + 1) (by omega) (by omega), e]
    refine (are_step L i _ _ hi (are_impl L hl hx d (i + 1) k (by omega) (by omega)) (by omega)).trans ?_
    rw [allc, Bool.and_assoc]
theorem are_both (L : List IS) (hl : L.length ≤ 1048576) (hx : ∀ x ∈ L, okI x) (k : Nat) (hk : 2100000 ≤ k) : ∃ b, spec_l06Are.f k L = some b ∧ impl_AreSounds.f k L = some b := by
  have h2 : impl_AreSounds.f k L = some (allc L L.length 0 && decide (L.length ≤ 16)) := are_impl L hl hx L.length 0 k (by omega) (by omega)
  by_cases c : L.length ≤ 16
  · refine ⟨allc L L.length 0, are_spec L c hx L.length 0 k (by omega) (by omega), ?_⟩
    rw [h2, decide_eq_true c, Bool.and_true]
  · refine ⟨false, ?_, by rw [h2, decide_eq_false c, Bool.and_false]⟩
    obtain ⟨k, rfl⟩ : ∃ m, k = m + 2 := ⟨k - 2, by omega⟩
    unfold spec_l06Are.f
    rw [spec_l06Are.l0, if_pos (by omega), decide_eq_false (by omega), spec_l06Are.j1, if_neg (by decide), decide_eq_false (by omega)]
def ends (a b c : Nat) : Option Bool := if (fgr .f32 a 0) = true then (if (fle .f32 a 1065353216) = true then ((impl_isBetween.f b 3212836864 1065353216).bind fun t161 => (if t161 = true then ((impl_isBetween.f c 3212836864 1065353216).bind fun t162 => (some t162)) else (some false))) else (some false)) else (some false)
theorem ends_some (a b c : Nat) : ∃ r, ends a b c = some r := by
  unfold ends impl_isBetween.f
  by_cases h1 : (fgr .f32 a 0) = true
  · rw [if_pos h1]
    by_cases h2 : (fle .f32 a 1065353216) = true
    · rw [if_pos h2]
      by_cases h3 : (fge .f32 b 3212836864) = true
      · rw [if_pos h3, Option.bind_some]
        split
        · split <;> exact ⟨_, rfl⟩
        · exact ⟨_, rfl⟩
      · rw [if_neg h3, Option.bind_some]; exact ⟨_, rfl⟩
    · rw [if_neg h2]; exact ⟨_, rfl⟩
  · rw [if_neg h1]; exact ⟨_, rfl⟩
theorem areas_impl (l : List Nat) (hl : l.length ≤ 16) (a b c : Nat) : ∀ (d i k : Nat), i + d = l.length → d < k → impl_ValidTube.l0 k l (l.length : Int) (i : Int) l a b c = if ((l.drop i).all ab) = true then ends a b c else some false
  | _, _, 0, _, h => by omega
  | 0, i, k + 1, h2, h3 => by
    obtain rfl : i = l.length := by omega
    rw [impl_ValidTube.l0, if_neg (by omega), List.drop_length]
    rfl
  | d + 1, i, k + 1, h2, h3 => by
    have hi : i < l.length := by omega
    have e : ((i : Int) + 1) = ((i + 1 : Nat) : Int) := by omega
    rw [impl_ValidTube.l0, if_pos (by omega), if_pos (by omega), if_pos (by omega), rdN_at hi, impl_IsFinite.f, Option.bind_some, w64 (by omega) (by omega), e, areas_impl l hl a b c d (i + 1) k (by omega) (by omega), List.drop_eq_getElem_cons hi, List.all_cons]
    unfold ab
    by_cases f : finB l[i] = true
    · rw [gt_le _ f, f]
      cases fle .f32 l[i] 0
      · simp
      · simp
    · rw [Bool.not_eq_true] at f
      rw [f]; simp
theorem tube_both (l : List Nat) (a b c : Nat) (k : Nat) (hk : 1048600 ≤ k) : ∃ r, spec_l02Is.f k [(⟨l, a, b, c⟩ : S72)] = some r ∧ impl_ValidTube.f k l a b c = some r := by
  have hr : rd_T72 [(⟨l, a, b, c⟩ : S72)] 0 = ⟨l, a, b, c⟩ := rfl
  unfold spec_l02Is.f
  rw [if_pos (show (0 : Int) < (([(⟨l, a, b, c⟩ : S72)] : List S72).length : Int) by show (0 : Int) < 1; decide), hr]
  dsimp only
  by_cases h : 1 ≤ l.length ∧ l.length ≤ 16
  · have h1 : spec_l02Areas.f k l = some (l.all ab) := areas_spec l h.2 h.1 l.length 0 k (by omega) (by omega)
    have h2 : impl_ValidTube.l0 k l (l.length : Int) 0 l a b c = if l.all ab = true then ends a b c else some false := areas_impl l h.2 a b c l.length 0 k (by omega) (by omega)
    have h3 : impl_within.f (l.length : Int) 1 16 = some true := by
      unfold impl_within.f; rw [if_pos (by omega), decide_eq_true (by omega)]
    unfold impl_ValidTube.f
    rw [h1, h3, Option.bind_some, Option.bind_some, if_pos rfl, h2]
    obtain ⟨r, hr⟩ := ends_some a b c
    cases l.all ab
    · exact ⟨false, rfl, rfl⟩
    · exact ⟨r, hr, hr⟩
  · have h3 : impl_within.f (l.length : Int) 1 16 = some false := by
      unfold impl_within.f
      split
      · rw [decide_eq_false (by omega)]
      · rfl
    unfold impl_ValidTube.f
    rw [areas_long l h k (by omega), h3]
    exact ⟨false, rfl, rfl⟩
def lastB (b s : Nat) : Bool := finB b && fge .f32 b 0 && fge .f32 s 0 && fle .f32 s 1056964608
theorem last_spec (b s : Nat) : ((spec_l02Least.f b).bind fun t119 => (if t119 = true then (if (fge .f32 s 0) = true then (some (fle .f32 s 1056964608)) else (some false)) else (some false))) = some (lastB b s) := by
  unfold spec_l02Least.f spec_l01Finite.f lastB
  cases finB b <;> cases fge .f32 b 0 <;> cases fge .f32 s 0 <;> rfl
theorem last_impl (b s : Nat) : ((impl_IsFinite.f b).bind fun t157 => (if t157 = true then (if (fge .f32 b 0) = true then ((impl_isBetween.f s 0 1056964608).bind fun t158 => (some t158)) else (some false)) else (some false))) = some (lastB b s) := by
  unfold impl_IsFinite.f impl_isBetween.f lastB
  cases finB b <;> cases fge .f32 b 0 <;> cases fge .f32 s 0 <;> rfl
theorem mid (o c : Nat) (X : Bool) : ∃ t : Bool,
    ((spec_l02Above.f o).bind fun t109 => (if t109 = true then ((spec_l02Above.f c).bind fun t112 => (if t112 = true then (if (foprOk .add .f32 o c) = true then (if (fle .f32 (fopr .add .f32 o c) 1065353216) = true then (some X) else (some false)) else (none)) else (some false))) else (some false))) = some t
    ∧ (if (fgr .f32 o 0) = true then (if (fgr .f32 c 0) = true then (if (foprOk .add .f32 o c) = true then (if (fle .f32 (fopr .add .f32 o c) 1065353216) = true then (some X) else (some false)) else (none)) else (some false)) else (some false)) = some t := by
  have ha : ∀ x, spec_l02Above.f x = some (finB x && fgr .f32 x 0) := by
    intro x
    unfold spec_l02Above.f spec_l01Finite.f
    cases finB x <;> rfl
  rw [ha o, ha c]
  by_cases h1 : fgr .f32 o 0 = true
  · by_cases h2 : fgr .f32 c 0 = true
    · obtain ⟨k1, k2⟩ := add_some h1 h2
      rw [h1, h2, k1]
      rcases k2 with ⟨f1, f2⟩ | k3
      · rw [f1, f2]
        cases fle .f32 (fopr .add .f32 o c) 1065353216
        · exact ⟨false, rfl, rfl⟩
        · exact ⟨X, rfl, rfl⟩
      · rw [k3]
        refine ⟨false, ?_, rfl⟩
        cases finB o <;> cases finB c <;> rfl
    · rw [Bool.not_eq_true] at h2
      rw [h1, h2]
      refine ⟨false, ?_, rfl⟩
      cases finB o <;> cases finB c <;> rfl
  · rw [Bool.not_eq_true] at h1
    rw [h1]
    refine ⟨false, ?_, rfl⟩
    cases finB o <;> rfl
theorem throat_both (p o c b s : Nat) : ∃ r, spec_l03Throat.f [(⟨p, o, c, b, s⟩ : S74)] = some r ∧ impl_ValidThroat.f p o c b s = some r := by
  have hr : rd_T74 [(⟨p, o, c, b, s⟩ : S74)] 0 = ⟨p, o, c, b, s⟩ := rfl
  unfold spec_l03Throat.f spec_l03Throat.g
  rw [if_pos (show (0 : Int) < (([(⟨p, o, c, b, s⟩ : S74)] : List S74).length : Int) by show (0 : Int) < 1; decide), hr]
  dsimp only
  unfold impl_ValidThroat.f
  rw [last_spec, last_impl]
  have hb : impl_isBetween.f p 1073741824 1148846080 = some (fge .f32 p 1073741824 && fle .f32 p 1148846080) := by
    unfold impl_isBetween.f
    cases fge .f32 p 1073741824 <;> rfl
  obtain ⟨t, m1, m2⟩ := mid o c (lastB b s)
  rw [m1, m2, hb, Option.bind_some]
  cases fge .f32 p 1073741824 <;> cases fle .f32 p 1148846080 <;> first | exact ⟨t, rfl, rfl⟩ | exact ⟨false, rfl, rfl⟩
theorem fin_spec_l (l : List Nat) (hl : l.length ≤ 1048576) : ∀ (d i k : Nat), i + d = l.length → d < k → spec_l02Finite.l0 k l (i : Int) = some ((l.drop i).all finB)
  | _, _, 0, _, h => by omega
  | 0, i, k + 1, h1, h2 => by
    obtain rfl : i = l.length := by omega
    rw [spec_l02Finite.l0, if_neg (by omega), List.drop_length]; rfl
  | d + 1, i, k + 1, h1, h2 => by
    have hi : i < l.length := by omega
    have e : ((i : Int) + 1) = ((i + 1 : Nat) : Int) := by omega
    rw [spec_l02Finite.l0, if_pos (by omega), if_pos (by omega), rdN_at hi, spec_l01Finite.f, Option.bind_some, w64 (by omega) (by omega), e, fin_spec_l l hl d (i + 1) k (by omega) (by omega), List.drop_eq_getElem_cons hi, List.all_cons]
    cases finB l[i] <;> rfl
theorem fin_impl_l (l : List Nat) (hl : l.length ≤ 1048576) : ∀ (d i k : Nat), i + d = l.length → d < k → impl_areFinite.l0 k l (l.length : Int) (i : Int) = some ((l.drop i).all finB)
  | _, _, 0, _, h => by omega
  | 0, i, k + 1, h1, h2 => by
    obtain rfl : i = l.length := by omega
    rw [impl_areFinite.l0, if_neg (by omega), List.drop_length]; rfl
  | d + 1, i, k + 1, h1, h2 => by
    have hi : i < l.length := by omega
    have e : ((i : Int) + 1) = ((i + 1 : Nat) : Int) := by omega
    rw [impl_areFinite.l0, if_pos (by omega), if_pos (by omega), if_pos (by omega), rdN_at hi, impl_IsFinite.f, Option.bind_some, w64 (by omega) (by omega), e, fin_impl_l l hl d (i + 1) k (by omega) (by omega), List.drop_eq_getElem_cons hi, List.all_cons]
    cases finB l[i] <;> rfl
theorem pred_both (l : List Nat) (g : Nat) (hl : l.length ≤ 1048576) (k : Nat) (hk : 1048600 ≤ k) : ∃ b, spec_l04Is.f k [(⟨l, g⟩ : S76)] = some b ∧ impl_ValidPredictor.f k l g = some b := by
  have h1 : spec_l02Finite.f k l = some (l.all finB) := fin_spec_l l hl l.length 0 k (by omega) (by omega)
  have h2 : impl_areFinite.f k l = some (l.all finB) := fin_impl_l l hl l.length 0 k (by omega) (by omega)
  have hr : rd_T76 [(⟨l, g⟩ : S76)] 0 = ⟨l, g⟩ := rfl
  have h3 : spec_l02Least.f g = some (finB g && fge .f32 g 0) := by
    unfold spec_l02Least.f spec_l01Finite.f
    rw [Option.bind_some]
    cases finB g <;> rfl
  unfold spec_l04Is.f impl_ValidPredictor.f impl_within.f impl_IsFinite.f
  rw [if_pos (show (0 : Int) < (([(⟨l, g⟩ : S76)] : List S76).length : Int) by show (0 : Int) < 1; decide), hr]
  dsimp only
  rw [h1, h2, h3]
  by_cases c : (l.length : Int) ≥ 1
  · rw [if_pos c, if_pos c]
    by_cases d : (l.length : Int) ≤ 16
    · rw [if_pos d, Option.bind_some, Option.bind_some]
      simp only [d, decide_true, if_true, Option.bind_some]
      cases l.all finB
      · exact ⟨false, rfl, rfl⟩
      · simp only [if_true]
        cases finB g
        · exact ⟨false, rfl, rfl⟩
        · exact ⟨_, rfl, rfl⟩
    · rw [if_neg d, Option.bind_some, if_neg (by simpa using d)]
      exact ⟨false, rfl, rfl⟩
  · rw [if_neg c, if_neg c]
    exact ⟨false, rfl, rfl⟩
theorem szL_at (l : List LS) (hl : l.length ≤ 9223372036854775807) (hx : ∀ x ∈ l, okS x) (k : Nat) (hk : 1048600 ≤ k) (a : Int) (ha : 0 ≤ a) (hb : a ≤ 1048576) : ∃ r, laws_szSoundS.f k l a = some r ∧ (r < 0 ∨ (0 ≤ r ∧ r ≤ 1048576) ∧ l.length ≤ 1048576 ∧ ∀ x ∈ l, x.f0.size ≤ 1048576 ∧ x.f1.length ≤ 1048576) := by
  unfold laws_szSoundS.f
  rw [w64 (x := a - l.length) (by omega) (by omega)]
  split
  · exact ⟨_, rfl, .inl (by omega)⟩
  · obtain ⟨r, e, hr⟩ := szl_some l (by omega) hx l.length 0 k (a - l.length) (by omega) (by omega) (by omega) (by omega)
    refine ⟨r, e, ?_⟩
    rcases hr with hr | ⟨h1, h2⟩
    · exact .inl hr
    · exact .inr ⟨h1, by omega, h2⟩
theorem szDesk_some (l0 : List Nat) (a1 a2 a3 a4 a5 a6 a7 a8 : Nat) (l9 : List Nat) (a10 : Nat) (L : List LS) (h0 : l0.length ≤ 9223372036854775807) (h9 : l9.length ≤ 9223372036854775807) (hl : L.length ≤ 9223372036854775807) (hx : ∀ x ∈ L, okS x) (k : Nat) (hk : 1048600 ≤ k) (a : Int) (ha : 0 ≤ a) (hb : a ≤ 1048576) : ∃ r, laws_szDesk.f k l0 a1 a2 a3 a4 a5 a6 a7 a8 l9 a10 L a = some r ∧ (r < 0 ∨ (0 ≤ r ∧ r ≤ 1048576) ∧ l0.length ≤ 1048576 ∧ l9.length ≤ 1048576 ∧ L.length ≤ 1048576 ∧ ∀ x ∈ L, x.f0.size ≤ 1048576 ∧ x.f1.length ≤ 1048576) := by
  unfold laws_szDesk.f laws_szTube.f laws_szPredictor.f
  obtain ⟨r1, e1, hr1⟩ := szF_some l0 h0 a ha hb
  rw [e1, Option.bind_some]
  by_cases c1 : r1 < 0
  · rw [if_pos c1, Option.bind_some, if_pos (by decide)]; exact ⟨_, rfl, .inl (by omega)⟩
  rw [if_neg c1, Option.bind_some, if_neg c1]
  obtain ⟨r2, e2, hr2⟩ := szF_some l9 h9 r1 (by omega) (by omega)
  rw [e2, Option.bind_some]
  by_cases c2 : r2 < 0
  · rw [if_pos c2, Option.bind_some, if_pos (by decide)]; exact ⟨_, rfl, .inl (by omega)⟩
  rw [if_neg c2, Option.bind_some, if_neg c2]
  obtain ⟨r3, e3, hr3⟩ := szL_at L hl hx k hk r2 (by omega) (by omega)
  rw [e3, Option.bind_some]
  by_cases c3 : r3 < 0
  · rw [if_pos c3]; exact ⟨_, rfl, .inl (by omega)⟩
  rw [if_neg c3]
  obtain ⟨b1, b2, b3⟩ := hr3.resolve_left c3
  exact ⟨_, rfl, .inr ⟨b1, by omega, by omega, b2, b3⟩⟩
theorem okI_cv (x : LS) (h : okS x) (hz : x.f0.size ≤ 1048576 ∧ x.f1.length ≤ 1048576) : okI (cv1 x) := ⟨hz.1, hz.2, h.2.1.2, h.2.2.1, h.2.2.2.1, h.2.2.2.2.1, h.2.2.2.2.2⟩
end Go.Proofs.Ytoiaojdkgagblaa.VdPure
