import Derived.Test.YteooifighndmkaaFrk
import Derived.Test.YteooifighndmkaaFrf
import Derived.Test.YteooifighndmkaaFrh
import Derived.Test.YteooifighndmkaaFrj
import Derived.Test.YteooifighndmkaaLm
import Derived.Test.YteooifighndmkaaOf
set_option linter.unusedVariables false
set_option linter.unusedSimpArgs false
namespace Go.Proofs.Yteooifighndmkaa.FrPure
open Go.RowKit Go.Proofs.YteooifighndmkaaW.PrintWords Go.Proofs.YteooifighndmkaaW.PrintLast Go.Proofs.YteooifighndmkaaW.PrintMore Go.Proofs.YteooifighndmkaaW.PrintFl Go.Proofs.Yteooifighndmkaa Go.Proofs.Yteooifighndmkaa.PFnExactFrameAt Go.Proofs.Yteooifighndmkaa.Lm Go.Proofs.Yteooifighndmkaa.Sdm
theorem rdN_at {l : List Nat} {i : Nat} (h : i < l.length) : rdOf (0 : Nat) l (i : Int) = l[i]'h := by
  unfold rdOf
  rw [Int.toNat_natCast, List.getD_eq_getElem?_getD, List.getElem?_eq_getElem h]; rfl
theorem w64 {x : Int} (h0 : -9223372036854775808 ≤ x) (h1 : x ≤ 9223372036854775807) : wrap64 x = x := by
  unfold wrap64; omega
theorem szF_some (l : List Nat) (hl : l.length ≤ 9223372036854775807) (a : Int) (ha : 0 ≤ a) (hb : a ≤ 1048576) : ∃ r, laws_szFloat32S.f l a = some r ∧ (r < 0 ∨ 0 ≤ r ∧ r ≤ 1048576 ∧ l.length ≤ 1048576) := by
  unfold laws_szFloat32S.f
  rw [w64 (x := a - l.length) (by omega) (by omega)]
  split
  · exact ⟨_, rfl, .inl (by omega)⟩
  · exact ⟨_, rfl, .inr (by omega)⟩
theorem toFl_some (l : List Nat) (hl : l.length ≤ 1048576) : ∀ (k : Nat) (ys : List Nat) (i : Nat), i ≤ l.length → l.length - i < k → ys.length = l.length → ys.take i = l.take i → laws_toFloat32S.l0 k l ys (i : Int) = some l
  | 0, ys, i, h1, hk, hy, ht => by omega
  | k + 1, ys, i, h1, hk, hy, ht => by
    unfold laws_toFloat32S.l0
    by_cases c : (i : Int) < (l.length : Int)
    · rw [if_pos c, if_pos (by omega), if_pos (by omega), w64 (by omega) (by omega)]
      have e : ((i : Int) + 1) = ((i + 1 : Nat) : Int) := by omega
      rw [e]
      refine toFl_some l hl k _ (i + 1) (by omega) (by omega) (by rw [List.length_set]; exact hy) ?_
      have hil : i < l.length := by omega
      show (ys.set ((i : Int)).toNat (rdOf 0 l (i : Int))).take (i + 1) = _
      rw [Int.toNat_natCast]
      refine take_set_succ hil hy ht ?_
      unfold rdOf
      rw [Int.toNat_natCast, List.getD_eq_getElem?_getD, List.getElem?_eq_getElem hil]
      rfl
    · rw [if_neg c]
      have : i = l.length := by omega
      subst this
      rw [List.take_length, List.take_of_length_le (by omega)] at ht
      rw [ht]
theorem toF_some (l : List Nat) (hl : l.length ≤ 1048576) (k : Nat) (hk : 1048577 ≤ k) : laws_toFloat32S.f k l = some l := by
  unfold laws_toFloat32S.f
  rw [if_pos (by omega), if_pos (by omega)]
  exact toFl_some l hl k _ 0 (by omega) (by omega) (by rw [List.length_replicate]; omega) rfl
theorem fin_nan (x : Nat) (h : finB x = true) : (FloatKind.f32.format.read x).isNaN = false := by
  cases hr : FloatKind.f32.format.read x with
  | number s m e => rfl
  | infinity s => rfl
  | nan s t =>
    exfalso
    have : floatBits .sub .f32 x x = none := by
      simp [floatBits, Ieee.Format.sub, hr, Ieee.Datum.sum, Ieee.Datum.opposite]
    unfold finB foprOk at h
    rw [this] at h
    cases h
theorem gt_le (x : Nat) (h : finB x = true) : fgr .f32 x 0 = !fle .f32 x 0 := by
  have hn := fin_nan x h
  have h0 : FloatKind.f32.format.read 0 = .number false 0 (-149) := by decide +kernel
  unfold fgr fle Ieee.Format.order
  rw [h0]
  cases hr : FloatKind.f32.format.read x with
  | nan s t => rw [hr] at hn; cases hn
  | infinity s => cases s <;> rfl
  | number s m e =>
    have ho : ∃ o, (Ieee.Datum.number s m e).order (Ieee.Datum.number false 0 (-149)) = some o := ⟨_, rfl⟩
    obtain ⟨o, ho⟩ := ho
    rw [ho]
    cases o <;> rfl
def ab (x : Nat) : Bool := finB x && fgr .f32 x 0
theorem ab_spec (x : Nat) : spec_l02Above.f x = some (ab x) := by
  unfold spec_l02Above.f spec_l01Finite.f ab
  rw [Option.bind_some]
  cases finB x <;> rfl
theorem areas_spec (l : List Nat) (hl : l.length ≤ 16) (h1 : 1 ≤ l.length) : ∀ (d i k : Nat), i + d = l.length → 2 * d + 1 < k → spec_l02Areas.l0 k l (i : Int) = some ((l.drop i).all ab)
  | _, _, 0, _, h => by omega
  | _, _, 1, _, h => by omega
  | 0, i, k + 2, h2, h3 => by
    obtain rfl : i = l.length := by omega
    rw [spec_l02Areas.l0, if_neg (by omega), spec_l02Areas.j1, if_neg (by decide), if_pos (by omega), List.drop_length, decide_eq_true (by omega)]
    rfl
  | d + 1, i, k + 2, h2, h3 => by
    have hi : i < l.length := by omega
    have e : ((i : Int) + 1) = ((i + 1 : Nat) : Int) := by omega
    rw [spec_l02Areas.l0, if_pos (by omega), decide_eq_true (by omega), spec_l02Areas.j1, if_pos rfl, if_pos (by omega), if_pos (by omega), rdN_at hi, ab_spec, Option.bind_some, w64 (by omega) (by omega), e, areas_spec l hl h1 d (i + 1) k (by omega) (by omega), List.drop_eq_getElem_cons hi, List.all_cons]
    cases ab l[i] <;> rfl
theorem areas_long (l : List Nat) (hl : ¬ (1 ≤ l.length ∧ l.length ≤ 16)) (k : Nat) (hk : 2 ≤ k) : spec_l02Areas.f k l = some false := by
  obtain ⟨k, rfl⟩ : ∃ m, k = m + 2 := ⟨k - 2, by omega⟩
  unfold spec_l02Areas.f
  rw [spec_l02Areas.l0]
  by_cases c : l.length = 0
  · rw [if_neg (by omega), spec_l02Areas.j1, if_neg (by decide), if_neg (by omega)]
  · rw [if_pos (by omega), decide_eq_false (by omega), spec_l02Areas.j1, if_neg (by decide), if_pos (by omega), decide_eq_false (by omega)]
abbrev LS := S45
abbrev IS := S49
def cv1 (x : LS) : IS := ⟨x.f0, x.f1, x.f2, x.f3, x.f4, x.f5⟩
def okS (x : LS) : Prop := x.f0.size ≤ 140737488351232 ∧ (x.f1.length ≤ 9223372036854775807 ∧ ∀ y ∈ x.f1, y < 4294967296) ∧ x.f2 < 4294967296 ∧ x.f3 < 4294967296 ∧ x.f4 < 4294967296 ∧ x.f5 < 4294967296
theorem rdL_at {l : List LS} {i : Nat} (h : i < l.length) : rd_T45 l (i : Int) = l[i]'h := by
  unfold rd_T45
  rw [Int.toNat_natCast, List.getD_eq_getElem?_getD, List.getElem?_eq_getElem h]; rfl
theorem rdI_at {l : List IS} {i : Nat} (h : i < l.length) : rd_T49 l (i : Int) = l[i]'h := by
  unfold rd_T49
  rw [Int.toNat_natCast, List.getD_eq_getElem?_getD, List.getElem?_eq_getElem h]; rfl
theorem szS_some (x : LS) (hx : okS x) (a : Int) (ha : 0 ≤ a) (hb : a ≤ 1048576) : ∃ r, laws_szSound.f x.f0 x.f1 x.f2 x.f3 x.f4 x.f5 a = some r ∧ (r < 0 ∨ 0 ≤ r ∧ r ≤ 1048576 ∧ x.f0.size ≤ 1048576 ∧ x.f1.length ≤ 1048576) := by
  have h1 := hx.1
  unfold laws_szSound.f
  rw [w64 (x := a - x.f0.size) (by omega) (by omega)]
  split
  · exact ⟨_, rfl, .inl (by omega)⟩
  · obtain ⟨r, e, hr⟩ := szF_some x.f1 hx.2.1.1 (a - x.f0.size) (by omega) (by omega)
    rw [e, Option.bind_some]
    split
    · exact ⟨_, rfl, .inl (by omega)⟩
    · exact ⟨_, rfl, .inr (by omega)⟩
theorem szl_some (l : List LS) (hl : l.length ≤ 1048576) (hx : ∀ x ∈ l, okS x) : ∀ (d i k : Nat) (a : Int), i + d = l.length → d < k → 0 ≤ a → a ≤ 1048576 → ∃ r, laws_szSoundS.l0 k l a (i : Int) = some r ∧ (r < 0 ∨ (0 ≤ r ∧ r ≤ 1048576) ∧ ∀ x ∈ l.drop i, x.f0.size ≤ 1048576 ∧ x.f1.length ≤ 1048576)
  | _, _, 0, _, _, h, _, _ => by omega
  | 0, i, k + 1, a, h1, h2, h3, h4 => by
    obtain rfl : i = l.length := by omega
    refine ⟨a, ?_, .inr ⟨⟨h3, h4⟩, by rw [List.drop_length]; simp⟩⟩
    rw [laws_szSoundS.l0, if_neg (by omega)]
  | d + 1, i, k + 1, a, h1, h2, h3, h4 => by
    have hi : i < l.length := by omega
    have e : ((i : Int) + 1) = ((i + 1 : Nat) : Int) := by omega
    obtain ⟨r, er, hr⟩ := szS_some l[i] (hx _ (List.getElem_mem _)) a h3 h4
    rw [laws_szSoundS.l0, if_pos (by omega), if_pos (by omega), rdL_at hi, er, Option.bind_some, w64 (by omega) (by omega), e]
    by_cases c : r < 0
    · rw [if_pos c]; exact ⟨_, rfl, .inl (by omega)⟩
    · rw [if_neg c]
      obtain ⟨r2, er2, hr2⟩ := szl_some l hl hx d (i + 1) k r (by omega) (by omega) (by omega) (by omega)
      refine ⟨r2, er2, ?_⟩
      rcases hr2 with hr2 | ⟨h5, h6⟩
      · exact .inl hr2
      · refine .inr ⟨h5, fun x hm => ?_⟩
        rw [List.drop_eq_getElem_cons hi] at hm
        rcases List.mem_cons.1 hm with rfl | hm
        · omega
        · exact h6 x hm
theorem szL_some (l : List LS) (hl : l.length ≤ 9223372036854775807) (hx : ∀ x ∈ l, okS x) (k : Nat) (hk : 1048600 ≤ k) : ∃ r, laws_szSoundS.f k l 1048576 = some r ∧ (r < 0 ∨ (0 ≤ r ∧ r ≤ 1048576) ∧ l.length ≤ 1048576 ∧ ∀ x ∈ l, x.f0.size ≤ 1048576 ∧ x.f1.length ≤ 1048576) := by
  unfold laws_szSoundS.f
  rw [w64 (x := (1048576 : Int) - l.length) (by omega) (by omega)]
  split
  · exact ⟨_, rfl, .inl (by omega)⟩
  · obtain ⟨r, e, hr⟩ := szl_some l (by omega) hx l.length 0 k (1048576 - l.length) (by omega) (by omega) (by omega) (by omega)
    refine ⟨r, e, ?_⟩
    rcases hr with hr | ⟨h1, h2⟩
    · exact .inl hr
    · exact .inr ⟨h1, by omega, h2⟩
theorem toS_loop (l : List LS) (hl : l.length ≤ 1048576) (hz : ∀ x ∈ l, x.f1.length ≤ 1048576) : ∀ (d i k : Nat) (ys : List IS), i + d = l.length → ys.length = l.length → ys.take i = (l.take i).map cv1 → d + 1048577 < k → laws_toSoundS.l0 k l ys (i : Int) = some (l.map cv1)
  | _, _, 0, _, _, _, _, h => by omega
  | 0, i, k + 1, ys, h1, h2, h3, h4 => by
    obtain rfl : i = l.length := by omega
    rw [laws_toSoundS.l0, if_neg (by omega)]
    rw [List.take_of_length_le (by omega), List.take_length] at h3
    rw [h3]
  | d + 1, i, k + 1, ys, h1, h2, h3, h4 => by
    have hi : i < l.length := by omega
    have e : ((i : Int) + 1) = ((i + 1 : Nat) : Int) := by omega
    have ht : laws_toSound.f k l[i].f0 l[i].f1 l[i].f2 l[i].f3 l[i].f4 l[i].f5 = some (l[i].f0, l[i].f1, l[i].f2, l[i].f3, l[i].f4, l[i].f5) := by
      unfold laws_toSound.f
      rw [toF_some _ (hz _ (List.getElem_mem _)) k (by omega), Option.bind_some]
    rw [laws_toSoundS.l0, if_pos (by omega), if_pos (by omega), rdL_at hi, ht, Option.bind_some, if_pos (by omega), w64 (by omega) (by omega), e, Int.toNat_natCast]
    refine toS_loop l hl hz d (i + 1) k _ (by omega) (by rw [List.length_set]; exact h2) ?_ (by omega)
    rw [List.map_take] at h3 ⊢
    exact take_set_succ (xs := l.map cv1) (by rw [List.length_map]; exact hi) (by rw [List.length_map]; exact h2) h3 (by rw [List.getElem?_map, List.getElem?_eq_getElem hi]; rfl)
theorem toS_some (l : List LS) (hl : l.length ≤ 1048576) (hz : ∀ x ∈ l, x.f1.length ≤ 1048576) (k : Nat) (hk : 2100000 ≤ k) : laws_toSoundS.f k l = some (l.map cv1) := by
  unfold laws_toSoundS.f
  rw [if_pos (by omega), if_pos (by omega), Int.toNat_natCast]
  exact toS_loop l hl hz l.length 0 k _ (by omega) (by rw [List.length_replicate]) rfl (by omega)
def okI (x : IS) : Prop := x.f0.size ≤ 1048576 ∧ x.f1.length ≤ 1048576 ∧ (∀ y ∈ x.f1, y < 4294967296) ∧ x.f2 < 4294967296 ∧ x.f3 < 4294967296 ∧ x.f4 < 4294967296 ∧ x.f5 < 4294967296
theorem eqS_loop (l : List IS) (hl : l.length ≤ 1048576) (hx : ∀ x ∈ l, okI x) : ∀ (d i k : Nat), i + d = l.length → d < k → laws_eqSoundS.l0 k l l (i : Int) = some true
  | _, _, 0, _, h => by omega
  | 0, i, k + 1, h1, h2 => by
    obtain rfl : i = l.length := by omega
    rw [laws_eqSoundS.l0, if_neg (by omega)]
  | d + 1, i, k + 1, h1, h2 => by
    have hi : i < l.length := by omega
    have e : ((i : Int) + 1) = ((i + 1 : Nat) : Int) := by omega
    obtain ⟨o1, o2, o3, o4, o5, o6, o7⟩ := hx l[i] (List.getElem_mem _)
    have he : laws_eqSound.f l[i].f0 l[i].f1 l[i].f2 l[i].f3 l[i].f4 l[i].f5 l[i].f0 l[i].f1 l[i].f2 l[i].f3 l[i].f4 l[i].f5 = some true := by
      unfold laws_eqSound.f
      rw [if_pos ⟨rfl, rfl, rfl, rfl, rfl, rfl, o2, o3, o4, o5, o6, o7⟩]
    rw [laws_eqSoundS.l0, if_pos (by omega), if_pos (by omega), if_pos (by omega), rdI_at hi, he, Option.bind_some, if_pos rfl, w64 (by omega) (by omega), e]
    exact eqS_loop l hl hx d (i + 1) k (by omega) (by omega)
theorem eqS_some (l : List IS) (hl : l.length ≤ 1048576) (hx : ∀ x ∈ l, okI x) (k : Nat) (hk : 1048600 ≤ k) : laws_eqSoundS.f k l l = some true := by
  unfold laws_eqSoundS.f
  rw [if_pos rfl]
  exact eqS_loop l hl hx l.length 0 k (by omega) (by omega)
theorem bt_ok (s : ByteArray) (i : Nat) : ∃ b : Bool, (decide (bt s (i : Int) < 97) || decide (bt s (i : Int) > 122)) = !b := ⟨_, (Bool.not_not _).symm⟩
def lt1 (s : ByteArray) (i : Nat) : Bool := !(decide (bt s (i : Int) < 97) || decide (bt s (i : Int) > 122))
def nm (s : ByteArray) : Nat → Nat → Bool
  | 0, _ => true
  | d + 1, i => lt1 s i && nm s d (i + 1)
theorem nm_spec (s : ByteArray) (h4 : s.size ≤ 4) (h1 : 1 ≤ s.size) : ∀ (d i k : Nat), i + d = s.size → 2 * d + 1 < k → spec_l06Name.l0 k s (i : Int) = some (nm s d i)
  | _, _, 0, _, h => by omega
  | _, _, 1, _, h => by omega
  | 0, i, k + 2, h2, h3 => by
    rw [spec_l06Name.l0, if_neg (by omega), spec_l06Name.j1, if_neg (by decide), if_pos (by omega), decide_eq_true (by omega)]
    rfl
  | d + 1, i, k + 2, h2, h3 => by
    have e : ((i : Int) + 1) = ((i + 1 : Nat) : Int) := by omega
    rw [spec_l06Name.l0, if_pos (by omega), decide_eq_true (by omega), spec_l06Name.j1, if_pos rfl, if_pos (by omega), if_pos (by omega), w64 (by omega) (by omega), e, nm_spec s h4 h1 d (i + 1) k (by omega) (by omega), nm]
    unfold lt1
    by_cases c1 : bt s (i : Int) < 97
    · rw [if_pos c1]; simp [c1]
    · rw [if_neg c1]
      by_cases c2 : bt s (i : Int) > 122
      · rw [if_pos c2]; simp [c2]
      · rw [if_neg c2]; simp [c1, c2]
theorem nm_impl (s : ByteArray) (h4 : s.size ≤ 4) : ∀ (d i k : Nat), i + d = s.size → d < k → impl_IsName.l0 k s (i : Int) = some (nm s d i && decide (1 ≤ s.size))
  | _, _, 0, _, h => by omega
  | 0, i, k + 1, h2, h3 => by
    rw [impl_IsName.l0, if_neg (by omega)]
    unfold impl_within.f
    by_cases c : (s.size : Int) ≥ 1
    · rw [if_pos c, decide_eq_true (show (s.size : Int) ≤ 8 by omega), decide_eq_true (show 1 ≤ s.size by omega)]; rfl
    · rw [if_neg c, decide_eq_false (show ¬ 1 ≤ s.size by omega)]; rfl
  | d + 1, i, k + 1, h2, h3 => by
    have e : ((i : Int) + 1) = ((i + 1 : Nat) : Int) := by omega
    rw [impl_IsName.l0, if_pos (by omega), if_pos (by omega), w64 (by omega) (by omega), e, nm_impl s h4 d (i + 1) k (by omega) (by omega), nm]
    unfold lt1
    by_cases c1 : bt s (i : Int) < 97
    · rw [if_pos c1]; simp [c1]
    · rw [if_neg c1]
      by_cases c2 : bt s (i : Int) > 122
      · rw [if_pos c2]; simp [c2]
      · rw [if_neg c2]; simp [c1, c2]
theorem name_both (s : ByteArray) (hs : s.size ≤ 1048576) : ∃ b : Bool, ∀ k, 64 ≤ k → spec_l06Name.f k s = some b ∧ impl_isSoundName.f k s = some b := by
  by_cases h : 1 ≤ s.size ∧ s.size ≤ 4
  · refine ⟨nm s s.size 0, fun k hk => ⟨nm_spec s h.2 h.1 s.size 0 k (by omega) (by omega), ?_⟩⟩
    have h2 : impl_IsName.f k s = some (nm s s.size 0 && decide (1 ≤ s.size)) := nm_impl s h.2 s.size 0 k (by omega) (by omega)
    unfold impl_isSoundName.f
    rw [if_pos (by omega), h2, decide_eq_true h.1, Bool.and_true]; rfl
  · refine ⟨false, fun k hk => ⟨?_, ?_⟩⟩
    · obtain ⟨k, rfl⟩ : ∃ m, k = m + 2 := ⟨k - 2, by omega⟩
      unfold spec_l06Name.f
      rw [spec_l06Name.l0]
      by_cases c : s.size = 0
      · rw [if_neg (by omega), spec_l06Name.j1, if_neg (by decide), if_neg (by omega)]
      · rw [if_pos (by omega), decide_eq_false (by omega), spec_l06Name.j1, if_neg (by decide), if_pos (by omega), decide_eq_false (by omega)]
    · unfold impl_isSoundName.f
      by_cases c : s.size = 0
      · have h2 : impl_IsName.f k s = some (nm s s.size 0 && decide (1 ≤ s.size)) := nm_impl s (by omega) s.size 0 k (by omega) (by omega)
        rw [if_pos (by omega), h2, decide_eq_false (by omega), Bool.and_false]; rfl
      · rw [if_neg (by omega)]
theorem afin_impl (l : List Nat) (hl : l.length ≤ 1048576) : ∀ (d i k : Nat), i + d = l.length → d < k → impl_areFinite.l0 k l (l.length : Int) (i : Int) = some ((l.drop i).all finB)
  | _, _, 0, _, h => by omega
  | 0, i, k + 1, h1, h2 => by
    obtain rfl : i = l.length := by omega
    rw [impl_areFinite.l0, if_neg (by omega), List.drop_length]; rfl
  | d + 1, i, k + 1, h1, h2 => by
    have hi : i < l.length := by omega
    have e : ((i : Int) + 1) = ((i + 1 : Nat) : Int) := by omega
    rw [impl_areFinite.l0, if_pos (by omega), if_pos (by omega), if_pos (by omega), rdN_at hi, impl_IsFinite.f, Option.bind_some, w64 (by omega) (by omega), e, afin_impl l hl d (i + 1) k (by omega) (by omega), List.drop_eq_getElem_cons hi, List.all_cons]
    cases finB l[i] <;> rfl
theorem cont_impl (l : List Nat) (hl : l.length ≤ 1048576) : ∀ (d i k : Nat), i + d = l.length → d < k → ∃ r : Int, slices_IndexFunc_v_impl_areAreas_1.l0 k l (l.length : Int) (i : Int) = some r ∧ decide (r ≥ 0) = (l.drop i).any fun x => fle .f32 x 0
  | _, _, 0, _, h => by omega
  | 0, i, k + 1, h1, h2 => by
    obtain rfl : i = l.length := by omega
    refine ⟨-1, ?_, by rw [List.drop_length]; rfl⟩
    rw [slices_IndexFunc_v_impl_areAreas_1.l0, if_neg (by omega)]
  | d + 1, i, k + 1, h1, h2 => by
    have hi : i < l.length := by omega
    have e : ((i : Int) + 1) = ((i + 1 : Nat) : Int) := by omega
    rw [slices_IndexFunc_v_impl_areAreas_1.l0, if_pos (by omega), if_pos (by omega), if_pos (by omega), rdN_at hi, impl_areAreas_1.f, Option.bind_some, w64 (by omega) (by omega), e, List.drop_eq_getElem_cons hi, List.any_cons]
    by_cases c : fle .f32 l[i] 0 = true
    · rw [if_pos c]
      exact ⟨_, rfl, by rw [c, decide_eq_true (by omega)]; rfl⟩
    · rw [if_neg c]
      obtain ⟨r, h3, h4⟩ := cont_impl l hl d (i + 1) k (by omega) (by omega)
      refine ⟨r, h3, ?_⟩
      rw [Bool.not_eq_true] at c
      rw [h4, c, Bool.false_or]
theorem all_ab (l : List Nat) : (l.all finB && !(l.any fun x => fle .f32 x 0)) = l.all ab := by
  induction l with
  | nil => rfl
  | cons x l ih =>
    rw [List.all_cons, List.any_cons, List.all_cons, ← ih]
    unfold ab
    by_cases f : finB x = true
    · rw [gt_le x f, f]
      cases fle .f32 x 0 <;> simp
    · rw [Bool.not_eq_true] at f
      rw [f]; simp
theorem areas_both (l : List Nat) (hl : l.length ≤ 1048576) : ∃ b : Bool, ∀ k, 64 ≤ k → spec_l02Areas.f k l = some b ∧ impl_areAreas.f k l = some b := by
  by_cases h : 1 ≤ l.length ∧ l.length ≤ 16
  · refine ⟨l.all ab, fun k hk => ⟨areas_spec l h.2 h.1 l.length 0 k (by omega) (by omega), ?_⟩⟩
    have h3 : impl_within.f (l.length : Int) 1 16 = some true := by
      unfold impl_within.f; rw [if_pos (by omega), decide_eq_true (by omega)]
    have h4 : impl_areFinite.f k l = some (l.all finB) := afin_impl l hl l.length 0 k (by omega) (by omega)
    obtain ⟨r, h5, h6⟩ := cont_impl l hl l.length 0 k (by omega) (by omega)
    have h7 : slices_ContainsFunc_v_impl_areAreas_1.f k l = some (l.any fun x => fle .f32 x 0) := by
      unfold slices_ContainsFunc_v_impl_areAreas_1.f slices_IndexFunc_v_impl_areAreas_1.f
      rw [show ((0 : Int)) = ((0 : Nat) : Int) from rfl, h5, Option.bind_some]
      exact congrArg some h6
    unfold impl_areAreas.f
    rw [h3, Option.bind_some, if_pos rfl, h4, Option.bind_some, h7, Option.bind_some, ← all_ab]
    cases l.all finB <;> rfl
  · refine ⟨false, fun k hk => ⟨areas_long l h k (by omega), ?_⟩⟩
    have h3 : impl_within.f (l.length : Int) 1 16 = some false := by
      unfold impl_within.f
      split
      · rw [decide_eq_false (by omega)]
      · rfl
    unfold impl_areAreas.f
    rw [h3]; rfl
set_option maxRecDepth 20000 in
set_option maxHeartbeats 1000000 in
theorem sound_both (x : IS) (hx : okI x) : ∃ b : Bool, ∀ k, 64 ≤ k → spec_l06Sound.f k [x] = some b ∧ impl_ValidSound.f k x.f0 x.f1 x.f2 x.f3 x.f4 x.f5 = some b := by
  obtain ⟨b1, n1⟩ := name_both x.f0 hx.1
  obtain ⟨b2, n2⟩ := areas_both x.f1 hx.2.1
  have s1 : spec_l02Least.f x.f3 = some (finB x.f3 && fge .f32 x.f3 0) := by
    unfold spec_l02Least.f spec_l01Finite.f
    cases finB x.f3 <;> rfl
  have s2 : ∀ y, spec_l02Share.f y = some (fge .f32 y 0 && fle .f32 y 1065353216) := by
    intro y
    unfold spec_l02Share.f
    cases fge .f32 y 0 <;> rfl
  have s3 : ∀ y, impl_isBetween.f y 0 1065353216 = some (fge .f32 y 0 && fle .f32 y 1065353216) := by
    intro y
    unfold impl_isBetween.f
    cases fge .f32 y 0 <;> rfl
  refine ⟨b1 && b2 && (finB x.f2 && fgr .f32 x.f2 0) && (finB x.f3 && fge .f32 x.f3 0) && (fge .f32 x.f4 0 && fle .f32 x.f4 1065353216) && (fge .f32 x.f5 0 && fle .f32 x.f5 1065353216), fun k hk => ⟨?_, ?_⟩⟩
  · have hr : rd_T49 [x] 0 = x := rfl
    unfold spec_l06Sound.f
    rw [if_pos (show (0 : Int) < (([x] : List IS).length : Int) by show (0 : Int) < 1; decide), hr, (n1 k hk).1, (n2 k hk).1, ab_spec, s1, s2, s2]
    simp only [Option.bind_some]
    unfold ab
    cases b1 <;> cases b2 <;> cases finB x.f2 <;> cases fgr .f32 x.f2 0 <;> cases (finB x.f3 && fge .f32 x.f3 0) <;> cases (fge .f32 x.f4 0 && fle .f32 x.f4 1065353216) <;> cases (fge .f32 x.f5 0 && fle .f32 x.f5 1065353216) <;> rfl
  · unfold impl_ValidSound.f impl_IsFinite.f
    rw [(n1 k hk).2, (n2 k hk).2, s3, s3]
    simp only [Option.bind_some]
    cases b1 <;> cases b2 <;> cases finB x.f2 <;> cases fgr .f32 x.f2 0 <;> cases finB x.f3 <;> cases fge .f32 x.f3 0 <;> cases (fge .f32 x.f4 0 && fle .f32 x.f4 1065353216) <;> cases (fge .f32 x.f5 0 && fle .f32 x.f5 1065353216) <;> rfl
def soundB (x : IS) : Bool := (spec_l06Sound.f 64 [x]).getD false
theorem sound_k (x : IS) (hx : okI x) (k : Nat) (hk : 64 ≤ k) : spec_l06Sound.f k [x] = some (soundB x) ∧ impl_ValidSound.f k x.f0 x.f1 x.f2 x.f3 x.f4 x.f5 = some (soundB x) := by
  obtain ⟨b, h⟩ := sound_both x hx
  have hb : soundB x = b := by unfold soundB; rw [(h 64 (by omega)).1]; rfl
  rw [hb]; exact h k hk
def lessP (L : List IS) (i : Nat) : Bool := decide (i = 0) || Op.bytesLess ((rd_T49 L ((i - 1 : Nat) : Int)).f0.toList) ((rd_T49 L (i : Int)).f0.toList)
def cnd (L : List IS) (i : Nat) : Bool := soundB (rd_T49 L (i : Int)) && (decide ((rd_T49 L (i : Int)).f1.length = (rd_T49 L 0).f1.length) && lessP L i)
def allc (L : List IS) : Nat → Nat → Bool
  | 0, _ => true
  | d + 1, i => cnd L i && allc L d (i + 1)
theorem are_step (L : List IS) (i : Nat) (R : Option Bool) (rest : Bool) (hi : i < L.length) (hR : R = some rest) (hl : L.length ≤ 1048576) :
    (if soundB (rd_T49 L (i : Int)) = true then (if 0 < (L.length : Int) then (if (((rd_T49 L (i : Int)).f1).length : Int) = (((rd_T49 L 0).f1).length : Int) then (if (i : Int) > 0 then (if 0 ≤ (wrap64 ((i : Int) - 1)) then (if (wrap64 ((i : Int) - 1)) < (L.length : Int) then (if ((Op.bytesLess (((rd_T49 L (wrap64 ((i : Int) - 1))).f0).toList) (((rd_T49 L (i : Int)).f0).toList)) = true) then R else (some false)) else (none)) else (none)) else R) else (some false)) else (none)) else (some false)) = some (cnd L i && rest) := by
  unfold cnd
  by_cases c1 : soundB (rd_T49 L (i : Int)) = true
  · rw [if_pos c1, c1, if_pos (by omega)]
    by_cases c2 : (rd_T49 L (i : Int)).f1.length = (rd_T49 L 0).f1.length
    · rw [if_pos (by omega), decide_eq_true c2]
      unfold lessP
      by_cases c3 : i = 0
      · rw [if_neg (by omega), decide_eq_true c3, hR]; simp
      · have e : wrap64 ((i : Int) - 1) = ((i - 1 : Nat) : Int) := by rw [w64 (by omega) (by omega)]; omega
        rw [if_pos (by omega), e, if_pos (by omega), if_pos (by omega), decide_eq_false c3]
        by_cases c4 : Op.bytesLess (((rd_T49 L ((i - 1 : Nat) : Int)).f0).toList) (((rd_T49 L (i : Int)).f0).toList) = true
        · rw [if_pos c4, c4, hR]; simp
        · rw [if_neg c4]
          rw [Bool.not_eq_true] at c4
          rw [c4]; simp
    · rw [if_neg (by omega), decide_eq_false c2]; simp
  · rw [if_neg c1]
    rw [Bool.not_eq_true] at c1
    rw [c1]; simp
theorem are_spec (L : List IS) (hl : L.length ≤ 16) (hx : ∀ x ∈ L, okI x) : ∀ (d i k : Nat), i + d = L.length → 2 * d + 80 < k → spec_l06Are.l0 k L (i : Int) = some (allc L d i)
  | _, _, 0, _, h => by omega
  | _, _, 1, _, h => by omega
  | 0, i, k + 2, h2, h3 => by
    rw [spec_l06Are.l0, if_neg (by omega), spec_l06Are.j1, if_neg (by decide), decide_eq_true (by omega)]
    rfl
  | d + 1, i, k + 2, h2, h3 => by
    have hi : i < L.length := by omega
    have e : ((i : Int) + 1) = ((i + 1 : Nat) : Int) := by omega
    have ho : okI (rd_T49 L (i : Int)) := by rw [rdI_at hi]; exact hx _ (List.getElem_mem _)
    rw [spec_l06Are.l0, if_pos (by omega), decide_eq_true (by omega), spec_l06Are.j1, if_pos rfl, if_pos (by omega), if_pos (by omega), (sound_k _ ho k (by omega)).1, Option.bind_some, w64 (x := (i : Int) + 1) (by omega) (by omega), e]
    exact are_step L i _ _ hi (are_spec L hl hx d (i + 1) k (by omega) (by omega)) (by omega)
theorem are_impl (L : List IS) (hl : L.length ≤ 1048576) (hx : ∀ x ∈ L, okI x) : ∀ (d i k : Nat), i + d = L.length → d + 80 < k → impl_AreSounds.l0 k L L (L.length : Int) (i : Int) = some (allc L d i && decide (L.length ≤ 16))
  | _, _, 0, _, h => by omega
  | 0, i, k + 1, h2, h3 => by
    rw [impl_AreSounds.l0, if_neg (by omega)]
    by_cases c : L.length ≤ 16
    · rw [decide_eq_true c, decide_eq_true (by omega)]; rfl
    · rw [decide_eq_false c, decide_eq_false (by omega)]; rfl
  | d + 1, i, k + 1, h2, h3 => by
    have hi : i < L.length := by omega
    have e : ((i : Int) + 1) = ((i + 1 : Nat) : Int) := by omega
    have ho : okI (rd_T49 L (i : Int)) := by rw [rdI_at hi]; exact hx _ (List.getElem_mem _)
    rw [impl_AreSounds.l0, if_pos (by omega), if_pos (by omega), if_pos (by omega), (sound_k _ ho k (by omega)).2, Option.bind_some, w64 (x := (i : Int) + 1) (by omega) (by omega), e]
    refine (are_step L i _ _ hi (are_impl L hl hx d (i + 1) k (by omega) (by omega)) (by omega)).trans ?_
    rw [allc, Bool.and_assoc]
theorem are_both (L : List IS) (hl : L.length ≤ 1048576) (hx : ∀ x ∈ L, okI x) (k : Nat) (hk : 2100000 ≤ k) : ∃ b, spec_l06Are.f k L = some b ∧ impl_AreSounds.f k L = some b := by
  have h2 : impl_AreSounds.f k L = some (allc L L.length 0 && decide (L.length ≤ 16)) := are_impl L hl hx L.length 0 k (by omega) (by omega)
  by_cases c : L.length ≤ 16
  · refine ⟨allc L L.length 0, are_spec L c hx L.length 0 k (by omega) (by omega), ?_⟩
    rw [h2, decide_eq_true c, Bool.and_true]
  · refine ⟨false, ?_, by rw [h2, decide_eq_false c, Bool.and_false]⟩
    obtain ⟨k, rfl⟩ : ∃ m, k = m + 2 := ⟨k - 2, by omega⟩
    unfold spec_l06Are.f
    rw [spec_l06Are.l0, if_pos (by omega), decide_eq_false (by omega), spec_l06Are.j1, if_neg (by decide), decide_eq_false (by omega)]
theorem rdS_at {l : List ByteArray} {i : Nat} (h : i < l.length) : rdOf ByteArray.empty l (i : Int) = l[i]'h := by
  unfold rdOf
  rw [Int.toNat_natCast, List.getD_eq_getElem?_getD, List.getElem?_eq_getElem h]; rfl
theorem mtl (m : Nat) : ∀ (k x : Nat) (s : ByteArray), x < 10 ^ m → m < k → s.size + m ≤ 1000 → x ≤ 100000000000000000 → ∃ t, laws_markText.l0 k (x : Int) s = some t := by
  induction m with
  | zero =>
    intro k x s hx hk hs h9
    obtain ⟨k, rfl⟩ : ∃ m, k = m + 1 := ⟨k - 1, by omega⟩
    have hx0 : x = 0 := by simpa using hx
    rw [laws_markText.l0, if_neg (by omega), if_pos (by omega)]
    exact ⟨_, rfl⟩
  | succ m ih =>
    intro k x s hx hk hs h9
    obtain ⟨k, rfl⟩ : ∃ m, k = m + 1 := ⟨k - 1, by omega⟩
    by_cases c : (x : Int) > 0
    · have hd : wrap64 (Int.tdiv (x : Int) 10) = ((x / 10 : Nat) : Int) := by
        rw [Int.tdiv_eq_ediv_of_nonneg (by omega), w64 (by omega) (by omega)]; omega
      have h10 : x / 10 < 10 ^ m := by
        rw [Nat.pow_succ] at hx
        exact Nat.div_lt_of_lt_mul (by rw [Nat.mul_comm]; exact hx)
      rw [laws_markText.l0, if_pos c, Option.bind_some, hd]
      have hsz : ∀ z : Int, (strOfNums [z]).size = 1 := fun z => by simp [strOfNums, ByteArray.size]
      rw [hsz, if_pos (by omega)]
      exact ih k (x / 10) _ h10 (by omega) (by rw [ByteArray.size_append, hsz]; omega) (by omega)
    · rw [laws_markText.l0, if_neg c, if_pos (by omega)]
      exact ⟨_, rfl⟩
theorem mt_some (x : Nat) (hx : x < 10000000000000000) (k : Nat) (hk : 16 < k) : ∃ t, laws_markText.f k (x : Int) = some t := by
  unfold laws_markText.f
  by_cases c : (x : Int) ≤ 0
  · rw [if_pos c]; exact ⟨_, rfl⟩
  · rw [if_neg c]
    exact mtl 16 k x _ (by omega) hk (by decide) (by omega)
theorem mkA_ok : ∀ n, n < 2200 → fne .f32 (floatOfInt .f32 (n : Nat)) (floatOfInt .f32 (n : Nat)) = false := by
  have h : (List.range 2200).all (fun n => !fne .f32 (floatOfInt .f32 (n : Nat)) (floatOfInt .f32 (n : Nat))) = true := by kernel_rfl
  intro n hn
  have := List.all_eq_true.1 h n (List.mem_range.2 hn)
  simpa using this
def marksA (a n : Nat) : List Nat := (List.range n).map fun j => floatOfInt .f32 ((a + j : Nat) : Int)
theorem marksA_len (a n : Nat) : (marksA a n).length = n := by unfold marksA; rw [List.length_map, List.length_range]
theorem marksA_at {a n i : Nat} (h : i < n) : (marksA a n)[i]? = some (floatOfInt .f32 ((a + i : Nat) : Int)) := by
  unfold marksA
  rw [List.getElem?_map, List.getElem?_range h]; rfl
theorem marklA (a n : Nat) (ha : a ≤ 1000000000000000) (hn : n ≤ 1048576) : ∀ (d k : Nat) (xs : List Nat) (i : Nat), i + d = n → xs.length = n → xs.take i = (marksA a n).take i → d < k →
    laws_markFloat32S.l0 k xs ((a + i : Nat) : Int) (i : Int) = some (((a + n : Nat) : Int), marksA a n)
  | d, 0, xs, i, h1, hl, ht, hk => by omega
  | 0, k + 1, xs, i, h1, hl, ht, hk => by
    unfold laws_markFloat32S.l0
    obtain rfl : i = n := by omega
    rw [if_neg (by omega), List.take_of_length_le (by omega), List.take_of_length_le (by rw [marksA_len]; omega)] at *
    rw [ht]
  | d + 1, k + 1, xs, i, h1, hl, ht, hk => by
    unfold laws_markFloat32S.l0
    have e1 : wrap64 ((i : Int) + 1) = ((i + 1 : Nat) : Int) := by rw [w64 (by omega) (by omega)]; omega
    have e2 : wrap64 (((a + i : Nat) : Int) + 1) = ((a + (i + 1) : Nat) : Int) := by rw [w64 (by omega) (by omega)]; omega
    rw [if_pos (by omega), if_pos (by omega), e1, e2]
    refine marklA a n ha hn d k _ (i + 1) (by omega) (by rw [List.length_set]; exact hl) ?_ (by omega)
    rw [Int.toNat_natCast]
    exact take_set_succ (by rw [marksA_len]; omega) (by rw [marksA_len]; exact hl) ht (marksA_at (by omega))
theorem markA_some (a : Nat) (ha : a ≤ 1000000000000000) (l : List Nat) (hl : l.length ≤ 1048576) (k : Nat) (hk : l.length < k) : laws_markFloat32S.f k l (a : Int) = some (((a + l.length : Nat) : Int), marksA a l.length) :=
  marklA a l.length ha hl l.length k l 0 (by omega) rfl rfl hk
theorem heldlA (a n : Nat) (ha : a + n ≤ 2200) : ∀ (d k : Nat) (i : Nat), i + d = n → d < k →
    laws_heldFloat32S.l0 k (marksA a n) ((a + i : Nat) : Int) (i : Int) = some ((a + n : Nat) : Int)
  | d, 0, i, h1, hk => by omega
  | 0, k + 1, i, h1, hk => by
    unfold laws_heldFloat32S.l0
    obtain rfl : i = n := by omega
    rw [if_neg (by rw [marksA_len]; omega)]
  | d + 1, k + 1, i, h1, hk => by
    unfold laws_heldFloat32S.l0
    have e1 : wrap64 ((i : Int) + 1) = ((i + 1 : Nat) : Int) := by rw [w64 (by omega) (by omega)]; omega
    have e2 : wrap64 (((a + i : Nat) : Int) + 1) = ((a + (i + 1) : Nat) : Int) := by rw [w64 (by omega) (by omega)]; omega
    have e3 : rdOf (0 : Nat) (marksA a n) (i : Int) = floatOfInt .f32 ((a + i : Nat) : Int) := by
      unfold rdOf
      rw [Int.toNat_natCast, List.getD_eq_getElem?_getD, marksA_at (by omega)]; rfl
    rw [if_pos (by rw [marksA_len]; omega), if_pos (by omega), e3, mkA_ok (a + i) (by omega), if_neg (by simp), e1, e2]
    exact heldlA a n ha d k (i + 1) (by omega) (by omega)
theorem heldA_some (a n : Nat) (ha : a + n ≤ 2200) (k : Nat) (hk : n < k) : laws_heldFloat32S.f k (marksA a n) (a : Int) = some ((a + n : Nat) : Int) :=
  heldlA a n ha n k 0 (by omega) hk
theorem eqF_some (l : List Nat) (hl : l.length ≤ 1048576) (hb : ∀ x ∈ l, x < 4294967296) : laws_eqFloat32S.f l l = some true := by
  unfold laws_eqFloat32S.f
  rw [if_pos ⟨rfl, hl, hb⟩]
theorem eqSl (l : List ByteArray) (hl : l.length ≤ 4194304) (d : Nat) : ∀ (k i : Nat), i + d = l.length → d < k → laws_eqStringS.l0 k l l (i : Int) = some true := by
  induction d with
  | zero =>
    intro k i h1 hk
    obtain ⟨k, rfl⟩ : ∃ m, k = m + 1 := ⟨k - 1, by omega⟩
    rw [laws_eqStringS.l0, if_neg (nlt (by omega))]
  | succ d ih =>
    intro k i h1 hk
    obtain ⟨k, rfl⟩ : ∃ m, k = m + 1 := ⟨k - 1, by omega⟩
    have hi : i < l.length := by omega
    rw [laws_eqStringS.l0, if_pos (lt' hi), if_pos (nn i), if_pos (lt' hi), if_pos rfl, up hi (by omega)]
    exact ih k (i + 1) (by omega) (by omega)
theorem eqSs (l : List ByteArray) (hl : l.length ≤ 4194303) (k : Nat) (hk : 4194304 ≤ k) : laws_eqStringS.f k l l = some true := by
  unfold laws_eqStringS.f
  rw [if_pos rfl]
  exact eqSl l (by omega) l.length k 0 (by omega) (by omega)
theorem eqS1 (l : List ByteArray) (hl : l.length ≤ 1048576) (k : Nat) (hk : l.length < k) : laws_eqStringS.f k l l = some true := by
  unfold laws_eqStringS.f
  rw [if_pos rfl]
  exact eqSl l (by omega) l.length k 0 (by omega) hk
def ssum (l : List ByteArray) : Nat := (l.map (·.size)).sum
theorem size_le_sum : ∀ (l : List ByteArray) (x : ByteArray), x ∈ l → x.size ≤ ssum l
  | y :: l, x, h => by
    unfold ssum
    rw [List.map_cons, List.sum_cons]
    rcases List.mem_cons.1 h with rfl | h
    · omega
    · have := size_le_sum l x h
      unfold ssum at this; omega
theorem szSl (l : List ByteArray) (hl : l.length ≤ 1048576) (hz : ∀ x ∈ l, x.size ≤ 140737488351232) : ∀ (d i n k : Nat), i + d = l.length → n ≤ 1048576 → d < k → ∃ r, laws_szStringS.l0 k l (n : Int) (i : Int) = some r ∧ (r < 0 ∨ ssum (l.drop i) ≤ n)
  | d, i, n, 0, h1, h2, h3 => by omega
  | 0, i, n, k + 1, h1, h2, h3 => by
    obtain rfl : i = l.length := by omega
    refine ⟨n, by rw [laws_szStringS.l0, if_neg (by omega)], .inr ?_⟩
    rw [List.drop_length]; exact Nat.zero_le _
  | d + 1, i, n, k + 1, h1, h2, h3 => by
    have hi : i < l.length := by omega
    have hx := hz _ (List.getElem_mem hi)
    have hs : ssum (l.drop i) = l[i].size + ssum (l.drop (i + 1)) := by unfold ssum; rw [List.drop_eq_getElem_cons hi, List.map_cons, List.sum_cons]
    have e1 : wrap64 ((n : Int) - (l[i].size : Int)) = (n : Int) - (l[i].size : Int) := w64 (by omega) (by omega)
    rw [laws_szStringS.l0, if_pos (lt' hi), if_pos (nn i), rdS_at hi, e1, hs]
    clear e1
    by_cases c : (n : Int) - (l[i].size : Int) < 0
    · exact ⟨-1, by rw [if_pos c], .inl (by decide)⟩
    · obtain ⟨r, h4, h5⟩ := szSl l hl hz d (i + 1) (n - l[i].size) k (by omega) (by omega) (by omega)
      refine ⟨r, ?_, h5.imp id (fun h => by omega)⟩
      rw [if_neg c, up hi (by omega), show (n : Int) - (l[i].size : Int) = ((n - l[i].size : Nat) : Int) by omega]; exact h4
theorem szS (l : List ByteArray) (hl : l.length ≤ 9223372036854775807) (hz : ∀ x ∈ l, x.size ≤ 140737488351232) : ∃ r, (∀ k, 1048577 ≤ k → laws_szStringS.f k l 1048576 = some r) ∧ (r < 0 ∨ l.length ≤ 1048576 ∧ ssum l ≤ 1048576) := by
  have e1 : wrap64 (1048576 - (l.length : Int)) = 1048576 - (l.length : Int) := w64 (by omega) (by omega)
  by_cases c : (1048576 : Int) - (l.length : Int) < 0
  · refine ⟨-1, fun k _ => ?_, .inl (by decide)⟩
    unfold laws_szStringS.f
    rw [e1, if_pos c]
  · obtain ⟨r, h4, h5⟩ := szSl l (by clear e1; omega) hz l.length 0 (1048576 - l.length) 1048577 (by omega) (by omega) (by clear e1; omega)
    rw [List.drop_zero] at h5
    refine ⟨r, fun k hk => ?_, h5.imp id (fun h => ⟨by clear e1; omega, by omega⟩)⟩
    refine at_rounds (g := fun k => laws_szStringS.f k l 1048576) (fun k => laws_szStringS.mono _ _ k) hk ?_
    unfold laws_szStringS.f
    rw [e1, if_neg c, show (1048576 : Int) - (l.length : Int) = ((1048576 - l.length : Nat) : Int) by clear e1; omega]; exact h4
theorem toSl (l : List ByteArray) (hl : l.length ≤ 1048576) (d : Nat) : ∀ (k : Nat) (ys : List ByteArray) (i : Nat), i + d = l.length → d < k → ys.length = l.length → ys.take i = l.take i → laws_toStringS.l0 k l ys (i : Int) = some l := by
  induction d with
  | zero =>
    intro k ys i h1 hk hy ht
    obtain ⟨k, rfl⟩ : ∃ m, k = m + 1 := ⟨k - 1, by omega⟩
    obtain rfl : i = l.length := by omega
    rw [laws_toStringS.l0, if_neg (nlt (Nat.le_refl _))]
    rw [List.take_of_length_le (by omega), List.take_of_length_le (Nat.le_refl _)] at ht
    rw [ht]
  | succ d ih =>
    intro k ys i h1 hk hy ht
    obtain ⟨k, rfl⟩ : ∃ m, k = m + 1 := ⟨k - 1, by omega⟩
    have hi : i < l.length := by omega
    have hiy : i < ys.length := by omega
    have hset := take_set_succ hi hy ht (List.getElem?_eq_getElem hi)
    rw [laws_toStringS.l0, if_pos (lt' hi), if_pos (nn i), rdS_at hi, if_pos (lt' hiy), up hi (by omega), Int.toNat_natCast]
    exact ih k _ (i + 1) (by omega) (by omega) (by rw [List.length_set]; exact hy) hset
theorem toS (l : List ByteArray) (hl : l.length ≤ 1048576) (k : Nat) (hk : 1048577 ≤ k) : laws_toStringS.f k l = some l := by
  unfold laws_toStringS.f
  rw [if_pos (nn _), if_pos (by omega)]
  exact toSl l hl l.length k _ 0 (by omega) (by omega) (by rw [List.length_replicate]; omega) rfl
def nnan (x : Nat) : Prop := ∀ s t, FloatKind.f32.format.read x ≠ .nan s t
theorem word_ok (s : Bool) (r : Nat) (hr : r ≤ 2139095040) : nnan (FloatKind.f32.format.word s r) ∧ FloatKind.f32.format.word s r < 4294967296 := by
  have e1 : FloatKind.f32.format.signWeight = 2147483648 := by decide +kernel
  have e2 : FloatKind.f32.format.infRung = 2139095040 := by decide +kernel
  have hw : FloatKind.f32.format.word s r % 2147483648 = r ∧ FloatKind.f32.format.word s r < 4294967296 := by
    unfold Ieee.Format.word
    rw [e1]
    cases s <;> simp <;> omega
  refine ⟨fun s2 t => ?_, hw.2⟩
  unfold Ieee.Format.read
  simp only [e1, e2, hw.1]
  split
  · exact fun h => by cases h
  · split
    · exact fun h => by cases h
    · split
      · exact fun h => by cases h
      · omega
theorem write_ok (d : Ieee.Datum) (hd : ∀ s t, d ≠ .nan s t) : nnan (FloatKind.f32.format.write d) ∧ FloatKind.f32.format.write d < 4294967296 := by
  have e2 : FloatKind.f32.format.infRung = 2139095040 := by decide +kernel
  cases d with
  | nan s t => exact absurd rfl (hd s t)
  | infinity s => exact word_ok s _ (by rw [e2]; exact Nat.le_refl _)
  | number s m e =>
    show nnan (FloatKind.f32.format.nearest s m e) ∧ FloatKind.f32.format.nearest s m e < 4294967296
    unfold Ieee.Format.nearest
    split
    · exact word_ok s 0 (by decide)
    · exact word_ok s _ (by rw [e2]; exact Nat.min_le_right _ _)
theorem mul_ok (x c m : Nat) (e : Int) (hx : nnan x) (hc : FloatKind.f32.format.read c = .number false m e) (hm : m ≠ 0) : foprOk .mul .f32 x c = true ∧ nnan (fopr .mul .f32 x c) ∧ fopr .mul .f32 x c < 4294967296 := by
  have hb : floatBits .mul .f32 x c = ((FloatKind.f32.format.read x).product (FloatKind.f32.format.read c)).map FloatKind.f32.format.write := rfl
  have key : ∀ d, (FloatKind.f32.format.read x).product (FloatKind.f32.format.read c) = some d → (∀ s t, d ≠ .nan s t) → foprOk .mul .f32 x c = true ∧ nnan (fopr .mul .f32 x c) ∧ fopr .mul .f32 x c < 4294967296 := by
    intro d hd hn
    unfold foprOk fopr
    rw [hb, hd]
    exact ⟨rfl, write_ok d hn⟩
  rw [hc] at key
  cases hr : FloatKind.f32.format.read x with
  | nan s t => exact absurd hr (hx s t)
  | infinity s => exact key (.infinity (s ^^ false)) (by rw [hr]; simp [Ieee.Datum.product, hm]) (fun s t h => by cases h)
  | number s m2 e2 => exact key (.number (s ^^ false) (m2 * m) (e2 + e)) (by rw [hr]; rfl) (fun s t h => by cases h)
theorem fin_nn (x : Nat) (h : finB x = true) : nnan x := by
  intro s t hr
  have h2 := fin_nan x h
  rw [hr] at h2
  cases h2
theorem mul125 (x : Nat) (hx : nnan x) : foprOk .mul .f32 x 1067450368 = true ∧ nnan (fopr .mul .f32 x 1067450368) ∧ fopr .mul .f32 x 1067450368 < 4294967296 :=
  mul_ok x _ 10485760 (-23) hx (by decide +kernel) (by decide)
theorem mul150 (x : Nat) (hx : nnan x) : foprOk .mul .f32 x 1069547520 = true ∧ nnan (fopr .mul .f32 x 1069547520) ∧ fopr .mul .f32 x 1069547520 < 4294967296 :=
  mul_ok x _ 12582912 (-23) hx (by decide +kernel) (by decide)
theorem fin_read (x : Nat) (h : finB x = true) : ∃ s m e, FloatKind.f32.format.read x = .number s m e := by
  cases hr : FloatKind.f32.format.read x with
  | number s m e => exact ⟨s, m, e, rfl⟩
  | nan s t => exact absurd hr (fin_nn x h s t)
  | infinity s =>
    exfalso
    have : floatBits .sub .f32 x x = none := by
      cases s <;> simp [floatBits, Ieee.Format.sub, hr, Ieee.Datum.sum, Ieee.Datum.opposite]
    unfold finB foprOk at h
    rw [this] at h
    cases h
theorem mul_fin (x c : Nat) (hx : finB x = true) (hc : finB c = true) : foprOk .mul .f32 x c = true ∧ nnan (fopr .mul .f32 x c) ∧ fopr .mul .f32 x c < 4294967296 := by
  obtain ⟨s1, m1, e1, h1⟩ := fin_read x hx
  obtain ⟨s2, m2, e2, h2⟩ := fin_read c hc
  have hb : floatBits .mul .f32 x c = ((FloatKind.f32.format.read x).product (FloatKind.f32.format.read c)).map FloatKind.f32.format.write := rfl
  have hp : (FloatKind.f32.format.read x).product (FloatKind.f32.format.read c) = some (.number (s1 ^^ s2) (m1 * m2) (e1 + e2)) := by rw [h1, h2]; rfl
  unfold foprOk fopr
  rw [hb, hp]
  exact ⟨rfl, write_ok (.number (s1 ^^ s2) (m1 * m2) (e1 + e2)) (fun s t h => Ieee.Datum.noConfusion h)⟩
section
open Ieee
abbrev F : Format := single
theorem cut_le (n drop K : Nat) (h : n ≤ K * 2 ^ drop) : Toward.even.cut false n drop ≤ K ∧ Toward.even.cut true n drop ≤ K := by
  have key : ∀ b, Toward.even.cut b n drop ≤ K := by
    intro b
    unfold Toward.cut
    simp only [Nat.shiftLeft_eq, Nat.one_mul]
    generalize hg : 2 ^ min drop (n.log2 + 2) = g
    have hgp : 0 < g := by rw [← hg]; exact Nat.pow_pos (by decide)
    have hcase : n ≤ K * g ∨ (2 * (n % g) < g ∧ n / g = 0) := by
      by_cases hd : drop ≤ n.log2 + 2
      · left; rw [← hg, Nat.min_eq_left hd]; exact h
      · right
        have hn : n < 2 ^ (n.log2 + 1) := Nat.lt_log2_self
        rw [Nat.min_eq_right (by omega), Nat.pow_succ] at hg
        have hlt : n < g := by omega
        rw [Nat.mod_eq_of_lt hlt, Nat.div_eq_of_lt hlt]
        exact ⟨by omega, rfl⟩
    rcases hcase with h1 | ⟨h1, h2⟩
    · have hdm := Nat.div_add_mod n g
      have hm := Nat.mod_lt n hgp
      by_cases hr : n % g = 0
      · rw [hr]
        have : n / g ≤ K := Nat.div_le_of_le_mul (by rw [Nat.mul_comm]; exact h1)
        have e : (decide (g < 2 * 0) || (g == 2 * 0 && n / g % 2 == 1)) = false := by
          simp; omega
        rw [e]; simpa using this
      · have : n / g < K := by
          rw [Nat.div_lt_iff_lt_mul hgp]
          rcases Nat.lt_or_ge n (K * g) with h3 | h3
          · exact h3
          · exfalso; apply hr
            have : n = K * g := by omega
            rw [this, Nat.mul_mod_left]
        have hb : ∀ b : Bool, b.toNat ≤ 1 := fun b => by cases b <;> simp
        exact Nat.le_trans (Nat.add_le_add_left (hb _) _) this
    · rw [h2]
      have e : (decide (g < 2 * (n % g)) || (g == 2 * (n % g) && 0 % 2 == 1)) = false := by
        simp; omega
      rw [e]; simp
  exact ⟨key _, key _⟩
theorem nearest_le (s : Bool) (mag : Nat) (place q : Int) (K a b : Nat) (hK : 8388608 ≤ K) (hK2 : K < 16777216) (hq : -149 ≤ q) (hv : mag * 2 ^ a ≤ K * 2 ^ b) (hp : place + b = q + a) :
    ∃ r, F.nearest s mag place = F.word s r ∧ r ≤ (q + 149).toNat * 8388608 + K := by
  have e1 : F.leastPlace = -149 := by decide
  have e2 : F.binade = 8388608 := by decide
  have e3 : (F.fractionBits : Int) = 23 := by decide
  unfold Format.nearest
  by_cases h0 : mag = 0
  · rw [if_pos h0]; exact ⟨0, rfl, Nat.zero_le _⟩
  rw [if_neg h0, e1, e2, e3]
  refine ⟨_, rfl, Nat.le_trans (Nat.min_le_left _ _) ?_⟩
  have hl1 : 2 ^ mag.log2 ≤ mag := Nat.log2_self_le h0
  have hl2 : mag < 2 ^ (mag.log2 + 1) := Nat.lt_log2_self
  generalize hL : mag.log2 = L at hl1 hl2 ⊢
  have hlt : L + a < 24 + b := by
    have h1 : 2 ^ (L + a) ≤ K * 2 ^ b := by rw [Nat.pow_add]; exact Nat.le_trans (Nat.mul_le_mul_right _ hl1) hv
    have h2 : K * 2 ^ b < 2 ^ (24 + b) := by rw [Nat.pow_add]; exact Nat.mul_lt_mul_of_pos_right (by omega) (Nat.pow_pos (by decide))
    exact (Nat.pow_lt_pow_iff_right (by decide)).1 (Nat.lt_of_le_of_lt h1 h2)
  generalize hlast : max (place + (L : Int) - 23) (-149) = last
  have hlq : last ≤ q := by omega
  have hl149 : -149 ≤ last := by omega
  have hcut : ∀ n d K, n ≤ K * 2 ^ d → Toward.even.cut s n d ≤ K := fun n d K h => by
    cases s
    · exact (cut_le n d K h).1
    · exact (cut_le n d K h).2
  by_cases hc : last < q
  · have hk : Toward.even.cut s (mag <<< (place - last).toNat) (last - place).toNat ≤ 16777216 := by
      refine hcut _ _ _ ?_
      rw [Nat.shiftLeft_eq]
      have h3 : mag * 2 ^ (place - last).toNat ≤ 2 ^ (L + 1 + (place - last).toNat) := by
        rw [Nat.pow_add]; exact Nat.mul_le_mul_right _ (Nat.le_of_lt hl2)
      have h4 : (16777216 : Nat) * 2 ^ (last - place).toNat = 2 ^ (24 + (last - place).toNat) := by rw [Nat.pow_add]
      rw [h4]
      exact Nat.le_trans h3 (Nat.pow_le_pow_right (by decide) (by omega))
    have e5 : (last - -149).toNat + 1 ≤ (q + 149).toNat := by omega
    omega
  · have hlq : last = q := by omega
    subst hlq
    have hk : Toward.even.cut s (mag <<< (place - last).toNat) (last - place).toNat ≤ K := by
      refine hcut _ _ _ ?_
      rw [Nat.shiftLeft_eq]
      have h5 : mag * 2 ^ (place - last).toNat * 2 ^ (a + b) ≤ K * 2 ^ (last - place).toNat * 2 ^ (a + b) := by
        have h6 : (place - last).toNat + (a + b) = a + ((place - last).toNat + b) := by omega
        have h7 : (last - place).toNat + (a + b) = b + ((place - last).toNat + b) := by omega
        rw [Nat.mul_assoc, ← Nat.pow_add, h6, Nat.mul_assoc, ← Nat.pow_add, h7, Nat.pow_add, ← Nat.mul_assoc, Nat.pow_add 2 b, ← Nat.mul_assoc]
        exact Nat.mul_le_mul_right _ hv
      exact Nat.le_of_mul_le_mul_right h5 (Nat.pow_pos (by decide))
    have e6 : last - -149 = last + 149 := by omega
    rw [e6]; omega
def Nd (d : Datum) (z : Int) : Prop := ∃ s m e, d = .number s m e ∧ -149 ≤ e ∧ z = signed s m (e + 149).toNat
abbrev Nu (x : Nat) (z : Int) : Prop := Nd (F.read x) z
theorem signed_abs (s : Bool) (m u : Nat) : (signed s m u).natAbs = m * 2 ^ u := by
  unfold signed; rw [Nat.shiftLeft_eq]; split <;> omega
theorem signed_f (m u : Nat) : signed false m u = ((m * 2 ^ u : Nat) : Int) := by
  unfold signed; rw [Nat.shiftLeft_eq, if_neg (by decide)]
theorem signed_t (m u : Nat) : signed true m u = -((m * 2 ^ u : Nat) : Int) := by
  unfold signed; rw [Nat.shiftLeft_eq, if_pos rfl]
theorem signed_up (s : Bool) (m u v : Nat) : signed s m (u + v) = signed s m u * (2 ^ v : Nat) := by
  unfold signed; rw [Nat.shiftLeft_eq, Nat.shiftLeft_eq, Nat.pow_add, ← Nat.mul_assoc]
  split
  · rw [Int.neg_mul, Int.natCast_mul]
  · rw [Int.natCast_mul]
theorem word_read (s : Bool) (r : Nat) (K : Nat) (q : Int) (hK : 8388608 ≤ K) (hK2 : K < 16777216) (hq : -149 ≤ q) (hq2 : q ≤ 104) (hr : r ≤ (q + 149).toNat * 8388608 + K) :
    ∃ m e, F.read (F.word s r) = .number s m e ∧ -149 ≤ e ∧ m * 2 ^ (e + 149).toNat ≤ K * 2 ^ (q + 149).toNat := by
  have e0 : F.signWeight = 2147483648 := by decide
  have e1 : F.leastPlace = -149 := by decide
  have e2 : F.binade = 8388608 := by decide
  have e3 : F.infRung = 2139095040 := by decide
  have hr2 : r < 2139095040 := by omega
  have hw : F.word s r % 2147483648 = r ∧ (F.word s r / 2147483648 % 2 == 1) = s := by
    unfold Format.word
    rw [e0]
    cases s
    · simp; omega
    · simp; omega
  unfold Format.read
  simp only [e0, e1, e2, e3, hw.1, hw.2]
  by_cases c : r < 8388608
  · rw [if_pos c]
    refine ⟨r, -149, rfl, by omega, ?_⟩
    have : (-149 + 149 : Int).toNat = 0 := rfl
    rw [this]
    have h1 : 1 ≤ 2 ^ (q + 149).toNat := Nat.pow_pos (by decide)
    have := Nat.mul_le_mul_left K h1
    omega
  · rw [if_neg c, if_pos hr2]
    refine ⟨_, _, rfl, by omega, ?_⟩
    generalize hd : r / 8388608 - 1 = d
    have e5 : (-149 + (d : Int) + 149).toNat = d := by omega
    rw [e5]
    by_cases c2 : d < (q + 149).toNat
    · have h1 : 2 ^ (d + 1) ≤ 2 ^ (q + 149).toNat := Nat.pow_le_pow_right (by decide) (by omega)
      rw [Nat.pow_succ] at h1
      have h2 : (8388608 + r % 8388608) * 2 ^ d ≤ (8388608 * 2) * 2 ^ d := Nat.mul_le_mul_right _ (by omega)
      have h3 : 8388608 * (2 ^ d * 2) ≤ K * 2 ^ (q + 149).toNat := Nat.mul_le_mul hK h1
      have h4 : (8388608 * 2) * 2 ^ d = 8388608 * (2 ^ d * 2) := by rw [Nat.mul_assoc, Nat.mul_comm 2]
      omega
    · have h1 : d = (q + 149).toNat := by omega
      rw [h1]
      exact Nat.mul_le_mul_right _ (by omega)
theorem write_bd (s : Bool) (mag : Nat) (place q : Int) (K a b : Nat) (hK : 8388608 ≤ K) (hK2 : K < 16777216) (hq : -149 ≤ q) (hq2 : q ≤ 104) (hv : mag * 2 ^ a ≤ K * 2 ^ b) (hp : place + b = q + a) :
    ∃ z, Nu (F.write (.number s mag place)) z ∧ z.natAbs ≤ K * 2 ^ (q + 149).toNat ∧ (s = false → 0 ≤ z) ∧ (s = true → z ≤ 0) := by
  obtain ⟨r, h1, h2⟩ := nearest_le s mag place q K a b hK hK2 hq hv hp
  obtain ⟨m, e, h3, h4, h5⟩ := word_read s r K q hK hK2 hq hq2 h2
  refine ⟨_, ⟨s, m, e, ?_, h4, rfl⟩, ?_, ?_, ?_⟩
  · show F.read (F.nearest s mag place) = _
    rw [h1]; exact h3
  · rw [signed_abs]; exact h5
  · rintro rfl; rw [signed_f]; omega
  · rintro rfl; rw [signed_t]; omega
theorem zero_read (s : Bool) : F.read (F.word s 0) = .number s 0 (-149) := by cases s <;> decide
theorem Nu_zero {s : Bool} {place : Int} {z : Int} (h : Nu (F.write (.number s 0 place)) z) : z = 0 := by
  obtain ⟨s2, m2, e2, k5, k6, rfl⟩ := h
  have : F.write (.number s 0 place) = F.word s 0 := rfl
  rw [this, zero_read] at k5
  injection k5 with l1 l2 l3
  subst l2
  unfold signed; simp
theorem Nu_fun {x : Nat} {z w : Int} (h1 : Nu x z) (h2 : Nu x w) : z = w := by
  obtain ⟨s, m, e, a, -, rfl⟩ := h1
  obtain ⟨s2, m2, e2, b, -, rfl⟩ := h2
  rw [a] at b
  injection b with b1 b2 b3
  subst b1 b2 b3
  rfl
theorem num_place {x : Nat} {s : Bool} {m : Nat} {e : Int} (h : F.read x = .number s m e) : -149 ≤ e ∧ m * 2 ^ (e + 149).toNat ≤ 16777215 * 2 ^ 253 := by
  have e0 : F.signWeight = 2147483648 := by decide
  have e1 : F.leastPlace = -149 := by decide
  have e2 : F.binade = 8388608 := by decide
  have e3 : F.infRung = 2139095040 := by decide
  unfold Format.read at h
  simp only [e0, e1, e2, e3] at h
  split at h
  · injection h with h1 h2 h3
    subst h2 h3
    refine ⟨by omega, ?_⟩
    have : (-149 + 149 : Int).toNat = 0 := rfl
    rw [this]
    have h1 : 1 ≤ 2 ^ 253 := Nat.pow_pos (by decide)
    omega
  · split at h
    · injection h with h1 h2 h3
      subst h2 h3
      refine ⟨by omega, ?_⟩
      refine Nat.mul_le_mul (by omega) (Nat.pow_le_pow_right (by decide) ?_)
      omega
    · split at h <;> cases h
theorem num_Nu {x : Nat} {s : Bool} {m : Nat} {e : Int} (h : F.read x = .number s m e) : ∃ z, Nu x z ∧ z.natAbs ≤ 16777215 * 2 ^ 253 :=
  ⟨_, ⟨s, m, e, h, (num_place h).1, rfl⟩, by rw [signed_abs]; exact (num_place h).2⟩
theorem Nu_order {x y : Nat} {z w : Int} (h1 : Nu x z) (h2 : Nu y w) : F.order x y = some (compare z w) := by
  obtain ⟨s, m, i, a, hi, rfl⟩ := h1
  obtain ⟨t, n, j, b, hj, rfl⟩ := h2
  unfold Format.order
  rw [a, b]
  show some (compare (signed s m (i - min i j).toNat) (signed t n (j - min i j).toNat)) = _
  generalize hb : min i j = base
  have h3 : (i + 149).toNat = (i - base).toNat + (base + 149).toNat := by omega
  have h4 : (j + 149).toNat = (j - base).toNat + (base + 149).toNat := by omega
  rw [h3, h4, signed_up, signed_up]
  have hp : (0 : Int) < ((2 ^ (base + 149).toNat : Nat) : Int) := by exact_mod_cast Nat.pow_pos (by decide)
  generalize ((2 ^ (base + 149).toNat : Nat) : Int) = p at hp ⊢
  generalize signed s m (i - base).toNat = u
  generalize signed t n (j - base).toNat = v
  congr 1
  simp only [compare, compareOfLessAndEq]
  by_cases c : u < v
  · rw [if_pos c, if_pos (Int.mul_lt_mul_of_pos_right c hp)]
  · by_cases c2 : u = v
    · subst c2; rw [if_neg c, if_pos rfl, if_neg (by omega), if_pos rfl]
    · have : v < u := by omega
      have := Int.mul_lt_mul_of_pos_right this hp
      rw [if_neg c, if_neg c2, if_neg (by omega), if_neg (by omega)]
theorem Nd_opp {d : Datum} {z : Int} (h : Nd d z) : Nd d.opposite (-z) := by
  obtain ⟨s, m, e, rfl, h1, rfl⟩ := h
  refine ⟨!s, m, e, rfl, h1, ?_⟩
  cases s
  · rw [signed_f]; exact (signed_t _ _).symm
  · rw [signed_t]; rw [Int.neg_neg]; exact (signed_f _ _).symm
theorem Nd_sum {x y : Datum} {z w : Int} (h1 : Nd x z) (h2 : Nd y w) (K : Nat) (q : Int) (hK : 8388608 ≤ K) (hK2 : K < 16777216) (hq : -149 ≤ q) (hq2 : q ≤ 104) (hv : (z + w).natAbs ≤ K * 2 ^ (q + 149).toNat) :
    ∃ d, x.sum y = some d ∧ ∃ v, Nu (F.write d) v ∧ v.natAbs ≤ K * 2 ^ (q + 149).toNat ∧ (0 ≤ z + w → 0 ≤ v) ∧ (z + w ≤ 0 → v ≤ 0) := by
  obtain ⟨s, m, i, rfl, hi, rfl⟩ := h1
  obtain ⟨t, n, j, rfl, hj, rfl⟩ := h2
  refine ⟨_, rfl, ?_⟩
  generalize hb : min i j = base
  have h3 : (i + 149).toNat = (i - base).toNat + (base + 149).toNat := by omega
  have h4 : (j + 149).toNat = (j - base).toNat + (base + 149).toNat := by omega
  rw [h3, h4, signed_up, signed_up, ← Int.add_mul] at hv ⊢
  generalize signed s m (i - base).toNat + signed t n (j - base).toNat = T at hv ⊢
  have hp : (0 : Int) < ((2 ^ (base + 149).toNat : Nat) : Int) := by exact_mod_cast Nat.pow_pos (by decide)
  rw [Int.natAbs_mul, Int.natAbs_natCast] at hv
  obtain ⟨v, k1, k2, k3, k4⟩ := write_bd (if T = 0 then s && t else decide (T < 0)) T.natAbs base q K (base + 149).toNat (q + 149).toNat hK hK2 hq hq2 hv (by omega)
  generalize ((2 ^ (base + 149).toNat : Nat) : Int) = p at hp ⊢
  refine ⟨v, k1, k2, fun hz => ?_, fun hz => ?_⟩
  · by_cases c : T = 0
    · cases hst : (if T = 0 then s && t else decide (T < 0)) with
      | false => exact k3 hst
      | true =>
        obtain ⟨s2, m2, e2, k5, k6, rfl⟩ := k1
        subst c
        have : F.write (.number (if (0 : Int) = 0 then s && t else decide ((0 : Int) < 0)) (0 : Int).natAbs base) = F.word (s && t) 0 := rfl
        rw [this] at k5
        obtain ⟨m3, e3, k7, k8, k9⟩ := word_read (s && t) 0 8388608 (-149) (by decide) (by decide) (by decide) (by decide) (by decide)
        have k10 : F.read (F.word (s && t) 0) = .number (s && t) 0 (-149) := by cases (s && t) <;> decide
        rw [k10] at k5
        injection k5 with l1 l2 l3
        subst l2
        unfold signed; simp
    · refine k3 ?_
      rw [if_neg c]
      refine decide_eq_false (fun h => ?_)
      have := Int.mul_neg_of_neg_of_pos h hp
      omega
  · by_cases c : T = 0
    · obtain ⟨s2, m2, e2, k5, k6, rfl⟩ := k1
      subst c
      have : F.write (.number (if (0 : Int) = 0 then s && t else decide ((0 : Int) < 0)) (0 : Int).natAbs base) = F.word (s && t) 0 := rfl
      rw [this] at k5
      have k10 : F.read (F.word (s && t) 0) = .number (s && t) 0 (-149) := by cases (s && t) <;> decide
      rw [k10] at k5
      injection k5 with l1 l2 l3
      subst l2
      unfold signed; simp
    · refine k4 ?_
      rw [if_neg c]
      refine decide_eq_true (Int.not_le.1 (fun h => ?_))
      have h9 : 0 < T := by omega
      have := Int.mul_pos h9 hp
      omega
theorem Nd_prod {x y : Datum} {z w : Int} (h1 : Nd x z) (h2 : Nd y w) (K : Nat) (q : Int) (hK : 8388608 ≤ K) (hK2 : K < 16777216) (hq : -149 ≤ q) (hq2 : q ≤ 104) (hv : z.natAbs * w.natAbs ≤ K * 2 ^ ((q + 149).toNat + 149)) :
    ∃ d, x.product y = some d ∧ ∃ v, Nu (F.write d) v ∧ v.natAbs ≤ K * 2 ^ (q + 149).toNat ∧ (0 ≤ z → 0 ≤ w → 0 ≤ v) := by
  obtain ⟨s, m, i, rfl, hi, rfl⟩ := h1
  obtain ⟨t, n, j, rfl, hj, rfl⟩ := h2
  refine ⟨_, rfl, ?_⟩
  rw [signed_abs, signed_abs] at hv
  obtain ⟨v, k1, k2, k3, k4⟩ := write_bd (s ^^ t) (m * n) (i + j) q K ((i + 149).toNat + (j + 149).toNat) ((q + 149).toNat + 149) hK hK2 hq hq2 (by rw [Nat.pow_add]; rw [show m * n * (2 ^ (i + 149).toNat * 2 ^ (j + 149).toNat) = m * 2 ^ (i + 149).toNat * (n * 2 ^ (j + 149).toNat) from Nat.mul_mul_mul_comm ..]; exact hv) (by omega)
  refine ⟨v, k1, k2, fun hz hw => ?_⟩
  by_cases c : m * n = 0
  · rw [c] at k1
    rw [Nu_zero k1]; exact Int.le_refl 0
  · have hpos : ∀ u : Nat, 0 < 2 ^ u := fun u => Nat.pow_pos (by decide)
    have h5 : s = false := by
      cases s with
      | false => rfl
      | true =>
        exfalso
        rw [signed_t] at hz
        have h0 : m * 2 ^ (i + 149).toNat = 0 := by omega
        rcases Nat.mul_eq_zero.1 h0 with h | h
        · rw [h, Nat.zero_mul] at c; exact c rfl
        · exact absurd h (Nat.ne_of_gt (hpos _))
    have h6 : t = false := by
      cases t with
      | false => rfl
      | true =>
        exfalso
        rw [signed_t] at hw
        have h0 : n * 2 ^ (j + 149).toNat = 0 := by omega
        rcases Nat.mul_eq_zero.1 h0 with h | h
        · rw [h, Nat.mul_zero] at c; exact c rfl
        · exact absurd h (Nat.ne_of_gt (hpos _))
    exact k3 (by rw [h5, h6]; rfl)
end
theorem num_fin {x : Nat} {s : Bool} {m : Nat} {e : Int} (h : FloatKind.f32.format.read x = .number s m e) : finB x = true := by
  have h1 : floatBits .sub .f32 x x = some 0 := by
    show ((FloatKind.f32.format.read x).sum (FloatKind.f32.format.read x).opposite).map FloatKind.f32.format.write = _
    rw [h]
    have ht : Ieee.signed s m (e - min e e).toNat + Ieee.signed (!s) m (e - min e e).toNat = 0 := by
      unfold Ieee.signed
      cases s <;> simp <;> omega
    simp only [Ieee.Datum.opposite, Ieee.Datum.sum, ht, if_true]
    cases s <;> rfl
  unfold finB foprOk fopr
  rw [h1]
  have h0 : feq .f32 0 0 = true := by decide +kernel
  exact h0
theorem rd_F : FloatKind.f32.format = F := rfl
theorem foOk {op : BinOp} {x y : Nat} {d : Ieee.Datum} {o : Option Ieee.Datum} (hb : floatBits op .f32 x y = o.map F.write) (ho : o = some d) : foprOk op .f32 x y = true ∧ fopr op .f32 x y = F.write d := by
  unfold foprOk fopr
  rw [hb, ho]
  exact ⟨rfl, rfl⟩
theorem fin_Nu {x : Nat} (h : finB x = true) : ∃ z, Nu x z ∧ z.natAbs ≤ 16777215 * 2 ^ 253 := by
  obtain ⟨s, m, e, h1⟩ := fin_read x h
  exact num_Nu h1
theorem Nu_fin {x : Nat} {z : Int} (h : Nu x z) : finB x = true := by
  obtain ⟨s, m, e, h1, -, -⟩ := h
  exact num_fin h1
theorem Nu_max {x : Nat} {z : Int} (h : Nu x z) : z.natAbs ≤ 16777215 * 2 ^ 253 := by
  obtain ⟨w, h1, h2⟩ := fin_Nu (Nu_fin h)
  rw [Nu_fun h h1]; exact h2
theorem top_bd : 16777215 * 2 ^ (104 + 149 : Int).toNat = 16777215 * 2 ^ 253 := rfl
theorem add_Nu {x y : Nat} {z w : Int} (h1 : Nu x z) (h2 : Nu y w) (K : Nat) (q : Int) (hK : 8388608 ≤ K) (hK2 : K < 16777216) (hq : -149 ≤ q) (hq2 : q ≤ 104) (hv : (z + w).natAbs ≤ K * 2 ^ (q + 149).toNat) :
    foprOk .add .f32 x y = true ∧ ∃ v, Nu (fopr .add .f32 x y) v ∧ v.natAbs ≤ K * 2 ^ (q + 149).toNat ∧ (0 ≤ z + w → 0 ≤ v) ∧ (z + w ≤ 0 → v ≤ 0) := by
  obtain ⟨d, hd, h⟩ := Nd_sum h1 h2 K q hK hK2 hq hq2 hv
  have k := foOk (op := .add) (x := x) (y := y) rfl hd
  rw [k.2]; exact ⟨k.1, h⟩
theorem sub_Nu {x y : Nat} {z w : Int} (h1 : Nu x z) (h2 : Nu y w) (K : Nat) (q : Int) (hK : 8388608 ≤ K) (hK2 : K < 16777216) (hq : -149 ≤ q) (hq2 : q ≤ 104) (hv : (z - w).natAbs ≤ K * 2 ^ (q + 149).toNat) :
    foprOk .sub .f32 x y = true ∧ ∃ v, Nu (fopr .sub .f32 x y) v ∧ v.natAbs ≤ K * 2 ^ (q + 149).toNat ∧ (0 ≤ z - w → 0 ≤ v) ∧ (z - w ≤ 0 → v ≤ 0) := by
  obtain ⟨d, hd, h⟩ := Nd_sum h1 (Nd_opp h2) K q hK hK2 hq hq2 hv
  have k := foOk (op := .sub) (x := x) (y := y) rfl hd
  rw [k.2]; exact ⟨k.1, h⟩
theorem mul_Nu {x y : Nat} {z w : Int} (h1 : Nu x z) (h2 : Nu y w) (K : Nat) (q : Int) (hK : 8388608 ≤ K) (hK2 : K < 16777216) (hq : -149 ≤ q) (hq2 : q ≤ 104) (hv : z.natAbs * w.natAbs ≤ K * 2 ^ ((q + 149).toNat + 149)) :
    foprOk .mul .f32 x y = true ∧ ∃ v, Nu (fopr .mul .f32 x y) v ∧ v.natAbs ≤ K * 2 ^ (q + 149).toNat ∧ (0 ≤ z → 0 ≤ w → 0 ≤ v) := by
  obtain ⟨d, hd, h⟩ := Nd_prod h1 h2 K q hK hK2 hq hq2 hv
  have k := foOk (op := .mul) (x := x) (y := y) rfl hd
  rw [k.2]; exact ⟨k.1, h⟩
theorem opd {op : BinOp} {x y : Nat} {d : Ieee.Datum} {o : Option Ieee.Datum} (hb : floatBits op .f32 x y = o.map F.write) (ho : o = some d) (hd : ∀ s t, d ≠ .nan s t) : foprOk op .f32 x y = true ∧ nnan (fopr op .f32 x y) ∧ fopr op .f32 x y < 4294967296 := by
  have k := foOk hb ho
  rw [k.2]
  exact ⟨k.1, write_ok d hd⟩
theorem sub_fin (t l : Nat) (ht : nnan t) (hl : finB l = true) : foprOk .sub .f32 t l = true ∧ nnan (fopr .sub .f32 t l) ∧ fopr .sub .f32 t l < 4294967296 := by
  obtain ⟨s2, m2, e2, h2⟩ := fin_read l hl
  have hb : floatBits .sub .f32 t l = ((F.read t).sum (F.read l).opposite).map F.write := rfl
  have h2' : F.read l = .number s2 m2 e2 := h2
  rw [h2'] at hb
  cases hr : F.read t with
  | nan s u => exact absurd hr (ht s u)
  | infinity s => rw [hr] at hb; exact opd (d := .infinity s) hb rfl (fun _ _ h => by cases h)
  | number s m e => rw [hr] at hb; exact opd hb rfl (fun _ _ h => by cases h)
theorem add_fin (t l : Nat) (ht : finB t = true) (hl : nnan l) : foprOk .add .f32 t l = true ∧ nnan (fopr .add .f32 t l) ∧ fopr .add .f32 t l < 4294967296 := by
  obtain ⟨s2, m2, e2, h2⟩ := fin_read t ht
  have hb : floatBits .add .f32 t l = ((F.read t).sum (F.read l)).map F.write := rfl
  have h2' : F.read t = .number s2 m2 e2 := h2
  rw [h2'] at hb
  cases hr : F.read l with
  | nan s u => exact absurd hr (hl s u)
  | infinity s => rw [hr] at hb; exact opd (d := .infinity s) hb rfl (fun _ _ h => by cases h)
  | number s m e => rw [hr] at hb; exact opd hb rfl (fun _ _ h => by cases h)
theorem lt_num {t r : Nat} (h : fls .f32 t r = true) (hr : finB r = true) : F.read t = .infinity true ∨ ∃ z w, Nu t z ∧ Nu r w ∧ z < w := by
  obtain ⟨w, hw, -⟩ := fin_Nu hr
  cases ht : F.read t with
  | nan s u =>
    unfold fls Ieee.Format.order at h
    have : FloatKind.f32.format.read t = .nan s u := ht
    rw [this] at h
    cases h
  | infinity s =>
    cases s with
    | true => exact .inl rfl
    | false =>
      obtain ⟨s2, m2, e2, h2, -, -⟩ := hw
      unfold fls Ieee.Format.order at h
      have : FloatKind.f32.format.read t = .infinity false := ht
      have h2' : FloatKind.f32.format.read r = .number s2 m2 e2 := h2
      rw [this, h2'] at h
      cases h
  | number s m e =>
    obtain ⟨z, hz, -⟩ := num_Nu ht
    refine .inr ⟨z, w, hz, hw, ?_⟩
    have ho := Nu_order hz hw
    unfold fls at h
    have ho' : FloatKind.f32.format.order t r = some (compare z w) := ho
    rw [ho'] at h
    have hc : compare z w = .lt := by simpa using h
    refine Int.not_le.1 (fun hle => ?_)
    simp only [compare, compareOfLessAndEq] at hc
    rw [if_neg (by omega)] at hc
    split at hc <;> cases hc
theorem div_lt (t r : Nat) (h : fls .f32 t r = true) (hr : finB r = true) : foprOk .quo .f32 t r = true ∧ nnan (fopr .quo .f32 t r) ∧ fopr .quo .f32 t r < 4294967296 := by
  have hb : floatBits .quo .f32 t r = ((F.read t).quotient 25 (F.read r)).map F.write := rfl
  rcases lt_num h hr with h1 | ⟨z, w, ⟨s, m, i, h1, -, rfl⟩, ⟨s2, n, j, h2, -, rfl⟩, hlt⟩
  · obtain ⟨s2, m2, e2, h2⟩ := fin_read r hr
    have h2' : F.read r = .number s2 m2 e2 := h2
    rw [h1, h2'] at hb
    exact opd (d := .infinity (true ^^ s2)) hb rfl (fun _ _ h => by cases h)
  · rw [h1, h2] at hb
    by_cases hn : n = 0
    · subst hn
      by_cases hm : m = 0
      · subst hm
        exfalso
        unfold Ieee.signed at hlt
        simp at hlt
      · exact opd (d := .infinity (s ^^ s2)) hb (by simp [Ieee.Datum.quotient, hm]) (fun _ _ h => by cases h)
    · refine opd hb (by simp only [Ieee.Datum.quotient, if_neg hn]; rfl) (fun _ _ h => by cases h)
theorem ls_Nu {x y : Nat} {z w : Int} (h1 : Nu x z) (h2 : Nu y w) : fls .f32 x y = decide (z < w) ∧ fgr .f32 x y = decide (w < z) ∧ fge .f32 x y = decide (w ≤ z) ∧ fle .f32 x y = decide (z ≤ w) := by
  have ho' : FloatKind.f32.format.order x y = some (compare z w) := Nu_order h1 h2
  unfold fls fgr fge fle
  rw [ho']
  rcases Int.lt_trichotomy z w with h | h | h
  · have hc : compare z w = .lt := by simp [compare, compareOfLessAndEq, h]
    rw [hc, decide_eq_true h, decide_eq_false (show ¬ w < z by omega), decide_eq_false (show ¬ w ≤ z by omega), decide_eq_true (show z ≤ w by omega)]
    decide
  · subst h
    have hc : compare z z = .eq := by simp [compare, compareOfLessAndEq]
    rw [hc, decide_eq_false (show ¬ z < z by omega), decide_eq_true (show z ≤ z by omega)]
    decide
  · have hc : compare z w = .gt := by
      simp only [compare, compareOfLessAndEq]
      rw [if_neg (by omega), if_neg (by omega)]
    rw [hc, decide_eq_false (show ¬ z < w by omega), decide_eq_true h, decide_eq_true (show w ≤ z by omega), decide_eq_false (show ¬ z ≤ w by omega)]
    decide
theorem c0_Nu : Nu 0 0 := ⟨false, 0, -149, by decide +kernel, by decide, rfl⟩
theorem c1_Nu : Nu 1065353216 (2 ^ 149) := ⟨false, 8388608, -23, by decide +kernel, by decide, by decide +kernel⟩
theorem c2_Nu : Nu 1073741824 (2 ^ 150) := ⟨false, 8388608, -22, by decide +kernel, by decide, by decide +kernel⟩
theorem c3_Nu : Nu 1077936128 (3 * 2 ^ 149) := ⟨false, 12582912, -22, by decide +kernel, by decide, by decide +kernel⟩
theorem mid_Nu {x a b : Nat} {za zb : Int} (hn : nnan x) (ha : Nu a za) (hb : Nu b zb) (h0 : fls .f32 x a = false) (h1 : fgr .f32 x b = false) : ∃ z, Nu x z ∧ za ≤ z ∧ z ≤ zb := by
  cases hr : F.read x with
  | nan s t => exact absurd hr (hn s t)
  | infinity s =>
    exfalso
    have hr' : FloatKind.f32.format.read x = .infinity s := hr
    cases s with
    | true =>
      obtain ⟨s2, m2, e2, h2, -, -⟩ := ha
      have h2' : FloatKind.f32.format.read a = .number s2 m2 e2 := h2
      unfold fls Ieee.Format.order at h0
      rw [hr', h2'] at h0
      cases h0
    | false =>
      obtain ⟨s2, m2, e2, h2, -, -⟩ := hb
      have h2' : FloatKind.f32.format.read b = .number s2 m2 e2 := h2
      unfold fgr Ieee.Format.order at h1
      rw [hr', h2'] at h1
      cases h1
  | number s m e =>
    obtain ⟨z, hz, -⟩ := num_Nu hr
    rw [(ls_Nu hz ha).1] at h0
    rw [(ls_Nu hz hb).2.1] at h1
    have h0' := of_decide_eq_false h0
    have h1' := of_decide_eq_false h1
    exact ⟨z, hz, by omega, by omega⟩
theorem pow_le4 (a b c d : Nat) (h : a + b ≤ c + d) : 2 ^ a * 2 ^ b ≤ 2 ^ c * 2 ^ d := by
  rw [← Nat.pow_add, ← Nat.pow_add]
  exact Nat.pow_le_pow_right (by decide) h
theorem ramp_fin {x : Nat} (hn : nnan x) (h0 : fls .f32 x 0 = false) (h1 : fgr .f32 x 1065353216 = false) :
    foprOk .mul .f32 x x = true ∧ foprOk .mul .f32 1073741824 x = true ∧ foprOk .sub .f32 1077936128 (fopr .mul .f32 1073741824 x) = true ∧ foprOk .mul .f32 (fopr .mul .f32 x x) (fopr .sub .f32 1077936128 (fopr .mul .f32 1073741824 x)) = true ∧ finB (fopr .mul .f32 (fopr .mul .f32 x x) (fopr .sub .f32 1077936128 (fopr .mul .f32 1073741824 x))) = true := by
  obtain ⟨z, hz, hz0, hz1⟩ := mid_Nu hn c0_Nu c1_Nu h0 h1
  have hza : z.natAbs ≤ 2 ^ 149 := by omega
  obtain ⟨k1, v1, n1, b1, p1⟩ := mul_Nu hz hz 8388608 (-23) (by decide) (by decide) (by decide) (by decide) (by
    refine Nat.le_trans (Nat.mul_le_mul hza hza) ?_
    exact Nat.le_trans (pow_le4 149 149 23 ((-23 + 149 : Int).toNat + 149) (by decide)) (Nat.mul_le_mul_right _ (by decide)))
  obtain ⟨k2, v2, n2, b2, p2⟩ := mul_Nu c2_Nu hz 8388608 (-22) (by decide) (by decide) (by decide) (by decide) (by
    refine Nat.le_trans (Nat.mul_le_mul_left _ hza) ?_
    exact Nat.le_trans (Nat.mul_le_mul_right _ (show ((2 : Int) ^ 150).natAbs ≤ 2 ^ 150 from by decide)) (Nat.le_trans (pow_le4 150 149 23 ((-22 + 149 : Int).toNat + 149) (by decide)) (Nat.mul_le_mul_right _ (by decide))))
  have hv2 := p2 (by decide) hz0
  have b2' : v2.natAbs ≤ 2 ^ 150 := b2
  have b1' : v1.natAbs ≤ 2 ^ 149 := b1
  obtain ⟨k3, v3, n3, b3, p3⟩ := sub_Nu c3_Nu n2 8388608 (-21) (by decide) (by decide) (by decide) (by decide) (by
    have : 8388608 * 2 ^ (-21 + 149 : Int).toNat = 2 ^ 151 := by decide
    rw [this]; omega)
  have b3' : v3.natAbs ≤ 2 ^ 151 := b3
  obtain ⟨k4, v4, n4, b4, p4⟩ := mul_Nu n1 n3 8388608 (-21) (by decide) (by decide) (by decide) (by decide) (by
    refine Nat.le_trans (Nat.mul_le_mul b1' b3') ?_
    exact Nat.le_trans (pow_le4 149 151 23 ((-21 + 149 : Int).toNat + 149) (by decide)) (Nat.mul_le_mul_right _ (by decide)))
  exact ⟨k1, k2, k3, k4, Nu_fin n4⟩
theorem sub_nn {x y : Nat} {z w : Int} (h1 : Nu x z) (h2 : Nu y w) (hz : 0 ≤ z) (hw : 0 ≤ w) : foprOk .sub .f32 x y = true ∧ finB (fopr .sub .f32 x y) = true := by
  have b1 := Nu_max h1
  have b2 := Nu_max h2
  obtain ⟨k1, v1, n1, -, -⟩ := sub_Nu h1 h2 16777215 104 (by decide) (by decide) (by decide) (by decide) (by
    rw [top_bd]; omega)
  exact ⟨k1, Nu_fin n1⟩
theorem fin_nn0 {x : Nat} (h : finB x = true) (hg : fge .f32 x 0 = true) : ∃ z, Nu x z ∧ 0 ≤ z := by
  obtain ⟨z, hz, -⟩ := fin_Nu h
  rw [(ls_Nu hz c0_Nu).2.2.1] at hg
  exact ⟨z, hz, of_decide_eq_true hg⟩
theorem mix_some {x y sh : Nat} (hx : finB x = true) (hx0 : fge .f32 x 0 = true) (hy : finB y = true) (hy0 : fge .f32 y 0 = true) (hs : finB sh = true) :
    foprOk .sub .f32 y x = true ∧ foprOk .mul .f32 sh (fopr .sub .f32 y x) = true ∧ foprOk .add .f32 x (fopr .mul .f32 sh (fopr .sub .f32 y x)) = true ∧ fopr .add .f32 x (fopr .mul .f32 sh (fopr .sub .f32 y x)) < 4294967296 := by
  obtain ⟨z, hz, hz0⟩ := fin_nn0 hx hx0
  obtain ⟨w, hw, hw0⟩ := fin_nn0 hy hy0
  obtain ⟨k1, k2⟩ := sub_nn hw hz hw0 hz0
  obtain ⟨k3, k4, k5⟩ := mul_fin sh _ hs k2
  obtain ⟨k6, k7, k8⟩ := add_fin x _ hx k4
  exact ⟨k1, k3, k6, k8⟩
def fnd (L : List IS) (s : ByteArray) : Nat → Nat → Int
  | 0, _ => -1
  | d + 1, i => if (rd_T49 L (i : Int)).f0.toList = s.toList then (i : Int) else fnd L s d (i + 1)
theorem fnd_in (L : List IS) (s : ByteArray) : ∀ d i, fnd L s d i = -1 ∨ ∃ j : Nat, fnd L s d i = (j : Int) ∧ j < i + d
  | 0, i => .inl rfl
  | d + 1, i => by
    unfold fnd
    split
    · exact .inr ⟨i, rfl, by omega⟩
    · rcases fnd_in L s d (i + 1) with h | ⟨j, h, hj⟩
      · exact .inl h
      · exact .inr ⟨j, h, by omega⟩
theorem find_spec (L : List IS) (hl : L.length ≤ 1048576) (s : ByteArray) : ∀ (d i k : Nat), i + d = L.length → d < k → spec_l06Find.l0 k L s (i : Int) = some (fnd L s d i)
  | _, _, 0, _, h => by omega
  | 0, i, k + 1, h1, h2 => by
    rw [spec_l06Find.l0, if_neg (by omega)]; rfl
  | d + 1, i, k + 1, h1, h2 => by
    have e : ((i : Int) + 1) = ((i + 1 : Nat) : Int) := by omega
    rw [spec_l06Find.l0, if_pos (by omega), if_pos (by omega), fnd]
    split
    · rfl
    · rw [w64 (by omega) (by omega), e]; exact find_spec L hl s d (i + 1) k (by omega) (by omega)
theorem fs1 (x : IS) (s : ByteArray) : impl_findSound_1.f x.f0 x.f1 x.f2 x.f3 x.f4 x.f5 [(⟨s⟩ : S9)] = some (x.f0.toList == s.toList) := rfl
theorem find_impl (L : List IS) (hl : L.length ≤ 1048576) (s : ByteArray) : ∀ (d i k : Nat), i + d = L.length → d < k → slices_IndexFunc_v_impl_findSound_1.l0 k L (L.length : Int) (i : Int) [(⟨s⟩ : S9)] = some (fnd L s d i)
  | _, _, 0, _, h => by omega
  | 0, i, k + 1, h1, h2 => by
    rw [slices_IndexFunc_v_impl_findSound_1.l0, if_neg (by omega)]; rfl
  | d + 1, i, k + 1, h1, h2 => by
    have e : ((i : Int) + 1) = ((i + 1 : Nat) : Int) := by omega
    rw [slices_IndexFunc_v_impl_findSound_1.l0, if_pos (by omega), if_pos (by omega), if_pos (by omega), fs1, Option.bind_some, fnd]
    by_cases c : (rd_T49 L (i : Int)).f0.toList = s.toList
    · rw [if_pos (by rw [c]; exact beq_self_eq_true _), if_pos c]
    · rw [if_neg (by rw [beq_iff_eq]; exact c), if_neg c, w64 (by omega) (by omega), e]; exact find_impl L hl s d (i + 1) k (by omega) (by omega)
def fd (L : List IS) (s : ByteArray) : Int := fnd L s L.length 0
theorem fd_spec (L : List IS) (hl : L.length ≤ 1048576) (s : ByteArray) (k : Nat) (hk : 1048577 ≤ k) : spec_l06Find.f k L s = some (fd L s) := find_spec L hl s L.length 0 k (by omega) (by omega)
theorem fd_impl (L : List IS) (hl : L.length ≤ 1048576) (s : ByteArray) (k : Nat) (hk : 1048577 ≤ k) : impl_findSound.f k L s = some (fd L s) := by
  unfold impl_findSound.f slices_IndexFunc_v_impl_findSound_1.f
  have h := find_impl L hl s L.length 0 k (by omega) (by omega)
  rw [show ((0 : Nat) : Int) = 0 from rfl] at h
  rw [h]; rfl
theorem fd_in (L : List IS) (s : ByteArray) : fd L s = -1 ∨ ∃ j : Nat, fd L s = (j : Int) ∧ j < L.length := by
  rcases fnd_in L s L.length 0 with h | ⟨j, h, hj⟩
  · exact .inl h
  · exact .inr ⟨j, h, by omega⟩
def hit (L : List IS) (s : ByteArray) : Bool := !decide (fd L s < 0)
theorem names_spec (L : List IS) (hl : L.length ≤ 1048576) (ns : List ByteArray) (hn : ns.length ≤ 24) (b : Bool) (hb : ∀ k, 2100000 ≤ k → spec_l06Are.f k L = some b) : ∀ (d i k : Nat), i + d = ns.length → 2 * d + 2100010 < k → spec_l06Names.l0 k L ns (i : Int) = some ((ns.drop i).all (hit L) && (b && decide (1 ≤ ns.length)))
  | _, _, 0, _, h => by omega
  | _, _, 1, _, h => by omega
  | 0, i, k + 2, h1, h2 => by
    obtain rfl : i = ns.length := by omega
    rw [spec_l06Names.l0, if_neg (by omega), spec_l06Names.j1, if_neg (by decide), hb k (by omega), Option.bind_some, List.drop_length]
    cases b with
    | false => rfl
    | true =>
      rw [if_pos rfl]
      by_cases c : 1 ≤ ns.length
      · rw [if_pos (by omega), decide_eq_true c, decide_eq_true (by omega)]; rfl
      · rw [if_neg (by omega), decide_eq_false c]; rfl
  | d + 1, i, k + 2, h1, h2 => by
    have hi : i < ns.length := by omega
    have e : ((i : Int) + 1) = ((i + 1 : Nat) : Int) := by omega
    rw [spec_l06Names.l0, if_pos (by omega), decide_eq_true (by omega), spec_l06Names.j1, if_pos rfl, if_pos (by omega), if_pos (by omega), rdS_at hi, fd_spec L hl _ k (by omega), Option.bind_some, List.drop_eq_getElem_cons hi, List.all_cons]
    unfold hit
    by_cases c : fd L ns[i] < 0
    · rw [if_pos c, decide_eq_true c]; rfl
    · rw [if_neg c, decide_eq_false c, w64 (by omega) (by omega), e, names_spec L hl ns hn b hb d (i + 1) k (by omega) (by omega)]; rfl
theorem an1 (k : Nat) (s : ByteArray) (L : List IS) : impl_areNames_1.f k s [(⟨L⟩ : S32)] = (impl_findSound.f k L s).bind fun t => some (decide (t < 0)) := rfl
theorem names_impl (L : List IS) (hl : L.length ≤ 1048576) (ns : List ByteArray) (hn : ns.length ≤ 1048576) : ∀ (d i k : Nat), i + d = ns.length → d + 1048580 < k → ∃ r : Int, slices_IndexFunc_v_impl_areNames_1.l0 k ns (ns.length : Int) (i : Int) [(⟨L⟩ : S32)] = some r ∧ decide (r ≥ 0) = !((ns.drop i).all (hit L))
  | _, _, 0, _, h => by omega
  | 0, i, k + 1, h1, h2 => by
    obtain rfl : i = ns.length := by omega
    rw [slices_IndexFunc_v_impl_areNames_1.l0, if_neg (by omega), List.drop_length]
    exact ⟨_, rfl, rfl⟩
  | d + 1, i, k + 1, h1, h2 => by
    have hi : i < ns.length := by omega
    have e : ((i : Int) + 1) = ((i + 1 : Nat) : Int) := by omega
    rw [slices_IndexFunc_v_impl_areNames_1.l0, if_pos (by omega), if_pos (by omega), if_pos (by omega), rdS_at hi, an1, fd_impl L hl _ k (by omega), Option.bind_some, Option.bind_some, List.drop_eq_getElem_cons hi, List.all_cons]
    unfold hit
    by_cases c : fd L ns[i] < 0
    · rw [decide_eq_true c, if_pos rfl]
      exact ⟨_, rfl, by rw [decide_eq_true (by omega)]; rfl⟩
    · rw [decide_eq_false c, if_neg (by decide), w64 (by omega) (by omega), e]
      obtain ⟨r, h3, h4⟩ := names_impl L hl ns hn d (i + 1) k (by omega) (by omega)
      exact ⟨r, h3, h4⟩
theorem names_both (L : List IS) (hl : L.length ≤ 1048576) (hx : ∀ x ∈ L, okI x) (ns : List ByteArray) (hn : ns.length ≤ 1048576) : ∃ b : Bool, (∀ k, 4000000 ≤ k → spec_l06Names.f k L ns = some b ∧ impl_areNames.f k L ns = some b) ∧ (b = true → (1 ≤ ns.length ∧ ns.length ≤ 24) ∧ ns.all (hit L) = true ∧ impl_AreSounds.f 2100000 L = some true) := by
  obtain ⟨b, hb1, hb2⟩ := are_both L hl hx 2100000 (by omega)
  have hs : ∀ k, 2100000 ≤ k → spec_l06Are.f k L = some b := fun k hk => at_rounds (g := fun k => spec_l06Are.f k L) (spec_l06Are.mono L) hk hb1
  have hi : ∀ k, 2100000 ≤ k → impl_AreSounds.f k L = some b := fun k hk => at_rounds (g := fun k => impl_AreSounds.f k L) (impl_AreSounds.mono L) hk hb2
  by_cases c : ns.length ≤ 24
  · refine ⟨ns.all (hit L) && (b && decide (1 ≤ ns.length)), fun k hk => ⟨?_, ?_⟩, fun h => ?_⟩
    · have h := names_spec L hl ns c b hs ns.length 0 k (by omega) (by omega)
      rw [List.drop_zero] at h
      exact h
    · obtain ⟨r, h3, h4⟩ := names_impl L hl ns hn ns.length 0 k (by omega) (by omega)
      rw [List.drop_zero] at h4
      unfold impl_areNames.f impl_within.f slices_ContainsFunc_v_impl_areNames_1.f slices_IndexFunc_v_impl_areNames_1.f
      rw [show ((0 : Nat) : Int) = 0 from rfl] at h3
      rw [hi k (by omega), Option.bind_some, h3, Option.bind_some, h4]
      cases b with
      | false => simp
      | true =>
        rw [if_pos rfl]
        by_cases c1 : 1 ≤ ns.length
        · rw [if_pos (by omega), Option.bind_some, decide_eq_true (by omega), if_pos rfl, decide_eq_true c1]
          cases ns.all (hit L) <;> rfl
        · rw [if_neg (by omega), decide_eq_false c1]
          simp
    · rw [Bool.and_eq_true, Bool.and_eq_true] at h
      obtain ⟨h5, h6, h7⟩ := h
      subst h6
      exact ⟨⟨of_decide_eq_true h7, c⟩, h5, hb2⟩
  · refine ⟨false, fun k hk => ⟨?_, ?_⟩, fun h => by cases h⟩
    · obtain ⟨k, rfl⟩ : ∃ m, k = m + 2 := ⟨k - 2, by omega⟩
      unfold spec_l06Names.f
      rw [spec_l06Names.l0, if_pos (by omega), decide_eq_false (by omega), spec_l06Names.j1, if_neg (by decide), hs k (by omega), Option.bind_some]
      cases b with
      | false => rfl
      | true => rw [if_pos rfl, if_pos (by omega), decide_eq_false (by omega)]
    · unfold impl_areNames.f impl_within.f
      rw [hi k (by omega), Option.bind_some]
      cases b with
      | false => rfl
      | true => rw [if_pos rfl, if_pos (by omega), Option.bind_some, decide_eq_false (by omega), if_neg (by decide)]
theorem snd_fin (x : IS) (h : spec_l06Sound.f 64 [x] = some true) : finB x.f2 = true := by
  have h0 : rd_T49 [x] 0 = x := rfl
  unfold spec_l06Sound.f at h
  rw [if_pos (by simp), h0] at h
  obtain ⟨b1, -, h⟩ := Option.bind_eq_some_iff.mp h
  cases b1 with
  | false => simp at h
  | true =>
    rw [if_pos rfl] at h
    obtain ⟨b2, -, h⟩ := Option.bind_eq_some_iff.mp h
    cases b2 with
    | false => simp at h
    | true =>
      rw [if_pos rfl, ab_spec, Option.bind_some] at h
      cases hf : finB x.f2 with
      | true => rfl
      | false => unfold ab at h; rw [hf] at h; simp at h
theorem allc_at (L : List IS) : ∀ d i, allc L d i = true → ∀ j, i ≤ j → j < i + d → soundB (rd_T49 L (j : Int)) = true
  | 0, i, _, j, h1, h2 => by omega
  | d + 1, i, h, j, h1, h2 => by
    rw [allc, Bool.and_eq_true] at h
    by_cases c : j = i
    · subst c
      have := h.1
      unfold cnd at this
      rw [Bool.and_eq_true] at this
      exact this.1
    · exact allc_at L d (i + 1) h.2 j (by omega) (by omega)
theorem are_fin (L : List IS) (hl : L.length ≤ 1048576) (hx : ∀ x ∈ L, okI x) (h : impl_AreSounds.f 2100000 L = some true) (j : Nat) (hj : j < L.length) : finB (rd_T49 L (j : Int)).f2 = true := by
  have h2 : impl_AreSounds.f 2100000 L = some (allc L L.length 0 && decide (L.length ≤ 16)) := are_impl L hl hx L.length 0 2100000 (by omega) (by omega)
  rw [h2] at h
  injection h with h
  rw [Bool.and_eq_true] at h
  have h3 := allc_at L L.length 0 h.1 j (by omega) (by omega)
  have ho : okI (rd_T49 L (j : Int)) := by rw [rdI_at hj]; exact hx _ (List.getElem_mem _)
  refine snd_fin _ ?_
  rw [(sound_k _ ho 64 (by omega)).1, h3]
theorem adv_some (ls : List Nat) (hl : ls.length ≤ 1048576) (hab : ls.all ab = true) : ∀ (d i t : Nat), i + d < ls.length ∨ d = 0 → nnan t → ∃ j u, Fra.adv ls d i t = some (j, u) ∧ nnan u ∧ i ≤ j ∧ j ≤ i + d
  | 0, i, t, _, ht => ⟨i, t, rfl, ht, Nat.le_refl _, Nat.le_refl _⟩
  | d + 1, i, t, h, ht => by
    have hi : i < ls.length := by omega
    have hx : ab (ls[i]'hi) = true := List.all_eq_true.1 hab _ (List.getElem_mem hi)
    have hf : finB (ls[i]'hi) = true := by
      unfold ab at hx
      rw [Bool.and_eq_true] at hx
      exact hx.1
    rw [Fra.adv, rdN_at hi]
    by_cases c : fle .f32 (ls[i]'hi) t = true
    · obtain ⟨k1, k2, -⟩ := sub_fin t _ ht hf
      rw [if_pos c, if_pos k1]
      obtain ⟨j, u, e1, e2, e3, e4⟩ := adv_some ls hl hab d (i + 1) _ (by omega) k2
      exact ⟨j, u, e1, e2, by omega, by omega⟩
    · rw [if_neg c]
      exact ⟨i, t, rfl, ht, Nat.le_refl _, by omega⟩
theorem ge_ls {u x : Nat} (hu : nnan u) (hx : finB x = true) : fge .f32 u x = !fls .f32 u x := by
  obtain ⟨w, hw, -⟩ := fin_Nu hx
  cases hr : F.read u with
  | nan s t => exact absurd hr (hu s t)
  | infinity s =>
    obtain ⟨s2, m2, e2, h2, -, -⟩ := hw
    have hr' : FloatKind.f32.format.read u = .infinity s := hr
    have h2' : FloatKind.f32.format.read x = .number s2 m2 e2 := h2
    unfold fge fls Ieee.Format.order
    rw [hr', h2']
    cases s <;> rfl
  | number s m e =>
    obtain ⟨z, hz, -⟩ := num_Nu hr
    rw [(ls_Nu hz hw).1, (ls_Nu hz hw).2.2.1]
    by_cases c : z < w
    · rw [decide_eq_true c, decide_eq_false (by omega)]; rfl
    · rw [decide_eq_false c, decide_eq_true (by omega)]; rfl
structure SndOk (x : IS) : Prop where
  ar : x.f1.all ab = true
  len : 1 ≤ x.f1.length ∧ x.f1.length ≤ 16
  f3 : finB x.f3 = true
  f4 : finB x.f4 = true ∧ fge .f32 x.f4 0 = true
  f5 : finB x.f5 = true ∧ fge .f32 x.f5 0 = true
theorem share_fin (y : Nat) (h : spec_l02Share.f y = some true) : finB y = true ∧ fge .f32 y 0 = true := by
  unfold spec_l02Share.f at h
  by_cases c : fge .f32 y 0 = true
  · rw [if_pos c] at h
    have hle : fle .f32 y 1065353216 = true := by simpa using h
    refine ⟨?_, c⟩
    cases hr : F.read y with
    | nan s t =>
      have hr' : FloatKind.f32.format.read y = .nan s t := hr
      unfold fge Ieee.Format.order at c
      rw [hr'] at c
      cases c
    | infinity s =>
      obtain ⟨s2, m2, e2, h2, -, -⟩ := c1_Nu
      obtain ⟨s3, m3, e3, h3, -, -⟩ := c0_Nu
      have hr' : FloatKind.f32.format.read y = .infinity s := hr
      have h2' : FloatKind.f32.format.read 1065353216 = .number s2 m2 e2 := h2
      have h3' : FloatKind.f32.format.read 0 = .number s3 m3 e3 := h3
      cases s with
      | true => unfold fge Ieee.Format.order at c; rw [hr', h3'] at c; cases c
      | false => unfold fle Ieee.Format.order at hle; rw [hr', h2'] at hle; cases hle
    | number s m e => exact num_fin hr
  · rw [if_neg c] at h; cases h
theorem snd_ok (x : IS) (hx : okI x) (h : soundB x = true) : SndOk x := by
  have h1 := (sound_k x hx 64 (by omega)).1
  rw [h] at h1
  have h0 : rd_T49 [x] 0 = x := rfl
  unfold spec_l06Sound.f at h1
  rw [if_pos (by simp), h0] at h1
  obtain ⟨b1, -, h1⟩ := Option.bind_eq_some_iff.mp h1
  cases b1 with
  | false => simp at h1
  | true =>
    rw [if_pos rfl] at h1
    obtain ⟨b2, ha, h1⟩ := Option.bind_eq_some_iff.mp h1
    cases b2 with
    | false => simp at h1
    | true =>
      have hlen : 1 ≤ x.f1.length ∧ x.f1.length ≤ 16 := by
        by_cases c : 1 ≤ x.f1.length ∧ x.f1.length ≤ 16
        · exact c
        · rw [areas_long x.f1 c 64 (by omega)] at ha
          cases ha
      have har : x.f1.all ab = true := by
        have e : spec_l02Areas.f 64 x.f1 = some (x.f1.all ab) := areas_spec x.f1 hlen.2 hlen.1 x.f1.length 0 64 (by omega) (by omega)
        rw [e] at ha
        exact Option.some.inj ha
      rw [if_pos rfl] at h1
      obtain ⟨b3, -, h1⟩ := Option.bind_eq_some_iff.mp h1
      cases b3 with
      | false => simp at h1
      | true =>
        rw [if_pos rfl] at h1
        obtain ⟨b4, h4, h1⟩ := Option.bind_eq_some_iff.mp h1
        cases b4 with
        | false => simp at h1
        | true =>
          rw [if_pos rfl] at h1
          obtain ⟨b5, h5, h1⟩ := Option.bind_eq_some_iff.mp h1
          cases b5 with
          | false => simp at h1
          | true =>
            rw [if_pos rfl] at h1
            obtain ⟨b6, h6, h1⟩ := Option.bind_eq_some_iff.mp h1
            cases b6 with
            | false => simp at h1
            | true =>
              refine ⟨har, hlen, ?_, share_fin _ h5, share_fin _ h6⟩
              unfold spec_l02Least.f spec_l01Finite.f at h4
              cases hf3 : finB x.f3 with
              | true => rfl
              | false => rw [hf3] at h4; simp at h4
def mixs (sh : Nat) (a b : List Nat) : List Nat := (List.range a.length).map fun (i : Nat) => Fra.mixV sh (rdOf (0 : Nat) a (i : Int)) (rdOf (0 : Nat) b (i : Int))
theorem mixs_len (sh : Nat) (a b : List Nat) : (mixs sh a b).length = a.length := by unfold mixs; rw [List.length_map, List.length_range]
theorem mixs_at (sh : Nat) (a b : List Nat) {i : Nat} (h : i < a.length) : (mixs sh a b)[i]? = some (Fra.mixV sh (rdOf (0 : Nat) a (i : Int)) (rdOf (0 : Nat) b (i : Int))) := by
  unfold mixs
  rw [List.getElem?_map, List.getElem?_range h]; rfl
theorem mixl_spec (sh : Nat) (a b : List Nat) (hl : a.length ≤ b.length) (ha : a.length ≤ 16) (ok : ∀ i : Nat, i < a.length → Fra.MixOk sh (rdOf (0 : Nat) a (i : Int)) (rdOf (0 : Nat) b (i : Int))) : ∀ (d i k : Nat), i + d = a.length → d < k → spec_l02Mix.l0 k a b sh ((mixs sh a b).take i) (i : Int) = some (mixs sh a b)
  | _, _, 0, _, h => by omega
  | 0, i, k + 1, h1, h2 => by
    rw [spec_l02Mix.l0, if_neg (by omega), List.take_of_length_le (by rw [mixs_len]; omega)]
  | d + 1, i, k + 1, h1, h2 => by
    have hi : i < a.length := by omega
    have e : wrap64 ((i : Int) + 1) = ((i + 1 : Nat) : Int) := by rw [w64 (by omega) (by omega)]; omega
    have hk := ok i hi
    rw [spec_l02Mix.l0, if_pos (by omega), if_pos (by omega), if_pos (by omega), if_pos hk.a, if_pos hk.b, if_pos hk.c, if_pos (by rw [List.length_take]; omega), e]
    have ht : (mixs sh a b).take i ++ [Fra.mixV sh (rdOf (0 : Nat) a (i : Int)) (rdOf (0 : Nat) b (i : Int))] = (mixs sh a b).take (i + 1) := by
      have hi2 : i < (mixs sh a b).length := by rw [mixs_len]; exact hi
      rw [List.take_succ_eq_append_getElem hi2]
      have := mixs_at sh a b hi
      rw [List.getElem?_eq_getElem hi2] at this
      rw [Option.some.inj this]
    have h3 := mixl_spec sh a b hl ha ok d (i + 1) k (by omega) (by omega)
    rw [← ht] at h3
    exact h3
theorem mx1 (sh x y : Nat) (h : Fra.MixOk sh x y) : impl_mixFrames_1.f x y [(⟨sh⟩ : S25)] = some (Fra.mixV sh x y) := by
  unfold impl_mixFrames_1.f
  have h0 : (rd_T25 [(⟨sh⟩ : S25)] 0).f0 = sh := rfl
  rw [if_pos (show (0 : Int) < (([(⟨sh⟩ : S25)] : List S25).length : Int) by show (0 : Int) < 1; decide), h0, if_pos h.a, if_pos h.b, if_pos h.c]
  rfl
theorem mixl_impl (sh : Nat) (a b : List Nat) (hl : a.length ≤ b.length) (ha : a.length ≤ 16) (ok : ∀ i : Nat, i < a.length → Fra.MixOk sh (rdOf (0 : Nat) a (i : Int)) (rdOf (0 : Nat) b (i : Int))) (b1 b2 b3 p v u : Nat) (R : Option (List Nat × Nat × Nat × Nat × Bool)) (hR : ∀ k, 100 ≤ k → impl_checkedFrame.f k (mixs sh a b) p v u = R) : ∀ (d i k : Nat) (ys : List Nat), i + d = a.length → ys.length = a.length → ys.take i = (mixs sh a b).take i → d + 200 < k → impl_mixFrames.l0 k a (a.length : Int) (i : Int) b b1 b2 b3 sh ys p v u = R
  | _, _, 0, _, _, _, _, h => by omega
  | 0, i, k + 1, ys, h1, h2, h3, h4 => by
    rw [impl_mixFrames.l0, if_neg (by omega)]
    rw [List.take_of_length_le (by omega), List.take_of_length_le (by rw [mixs_len]; omega)] at h3
    rw [h3, hR k (by omega)]
    cases R <;> rfl
  | d + 1, i, k + 1, ys, h1, h2, h3, h4 => by
    have hi : i < a.length := by omega
    have e : wrap64 ((i : Int) + 1) = ((i + 1 : Nat) : Int) := by rw [w64 (by omega) (by omega)]; omega
    rw [impl_mixFrames.l0, if_pos (by omega), if_pos (by omega), if_pos (by omega), if_pos (by omega), mx1 sh _ _ (ok i hi), Option.bind_some, if_pos (by omega), e, Int.toNat_natCast]
    refine mixl_impl sh a b hl ha ok b1 b2 b3 p v u R hR d (i + 1) k _ (by omega) (by rw [List.length_set]; exact h2) ?_ (by omega)
    exact take_set_succ (by rw [mixs_len]; exact hi) (by rw [mixs_len]; exact h2) h3 (mixs_at sh a b hi)
def giv (b : Bool) (l : List Nat) (p v n : Nat) : List Nat × Nat × Nat × Nat × Bool := if b = true then (l, p, v, n, true) else ([], 0, 0, 0, false)
theorem share_both (x : Nat) : ∃ b, spec_l02Share.f x = some b ∧ impl_isBetween.f x 0 1065353216 = some b := by
  unfold spec_l02Share.f impl_isBetween.f
  by_cases c : fge .f32 x 0 = true
  · rw [if_pos c]; exact ⟨_, rfl, rfl⟩
  · rw [if_neg c]; exact ⟨_, rfl, rfl⟩
theorem frame_both (l : List Nat) (hl : l.length ≤ 1048576) (p v n : Nat) : ∃ b : Bool, ∀ k, 64 ≤ k → spec_l06GiveFrame.f k l p v n = some (giv b l p v n) ∧ impl_checkedFrame.f k l p v n = some (giv b l p v n) := by
  obtain ⟨ba, ha⟩ := areas_both l hl
  obtain ⟨bv, hv1, hv2⟩ := share_both v
  obtain ⟨bn, hn1, hn2⟩ := share_both n
  refine ⟨ba && (finB p && (fge .f32 p 0 && (bv && bn))), fun k hk => ?_⟩
  obtain ⟨h1, h2⟩ := ha k hk
  have hr : rd_T29 [(⟨l, p, v, n⟩ : S29)] 0 = ⟨l, p, v, n⟩ := rfl
  have hl1 : (0 : Int) < (([(⟨l, p, v, n⟩ : S29)] : List S29).length : Int) := by show (0 : Int) < 1; decide
  have e1 : spec_l06Frame.f k [(⟨l, p, v, n⟩ : S29)] = some (ba && (finB p && (fge .f32 p 0 && (bv && bn)))) := by
    unfold spec_l06Frame.f spec_l02Least.f spec_l01Finite.f
    rw [if_pos hl1, hr]
    dsimp only
    rw [h1, Option.bind_some, hv1, hn1]
    cases ba <;> cases finB p <;> cases fge .f32 p 0 <;> cases bv <;> cases bn <;> rfl
  have e2 : impl_ValidFrame.f k l p v n = some (ba && (finB p && (fge .f32 p 0 && (bv && bn)))) := by
    unfold impl_ValidFrame.f impl_IsFinite.f
    rw [h2, Option.bind_some, Option.bind_some, hv2, hn2]
    cases ba <;> cases finB p <;> cases fge .f32 p 0 <;> cases bv <;> cases bn <;> rfl
  unfold spec_l06GiveFrame.f impl_checkedFrame.f giv
  rw [e1, e2]
  simp only [Option.bind_some]
  cases (ba && (finB p && (fge .f32 p 0 && (bv && bn)))) <;> exact ⟨rfl, rfl⟩
theorem ramp_both (x : Nat) (hn : nnan x) : ∃ sh, spec_l06Ramp.f x = some sh ∧ impl_rampAt.f x = some sh ∧ finB sh = true := by
  unfold spec_l06Ramp.f impl_rampAt.f
  by_cases c1 : fls .f32 x 0 = true
  · rw [if_pos c1]; exact ⟨0, rfl, rfl, Nu_fin c0_Nu⟩
  · rw [if_neg c1]
    by_cases c2 : fgr .f32 x 1065353216 = true
    · rw [if_pos c2]; exact ⟨_, rfl, rfl, Nu_fin c1_Nu⟩
    · rw [if_neg c2]
      obtain ⟨k1, k2, k3, k4, k5⟩ := ramp_fin hn (by simpa using c1) (by simpa using c2)
      rw [if_pos k1, if_pos k2, if_pos k3, if_pos k4]
      exact ⟨_, rfl, rfl, k5⟩
theorem mix_ok {sh x y : Nat} (hx : finB x = true) (hx0 : fge .f32 x 0 = true) (hy : finB y = true) (hy0 : fge .f32 y 0 = true) (hs : finB sh = true) : Fra.MixOk sh x y ∧ Fra.mixV sh x y < 4294967296 := by
  obtain ⟨k1, k2, k3, k4⟩ := mix_some hx hx0 hy hy0 hs
  exact ⟨⟨k1, k2, k3⟩, k4⟩
theorem ab_ge {x : Nat} (h : ab x = true) : finB x = true ∧ fge .f32 x 0 = true := by
  unfold ab at h
  rw [Bool.and_eq_true] at h
  refine ⟨h.1, ?_⟩
  have h2 := h.2
  unfold fgr at h2
  unfold fge
  rw [h2]; rfl
end Go.Proofs.Yteooifighndmkaa.FrPure
