import Derived.Test.YteooifighndmkaaSdmAdd
import Derived.Test.YteooifighndmkaaLm
import Derived.Test.YteooifighndmkaaOf
set_option linter.unusedVariables false
set_option linter.unusedSimpArgs false
namespace Go.Proofs.Yteooifighndmkaa.AddPure
open Go.RowKit Go.Proofs.YteooifighndmkaaW.PrintWords Go.Proofs.YteooifighndmkaaW.PrintMore Go.Proofs.YteooifighndmkaaW.PrintFl Go.Proofs.Yteooifighndmkaa Go.Proofs.Yteooifighndmkaa.PFnExactAddSound Go.Proofs.Yteooifighndmkaa.Lm Go.Proofs.Yteooifighndmkaa.Sdm
theorem rdN_at {l : List Nat} {i : Nat} (h : i < l.length) : rdOf (0 : Nat) l (i : Int) = l[i]'h := by
  unfold rdOf
  rw [Int.toNat_natCast, List.getD_eq_getElem?_getD, List.getElem?_eq_getElem h]; rfl
theorem w64 {x : Int} (h0 : -9223372036854775808 ≤ x) (h1 : x ≤ 9223372036854775807) : wrap64 x = x := by
  unfold wrap64; omega
theorem szF_some (l : List Nat) (hl : l.length ≤ 9223372036854775807) (a : Int) (ha : 0 ≤ a) (hb : a ≤ 1048576) : ∃ r, laws_szFloat32S.f l a = some r ∧ (r < 0 ∨ 0 ≤ r ∧ r ≤ 1048576 ∧ l.length ≤ 1048576) := by
  unfold laws_szFloat32S.f
  rw [w64 (x := a - l.length) (by omega) (by omega)]
  split
  · exact ⟨_, rfl, .inl (by omega)⟩
  · exact ⟨_, rfl, .inr (by omega)⟩
theorem toFl_some (l : List Nat) (hl : l.length ≤ 1048576) : ∀ (k : Nat) (ys : List Nat) (i : Nat), i ≤ l.length → l.length - i < k → ys.length = l.length → ys.take i = l.take i → laws_toFloat32S.l0 k l ys (i : Int) = some l
  | 0, ys, i, h1, hk, hy, ht => by omega
  | k + 1, ys, i, h1, hk, hy, ht => by
    unfold laws_toFloat32S.l0
    by_cases c : (i : Int) < (l.length : Int)
    · rw [if_pos c, if_pos (by omega), if_pos (by omega), w64 (by omega) (by omega)]
      have e : ((i : Int) + 1) = ((i + 1 : Nat) : Int) := by omega
      rw [e]
      refine toFl_some l hl k _ (i + 1) (by omega) (by omega) (by rw [List.length_set]; exact hy) ?_
      have hil : i < l.length := by omega
      show (ys.set ((i : Int)).toNat (rdOf 0 l (i : Int))).take (i + 1) = _
      rw [Int.toNat_natCast]
      refine take_set_succ hil hy ht ?_
      unfold rdOf
      rw [Int.toNat_natCast, List.getD_eq_getElem?_getD, List.getElem?_eq_getElem hil]
      rfl
    · rw [if_neg c]
      have : i = l.length := by omega
      subst this
      rw [List.take_length, List.take_of_length_le (by omega)] at ht
      rw [ht]
theorem toF_some (l : List Nat) (hl : l.length ≤ 1048576) (k : Nat) (hk : 1048577 ≤ k) : laws_toFloat32S.f k l = some l := by
  unfold laws_toFloat32S.f
  rw [if_pos (by omega), if_pos (by omega)]
  exact toFl_some l hl k _ 0 (by omega) (by omega) (by rw [List.length_replicate]; omega) rfl
theorem fin_nan (x : Nat) (h : finB x = true) : (FloatKind.f32.format.read x).isNaN = false := by
  cases hr : FloatKind.f32.format.read x with
  | number s m e => rfl
  | infinity s => rfl
  | nan s t =>
    exfalso
    have : floatBits .sub .f32 x x = none := by
      simp [floatBits, Ieee.Format.sub, hr, Ieee.Datum.sum, Ieee.Datum.opposite]
    unfold finB foprOk at h
    rw [this] at h
    cases h
theorem gt_le (x : Nat) (h : finB x = true) : fgr .f32 x 0 = !fle .f32 x 0 := by
  have hn := fin_nan x h
  have h0 : FloatKind.f32.format.read 0 = .number false 0 (-149) := by decide +kernel
  unfold fgr fle Ieee.Format.order
  rw [h0]
  cases hr : FloatKind.f32.format.read x with
  | nan s t => rw [hr] at hn; cases hn
  | infinity s => cases s <;> rfl
  | number s m e =>
    have ho : ∃ o, (Ieee.Datum.number s m e).order (Ieee.Datum.number false 0 (-149)) = some o := ⟨_, rfl⟩
    obtain ⟨o, ho⟩ := ho
    rw [ho]
    cases o <;> rfl
def ab (x : Nat) : Bool := finB x && fgr .f32 x 0
theorem ab_spec (x : Nat) : spec_l02Above.f x = some (ab x) := by
  unfold spec_l02Above.f spec_l01Finite.f ab
  rw [Option.bind_some]
  cases finB x <;> rfl
theorem areas_spec (l : List Nat) (hl : l.length ≤ 16) (h1 : 1 ≤ l.length) : ∀ (d i k : Nat), i + d = l.length → 2 * d + 1 < k → spec_l02Areas.l0 k l (i : Int) = some ((l.drop i).all ab)
  | _, _, 0, _, h => by omega
  | _, _, 1, _, h => by omega
  | 0, i, k + 2, h2, h3 => by
    obtain rfl : i = l.length := by omega
    rw [spec_l02Areas.l0, if_neg (by omega), spec_l02Areas.j1, if_neg (by decide), if_pos (by omega), List.drop_length, decide_eq_true (by omega)]
    rfl
  | d + 1, i, k + 2, h2, h3 => by
    have hi : i < l.length := by omega
    have e : ((i : Int) + 1) = ((i + 1 : Nat) : Int) := by omega
    rw [spec_l02Areas.l0, if_pos (by omega), decide_eq_true (by omega), spec_l02Areas.j1, if_pos rfl, if_pos (by omega), if_pos (by omega), rdN_at hi, ab_spec, Option.bind_some, w64 (by omega) (by omega), e, areas_spec l hl h1 d (i + 1) k (by omega) (by omega), List.drop_eq_getElem_cons hi, List.all_cons]
    cases ab l[i] <;> rfl
theorem areas_long (l : List Nat) (hl : ¬ (1 ≤ l.length ∧ l.length ≤ 16)) (k : Nat) (hk : 2 ≤ k) : spec_l02Areas.f k l = some false := by
  obtain ⟨k, rfl⟩ : ∃ m, k = m + 2 := ⟨k - 2, by omega⟩
  unfold spec_l02Areas.f
  rw [spec_l02Areas.l0]
  by_cases c : l.length = 0
  · rw [if_neg (by omega), spec_l02Areas.j1, if_neg (by decide), if_neg (by omega)]
  · rw [if_pos (by omega), decide_eq_false (by omega), spec_l02Areas.j1, if_neg (by decide), if_pos (by omega), decide_eq_false (by omega)]
abbrev LS := S45
abbrev IS := S49
def cv1 (x : LS) : IS := ⟨x.f0, x.f1, x.f2, x.f3, x.f4, x.f5⟩
def okS (x : LS) : Prop := x.f0.size ≤ 140737488351232 ∧ (x.f1.length ≤ 9223372036854775807 ∧ ∀ y ∈ x.f1, y < 4294967296) ∧ x.f2 < 4294967296 ∧ x.f3 < 4294967296 ∧ x.f4 < 4294967296 ∧ x.f5 < 4294967296
theorem rdL_at {l : List LS} {i : Nat} (h : i < l.length) : rd_T45 l (i : Int) = l[i]'h := by
  unfold rd_T45
  rw [Int.toNat_natCast, List.getD_eq_getElem?_getD, List.getElem?_eq_getElem h]; rfl
theorem rdI_at {l : List IS} {i : Nat} (h : i < l.length) : rd_T49 l (i : Int) = l[i]'h := by
  unfold rd_T49
  rw [Int.toNat_natCast, List.getD_eq_getElem?_getD, List.getElem?_eq_getElem h]; rfl
theorem szS_some (x : LS) (hx : okS x) (a : Int) (ha : 0 ≤ a) (hb : a ≤ 1048576) : ∃ r, laws_szSound.f x.f0 x.f1 x.f2 x.f3 x.f4 x.f5 a = some r ∧ (r < 0 ∨ 0 ≤ r ∧ r ≤ 1048576 ∧ x.f0.size ≤ 1048576 ∧ x.f1.length ≤ 1048576) := by
  have h1 := hx.1
  unfold laws_szSound.f
  rw [w64 (x := a - x.f0.size) (by omega) (by omega)]
  split
  · exact ⟨_, rfl, .inl (by omega)⟩
  · obtain ⟨r, e, hr⟩ := szF_some x.f1 hx.2.1.1 (a - x.f0.size) (by omega) (by omega)
    rw [e, Option.bind_some]
    split
    · exact ⟨_, rfl, .inl (by omega)⟩
    · exact ⟨_, rfl, .inr (by omega)⟩
theorem szl_some (l : List LS) (hl : l.length ≤ 1048576) (hx : ∀ x ∈ l, okS x) : ∀ (d i k : Nat) (a : Int), i + d = l.length → d < k → 0 ≤ a → a ≤ 1048576 → ∃ r, laws_szSoundS.l0 k l a (i : Int) = some r ∧ (r < 0 ∨ (0 ≤ r ∧ r ≤ 1048576) ∧ ∀ x ∈ l.drop i, x.f0.size ≤ 1048576 ∧ x.f1.length ≤ 1048576)
  | _, _, 0, _, _, h, _, _ => by omega
  | 0, i, k + 1, a, h1, h2, h3, h4 => by
    obtain rfl : i = l.length := by omega
    refine ⟨a, ?_, .inr ⟨⟨h3, h4⟩, by rw [List.drop_length]; simp⟩⟩
    rw [laws_szSoundS.l0, if_neg (by omega)]
  | d + 1, i, k + 1, a, h1, h2, h3, h4 => by
    have hi : i < l.length := by omega
    have e : ((i : Int) + 1) = ((i + 1 : Nat) : Int) := by omega
    obtain ⟨r, er, hr⟩ := szS_some l[i] (hx _ (List.getElem_mem _)) a h3 h4
    rw [laws_szSoundS.l0, if_pos (by omega), if_pos (by omega), rdL_at hi, er, Option.bind_some, w64 (by omega) (by omega), e]
    by_cases c : r < 0
    · rw [if_pos c]; exact ⟨_, rfl, .inl (by omega)⟩
    · rw [if_neg c]
      obtain ⟨r2, er2, hr2⟩ := szl_some l hl hx d (i + 1) k r (by omega) (by omega) (by omega) (by omega)
      refine ⟨r2, er2, ?_⟩
      rcases hr2 with hr2 | ⟨h5, h6⟩
      · exact .inl hr2
      · refine .inr ⟨h5, fun x hm => ?_⟩
        rw [List.drop_eq_getElem_cons hi] at hm
        rcases List.mem_cons.1 hm with rfl | hm
        · omega
        · exact h6 x hm
theorem szL_some (l : List LS) (hl : l.length ≤ 9223372036854775807) (hx : ∀ x ∈ l, okS x) (k : Nat) (hk : 1048600 ≤ k) : ∃ r, laws_szSoundS.f k l 1048576 = some r ∧ (r < 0 ∨ (0 ≤ r ∧ r ≤ 1048576) ∧ l.length ≤ 1048576 ∧ ∀ x ∈ l, x.f0.size ≤ 1048576 ∧ x.f1.length ≤ 1048576) := by
  unfold laws_szSoundS.f
  rw [w64 (x := (1048576 : Int) - l.length) (by omega) (by omega)]
  split
  · exact ⟨_, rfl, .inl (by omega)⟩
  · obtain ⟨r, e, hr⟩ := szl_some l (by omega) hx l.length 0 k (1048576 - l.length) (by omega) (by omega) (by omega) (by omega)
    refine ⟨r, e, ?_⟩
    rcases hr with hr | ⟨h1, h2⟩
    · exact .inl hr
    · exact .inr ⟨h1, by omega, h2⟩
theorem toS_loop (l : List LS) (hl : l.length ≤ 1048576) (hz : ∀ x ∈ l, x.f1.length ≤ 1048576) : ∀ (d i k : Nat) (ys : List IS), i + d = l.length → ys.length = l.length → ys.take i = (l.take i).map cv1 → d + 1048577 < k → laws_toSoundS.l0 k l ys (i : Int) = some (l.map cv1)
  | _, _, 0, _, _, _, _, h => by omega
  | 0, i, k + 1, ys, h1, h2, h3, h4 => by
    obtain rfl : i = l.length := by omega
    rw [laws_toSoundS.l0, if_neg (by omega)]
    rw [List.take_of_length_le (by omega), List.take_length] at h3
    rw [h3]
  | d + 1, i, k + 1, ys, h1, h2, h3, h4 => by
    have hi : i < l.length := by omega
    have e : ((i : Int) + 1) = ((i + 1 : Nat) : Int) := by omega
    have ht : laws_toSound.f k l[i].f0 l[i].f1 l[i].f2 l[i].f3 l[i].f4 l[i].f5 = some (l[i].f0, l[i].f1, l[i].f2, l[i].f3, l[i].f4, l[i].f5) := by
      unfold laws_toSound.f
      rw [toF_some _ (hz _ (List.getElem_mem _)) k (by omega), Option.bind_some]
    rw [laws_toSoundS.l0, if_pos (by omega), if_pos (by omega), rdL_at hi, ht, Option.bind_some, if_pos (by omega), w64 (by omega) (by omega), e, Int.toNat_natCast]
    refine toS_loop l hl hz d (i + 1) k _ (by omega) (by rw [List.length_set]; exact h2) ?_ (by omega)
    rw [List.map_take] at h3 ⊢
    exact take_set_succ (xs := l.map cv1) (by rw [List.length_map]; exact hi) (by rw [List.length_map]; exact h2) h3 (by rw [List.getElem?_map, List.getElem?_eq_getElem hi]; rfl)
theorem toS_some (l : List LS) (hl : l.length ≤ 1048576) (hz : ∀ x ∈ l, x.f1.length ≤ 1048576) (k : Nat) (hk : 2100000 ≤ k) : laws_toSoundS.f k l = some (l.map cv1) := by
  unfold laws_toSoundS.f
  rw [if_pos (by omega), if_pos (by omega), Int.toNat_natCast]
  exact toS_loop l hl hz l.length 0 k _ (by omega) (by rw [List.length_replicate]) rfl (by omega)
def okI (x : IS) : Prop := x.f0.size ≤ 1048576 ∧ x.f1.length ≤ 1048576 ∧ (∀ y ∈ x.f1, y < 4294967296) ∧ x.f2 < 4294967296 ∧ x.f3 < 4294967296 ∧ x.f4 < 4294967296 ∧ x.f5 < 4294967296
theorem eqS_loop (l : List IS) (hl : l.length ≤ 1048576) (hx : ∀ x ∈ l, okI x) : ∀ (d i k : Nat), i + d = l.length → d < k → laws_eqSoundS.l0 k l l (i : Int) = some true
  | _, _, 0, _, h => by omega
  | 0, i, k + 1, h1, h2 => by
    obtain rfl : i = l.length := by omega
    rw [laws_eqSoundS.l0, if_neg (by omega)]
  | d + 1, i, k + 1, h1, h2 => by
    have hi : i < l.length := by omega
    have e : ((i : Int) + 1) = ((i + 1 : Nat) : Int) := by omega
    obtain ⟨o1, o2, o3, o4, o5, o6, o7⟩ := hx l[i] (List.getElem_mem _)
    have he : laws_eqSound.f l[i].f0 l[i].f1 l[i].f2 l[i].f3 l[i].f4 l[i].f5 l[i].f0 l[i].f1 l[i].f2 l[i].f3 l[i].f4 l[i].f5 = some true := by
      unfold laws_eqSound.f
      rw [if_pos ⟨rfl, rfl, rfl, rfl, rfl, rfl, o2, o3, o4, o5, o6, o7⟩]
    rw [laws_eqSoundS.l0, if_pos (by omega), if_pos (by omega), if_pos (by omega), rdI_at hi, he, Option.bind_some, if_pos rfl, w64 (by omega) (by omega), e]
    exact eqS_loop l hl hx d (i + 1) k (by omega) (by omega)
theorem eqS_some (l : List IS) (hl : l.length ≤ 1048576) (hx : ∀ x ∈ l, okI x) (k : Nat) (hk : 1048600 ≤ k) : laws_eqSoundS.f k l l = some true := by
  unfold laws_eqSoundS.f
  rw [if_pos rfl]
  exact eqS_loop l hl hx l.length 0 k (by omega) (by omega)
theorem bt_ok (s : ByteArray) (i : Nat) : ∃ b : Bool, (decide (bt s (i : Int) < 97) || decide (bt s (i : Int) > 122)) = !b := ⟨_, (Bool.not_not _).symm⟩
def lt1 (s : ByteArray) (i : Nat) : Bool := !(decide (bt s (i : Int) < 97) || decide (bt s (i : Int) > 122))
def nm (s : ByteArray) : Nat → Nat → Bool
  | 0, _ => true
  | d + 1, i => lt1 s i && nm s d (i + 1)
theorem nm_spec (s : ByteArray) (h4 : s.size ≤ 4) (h1 : 1 ≤ s.size) : ∀ (d i k : Nat), i + d = s.size → 2 * d + 1 < k → spec_l06Name.l0 k s (i : Int) = some (nm s d i)
  | _, _, 0, _, h => by omega
  | _, _, 1, _, h => by omega
  | 0, i, k + 2, h2, h3 => by
    rw [spec_l06Name.l0, if_neg (by omega), spec_l06Name.j1, if_neg (by decide), if_pos (by omega), decide_eq_true (by omega)]
    rfl
  | d + 1, i, k + 2, h2, h3 => by
    have e : ((i : Int) + 1) = ((i + 1 : Nat) : Int) := by omega
    rw [spec_l06Name.l0, if_pos (by omega), decide_eq_true (by omega), spec_l06Name.j1, if_pos rfl, if_pos (by omega), if_pos (by omega), w64 (by omega) (by omega), e, nm_spec s h4 h1 d (i + 1) k (by omega) (by omega), nm]
    unfold lt1
    by_cases c1 : bt s (i : Int) < 97
    · rw [if_pos c1]; simp [c1]
    · rw [if_neg c1]
      by_cases c2 : bt s (i : Int) > 122
      · rw [if_pos c2]; simp [c2]
      · rw [if_neg c2]; simp [c1, c2]
theorem nm_impl (s : ByteArray) (h4 : s.size ≤ 4) : ∀ (d i k : Nat), i + d = s.size → d < k → impl_IsName.l0 k s (i : Int) = some (nm s d i && decide (1 ≤ s.size))
  | _, _, 0, _, h => by omega
  | 0, i, k + 1, h2, h3 => by
    rw [impl_IsName.l0, if_neg (by omega)]
    unfold impl_within.f
    by_cases c : (s.size : Int) ≥ 1
    · rw [if_pos c, decide_eq_true (show (s.size : Int) ≤ 8 by omega), decide_eq_true (show 1 ≤ s.size by omega)]; rfl
    · rw [if_neg c, decide_eq_false (show ¬ 1 ≤ s.size by omega)]; rfl
  | d + 1, i, k + 1, h2, h3 => by
    have e : ((i : Int) + 1) = ((i + 1 : Nat) : Int) := by omega
    rw [impl_IsName.l0, if_pos (by omega), if_pos (by omega), w64 (by omega) (by omega), e, nm_impl s h4 d (i + 1) k (by omega) (by omega), nm]
    unfold lt1
    by_cases c1 : bt s (i : Int) < 97
    · rw [if_pos c1]; simp [c1]
    · rw [if_neg c1]
      by_cases c2 : bt s (i : Int) > 122
      · rw [if_pos c2]; simp [c2]
      · rw [if_neg c2]; simp [c1, c2]
theorem name_both (s : ByteArray) (hs : s.size ≤ 1048576) : ∃ b : Bool, ∀ k, 64 ≤ k → spec_l06Name.f k s = some b ∧ impl_isSoundName.f k s = some b := by
  by_cases h : 1 ≤ s.size ∧ s.size ≤ 4
  · refine ⟨nm s s.size 0, fun k hk => ⟨nm_spec s h.2 h.1 s.size 0 k (by omega) (by omega), ?_⟩⟩
    have h2 : impl_IsName.f k s = some (nm s s.size 0 && decide (1 ≤ s.size)) := nm_impl s h.2 s.size 0 k (by omega) (by omega)
    unfold impl_isSoundName.f
    rw [if_pos (by omega), h2, decide_eq_true h.1, Bool.and_true]; rfl
  · refine ⟨false, fun k hk => ⟨?_, ?_⟩⟩
    · obtain ⟨k, rfl⟩ : ∃ m, k = m + 2 := ⟨k - 2, by omega⟩
      unfold spec_l06Name.f
      rw [spec_l06Name.l0]
      by_cases c : s.size = 0
      · rw [if_neg (by omega), spec_l06Name.j1, if_neg (by decide), if_neg (by omega)]
      · rw [if_pos (by omega), decide_eq_false (by omega), spec_l06Name.j1, if_neg (by decide), if_pos (by omega), decide_eq_false (by omega)]
    · unfold impl_isSoundName.f
      by_cases c : s.size = 0
      · have h2 : impl_IsName.f k s = some (nm s s.size 0 && decide (1 ≤ s.size)) := nm_impl s (by omega) s.size 0 k (by omega) (by omega)
        rw [if_pos (by omega), h2, decide_eq_false (by omega), Bool.and_false]; rfl
      · rw [if_neg (by omega)]
theorem afin_impl (l : List Nat) (hl : l.length ≤ 1048576) : ∀ (d i k : Nat), i + d = l.length → d < k → impl_areFinite.l0 k l (l.length : Int) (i : Int) = some ((l.drop i).all finB)
  | _, _, 0, _, h => by omega
  | 0, i, k + 1, h1, h2 => by
    obtain rfl : i = l.length := by omega
    rw [impl_areFinite.l0, if_neg (by omega), List.drop_length]; rfl
  | d + 1, i, k + 1, h1, h2 => by
    have hi : i < l.length := by omega
    have e : ((i : Int) + 1) = ((i + 1 : Nat) : Int) := by omega
    rw [impl_areFinite.l0, if_pos (by omega), if_pos (by omega), if_pos (by omega), rdN_at hi, impl_IsFinite.f, Option.bind_some, w64 (by omega) (by omega), e, afin_impl l hl d (i + 1) k (by omega) (by omega), List.drop_eq_getElem_cons hi, List.all_cons]
    cases finB l[i] <;> rfl
theorem cont_impl (l : List Nat) (hl : l.length ≤ 1048576) : ∀ (d i k : Nat), i + d = l.length → d < k → ∃ r : Int, slices_IndexFunc_v_impl_areAreas_1.l0 k l (l.length : Int) (i : Int) = some r ∧ decide (r ≥ 0) = (l.drop i).any fun x => fle .f32 x 0
  | _, _, 0, _, h => by omega
  | 0, i, k + 1, h1, h2 => by
    obtain rfl : i = l.length := by omega
    refine ⟨-1, ?_, by rw [List.drop_length]; rfl⟩
    rw [slices_IndexFunc_v_impl_areAreas_1.l0, if_neg (by omega)]
  | d + 1, i, k + 1, h1, h2 => by
    have hi : i < l.length := by omega
    have e : ((i : Int) + 1) = ((i + 1 : Nat) : Int) := by omega
    rw [slices_IndexFunc_v_impl_areAreas_1.l0, if_pos (by omega), if_pos (by omega), if_pos (by omega), rdN_at hi, impl_areAreas_1.f, Option.bind_some, w64 (by omega) (by omega), e, List.drop_eq_getElem_cons hi, List.any_cons]
    by_cases c : fle .f32 l[i] 0 = true
    · rw [if_pos c]
      exact ⟨_, rfl, by rw [c, decide_eq_true (by omega)]; rfl⟩
    · rw [if_neg c]
      obtain ⟨r, h3, h4⟩ := cont_impl l hl d (i + 1) k (by omega) (by omega)
      refine ⟨r, h3, ?_⟩
      rw [Bool.not_eq_true] at c
      rw [h4, c, Bool.false_or]
theorem all_ab (l : List Nat) : (l.all finB && !(l.any fun x => fle .f32 x 0)) = l.all ab := by
  induction l with
  | nil => rfl
  | cons x l ih =>
    rw [List.all_cons, List.any_cons, List.all_cons, ← ih]
    unfold ab
    by_cases f : finB x = true
    · rw [gt_le x f, f]
      cases fle .f32 x 0 <;> simp
    · rw [Bool.not_eq_true] at f
      rw [f]; simp
theorem areas_both (l : List Nat) (hl : l.length ≤ 1048576) : ∃ b : Bool, ∀ k, 64 ≤ k → spec_l02Areas.f k l = some b ∧ impl_areAreas.f k l = some b := by
  by_cases h : 1 ≤ l.length ∧ l.length ≤ 16
  · refine ⟨l.all ab, fun k hk => ⟨areas_spec l h.2 h.1 l.length 0 k (by omega) (by omega), ?_⟩⟩
    have h3 : impl_within.f (l.length : Int) 1 16 = some true := by
      unfold impl_within.f; rw [if_pos (by omega), decide_eq_true (by omega)]
    have h4 : impl_areFinite.f k l = some (l.all finB) := afin_impl l hl l.length 0 k (by omega) (by omega)
    obtain ⟨r, h5, h6⟩ := cont_impl l hl l.length 0 k (by omega) (by omega)
    have h7 : slices_ContainsFunc_v_impl_areAreas_1.f k l = some (l.any fun x => fle .f32 x 0) := by
      unfold slices_ContainsFunc_v_impl_areAreas_1.f slices_IndexFunc_v_impl_areAreas_1.f
      rw [show ((0 : Int)) = ((0 : Nat) : Int) from rfl, h5, Option.bind_some]
      exact congrArg some h6
    unfold impl_areAreas.f
    rw [h3, Option.bind_some, if_pos rfl, h4, Option.bind_some, h7, Option.bind_some, ← all_ab]
    cases l.all finB <;> rfl
  · refine ⟨false, fun k hk => ⟨areas_long l h k (by omega), ?_⟩⟩
    have h3 : impl_within.f (l.length : Int) 1 16 = some false := by
      unfold impl_within.f
      split
      · rw [decide_eq_false (by omega)]
      · rfl
    unfold impl_areAreas.f
    rw [h3]; rfl
set_option maxRecDepth 20000 in
set_option maxHeartbeats 1000000 in
theorem sound_both (x : IS) (hx : okI x) : ∃ b : Bool, ∀ k, 64 ≤ k → spec_l06Sound.f k [x] = some b ∧ impl_ValidSound.f k x.f0 x.f1 x.f2 x.f3 x.f4 x.f5 = some b := by
  obtain ⟨b1, n1⟩ := name_both x.f0 hx.1
  obtain ⟨b2, n2⟩ := areas_both x.f1 hx.2.1
  have s1 : spec_l02Least.f x.f3 = some (finB x.f3 && fge .f32 x.f3 0) := by
    unfold spec_l02Least.f spec_l01Finite.f
    cases finB x.f3 <;> rfl
  have s2 : ∀ y, spec_l02Share.f y = some (fge .f32 y 0 && fle .f32 y 1065353216) := by
    intro y
    unfold spec_l02Share.f
    cases fge .f32 y 0 <;> rfl
  have s3 : ∀ y, impl_isBetween.f y 0 1065353216 = some (fge .f32 y 0 && fle .f32 y 1065353216) := by
    intro y
    unfold impl_isBetween.f
    cases fge .f32 y 0 <;> rfl
  refine ⟨b1 && b2 && (finB x.f2 && fgr .f32 x.f2 0) && (finB x.f3 && fge .f32 x.f3 0) && (fge .f32 x.f4 0 && fle .f32 x.f4 1065353216) && (fge .f32 x.f5 0 && fle .f32 x.f5 1065353216), fun k hk => ⟨?_, ?_⟩⟩
  · have hr : rd_T49 [x] 0 = x := rfl
    unfold spec_l06Sound.f
    rw [if_pos (show (0 : Int) < (([x] : List IS).length : Int) by show (0 : Int) < 1; decide), hr, (n1 k hk).1, (n2 k hk).1, ab_spec, s1, s2, s2]
    simp only [Option.bind_some]
    unfold ab
    cases b1 <;> cases b2 <;> cases finB x.f2 <;> cases fgr .f32 x.f2 0 <;> cases (finB x.f3 && fge .f32 x.f3 0) <;> cases (fge .f32 x.f4 0 && fle .f32 x.f4 1065353216) <;> cases (fge .f32 x.f5 0 && fle .f32 x.f5 1065353216) <;> rfl
  · unfold impl_ValidSound.f impl_IsFinite.f
    rw [(n1 k hk).2, (n2 k hk).2, s3, s3]
    simp only [Option.bind_some]
    cases b1 <;> cases b2 <;> cases finB x.f2 <;> cases fgr .f32 x.f2 0 <;> cases finB x.f3 <;> cases fge .f32 x.f3 0 <;> cases (fge .f32 x.f4 0 && fle .f32 x.f4 1065353216) <;> cases (fge .f32 x.f5 0 && fle .f32 x.f5 1065353216) <;> rfl
def soundB (x : IS) : Bool := (spec_l06Sound.f 64 [x]).getD false
theorem sound_k (x : IS) (hx : okI x) (k : Nat) (hk : 64 ≤ k) : spec_l06Sound.f k [x] = some (soundB x) ∧ impl_ValidSound.f k x.f0 x.f1 x.f2 x.f3 x.f4 x.f5 = some (soundB x) := by
  obtain ⟨b, h⟩ := sound_both x hx
  have hb : soundB x = b := by unfold soundB; rw [(h 64 (by omega)).1]; rfl
  rw [hb]; exact h k hk
def lessP (L : List IS) (i : Nat) : Bool := decide (i = 0) || Op.bytesLess ((rd_T49 L ((i - 1 : Nat) : Int)).f0.toList) ((rd_T49 L (i : Int)).f0.toList)
def cnd (L : List IS) (i : Nat) : Bool := soundB (rd_T49 L (i : Int)) && (decide ((rd_T49 L (i : Int)).f1.length = (rd_T49 L 0).f1.length) && lessP L i)
def allc (L : List IS) : Nat → Nat → Bool
  | 0, _ => true
  | d + 1, i => cnd L i && allc L d (i + 1)
theorem are_step (L : List IS) (i : Nat) (R : Option Bool) (rest : Bool) (hi : i < L.length) (hR : R = some rest) (hl : L.length ≤ 1048576) :
    (if soundB (rd_T49 L (i : Int)) = true then (if 0 < (L.length : Int) then (if (((rd_T49 L (i : Int)).f1).length : Int) = (((rd_T49 L 0).f1).length : Int) then (if (i : Int) > 0 then (if 0 ≤ (wrap64 ((i : Int) - 1)) then (if (wrap64 ((i : Int) - 1)) < (L.length : Int) then (if ((Op.bytesLess (((rd_T49 L (wrap64 ((i : Int) - 1))).f0).toList) (((rd_T49 L (i : Int)).f0).toList)) = true) then R else (some false)) else (none)) else (none)) else R) else (some false)) else (none)) else (some false)) = some (cnd L i && rest) := by
  unfold cnd
  by_cases c1 : soundB (rd_T49 L (i : Int)) = true
  · rw [if_pos c1, c1, if_pos (by omega)]
    by_cases c2 : (rd_T49 L (i : Int)).f1.length = (rd_T49 L 0).f1.length
    · rw [if_pos (by omega), decide_eq_true c2]
      unfold lessP
      by_cases c3 : i = 0
      · rw [if_neg (by omega), decide_eq_true c3, hR]; simp
      · have e : wrap64 ((i : Int) - 1) = ((i - 1 : Nat) : Int) := by rw [w64 (by omega) (by omega)]; omega
        rw [if_pos (by omega), e, if_pos (by omega), if_pos (by omega), decide_eq_false c3]
        by_cases c4 : Op.bytesLess (((rd_T49 L ((i - 1 : Nat) : Int)).f0).toList) (((rd_T49 L (i : Int)).f0).toList) = true
        · rw [if_pos c4, c4, hR]; simp
        · rw [if_neg c4]
          rw [Bool.not_eq_true] at c4
          rw [c4]; simp
    · rw [if_neg (by omega), decide_eq_false c2]; simp
  · rw [if_neg c1]
    rw [Bool.not_eq_true] at c1
    rw [c1]; simp
theorem are_spec (L : List IS) (hl : L.length ≤ 16) (hx : ∀ x ∈ L, okI x) : ∀ (d i k : Nat), i + d = L.length → 2 * d + 80 < k → spec_l06Are.l0 k L (i : Int) = some (allc L d i)
  | _, _, 0, _, h => by omega
  | _, _, 1, _, h => by omega
  | 0, i, k + 2, h2, h3 => by
    rw [spec_l06Are.l0, if_neg (by omega), spec_l06Are.j1, if_neg (by decide), decide_eq_true (by omega)]
    rfl
  | d + 1, i, k + 2, h2, h3 => by
    have hi : i < L.length := by omega
    have e : ((i : Int) + 1) = ((i + 1 : Nat) : Int) := by omega
    have ho : okI (rd_T49 L (i : Int)) := by rw [rdI_at hi]; exact hx _ (List.getElem_mem _)
    rw [spec_l06Are.l0, if_pos (by omega), decide_eq_true (by omega), spec_l06Are.j1, if_pos rfl, if_pos (by omega), if_pos (by omega), (sound_k _ ho k (by omega)).1, Option.bind_some, w64 (x := (i : Int) + 1) (by omega) (by omega), e]
    exact are_step L i _ _ hi (are_spec L hl hx d (i + 1) k (by omega) (by omega)) (by omega)
theorem are_impl (L : List IS) (hl : L.length ≤ 1048576) (hx : ∀ x ∈ L, okI x) : ∀ (d i k : Nat), i + d = L.length → d + 80 < k → impl_AreSounds.l0 k L L (L.length : Int) (i : Int) = some (allc L d i && decide (L.length ≤ 16))
  | _, _, 0, _, h => by omega
  | 0, i, k + 1, h2, h3 => by
    rw [impl_AreSounds.l0, if_neg (by omega)]
    by_cases c : L.length ≤ 16
    · rw [decide_eq_true c, decide_eq_true (by omega)]; rfl
    · rw [decide_eq_false c, decide_eq_false (by omega)]; rfl
  | d + 1, i, k + 1, h2, h3 => by
    have hi : i < L.length := by omega
    have e : ((i : Int) + 1) = ((i + 1 : Nat) : Int) := by omega
    have ho : okI (rd_T49 L (i : Int)) := by rw [rdI_at hi]; exact hx _ (List.getElem_mem _)
    rw [impl_AreSounds.l0, if_pos (by omega), if_pos (by omega), if_pos (by omega), (sound_k _ ho k (by omega)).2, Option.bind_some, w64 (x := (i : Int) + 1) (by omega) (by omega), e]
    refine (are_step L i _ _ hi (are_impl L hl hx d (i + 1) k (by omega) (by omega)) (by omega)).trans ?_
    rw [allc, Bool.and_assoc]
theorem are_both (L : List IS) (hl : L.length ≤ 1048576) (hx : ∀ x ∈ L, okI x) (k : Nat) (hk : 2100000 ≤ k) : ∃ b, spec_l06Are.f k L = some b ∧ impl_AreSounds.f k L = some b := by
  have h2 : impl_AreSounds.f k L = some (allc L L.length 0 && decide (L.length ≤ 16)) := are_impl L hl hx L.length 0 k (by omega) (by omega)
  by_cases c : L.length ≤ 16
  · refine ⟨allc L L.length 0, are_spec L c hx L.length 0 k (by omega) (by omega), ?_⟩
    rw [h2, decide_eq_true c, Bool.and_true]
  · refine ⟨false, ?_, by rw [h2, decide_eq_false c, Bool.and_false]⟩
    obtain ⟨k, rfl⟩ : ∃ m, k = m + 2 := ⟨k - 2, by omega⟩
    unfold spec_l06Are.f
    rw [spec_l06Are.l0, if_pos (by omega), decide_eq_false (by omega), spec_l06Are.j1, if_neg (by decide), decide_eq_false (by omega)]
theorem rdS_at {l : List ByteArray} {i : Nat} (h : i < l.length) : rdOf ByteArray.empty l (i : Int) = l[i]'h := by
  unfold rdOf
  rw [Int.toNat_natCast, List.getD_eq_getElem?_getD, List.getElem?_eq_getElem h]; rfl
theorem mtl (m : Nat) : ∀ (k x : Nat) (s : ByteArray), x < 10 ^ m → m < k → s.size + m ≤ 1000 → x ≤ 100000000000000000 → ∃ t, laws_markText.l0 k (x : Int) s = some t := by
  induction m with
  | zero =>
    intro k x s hx hk hs h9
    obtain ⟨k, rfl⟩ : ∃ m, k = m + 1 := ⟨k - 1, by omega⟩
    have hx0 : x = 0 := by simpa using hx
    rw [laws_markText.l0, if_neg (by omega), if_pos (by omega)]
    exact ⟨_, rfl⟩
  | succ m ih =>
    intro k x s hx hk hs h9
    obtain ⟨k, rfl⟩ : ∃ m, k = m + 1 := ⟨k - 1, by omega⟩
    by_cases c : (x : Int) > 0
    · have hd : wrap64 (Int.tdiv (x : Int) 10) = ((x / 10 : Nat) : Int) := by
        rw [Int.tdiv_eq_ediv_of_nonneg (by omega), w64 (by omega) (by omega)]; omega
      have h10 : x / 10 < 10 ^ m := by
        rw [Nat.pow_succ] at hx
        exact Nat.div_lt_of_lt_mul (by rw [Nat.mul_comm]; exact hx)
      rw [laws_markText.l0, if_pos c, Option.bind_some, hd]
      have hsz : ∀ z : Int, (strOfNums [z]).size = 1 := fun z => by simp [strOfNums, ByteArray.size]
      rw [hsz, if_pos (by omega)]
      exact ih k (x / 10) _ h10 (by omega) (by rw [ByteArray.size_append, hsz]; omega) (by omega)
    · rw [laws_markText.l0, if_neg c, if_pos (by omega)]
      exact ⟨_, rfl⟩
theorem mt_some (x : Nat) (hx : x < 10000000000000000) (k : Nat) (hk : 16 < k) : ∃ t, laws_markText.f k (x : Int) = some t := by
  unfold laws_markText.f
  by_cases c : (x : Int) ≤ 0
  · rw [if_pos c]; exact ⟨_, rfl⟩
  · rw [if_neg c]
    exact mtl 16 k x _ (by omega) hk (by decide) (by omega)
theorem mkA_ok : ∀ n, n < 2200 → fne .f32 (floatOfInt .f32 (n : Nat)) (floatOfInt .f32 (n : Nat)) = false := by
  have h : (List.range 2200).all (fun n => !fne .f32 (floatOfInt .f32 (n : Nat)) (floatOfInt .f32 (n : Nat))) = true := by kernel_rfl
  intro n hn
  have := List.all_eq_true.1 h n (List.mem_range.2 hn)
  simpa using this
def marksA (a n : Nat) : List Nat := (List.range n).map fun j => floatOfInt .f32 ((a + j : Nat) : Int)
theorem marksA_len (a n : Nat) : (marksA a n).length = n := by unfold marksA; rw [List.length_map, List.length_range]
theorem marksA_at {a n i : Nat} (h : i < n) : (marksA a n)[i]? = some (floatOfInt .f32 ((a + i : Nat) : Int)) := by
  unfold marksA
  rw [List.getElem?_map, List.getElem?_range h]; rfl
theorem marklA (a n : Nat) (ha : a ≤ 1000000000000000) (hn : n ≤ 1048576) : ∀ (d k : Nat) (xs : List Nat) (i : Nat), i + d = n → xs.length = n → xs.take i = (marksA a n).take i → d < k →
    laws_markFloat32S.l0 k xs ((a + i : Nat) : Int) (i : Int) = some (((a + n : Nat) : Int), marksA a n)
  | d, 0, xs, i, h1, hl, ht, hk => by omega
  | 0, k + 1, xs, i, h1, hl, ht, hk => by
    unfold laws_markFloat32S.l0
    obtain rfl : i = n := by omega
    rw [if_neg (by omega), List.take_of_length_le (by omega), List.take_of_length_le (by rw [marksA_len]; omega)] at *
    rw [ht]
  | d + 1, k + 1, xs, i, h1, hl, ht, hk => by
    unfold laws_markFloat32S.l0
    have e1 : wrap64 ((i : Int) + 1) = ((i + 1 : Nat) : Int) := by rw [w64 (by omega) (by omega)]; omega
    have e2 : wrap64 (((a + i : Nat) : Int) + 1) = ((a + (i + 1) : Nat) : Int) := by rw [w64 (by omega) (by omega)]; omega
    rw [if_pos (by omega), if_pos (by omega), e1, e2]
    refine marklA a n ha hn d k _ (i + 1) (by omega) (by rw [List.length_set]; exact hl) ?_ (by omega)
    rw [Int.toNat_natCast]
    exact take_set_succ (by rw [marksA_len]; omega) (by rw [marksA_len]; exact hl) ht (marksA_at (by omega))
theorem markA_some (a : Nat) (ha : a ≤ 1000000000000000) (l : List Nat) (hl : l.length ≤ 1048576) (k : Nat) (hk : l.length < k) : laws_markFloat32S.f k l (a : Int) = some (((a + l.length : Nat) : Int), marksA a l.length) :=
  marklA a l.length ha hl l.length k l 0 (by omega) rfl rfl hk
theorem heldlA (a n : Nat) (ha : a + n ≤ 2200) : ∀ (d k : Nat) (i : Nat), i + d = n → d < k →
    laws_heldFloat32S.l0 k (marksA a n) ((a + i : Nat) : Int) (i : Int) = some ((a + n : Nat) : Int)
  | d, 0, i, h1, hk => by omega
  | 0, k + 1, i, h1, hk => by
    unfold laws_heldFloat32S.l0
    obtain rfl : i = n := by omega
    rw [if_neg (by rw [marksA_len]; omega)]
  | d + 1, k + 1, i, h1, hk => by
    unfold laws_heldFloat32S.l0
    have e1 : wrap64 ((i : Int) + 1) = ((i + 1 : Nat) : Int) := by rw [w64 (by omega) (by omega)]; omega
    have e2 : wrap64 (((a + i : Nat) : Int) + 1) = ((a + (i + 1) : Nat) : Int) := by rw [w64 (by omega) (by omega)]; omega
    have e3 : rdOf (0 : Nat) (marksA a n) (i : Int) = floatOfInt .f32 ((a + i : Nat) : Int) := by
      unfold rdOf
      rw [Int.toNat_natCast, List.getD_eq_getElem?_getD, marksA_at (by omega)]; rfl
    rw [if_pos (by rw [marksA_len]; omega), if_pos (by omega), e3, mkA_ok (a + i) (by omega), if_neg (by simp), e1, e2]
    exact heldlA a n ha d k (i + 1) (by omega) (by omega)
theorem heldA_some (a n : Nat) (ha : a + n ≤ 2200) (k : Nat) (hk : n < k) : laws_heldFloat32S.f k (marksA a n) (a : Int) = some ((a + n : Nat) : Int) :=
  heldlA a n ha n k 0 (by omega) hk
def nnan (x : Nat) : Prop := ∀ s t, FloatKind.f32.format.read x ≠ .nan s t
theorem word_ok (s : Bool) (r : Nat) (hr : r ≤ 2139095040) : nnan (FloatKind.f32.format.word s r) ∧ FloatKind.f32.format.word s r < 4294967296 := by
  have e1 : FloatKind.f32.format.signWeight = 2147483648 := by decide +kernel
  have e2 : FloatKind.f32.format.infRung = 2139095040 := by decide +kernel
  have hw : FloatKind.f32.format.word s r % 2147483648 = r ∧ FloatKind.f32.format.word s r < 4294967296 := by
    unfold Ieee.Format.word
    rw [e1]
    cases s <;> simp <;> omega
  refine ⟨fun s2 t => ?_, hw.2⟩
  unfold Ieee.Format.read
  simp only [e1, e2, hw.1]
  split
  · exact fun h => by cases h
  · split
    · exact fun h => by cases h
    · split
      · exact fun h => by cases h
      · omega
theorem write_ok (d : Ieee.Datum) (hd : ∀ s t, d ≠ .nan s t) : nnan (FloatKind.f32.format.write d) ∧ FloatKind.f32.format.write d < 4294967296 := by
  have e2 : FloatKind.f32.format.infRung = 2139095040 := by decide +kernel
  cases d with
  | nan s t => exact absurd rfl (hd s t)
  | infinity s => exact word_ok s _ (by rw [e2]; exact Nat.le_refl _)
  | number s m e =>
    show nnan (FloatKind.f32.format.nearest s m e) ∧ FloatKind.f32.format.nearest s m e < 4294967296
    unfold Ieee.Format.nearest
    split
    · exact word_ok s 0 (by decide)
    · exact word_ok s _ (by rw [e2]; exact Nat.min_le_right _ _)
theorem mul_ok (x c m : Nat) (e : Int) (hx : nnan x) (hc : FloatKind.f32.format.read c = .number false m e) (hm : m ≠ 0) : foprOk .mul .f32 x c = true ∧ nnan (fopr .mul .f32 x c) ∧ fopr .mul .f32 x c < 4294967296 := by
  have hb : floatBits .mul .f32 x c = ((FloatKind.f32.format.read x).product (FloatKind.f32.format.read c)).map FloatKind.f32.format.write := rfl
  have key : ∀ d, (FloatKind.f32.format.read x).product (FloatKind.f32.format.read c) = some d → (∀ s t, d ≠ .nan s t) → foprOk .mul .f32 x c = true ∧ nnan (fopr .mul .f32 x c) ∧ fopr .mul .f32 x c < 4294967296 := by
    intro d hd hn
    unfold foprOk fopr
    rw [hb, hd]
    exact ⟨rfl, write_ok d hn⟩
  rw [hc] at key
  cases hr : FloatKind.f32.format.read x with
  | nan s t => exact absurd hr (hx s t)
  | infinity s => exact key (.infinity (s ^^ false)) (by rw [hr]; simp [Ieee.Datum.product, hm]) (fun s t h => by cases h)
  | number s m2 e2 => exact key (.number (s ^^ false) (m2 * m) (e2 + e)) (by rw [hr]; rfl) (fun s t h => by cases h)
theorem fin_nn (x : Nat) (h : finB x = true) : nnan x := by
  intro s t hr
  have h2 := fin_nan x h
  rw [hr] at h2
  cases h2
theorem mul125 (x : Nat) (hx : nnan x) : foprOk .mul .f32 x 1067450368 = true ∧ nnan (fopr .mul .f32 x 1067450368) ∧ fopr .mul .f32 x 1067450368 < 4294967296 :=
  mul_ok x _ 10485760 (-23) hx (by decide +kernel) (by decide)
theorem mul150 (x : Nat) (hx : nnan x) : foprOk .mul .f32 x 1069547520 = true ∧ nnan (fopr .mul .f32 x 1069547520) ∧ fopr .mul .f32 x 1069547520 < 4294967296 :=
  mul_ok x _ 12582912 (-23) hx (by decide +kernel) (by decide)
theorem sdB_facts (x : IS) (hx : okI x) (h : soundB x = true) : x.f1.length ≤ 16 ∧ finB x.f2 = true ∧ finB x.f3 = true := by
  have h1 := (sound_k x hx 64 (by omega)).1
  rw [h] at h1
  have h0 : rd_T49 [x] 0 = x := rfl
  unfold spec_l06Sound.f at h1
  rw [if_pos (by simp), h0] at h1
  obtain ⟨b1, -, h1⟩ := Option.bind_eq_some_iff.mp h1
  cases b1 with
  | false => simp at h1
  | true =>
    rw [if_pos rfl] at h1
    obtain ⟨b2, ha, h1⟩ := Option.bind_eq_some_iff.mp h1
    cases b2 with
    | false => simp at h1
    | true =>
      have hlen : x.f1.length ≤ 16 := by
        rcases Nat.lt_or_ge 16 x.f1.length with c | c
        · have := areas_long x.f1 (by omega) 64 (by omega)
          rw [this] at ha
          cases ha
        · exact c
      rw [if_pos rfl, ab_spec, Option.bind_some] at h1
      cases hf : finB x.f2 with
      | false => unfold ab at h1; rw [hf] at h1; simp at h1
      | true =>
        cases hg : ab x.f2 with
        | false => rw [hg] at h1; simp at h1
        | true =>
          rw [hg, if_pos rfl] at h1
          obtain ⟨b3, hb3, h1⟩ := Option.bind_eq_some_iff.mp h1
          cases b3 with
          | false => simp at h1
          | true =>
            refine ⟨hlen, rfl, ?_⟩
            unfold spec_l02Least.f spec_l01Finite.f at hb3
            cases hf3 : finB x.f3 with
            | true => rfl
            | false => rw [hf3] at hb3; simp at hb3
theorem allc_at (L : List IS) : ∀ d i, allc L d i = true → ∀ j, i ≤ j → j < i + d → soundB (rd_T49 L (j : Int)) = true
  | 0, i, _, j, h1, h2 => by omega
  | d + 1, i, h, j, h1, h2 => by
    rw [allc, Bool.and_eq_true] at h
    by_cases c : j = i
    · subst c
      have := h.1
      unfold cnd at this
      rw [Bool.and_eq_true] at this
      exact this.1
    · exact allc_at L d (i + 1) h.2 j (by omega) (by omega)
def areB (L : List IS) : Bool := allc L L.length 0 && decide (L.length ≤ 16)
theorem areB_impl (L : List IS) (hl : L.length ≤ 1048576) (hx : ∀ x ∈ L, okI x) (k : Nat) (hk : 2100000 ≤ k) : impl_AreSounds.f k L = some (areB L) := are_impl L hl hx L.length 0 k (by omega) (by omega)
theorem areB_spec (L : List IS) (hl : L.length ≤ 1048576) (hx : ∀ x ∈ L, okI x) (k : Nat) (hk : 2100000 ≤ k) : spec_l06Are.f k L = some (areB L) := by
  obtain ⟨b, h1, h2⟩ := are_both L hl hx k hk
  rw [areB_impl L hl hx k hk] at h2
  rw [h1, h2]
theorem areB_facts (L : List IS) (hx : ∀ x ∈ L, okI x) (h : areB L = true) : L.length ≤ 16 ∧ ∀ j : Nat, j < L.length → (rd_T49 L (j : Int)).f1.length ≤ 16 ∧ finB (rd_T49 L (j : Int)).f2 = true ∧ finB (rd_T49 L (j : Int)).f3 = true := by
  unfold areB at h
  rw [Bool.and_eq_true] at h
  refine ⟨of_decide_eq_true h.2, fun j hj => ?_⟩
  exact sdB_facts _ (by rw [rdI_at hj]; exact hx _ (List.getElem_mem _)) (allc_at L L.length 0 h.1 j (by omega) (by omega))
theorem okI_cv (x : LS) (h : okS x) (hz : x.f0.size ≤ 1048576 ∧ x.f1.length ≤ 1048576) : okI (cv1 x) := ⟨hz.1, hz.2, h.2.1.2, h.2.2.1, h.2.2.2.1, h.2.2.2.2.1, h.2.2.2.2.2⟩
theorem copy_spec (x : IS) (hx : x.f1.length ≤ 1048576) : spec_l06Copy.f [x] = some (x.f0, x.f1, x.f2, x.f3, x.f4, x.f5) := by
  have h0 : rd_T49 [x] 0 = x := rfl
  unfold spec_l06Copy.f
  rw [if_pos (by simp), Option.bind_some, h0, if_pos (by simp; omega), List.nil_append]
def fnd (L : List IS) (s : ByteArray) : Nat → Nat → Int
  | 0, _ => -1
  | d + 1, i => if (rd_T49 L (i : Int)).f0.toList = s.toList then (i : Int) else fnd L s d (i + 1)
theorem fnd_in (L : List IS) (s : ByteArray) : ∀ d i, fnd L s d i = -1 ∨ ∃ j : Nat, fnd L s d i = (j : Int) ∧ j < i + d
  | 0, i => .inl rfl
  | d + 1, i => by
    unfold fnd
    split
    · exact .inr ⟨i, rfl, by omega⟩
    · rcases fnd_in L s d (i + 1) with h | ⟨j, h, hj⟩
      · exact .inl h
      · exact .inr ⟨j, h, by omega⟩
theorem fs1 (x : IS) (s : ByteArray) : impl_findSound_1.f x.f0 x.f1 x.f2 x.f3 x.f4 x.f5 [(⟨s⟩ : S9)] = some (x.f0.toList == s.toList) := rfl
theorem find_impl (L : List IS) (hl : L.length ≤ 1048576) (s : ByteArray) : ∀ (d i k : Nat), i + d = L.length → d < k → slices_IndexFunc_v_impl_findSound_1.l0 k L (L.length : Int) (i : Int) [(⟨s⟩ : S9)] = some (fnd L s d i)
  | _, _, 0, _, h => by omega
  | 0, i, k + 1, h1, h2 => by
    rw [slices_IndexFunc_v_impl_findSound_1.l0, if_neg (by omega)]; rfl
  | d + 1, i, k + 1, h1, h2 => by
    have e : ((i : Int) + 1) = ((i + 1 : Nat) : Int) := by omega
    rw [slices_IndexFunc_v_impl_findSound_1.l0, if_pos (by omega), if_pos (by omega), if_pos (by omega), fs1, Option.bind_some, fnd]
    by_cases c : (rd_T49 L (i : Int)).f0.toList = s.toList
    · rw [if_pos (by rw [c]; exact beq_self_eq_true _), if_pos c]
    · rw [if_neg (by rw [beq_iff_eq]; exact c), if_neg c, w64 (by omega) (by omega), e]; exact find_impl L hl s d (i + 1) k (by omega) (by omega)
def fd (L : List IS) (s : ByteArray) : Int := fnd L s L.length 0
theorem fd_impl (L : List IS) (hl : L.length ≤ 1048576) (s : ByteArray) (k : Nat) (hk : 1048577 ≤ k) : impl_findSound.f k L s = some (fd L s) := by
  unfold impl_findSound.f slices_IndexFunc_v_impl_findSound_1.f
  have h := find_impl L hl s L.length 0 k (by omega) (by omega)
  rw [show ((0 : Nat) : Int) = 0 from rfl] at h
  rw [h]; rfl
theorem fd_in (L : List IS) (s : ByteArray) : fd L s = -1 ∨ ∃ j : Nat, fd L s = (j : Int) ∧ j < L.length := by
  rcases fnd_in L s L.length 0 with h | ⟨j, h, hj⟩
  · exact .inl h
  · exact .inr ⟨j, h, by omega⟩
theorem fnd_name (L : List IS) (s : ByteArray) : ∀ (d i j : Nat), fnd L s d i = (j : Int) → (rd_T49 L (j : Int)).f0.toList = s.toList
  | 0, i, j, h => by unfold fnd at h; omega
  | d + 1, i, j, h => by
    unfold fnd at h
    split at h
    · rename_i c
      have : i = j := by omega
      subst this
      exact c
    · exact fnd_name L s d (i + 1) j h
theorem fd_name (L : List IS) (s : ByteArray) {j : Nat} (h : fd L s = (j : Int)) (hj : j < L.length) : L[j].f0.toList = s.toList := by
  have := fnd_name L s L.length 0 j h
  rwa [rdI_at hj] at this
theorem less_irrefl : ∀ x : List UInt8, Op.bytesLess x x = false
  | [] => rfl
  | a :: x => by
    unfold Op.bytesLess
    rw [less_irrefl x]
    simp
theorem less_trans : ∀ x y z : List UInt8, Op.bytesLess x y = true → Op.bytesLess y z = true → Op.bytesLess x z = true
  | _, [], _, h, _ => by cases ‹List UInt8› <;> simp [Op.bytesLess] at h
  | _, _ :: _, [], _, h => by simp [Op.bytesLess] at h
  | [], _ :: _, _ :: _, _, _ => rfl
  | a :: x, b :: y, c :: z, h1, h2 => by
    unfold Op.bytesLess at h1 h2 ⊢
    simp only [Bool.or_eq_true, decide_eq_true_eq, Bool.and_eq_true, beq_iff_eq] at h1 h2 ⊢
    rcases h1 with h1 | ⟨rfl, h1⟩
    · rcases h2 with h2 | ⟨rfl, h2⟩
      · exact .inl (UInt8.lt_trans h1 h2)
      · exact .inl h1
    · rcases h2 with h2 | ⟨rfl, h2⟩
      · exact .inl h2
      · exact .inr ⟨rfl, less_trans x y z h1 h2⟩
theorem less_tri : ∀ x y : List UInt8, Op.bytesLess x y = true ∨ x = y ∨ Op.bytesLess y x = true
  | [], [] => .inr (.inl rfl)
  | [], _ :: _ => .inl rfl
  | _ :: _, [] => .inr (.inr rfl)
  | a :: x, b :: y => by
    unfold Op.bytesLess
    simp only [Bool.or_eq_true, decide_eq_true_eq, Bool.and_eq_true, beq_iff_eq]
    by_cases h1 : a < b
    · exact .inl (.inl h1)
    · by_cases h2 : b < a
      · exact .inr (.inr (.inl h2))
      · have e : a = b := UInt8.le_antisymm (UInt8.not_lt.1 h2) (UInt8.not_lt.1 h1)
        subst e
        rcases less_tri x y with h | h | h
        · exact .inl (.inr ⟨rfl, h⟩)
        · exact .inr (.inl (by rw [h]))
        · exact .inr (.inr (.inr ⟨rfl, h⟩))
theorem allc_less (L : List IS) : ∀ d i, allc L d i = true → ∀ j, i ≤ j → j < i + d → lessP L j = true
  | 0, i, _, j, h1, h2 => by omega
  | d + 1, i, h, j, h1, h2 => by
    rw [allc, Bool.and_eq_true] at h
    by_cases c : j = i
    · subst c
      have := h.1
      unfold cnd at this
      rw [Bool.and_eq_true, Bool.and_eq_true] at this
      exact this.2.2
    · exact allc_less L d (i + 1) h.2 j (by omega) (by omega)
theorem names_lt (L : List IS) (h : areB L = true) (i : Nat) : ∀ (d : Nat) (h1 : i + d + 1 < L.length), Op.bytesLess (L[i]'(by omega)).f0.toList (L[i + d + 1]).f0.toList = true := by
  have hs : ∀ (j : Nat) (h2 : j + 1 < L.length), Op.bytesLess (L[j]'(by omega)).f0.toList (L[j + 1]).f0.toList = true := fun j h2 => by
    unfold areB at h
    rw [Bool.and_eq_true] at h
    have h3 := allc_less L L.length 0 h.1 (j + 1) (by omega) (by omega)
    unfold lessP at h3
    rw [decide_eq_false (by omega), Bool.false_or, Nat.add_sub_cancel, rdI_at h2, rdI_at (show j < L.length by omega)] at h3
    exact h3
  intro d
  induction d with
  | zero => intro h1; exact hs i h1
  | succ d ih => intro h1; exact less_trans _ _ _ (ih (by omega)) (hs (i + d + 1) h1)
theorem names_ne (L : List IS) (h : areB L = true) (i j : Nat) (hi : i < L.length) (hj : j < L.length) (hij : i ≠ j) : L[i].f0.toList ≠ L[j].f0.toList := by
  intro he
  rcases Nat.lt_or_gt_of_ne hij with c | c
  · have h1 := names_lt L h i (j - i - 1) (by omega)
    have e : i + (j - i - 1) + 1 = j := by omega
    simp only [e] at h1
    rw [he, less_irrefl] at h1
    cases h1
  · have h1 := names_lt L h j (i - j - 1) (by omega)
    have e : j + (i - j - 1) + 1 = i := by omega
    simp only [e] at h1
    rw [he, less_irrefl] at h1
    cases h1
structure Few (r : List IS) : Prop where
  len : r.length ≤ 16
  ok : ∀ x ∈ r, okI x
  areas : ∀ j : Nat, j < r.length → (rd_T49 r (j : Int)).f1.length ≤ 16
theorem few_nil : Few [] := ⟨by decide, fun x hx => (List.not_mem_nil hx).elim, fun j hj => absurd hj (Nat.not_lt_zero j)⟩
theorem few_of (L : List IS) (hx : ∀ x ∈ L, okI x) (h : areB L = true) : Few L := ⟨(areB_facts L hx h).1, hx, fun j hj => ((areB_facts L hx h).2 j hj).1⟩
theorem few_sub {L r : List IS} (h : Few L) (hs : r.Sublist L) : Few r := by
  refine ⟨Nat.le_trans hs.length_le h.len, fun x hx => h.ok x (hs.subset hx), fun j hj => ?_⟩
  rw [rdI_at hj]
  obtain ⟨i, hi, e⟩ := List.getElem_of_mem (hs.subset (List.getElem_mem hj))
  rw [← e, ← rdI_at hi]
  exact h.areas i hi
theorem fnd_none (L : List IS) (s : ByteArray) : ∀ (d i : Nat), fnd L s d i = -1 → ∀ j, i ≤ j → j < i + d → (rd_T49 L (j : Int)).f0.toList ≠ s.toList
  | 0, i, _, j, h1, h2 => by omega
  | d + 1, i, h, j, h1, h2 => by
    unfold fnd at h
    split at h
    · omega
    · rename_i c
      by_cases e : j = i
      · subst e; exact c
      · exact fnd_none L s d (i + 1) h j (by omega) (by omega)
theorem fd_none (L : List IS) (s : ByteArray) (h : fd L s = -1) : ∀ y ∈ L, y.f0.toList ≠ s.toList := by
  intro y hy
  obtain ⟨j, hj, rfl⟩ := List.getElem_of_mem hy
  have := fnd_none L s L.length 0 h j (by omega) (by omega)
  rwa [rdI_at hj] at this
def ins (x : IS) : List IS → List IS
  | [] => [x]
  | y :: L => if Op.bytesLess x.f0.toList y.f0.toList = true then x :: y :: L else y :: ins x L
theorem ins_perm (x : IS) : ∀ L, (ins x L).Perm (L ++ [x])
  | [] => List.Perm.refl _
  | y :: L => by
    unfold ins
    split
    · exact (List.perm_append_singleton x (y :: L)).symm
    · exact (ins_perm x L).cons y
theorem ins_mem (x : IS) (L : List IS) (y : IS) : y ∈ ins x L ↔ y ∈ L ∨ y = x := by
  rw [(ins_perm x L).mem_iff, List.mem_append, List.mem_singleton]
theorem ins_len (x : IS) (L : List IS) : (ins x L).length = L.length + 1 := by
  rw [(ins_perm x L).length_eq, List.length_append]; rfl
abbrev Asc (L : List IS) : Prop := L.Pairwise (fun a b => Op.bytesLess a.f0.toList b.f0.toList = true)
theorem ins_asc (x : IS) : ∀ L, Asc L → (∀ y ∈ L, y.f0.toList ≠ x.f0.toList) → Asc (ins x L)
  | [], _, _ => List.pairwise_singleton _ _
  | y :: L, h, hx => by
    obtain ⟨h1, h2⟩ := List.pairwise_cons.1 h
    unfold ins
    split
    · rename_i c
      refine List.pairwise_cons.2 ⟨fun z hz => ?_, h⟩
      rcases List.mem_cons.1 hz with rfl | hz
      · exact c
      · exact less_trans _ _ _ c (h1 z hz)
    · rename_i c
      refine List.pairwise_cons.2 ⟨fun z hz => ?_, ins_asc x L h2 (fun z hz => hx z (List.mem_cons_of_mem _ hz))⟩
      rcases (ins_mem x L z).1 hz with hz | rfl
      · exact h1 z hz
      · rcases less_tri y.f0.toList z.f0.toList with c2 | c2 | c2
        · exact c2
        · exact absurd c2 (hx y (List.mem_cons_self ..))
        · exact absurd c2 c
theorem areB_asc (L : List IS) (h : areB L = true) : Asc L := by
  refine List.pairwise_iff_getElem.2 (fun i j hi hj hij => ?_)
  have h1 := names_lt L h i (j - i - 1) (by omega)
  have e : i + (j - i - 1) + 1 = j := by omega
  simp only [e] at h1
  exact h1
theorem ins_bad (x : IS) (L : List IS) (y : IS) (hy : y ∈ L) (he : y.f0.toList = x.f0.toList) : areB (ins x L) = false := by
  cases h : areB (ins x L) with
  | false => rfl
  | true =>
    have h1 : (ins x L).Pairwise (fun a b => a.f0.toList ≠ b.f0.toList) := (areB_asc _ h).imp (fun {a b} h2 h3 => by rw [h3, less_irrefl] at h2; cases h2)
    have h2 := ((ins_perm x L).pairwise_iff (fun {a b} h3 => Ne.symm h3)).1 h1
    exact absurd he ((List.pairwise_append.1 h2).2.2 y hy x (List.mem_singleton.2 rfl))
def give (R : List IS) : List IS × Bool := if areB R = true then (R, true) else ([], false)
theorem give_spec (R : List IS) (hl : R.length ≤ 1048576) (hx : ∀ x ∈ R, okI x) (k : Nat) (hk : 2100000 ≤ k) : spec_l06Give.f k R = some (give R) := by
  unfold spec_l06Give.f give
  rw [areB_spec R hl hx k hk, Option.bind_some]
  cases areB R <;> rfl
theorem give_two (R : List IS) : ((some (give R) : Option (List IS × Bool)).bind fun b => some (b.1, b.2)) = some (give R) := rfl
abbrev rest (x : IS) (put : Bool) (L : List IS) : List IS := if put = true then L else ins x L
theorem add_spec (L : List IS) (hl : L.length ≤ 16) (hx : ∀ x ∈ L, okI x) (x : IS) (ho : okI x) : ∀ (d i k : Nat) (out : List IS) (put : Bool), i + d = L.length → 2 * d + 2100005 ≤ k → out.length ≤ 2 * i + 1 → (∀ y ∈ out, okI y) →
    spec_AddSound.l0 k L out put (i : Int) x.f0 x.f1 x.f2 x.f3 x.f4 x.f5 = some (give (out ++ rest x put (L.drop i)))
  | _, _, 0, _, _, _, h, _, _ => by omega
  | _, _, 1, _, _, _, h, _, _ => by omega
  | 0, i, k + 2, out, put, h1, h2, h3, h4 => by
    have hd : L.drop i = [] := List.drop_eq_nil_of_le (by omega)
    rw [spec_AddSound.l0, if_neg (by omega), hd]
    cases put with
    | true =>
      rw [if_pos rfl, give_spec out (by omega) h4 _ (by omega), give_two, rest, if_pos rfl, List.append_nil]
    | false =>
      rw [if_neg (by decide), copy_spec _ ho.2.1, Option.bind_some, if_pos (by omega), rest, if_neg (by decide), ins]
      rw [give_spec _ (by rw [List.length_append]; simp only [List.length_cons, List.length_nil]; omega) (fun y hy => by
        rcases List.mem_append.1 hy with hy | hy
        · exact h4 y hy
        · obtain rfl := List.mem_singleton.1 hy
          exact ho) _ (by omega)]
      rfl
  | d + 1, i, k + 2, out, put, h1, h2, h3, h4 => by
    have hi : i < L.length := by omega
    have e : ((i : Int) + 1) = ((i + 1 : Nat) : Int) := by omega
    have hLi := hx _ (List.getElem_mem hi)
    have hdr : L.drop i = L[i] :: L.drop (i + 1) := List.drop_eq_getElem_cons hi
    have hok1 : ∀ y ∈ out ++ [L[i]], okI y := fun y hy => by
      rcases List.mem_append.1 hy with hy | hy
      · exact h4 y hy
      · obtain rfl := List.mem_singleton.1 hy
        exact hLi
    have hok2 : ∀ y ∈ out ++ [x] ++ [L[i]], okI y := fun y hy => by
      rcases List.mem_append.1 hy with hy | hy
      · rcases List.mem_append.1 hy with hy | hy
        · exact h4 y hy
        · obtain rfl := List.mem_singleton.1 hy
          exact ho
      · obtain rfl := List.mem_singleton.1 hy
        exact hLi
    have step : ∀ put, rest x put (L.drop i) = L[i] :: rest x put (L.drop (i + 1)) → spec_AddSound.j1 (k + 1) L out put (i : Int) false x.f0 x.f1 x.f2 x.f3 x.f4 x.f5 = some (give (out ++ rest x put (L.drop i))) := by
      intro put hr
      have ih := add_spec L hl hx x ho d (i + 1) k (out ++ [L[i]]) put (by omega) (by omega) (by rw [List.length_append]; simp only [List.length_cons, List.length_nil]; omega) hok1
      rw [List.append_assoc, List.singleton_append, ← hr] at ih
      rw [spec_AddSound.j1, if_neg (by decide), if_pos (by omega), if_pos (by omega), rdI_at hi, copy_spec _ hLi.2.1, Option.bind_some, if_pos (by omega), w64 (by omega) (by omega), e]
      exact ih
    rw [spec_AddSound.l0, if_pos (by omega)]
    cases put with
    | true =>
      rw [if_pos rfl]
      exact step true (by rw [rest, if_pos rfl, rest, if_pos rfl, hdr])
    | false =>
      rw [if_neg (by decide), if_pos (by omega), rdI_at hi]
      cases c : Op.bytesLess x.f0.toList L[i].f0.toList with
      | false =>
        refine step false ?_
        rw [rest, if_neg (by decide), rest, if_neg (by decide), hdr, ins, if_neg (by rw [c]; decide)]
      | true =>
        have ih := add_spec L hl hx x ho d (i + 1) k (out ++ [x] ++ [L[i]]) true (by omega) (by omega) (by simp only [List.length_append, List.length_cons, List.length_nil]; omega) hok2
        have e2 : out ++ [x] ++ [L[i]] ++ L.drop (i + 1) = out ++ x :: L.drop i := by rw [hdr, List.append_assoc, List.append_assoc]; rfl
        rw [rest, if_pos rfl, e2] at ih
        have hr : rest x false (L.drop i) = x :: L.drop i := by
          rw [rest, if_neg (by decide), hdr, ins, if_pos c]
        rw [hr]
        rw [spec_AddSound.j1, if_pos rfl, copy_spec _ ho.2.1, Option.bind_some, if_pos (by omega), Option.bind_some, if_pos (by omega), if_pos (by omega), rdI_at hi, copy_spec _ hLi.2.1, Option.bind_some, if_pos (by rw [List.length_append]; simp only [List.length_cons, List.length_nil]; omega), w64 (by omega) (by omega), e]
        exact ih
def addOf (L : List IS) (x : IS) : List IS × Bool := if areB L = true then give (ins x L) else ([], false)
theorem addOf_spec (L : List IS) (hl : L.length ≤ 1048576) (hx : ∀ x ∈ L, okI x) (x : IS) (ho : okI x) (k : Nat) (hk : 5000000 ≤ k) : spec_AddSound.f k L x.f0 x.f1 x.f2 x.f3 x.f4 x.f5 = some (addOf L x) := by
  unfold spec_AddSound.f addOf
  rw [areB_spec L hl hx k (by omega), Option.bind_some]
  cases ha : areB L with
  | false => rfl
  | true =>
    have hf := areB_facts L hx ha
    rw [if_pos rfl, if_pos rfl]
    have h := add_spec L hf.1 hx x ho L.length 0 k [] false (by omega) (by omega) (by simp) (fun y hy => (List.not_mem_nil hy).elim)
    rw [rest, if_neg (by decide), List.drop_zero, List.nil_append] at h
    exact h
theorem ins_ok (L : List IS) (hx : ∀ x ∈ L, okI x) (x : IS) (ho : okI x) : ∀ y ∈ ins x L, okI y := fun y hy => by
  rcases (ins_mem x L y).1 hy with hy | rfl
  · exact hx y hy
  · exact ho
theorem addOf_few (L : List IS) (hx : ∀ x ∈ L, okI x) (x : IS) (ho : okI x) : Few (addOf L x).1 := by
  unfold addOf give
  split
  · split
    · rename_i h
      exact few_of _ (ins_ok L hx x ho) h
    · exact few_nil
  · exact few_nil
attribute [local irreducible] flA floatOfInt marksA
theorem sd_one (k : Nat) (xs : List SD) (a i : Int) (s : ByteArray) (t1 : Int) (t2 : List Nat) (h : i < (xs.length : Int)) (hs : laws_markText.f k a = some s) (ht : laws_markFloat32S.f k (rd_T49 xs i).f1 (wrap64 (a + 1)) = some (t1, t2)) :
    sd0 (k + 1) xs a i = sd0 k (xs.set i.toNat ⟨s, t2, flA t1, flA (wrap64 (t1 + 1)), flA (wrap64 ((wrap64 (t1 + 1)) + 1)), flA (wrap64 ((wrap64 ((wrap64 (t1 + 1)) + 1)) + 1))⟩) (wrap64 ((wrap64 ((wrap64 ((wrap64 (t1 + 1)) + 1)) + 1)) + 1)) (wrap64 (i + 1)) := by
  rw [sd0, if_pos h, hs, Option.bind_some, ht, Option.bind_some]
theorem sd_step (k i a : Nat) (xs : List SD) (hi : i < xs.length) (hn : xs.length ≤ 1048576) (hq : (rd_T49 xs (i : Int)).f1.length ≤ 1048576) (ha : a ≤ 200000000000000) (hk : 1048600 < k) :
    ∃ x : SD, sd0 (k + 1) xs (a : Int) (i : Int) = sd0 k (xs.set i x) ((a + (rd_T49 xs (i : Int)).f1.length + 5 : Nat) : Int) ((i + 1 : Nat) : Int) := by
  have hil : (i : Int) < (xs.length : Int) := by omega
  have ha1 : a + 1 ≤ 1000000000000000 := by omega
  obtain ⟨l, hl⟩ : ∃ l, (rd_T49 xs (i : Int)).f1 = l := ⟨_, rfl⟩
  rw [hl] at hq ⊢
  obtain ⟨n, hn2⟩ : ∃ n, l.length = n := ⟨_, rfl⟩
  obtain ⟨t, ht⟩ := mt_some a (by omega) k (by omega)
  have e0 : wrap64 ((a : Int) + 1) = ((a + 1 : Nat) : Int) := by rw [w64 (by omega) (by omega)]; omega
  have hm := markA_some (a + 1) ha1 l hq k (by clear e0; omega)
  rw [hn2] at hm hq ⊢
  have e1 : wrap64 (((a + 1 + n : Nat) : Int) + 1) = ((a + 1 + n + 1 : Nat) : Int) := by rw [w64 (by omega) (by omega)]; omega
  have e2 : wrap64 (((a + 1 + n + 1 : Nat) : Int) + 1) = ((a + 1 + n + 2 : Nat) : Int) := by rw [w64 (by omega) (by omega)]; omega
  have e3 : wrap64 (((a + 1 + n + 2 : Nat) : Int) + 1) = ((a + 1 + n + 3 : Nat) : Int) := by rw [w64 (by omega) (by omega)]; omega
  have e4 : wrap64 (((a + 1 + n + 3 : Nat) : Int) + 1) = ((a + n + 5 : Nat) : Int) := by rw [w64 (by omega) (by omega)]; omega
  have e5 : wrap64 ((i : Int) + 1) = ((i + 1 : Nat) : Int) := by rw [w64 (by omega) (by omega)]; omega
  have h1 := sd_one k xs (a : Int) (i : Int) t _ _ hil ht (by rw [e0, hl]; exact hm)
  rw [e1, e2, e3, e4, e5, Int.toNat_natCast] at h1
  exact ⟨_, h1⟩
theorem sd_some (n : Nat) (hn : n ≤ 1048576) (d : Nat) : ∀ (i k : Nat) (xs : List SD) (a : Nat), i + d = n → xs.length = n → (∀ j : Nat, i ≤ j → j < n → (rd_T49 xs (j : Int)).f1.length ≤ 1048576) → a + d * 1048582 ≤ 100000000000000 → d + 1048600 < k →
    ∃ (r : Nat) (zs : List SD), sd0 k xs (a : Int) (i : Int) = some ((r : Int), zs) ∧ r ≤ a + d * 1048582 ∧ zs.length = n := by
  induction d with
  | zero =>
    intro i k xs a h1 hl hf ha hk
    obtain ⟨k, rfl⟩ : ∃ m, k = m + 1 := ⟨k - 1, by omega⟩
    rw [sd0, if_neg (by omega)]
    exact ⟨a, xs, rfl, by omega, hl⟩
  | succ d ih =>
    intro i k xs a h1 hl hf ha hk
    obtain ⟨k, rfl⟩ : ∃ m, k = m + 1 := ⟨k - 1, by omega⟩
    have hq := hf i (by omega) (by omega)
    obtain ⟨x, hs⟩ := sd_step k i a xs (by omega) (by omega) hq (by omega) (by omega)
    obtain ⟨r, zs, h5, h6, h7⟩ := ih (i + 1) k (xs.set i x) (a + (rd_T49 xs (i : Int)).f1.length + 5) (by omega) (by rw [List.length_set]; exact hl) (fun j hj hj2 => by
      have := hf j (by omega) hj2
      rw [rdD_getD, Int.toNat_natCast, List.getD_eq_getElem?_getD, List.getElem?_set_ne (by omega)]
      rw [rdD_getD, Int.toNat_natCast, List.getD_eq_getElem?_getD] at this
      exact this) (by omega) (by omega)
    exact ⟨r, zs, by rw [hs]; exact h5, by omega, h7⟩
theorem mt_any (x : Nat) (hx : x < 10000000000000000) : ∃ t, ∀ k, 17 ≤ k → laws_markText.f k (x : Int) = some t := by
  obtain ⟨t, ht⟩ := mt_some x hx 17 (by decide)
  exact ⟨t, fun k hk => at_rounds (g := fun k => laws_markText.f k (x : Int)) (laws_markText.mono (x : Int)) hk ht⟩
theorem sdh_one (k i a n : Nat) (xs : List SD) (t : ByteArray) (hi : i < xs.length) (hn : (rd_T49 xs (i : Int)).f1.length = n) (hs : xs.length ≤ 1048576) (ha : a + n ≤ 2000) (hk : 2000 < k) (ht : ∀ k, 17 ≤ k → laws_markText.f k (a : Int) = some t) :
    sd0 (k + 1) xs (a : Int) (i : Int) = sd0 k (xs.set i ⟨t, marksA (a + 1) n, flA ((a + 1 + n : Nat) : Int), flA ((a + 1 + n + 1 : Nat) : Int), flA ((a + 1 + n + 2 : Nat) : Int), flA ((a + 1 + n + 3 : Nat) : Int)⟩) ((a + n + 5 : Nat) : Int) ((i + 1 : Nat) : Int) := by
  have hil : (i : Int) < (xs.length : Int) := by omega
  have e0 : wrap64 ((a : Int) + 1) = ((a + 1 : Nat) : Int) := by rw [w64 (by omega) (by omega)]; omega
  have hm := markA_some (a + 1) (by clear e0; omega) (rd_T49 xs (i : Int)).f1 (by clear e0; omega) k (by clear e0; omega)
  rw [hn] at hm
  have e1 : wrap64 (((a + 1 + n : Nat) : Int) + 1) = ((a + 1 + n + 1 : Nat) : Int) := by rw [w64 (by omega) (by omega)]; omega
  have e2 : wrap64 (((a + 1 + n + 1 : Nat) : Int) + 1) = ((a + 1 + n + 2 : Nat) : Int) := by rw [w64 (by omega) (by omega)]; omega
  have e3 : wrap64 (((a + 1 + n + 2 : Nat) : Int) + 1) = ((a + 1 + n + 3 : Nat) : Int) := by rw [w64 (by omega) (by omega)]; omega
  have e4 : wrap64 (((a + 1 + n + 3 : Nat) : Int) + 1) = ((a + n + 5 : Nat) : Int) := by rw [w64 (by omega) (by omega)]; omega
  have e5 : wrap64 ((i : Int) + 1) = ((i + 1 : Nat) : Int) := by rw [w64 (by omega) (by omega)]; omega
  have h1 := sd_one k xs (a : Int) (i : Int) t _ _ hil (ht k (by clear e0 e1 e2 e3 e4 e5; omega)) (by rw [e0]; exact hm)
  rw [e1, e2, e3, e4, e5, Int.toNat_natCast] at h1
  exact h1
theorem held_one (k i a n : Nat) (zs : List SD) (t : ByteArray) (hi : i < zs.length) (hs : zs.length ≤ 1048576) (ha : a + n ≤ 2000) (hk : 2000 < k) (ht : ∀ k, 17 ≤ k → laws_markText.f k (a : Int) = some t)
    (hz : rd_T49 zs (i : Int) = ⟨t, marksA (a + 1) n, flA ((a + 1 + n : Nat) : Int), flA ((a + 1 + n + 1 : Nat) : Int), flA ((a + 1 + n + 2 : Nat) : Int), flA ((a + 1 + n + 3 : Nat) : Int)⟩) :
    laws_heldSoundS.l0 (k + 1) zs (a : Int) (i : Int) = laws_heldSoundS.l0 k zs ((a + n + 5 : Nat) : Int) ((i + 1 : Nat) : Int) := by
  have e0 : wrap64 ((a : Int) + 1) = ((a + 1 : Nat) : Int) := by rw [w64 (by omega) (by omega)]; omega
  have hm := heldA_some (a + 1) n (by clear e0; omega) k (by clear e0; omega)
  have e1 : wrap64 (((a + 1 + n : Nat) : Int) + 1) = ((a + 1 + n + 1 : Nat) : Int) := by rw [w64 (by omega) (by omega)]; omega
  have e2 : wrap64 (((a + 1 + n + 1 : Nat) : Int) + 1) = ((a + 1 + n + 2 : Nat) : Int) := by rw [w64 (by omega) (by omega)]; omega
  have e3 : wrap64 (((a + 1 + n + 2 : Nat) : Int) + 1) = ((a + 1 + n + 3 : Nat) : Int) := by rw [w64 (by omega) (by omega)]; omega
  have e4 : wrap64 (((a + 1 + n + 3 : Nat) : Int) + 1) = ((a + n + 5 : Nat) : Int) := by rw [w64 (by omega) (by omega)]; omega
  have e5 : wrap64 ((i : Int) + 1) = ((i + 1 : Nat) : Int) := by rw [w64 (by omega) (by omega)]; omega
  have hF : ∀ m : Nat, m < 2200 → ¬ (fne .f32 (flA (m : Int)) (floatOfInt .f32 (m : Int)) = true) := fun m hm => by
    have e : flA (m : Int) = floatOfInt .f32 (m : Int) := by unfold flA; rfl
    rw [e, mkA_ok m hm]; exact Bool.false_ne_true
  rw [laws_heldSoundS.l0, if_pos (by clear e0 e1 e2 e3 e4 e5; omega), if_pos (by clear e0 e1 e2 e3 e4 e5; omega), ht k (by clear e0 e1 e2 e3 e4 e5; omega), Option.bind_some, hz, if_pos rfl, e0, hm, Option.bind_some, if_neg (by clear e0 e1 e2 e3 e4 e5; omega), if_neg (hF _ (by clear e0 e1 e2 e3 e4 e5; omega)), e1, if_neg (hF _ (by clear e0 e1 e2 e3 e4 e5; omega)), e2, if_neg (hF _ (by clear e0 e1 e2 e3 e4 e5; omega)), e3, if_neg (hF _ (by clear e0 e1 e2 e3 e4 e5; omega)), e4, e5]
theorem sdh_some (n : Nat) (hn : n ≤ 16) (d : Nat) : ∀ (i k : Nat) (xs : List SD) (a : Nat), i + d = n → xs.length = n → (∀ j : Nat, i ≤ j → j < n → (rd_T49 xs (j : Int)).f1.length ≤ 16) → a + d * 21 ≤ 1500 → d + 2100 < k →
    ∃ (r : Nat) (zs : List SD), sd0 k xs (a : Int) (i : Int) = some ((r : Int), zs) ∧ zs.length = n ∧ (∀ j : Nat, j < i → rd_T49 zs (j : Int) = rd_T49 xs (j : Int)) ∧ (∀ k', d + 2100 < k' → laws_heldSoundS.l0 k' zs (a : Int) (i : Int) = some (r : Int)) := by
  induction d with
  | zero =>
    intro i k xs a h1 hl hf ha hk
    obtain ⟨k, rfl⟩ : ∃ m, k = m + 1 := ⟨k - 1, by omega⟩
    rw [sd0, if_neg (by omega)]
    refine ⟨a, xs, rfl, hl, fun j hj => rfl, fun k' hk' => ?_⟩
    obtain ⟨k', rfl⟩ : ∃ m, k' = m + 1 := ⟨k' - 1, by omega⟩
    rw [laws_heldSoundS.l0, if_neg (by omega)]
  | succ d ih =>
    intro i k xs a h1 hl hf ha hk
    obtain ⟨k, rfl⟩ : ∃ m, k = m + 1 := ⟨k - 1, by omega⟩
    obtain ⟨q, hq0⟩ : ∃ q, (rd_T49 xs (i : Int)).f1.length = q := ⟨_, rfl⟩
    have hq := hf i (by omega) (by omega)
    rw [hq0] at hq
    obtain ⟨t, ht⟩ := mt_any a (by omega)
    have hil : i < xs.length := by omega
    rw [sdh_one k i a q xs t hil hq0 (by omega) (by omega) (by omega) ht]
    obtain ⟨X, hX⟩ : ∃ X : SD, (⟨t, marksA (a + 1) q, flA ((a + 1 + q : Nat) : Int), flA ((a + 1 + q + 1 : Nat) : Int), flA ((a + 1 + q + 2 : Nat) : Int), flA ((a + 1 + q + 3 : Nat) : Int)⟩ : SD) = X := ⟨_, rfl⟩
    rw [hX]
    obtain ⟨r, zs, h5, h6, h7, h8⟩ := ih (i + 1) k (xs.set i X) (a + q + 5) (by omega) (by rw [List.length_set]; exact hl) (fun j hj hj2 => by
      have := hf j (by omega) hj2
      rw [rdD_getD, Int.toNat_natCast, List.getD_eq_getElem?_getD, List.getElem?_set_ne (by omega)]
      rw [rdD_getD, Int.toNat_natCast, List.getD_eq_getElem?_getD] at this
      exact this) (by omega) (by omega)
    refine ⟨r, zs, h5, h6, fun j hj => ?_, fun k' hk' => ?_⟩
    · rw [h7 j (by omega), rdD_getD, rdD_getD, Int.toNat_natCast, List.getD_eq_getElem?_getD, List.getD_eq_getElem?_getD, List.getElem?_set_ne (by omega)]
    · obtain ⟨k', rfl⟩ : ∃ m, k' = m + 1 := ⟨k' - 1, by omega⟩
      have hzi := (h7 i (by omega)).trans (rdD_set hil X)
      rw [← hX] at hzi
      rw [held_one k' i a q zs t (by omega) (by omega) (by omega) (by omega) ht hzi]
      exact h8 k' (by omega)
end Go.Proofs.Yteooifighndmkaa.AddPure
