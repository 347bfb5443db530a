import Derived.Test.YtoiaojdkgagblaaPFnExactSameDeskx
import Derived.Test.YtoiaojdkgagblaaLm
import Derived.Test.YtoiaojdkgagblaaOf
set_option linter.unusedVariables false
set_option linter.unusedSimpArgs false
namespace Go.Proofs.Ytoiaojdkgagblaa.SaPure
open Go.RowKit Go.Proofs.YtoiaojdkgagblaaW.PrintWords Go.Proofs.YtoiaojdkgagblaaW.PrintMore Go.Proofs.YtoiaojdkgagblaaW.PrintFl Go.Proofs.Ytoiaojdkgagblaa Go.Proofs.Ytoiaojdkgagblaa.PFnExactSameDesk Go.Proofs.Ytoiaojdkgagblaa.Lm
theorem rdN_at {l : List Nat} {i : Nat} (h : i < l.length) : rdOf (0 : Nat) l (i : Int) = l[i]'h := by
  unfold rdOf
  rw [Int.toNat_natCast, List.getD_eq_getElem?_getD, List.getElem?_eq_getElem h]; rfl
theorem w64 {x : Int} (h0 : -9223372036854775808 ≤ x) (h1 : x ≤ 9223372036854775807) : wrap64 x = x := by
  unfold wrap64; omega
theorem szF_some (l : List Nat) (hl : l.length ≤ 9223372036854775807) (a : Int) (ha : 0 ≤ a) (hb : a ≤ 1048576) : ∃ r, laws_szFloat32S.f l a = some r ∧ (r < 0 ∨ 0 ≤ r ∧ r ≤ 1048576 ∧ l.length ≤ 1048576) := by
  unfold laws_szFloat32S.f
  rw [w64 (x := a - l.length) (by omega) (by omega)]
  split
  · exact ⟨_, rfl, .inl (by omega)⟩
  · exact ⟨_, rfl, .inr (by omega)⟩
theorem toFl_some (l : List Nat) (hl : l.length ≤ 1048576) : ∀ (k : Nat) (ys : List Nat) (i : Nat), i ≤ l.length → l.length - i < k → ys.length = l.length → ys.take i = l.take i → laws_toFloat32S.l0 k l ys (i : Int) = some l
  | 0, ys, i, h1, hk, hy, ht => by omega
  | k + 1, ys, i, h1, hk, hy, ht => by
    unfold laws_toFloat32S.l0
    by_cases c : (i : Int) < (l.length : Int)
    · rw [if_pos c, if_pos (by omega), if_pos (by omega), w64 (by omega) (by omega)]
      have e : ((i : Int) + 1) = ((i + 1 : Nat) : Int) := by omega
      rw [e]
      refine toFl_some l hl k _ (i + 1) (by omega) (by omega) (by rw [List.length_set]; exact hy) ?_
      have hil : i < l.length := by omega
      show (ys.set ((i : Int)).toNat (rdOf 0 l (i : Int))).take (i + 1) = _
      rw [Int.toNat_natCast]
      refine take_set_succ hil hy ht ?_
      unfold rdOf
      rw [Int.toNat_natCast, List.getD_eq_getElem?_getD, List.getElem?_eq_getElem hil]
      rfl
    · rw [if_neg c]
      have : i = l.length := by omega
      subst this
      rw [List.take_length, List.take_of_length_le (by omega)] at ht
      rw [ht]
theorem toF_some (l : List Nat) (hl : l.length ≤ 1048576) (k : Nat) (hk : 1048577 ≤ k) : laws_toFloat32S.f k l = some l := by
  unfold laws_toFloat32S.f
  rw [if_pos (by omega), if_pos (by omega)]
  exact toFl_some l hl k _ 0 (by omega) (by omega) (by rw [List.length_replicate]; omega) rfl
abbrev LS := S135
abbrev IS := S138
def cv1 (x : LS) : IS := ⟨x.f0, x.f1, x.f2, x.f3, x.f4, x.f5⟩
def okS (x : LS) : Prop := x.f0.size ≤ 140737488351232 ∧ (x.f1.length ≤ 9223372036854775807 ∧ ∀ y ∈ x.f1, y < 4294967296) ∧ x.f2 < 4294967296 ∧ x.f3 < 4294967296 ∧ x.f4 < 4294967296 ∧ x.f5 < 4294967296
theorem rdL_at {l : List LS} {i : Nat} (h : i < l.length) : rd_T135 l (i : Int) = l[i]'h := by
  unfold rd_T135
  rw [Int.toNat_natCast, List.getD_eq_getElem?_getD, List.getElem?_eq_getElem h]; rfl
theorem rdI_at {l : List IS} {i : Nat} (h : i < l.length) : rd_T138 l (i : Int) = l[i]'h := by
  unfold rd_T138
  rw [Int.toNat_natCast, List.getD_eq_getElem?_getD, List.getElem?_eq_getElem h]; rfl
theorem szS_some (x : LS) (hx : okS x) (a : Int) (ha : 0 ≤ a) (hb : a ≤ 1048576) : ∃ r, laws_szSound.f x.f0 x.f1 x.f2 x.f3 x.f4 x.f5 a = some r ∧ (r < 0 ∨ 0 ≤ r ∧ r ≤ 1048576 ∧ x.f0.size ≤ 1048576 ∧ x.f1.length ≤ 1048576) := by
  have h1 := hx.1
  unfold laws_szSound.f
  rw [w64 (x := a - x.f0.size) (by omega) (by omega)]
  split
  · exact ⟨_, rfl, .inl (by omega)⟩
  · obtain ⟨r, e, hr⟩ := szF_some x.f1 hx.2.1.1 (a - x.f0.size) (by omega) (by omega)
    rw [e, Option.bind_some]
    split
    · exact ⟨_, rfl, .inl (by omega)⟩
    · exact ⟨_, rfl, .inr (by omega)⟩
theorem szl_some (l : List LS) (hl : l.length ≤ 1048576) (hx : ∀ x ∈ l, okS x) : ∀ (d i k : Nat) (a : Int), i + d = l.length → d < k → 0 ≤ a → a ≤ 1048576 → ∃ r, laws_szSoundS.l0 k l a (i : Int) = some r ∧ (r < 0 ∨ (0 ≤ r ∧ r ≤ 1048576) ∧ ∀ x ∈ l.drop i, x.f0.size ≤ 1048576 ∧ x.f1.length ≤ 1048576)
  | _, _, 0, _, _, h, _, _ => by omega
  | 0, i, k + 1, a, h1, h2, h3, h4 => by
    obtain rfl : i = l.length := by omega
    refine ⟨a, ?_, .inr ⟨⟨h3, h4⟩, by rw [List.drop_length]; simp⟩⟩
    rw [laws_szSoundS.l0, if_neg (by omega)]
  | d + 1, i, k + 1, a, h1, h2, h3, h4 => by
    have hi : i < l.length := by omega
    have e : ((i : Int) + 1) = ((i + 1 : Nat) : Int) := by omega
    obtain ⟨r, er, hr⟩ := szS_some l[i] (hx _ (List.getElem_mem _)) a h3 h4
    rw [laws_szSoundS.l0, if_pos (by omega), if_pos (by omega), rdL_at hi, er, Option.bind_some, w64 (by omega) (by omega), e]
    by_cases c : r < 0
    · rw [if_pos c]; exact ⟨_, rfl, .inl (by omega)⟩
    · rw [if_neg c]
      obtain ⟨r2, er2, hr2⟩ := szl_some l hl hx d (i + 1) k r (by omega) (by omega) (by omega) (by omega)
      refine ⟨r2, er2, ?_⟩
      rcases hr2 with hr2 | ⟨h5, h6⟩
      · exact .inl hr2
      · refine .inr ⟨h5, fun x hm => ?_⟩
        rw [List.drop_eq_getElem_cons hi] at hm
        rcases List.mem_cons.1 hm with rfl | hm
        · omega
        · exact h6 x hm
theorem szL_some (l : List LS) (hl : l.length ≤ 9223372036854775807) (hx : ∀ x ∈ l, okS x) (k : Nat) (hk : 1048600 ≤ k) : ∃ r, laws_szSoundS.f k l 1048576 = some r ∧ (r < 0 ∨ (0 ≤ r ∧ r ≤ 1048576) ∧ l.length ≤ 1048576 ∧ ∀ x ∈ l, x.f0.size ≤ 1048576 ∧ x.f1.length ≤ 1048576) := by
  unfold laws_szSoundS.f
  rw [w64 (x := (1048576 : Int) - l.length) (by omega) (by omega)]
  split
  · exact ⟨_, rfl, .inl (by omega)⟩
  · obtain ⟨r, e, hr⟩ := szl_some l (by omega) hx l.length 0 k (1048576 - l.length) (by omega) (by omega) (by omega) (by omega)
    refine ⟨r, e, ?_⟩
    rcases hr with hr | ⟨h1, h2⟩
    · exact .inl hr
    · exact .inr ⟨h1, by omega, h2⟩
theorem toS_loop (l : List LS) (hl : l.length ≤ 1048576) (hz : ∀ x ∈ l, x.f1.length ≤ 1048576) : ∀ (d i k : Nat) (ys : List IS), i + d = l.length → ys.length = l.length → ys.take i = (l.take i).map cv1 → d + 1048577 < k → laws_toSoundS.l0 k l ys (i : Int) = some (l.map cv1)
  | _, _, 0, _, _, _, _, h => by omega
  | 0, i, k + 1, ys, h1, h2, h3, h4 => by
    obtain rfl : i = l.length := by omega
    rw [laws_toSoundS.l0, if_neg (by omega)]
    rw [List.take_of_length_le (by omega), List.take_length] at h3
    rw [h3]
  | d + 1, i, k + 1, ys, h1, h2, h3, h4 => by
    have hi : i < l.length := by omega
    have e : ((i : Int) + 1) = ((i + 1 : Nat) : Int) := by omega
    have ht : laws_toSound.f k l[i].f0 l[i].f1 l[i].f2 l[i].f3 l[i].f4 l[i].f5 = some (l[i].f0, l[i].f1, l[i].f2, l[i].f3, l[i].f4, l[i].f5) := by
      unfold laws_toSound.f
      rw [toF_some _ (hz _ (List.getElem_mem _)) k (by omega), Option.bind_some]
    rw [laws_toSoundS.l0, if_pos (by omega), if_pos (by omega), rdL_at hi, ht, Option.bind_some, if_pos (by omega), w64 (by omega) (by omega), e, Int.toNat_natCast]
    refine toS_loop l hl hz d (i + 1) k _ (by omega) (by rw [List.length_set]; exact h2) ?_ (by omega)
    rw [List.map_take] at h3 ⊢
    exact take_set_succ (xs := l.map cv1) (by rw [List.length_map]; exact hi) (by rw [List.length_map]; exact h2) h3 (by rw [List.getElem?_map, List.getElem?_eq_getElem hi]; rfl)
theorem toS_some (l : List LS) (hl : l.length ≤ 1048576) (hz : ∀ x ∈ l, x.f1.length ≤ 1048576) (k : Nat) (hk : 2100000 ≤ k) : laws_toSoundS.f k l = some (l.map cv1) := by
  unfold laws_toSoundS.f
  rw [if_pos (by omega), if_pos (by omega), Int.toNat_natCast]
  exact toS_loop l hl hz l.length 0 k _ (by omega) (by rw [List.length_replicate]) rfl (by omega)
def okI (x : IS) : Prop := x.f0.size ≤ 1048576 ∧ x.f1.length ≤ 1048576 ∧ (∀ y ∈ x.f1, y < 4294967296) ∧ x.f2 < 4294967296 ∧ x.f3 < 4294967296 ∧ x.f4 < 4294967296 ∧ x.f5 < 4294967296
theorem eqS_loop (l : List IS) (hl : l.length ≤ 1048576) (hx : ∀ x ∈ l, okI x) : ∀ (d i k : Nat), i + d = l.length → d < k → laws_eqSoundS.l0 k l l (i : Int) = some true
  | _, _, 0, _, h => by omega
  | 0, i, k + 1, h1, h2 => by
    obtain rfl : i = l.length := by omega
    rw [laws_eqSoundS.l0, if_neg (by omega)]
  | d + 1, i, k + 1, h1, h2 => by
    have hi : i < l.length := by omega
    have e : ((i : Int) + 1) = ((i + 1 : Nat) : Int) := by omega
    obtain ⟨o1, o2, o3, o4, o5, o6, o7⟩ := hx l[i] (List.getElem_mem _)
    have he : laws_eqSound.f l[i].f0 l[i].f1 l[i].f2 l[i].f3 l[i].f4 l[i].f5 l[i].f0 l[i].f1 l[i].f2 l[i].f3 l[i].f4 l[i].f5 = some true := by
      unfold laws_eqSound.f
      rw [if_pos ⟨rfl, rfl, rfl, rfl, rfl, rfl, o2, o3, o4, o5, o6, o7⟩]
    rw [laws_eqSoundS.l0, if_pos (by omega), if_pos (by omega), if_pos (by omega), rdI_at hi, he, Option.bind_some, if_pos rfl, w64 (by omega) (by omega), e]
    exact eqS_loop l hl hx d (i + 1) k (by omega) (by omega)
theorem eqS_some (l : List IS) (hl : l.length ≤ 1048576) (hx : ∀ x ∈ l, okI x) (k : Nat) (hk : 1048600 ≤ k) : laws_eqSoundS.f k l l = some true := by
  unfold laws_eqSoundS.f
  rw [if_pos rfl]
  exact eqS_loop l hl hx l.length 0 k (by omega) (by omega)
theorem rd_cases (x : Nat) (hx : x < 4294967296) (h : ¬ fne .f32 x x = true) : (∃ s : Bool, s = decide (2147483648 ≤ x) ∧ FloatKind.f32.format.read x = .infinity s ∧ x % 2147483648 = 2139095040) ∨
    (∃ (s : Bool) (m e : Nat), s = decide (2147483648 ≤ x) ∧ FloatKind.f32.format.read x = .number s m (FloatKind.f32.format.leastPlace + (e : Int)) ∧ e ≤ 253 ∧ ((m < 8388608 ∧ e = 0 ∧ x % 2147483648 = m) ∨ (8388608 ≤ m ∧ m < 16777216 ∧ x % 2147483648 = (e + 1) * 8388608 + (m - 8388608)))) := by
  have hs : (x / FloatKind.f32.format.signWeight % 2 == 1) = decide (2147483648 ≤ x) := by
    show (x / 2147483648 % 2 == 1) = _
    by_cases c : 2147483648 ≤ x
    · rw [decide_eq_true c, beq_iff_eq]; omega
    · rw [decide_eq_false c, beq_eq_false_iff_ne]; omega
  have hr : FloatKind.f32.format.read x = if x % 2147483648 < 8388608 then .number (decide (2147483648 ≤ x)) (x % 2147483648) FloatKind.f32.format.leastPlace
      else if x % 2147483648 < 2139095040 then .number (decide (2147483648 ≤ x)) (8388608 + x % 2147483648 % 8388608) (FloatKind.f32.format.leastPlace + (x % 2147483648 / 8388608 - 1 : Nat))
      else if x % 2147483648 = 2139095040 then .infinity (decide (2147483648 ≤ x)) else .nan (decide (2147483648 ≤ x)) (x % 2147483648 - 2139095040) := by
    rw [← hs]; rfl
  by_cases c1 : x % 2147483648 < 8388608
  · rw [if_pos c1] at hr
    exact .inr ⟨_, x % 2147483648, 0, rfl, by rw [hr]; simp, by decide, .inl ⟨c1, rfl, rfl⟩⟩
  · rw [if_neg c1] at hr
    by_cases c2 : x % 2147483648 < 2139095040
    · rw [if_pos c2] at hr
      exact .inr ⟨_, _, _, rfl, hr, by omega, .inr ⟨by omega, by omega, by omega⟩⟩
    · rw [if_neg c2] at hr
      by_cases c3 : x % 2147483648 = 2139095040
      · rw [if_pos c3] at hr
        exact .inl ⟨_, rfl, hr, c3⟩
      · rw [if_neg c3] at hr
        refine absurd ?_ h
        unfold fne Ieee.Format.order
        rw [hr]; rfl
theorem split31 {x y : Nat} (h1 : decide (2147483648 ≤ x) = decide (2147483648 ≤ y)) (h2 : x % 2147483648 = y % 2147483648) (hx : x < 4294967296) (hy : y < 4294967296) : x = y := by
  by_cases c : 2147483648 ≤ x
  · rw [decide_eq_true c] at h1
    have := of_decide_eq_true h1.symm
    omega
  · rw [decide_eq_false c] at h1
    have := of_decide_eq_false h1.symm
    omega
theorem sgn_eq {s : Bool} {a b : Nat} {i j : Nat} (h : Ieee.signed s a i = Ieee.signed s b j) : a <<< i = b <<< j := by
  unfold Ieee.signed at h
  cases s with
  | true => rw [if_pos rfl, if_pos rfl] at h; omega
  | false => rw [if_neg (by decide), if_neg (by decide)] at h; omega
theorem shl_big {n k : Nat} (hk : 0 < k) : 2 * n ≤ n <<< k := by
  rw [Nat.shiftLeft_eq]
  have h : 2 ≤ 2 ^ k := by
    obtain ⟨k, rfl⟩ : ∃ m, k = m + 1 := ⟨k - 1, by omega⟩
    have := Nat.two_pow_pos k
    rw [Nat.pow_succ]; omega
  rw [Nat.mul_comm 2 n]
  exact Nat.mul_le_mul_left n h
theorem feq_same (x y : Nat) (hx : x < 4294967296) (hy : y < 4294967296) (nx : ¬ fne .f32 x x = true) (ny : ¬ fne .f32 y y = true) (hs : decide (2147483648 ≤ x) = decide (2147483648 ≤ y)) : feq .f32 x y = decide (x = y) := by
  by_cases c : x = y
  · subst c
    rw [decide_eq_true rfl]
    unfold fne at nx
    unfold feq
    rw [Bool.not_eq_true, bne_eq_false_iff_eq] at nx
    rw [nx]; rfl
  rw [decide_eq_false c]
  have h5 : feq .f32 x y = true → False := by
    intro h
    refine c (split31 hs ?_ hx hy)
    unfold feq Ieee.Format.order at h
    rcases rd_cases x hx nx with ⟨s, e1, r1, m1⟩ | ⟨s, m, e, e1, r1, he, m1⟩ <;> rcases rd_cases y hy ny with ⟨t, e2, r2, m2⟩ | ⟨t, n, f, e2, r2, hf, m2⟩
    · omega
    · exfalso
      rw [r1, r2] at h
      cases s <;> cases h
    · exfalso
      rw [r1, r2] at h
      cases t <;> cases h
    · rw [r1, r2] at h
      have hst : s = t := by rw [e1, e2, hs]
      subst hst
      have h6 : Ieee.signed s m ((FloatKind.f32.format.leastPlace + (e : Int)) - min (FloatKind.f32.format.leastPlace + (e : Int)) (FloatKind.f32.format.leastPlace + (f : Int))).toNat = Ieee.signed s n ((FloatKind.f32.format.leastPlace + (f : Int)) - min (FloatKind.f32.format.leastPlace + (e : Int)) (FloatKind.f32.format.leastPlace + (f : Int))).toNat := by
        rw [beq_iff_eq] at h
        injection h with h
        exact Int.compare_eq_eq.1 h
      have h7 := sgn_eq h6
      generalize FloatKind.f32.format.leastPlace = L at h7
      rcases Nat.lt_trichotomy e f with c2 | c2 | c2
      · exfalso
        rw [show (L + (e : Int) - min (L + (e : Int)) (L + (f : Int))).toNat = 0 by omega] at h7
        have h8 := shl_big (n := n) (k := (L + (f : Int) - min (L + (e : Int)) (L + (f : Int))).toNat) (by omega)
        rw [← h7, Nat.shiftLeft_zero] at h8
        omega
      · subst c2
        rw [show (L + (e : Int) - min (L + (e : Int)) (L + (e : Int))).toNat = 0 by omega, Nat.shiftLeft_zero, Nat.shiftLeft_zero] at h7
        omega
      · exfalso
        rw [show (L + (f : Int) - min (L + (e : Int)) (L + (f : Int))).toNat = 0 by omega] at h7
        have h8 := shl_big (n := m) (k := (L + (e : Int) - min (L + (e : Int)) (L + (f : Int))).toNat) (by omega)
        rw [h7, Nat.shiftLeft_zero] at h8
        omega
  cases h : feq .f32 x y with
  | true => exact (h5 h).elim
  | false => rfl
theorem wneg (r : Nat) (hr : r < 9223372036854775808) : decide (wrap64 (((9223372036854775808 + r : Nat) : Int)) < 0) = true := by
  unfold wrap64
  exact decide_eq_true (by omega)
theorem wpos (r : Nat) (hr : r < 9223372036854775808) : decide (wrap64 ((r : Nat) : Int) < 0) = false := by
  unfold wrap64
  exact decide_eq_false (by omega)
theorem word64 (s : Bool) (r : Nat) : FloatKind.f64.format.word s r = if s = true then 9223372036854775808 + r else r := by
  cases s <;> rfl
theorem sign64 (s : Bool) (r : Nat) (hr : r < 9223372036854775808) : decide (wrap64 ((FloatKind.f64.format.word s r : Nat) : Int) < 0) = s := by
  rw [word64]
  cases s with
  | true => rw [if_pos rfl]; exact wneg r hr
  | false => rw [if_neg (by decide)]; exact wpos r hr
theorem fin64 (s : Bool) (r : Nat) (hr : r < 9218868437227405312) : (FloatKind.f64.format.read (FloatKind.f64.format.word s r)).isInfinity = false := by
  have hm : FloatKind.f64.format.word s r % FloatKind.f64.format.signWeight = r := by
    show FloatKind.f64.format.word s r % 9223372036854775808 = r
    rw [word64]
    cases s with
    | true => rw [if_pos rfl]; omega
    | false => rw [if_neg (by decide)]; omega
  unfold Ieee.Format.read
  dsimp only
  rw [hm]
  by_cases c1 : r < FloatKind.f64.format.binade
  · rw [if_pos c1]; rfl
  · rw [if_neg c1, if_pos (show r < FloatKind.f64.format.infRung from hr)]; rfl
theorem near64 (s : Bool) (m e : Nat) (hm : m < 16777216) (he : e ≤ 253) : ∃ r, r < 9218868437227405312 ∧ FloatKind.f64.format.nearest s m (FloatKind.f32.format.leastPlace + (e : Int)) = FloatKind.f64.format.word s r := by
  unfold Ieee.Format.nearest
  by_cases c : m = 0
  · rw [if_pos c]; exact ⟨0, by decide, rfl⟩
  rw [if_neg c]
  dsimp only
  have hl : FloatKind.f32.format.leastPlace = -149 := by decide +kernel
  have h64 : FloatKind.f64.format.leastPlace = -1074 := by decide +kernel
  have hfb : ((FloatKind.f64.format.fractionBits : Nat) : Int) = 52 := by decide +kernel
  rw [hl, h64, hfb]
  have hlog : m.log2 ≤ 23 := by
    have := (Nat.log2_lt c).2 (show m < 2 ^ 24 from hm)
    omega
  have hlt : m < 2 ^ (m.log2 + 1) := Nat.lt_log2_self
  obtain ⟨g, hg⟩ : ∃ g, m.log2 = g := ⟨_, rfl⟩
  rw [hg] at hlog hlt ⊢
  obtain ⟨la, hla⟩ : ∃ la, max (-149 + (e : Int) + (g : Int) - 52) (-1074) = la := ⟨_, rfl⟩
  rw [hla]
  have e0 : (la - (-149 + (e : Int))).toNat = 0 := by omega
  obtain ⟨d, hd⟩ : ∃ d, (-149 + (e : Int) - la).toNat = d := ⟨_, rfl⟩
  rw [e0, hd]
  have hd2 : d ≤ 52 - g := by omega
  have hk : Ieee.Toward.even.cut s (m <<< d) 0 = m <<< d := by
    unfold Ieee.Toward.cut
    dsimp only
    rw [Nat.zero_min, show (1 <<< 0 : Nat) = 1 from rfl, Nat.div_one, Nat.mod_one]
    simp
  rw [hk]
  have hb : m <<< d < 9007199254740992 := by
    rw [Nat.shiftLeft_eq]
    have h1 : m * 2 ^ d < 2 ^ (g + 1) * 2 ^ d := Nat.mul_lt_mul_of_pos_right hlt (Nat.two_pow_pos d)
    rw [← Nat.pow_add] at h1
    have h2 : 2 ^ (g + 1 + d) ≤ 2 ^ 53 := Nat.pow_le_pow_right (by decide) (by omega)
    exact Nat.lt_of_lt_of_le h1 h2
  have hq : (la - -1074).toNat ≤ 1149 := by omega
  have hbin : FloatKind.f64.format.binade = 4503599627370496 := by decide +kernel
  have hinf : FloatKind.f64.format.infRung = 9218868437227405312 := by decide +kernel
  rw [hbin, hinf]
  have h3 : (la - -1074).toNat * 4503599627370496 ≤ 1149 * 4503599627370496 := Nat.mul_le_mul_right _ hq
  obtain ⟨Z, hZ⟩ : ∃ Z, (la - -1074).toNat * 4503599627370496 + m <<< d = Z := ⟨_, rfl⟩
  rw [hZ]
  exact ⟨min Z 9218868437227405312, by omega, rfl⟩
theorem conv_bits (x : Nat) (hx : x < 4294967296) (nx : ¬ fne .f32 x x = true) : ∃ r, r < 9223372036854775808 ∧ floatToFloatBits .f32 x .f64 = some (FloatKind.f64.format.word (decide (2147483648 ≤ x)) r) := by
  unfold floatToFloatBits
  rw [if_neg (by decide)]
  have hdec : FloatKind.f32.decode x = FloatKind.f32.format.read x := rfl
  rw [hdec]
  rcases rd_cases x hx nx with ⟨s, e1, r1, m1⟩ | ⟨s, m, e, e1, r1, he, m1⟩
  · rw [r1, ← e1]
    exact ⟨9218868437227405312, by decide, by cases s <;> decide +kernel⟩
  · rw [r1, ← e1]
    obtain ⟨r, hr, hw⟩ := near64 s m e (by omega) he
    have hI : ¬ (FloatKind.f64.decode (FloatKind.f64.encode (.number s m (FloatKind.f32.format.leastPlace + (e : Int))))).isInfinity = true := by
      have h1 : FloatKind.f64.decode (FloatKind.f64.encode (.number s m (FloatKind.f32.format.leastPlace + (e : Int)))) = FloatKind.f64.format.read (FloatKind.f64.format.nearest s m (FloatKind.f32.format.leastPlace + (e : Int))) := rfl
      rw [h1, hw, fin64 s r hr]
      exact Bool.false_ne_true
    exact ⟨r, by omega, (if_neg hI).trans (congrArg some hw)⟩
theorem conv_sign (x : Nat) (hx : x < 4294967296) (nx : ¬ fne .f32 x x = true) : fconvOk .f32 x .f64 = true ∧ decide (wrap64 ((fconv .f32 x .f64 : Nat) : Int) < 0) = decide (2147483648 ≤ x) := by
  obtain ⟨r, hr, hb⟩ := conv_bits x hx nx
  unfold fconvOk fconv
  rw [hb]
  exact ⟨rfl, sign64 _ r hr⟩
def smB (x y : Nat) : Bool := if fne .f32 x x = true then fne .f32 y y else if fne .f32 y y = true then false else decide (x = y)
theorem nan_bits : fne .f32 2143289344 2143289344 = true := by decide +kernel
theorem not_nan (y : Nat) (ny : ¬ fne .f32 y y = true) : y ≠ 2143289344 := by
  rintro rfl
  exact ny nan_bits
theorem sm_spec (x y : Nat) (hx : x < 4294967296) (hy : y < 4294967296) : spec_l01Same.f x y = some (smB x y) := by
  unfold spec_l01Same.f spec_l01Bits.f smB
  rw [w64 (x := (x : Int)) (by omega) (by omega), w64 (x := (y : Int)) (by omega) (by omega)]
  by_cases nx : fne .f32 x x = true
  · rw [if_pos nx, if_pos nx, Option.bind_some]
    by_cases ny : fne .f32 y y = true
    · rw [if_pos ny, Option.bind_some, ny]; rfl
    · have := not_nan y ny
      rw [if_neg ny, Option.bind_some, Bool.not_eq_true] at *
      rw [ny, show ((2143289344 : Int) == (y : Int)) = false from beq_eq_false_iff_ne.2 (by omega)]
  · rw [if_neg nx, if_neg nx, Option.bind_some]
    by_cases ny : fne .f32 y y = true
    · have := not_nan x nx
      rw [if_pos ny, if_pos ny, Option.bind_some, show ((x : Int) == 2143289344) = false from beq_eq_false_iff_ne.2 (by omega)]
    · rw [if_neg ny, if_neg ny, Option.bind_some]
      by_cases c : x = y
      · subst c
        rw [decide_eq_true rfl, beq_self_eq_true]
      · rw [decide_eq_false c, show ((x : Int) == (y : Int)) = false from beq_eq_false_iff_ne.2 (by omega)]
theorem sm_impl (x y : Nat) (hx : x < 4294967296) (hy : y < 4294967296) (k : Nat) (hk : 1 ≤ k) : impl_SameNumber.f k x y = some (smB x y) := by
  obtain ⟨k, rfl⟩ : ∃ m, k = m + 1 := ⟨k - 1, by omega⟩
  unfold impl_SameNumber.f smB
  by_cases nx : fne .f32 x x = true
  · rw [if_pos nx, if_pos nx, impl_SameNumber.j0, if_pos rfl, if_pos nx]
  · rw [if_neg nx, if_neg nx, impl_SameNumber.j0]
    by_cases ny : fne .f32 y y = true
    · rw [if_pos ny, if_pos ny, if_neg nx]
    · rw [if_neg ny, if_neg ny]
      obtain ⟨k1, s1⟩ := conv_sign x hx nx
      obtain ⟨k2, s2⟩ := conv_sign y hy ny
      unfold math_Signbit.f
      rw [if_pos k1, Option.bind_some, if_pos k2, Option.bind_some, s1, s2]
      by_cases hs : decide (2147483648 ≤ x) = decide (2147483648 ≤ y)
      · rw [feq_same x y hx hy nx ny hs, hs, beq_self_eq_true]
        by_cases c : x = y
        · rw [decide_eq_true c, if_pos rfl]
        · rw [decide_eq_false c, if_neg (by decide)]
      · have c : ¬ x = y := fun h => hs (by rw [h])
        rw [decide_eq_false c, show (decide (2147483648 ≤ x) == decide (2147483648 ≤ y)) = false from beq_eq_false_iff_ne.2 hs]
        split <;> rfl
def smA : List Nat → List Nat → Bool
  | [], [] => true
  | x :: l, y :: m => smB x y && smA l m
  | _, _ => false
theorem sma_spec (l m : List Nat) (hl : l.length ≤ 1048576) (he : l.length = m.length) (hx : ∀ x ∈ l, x < 4294967296) (hy : ∀ x ∈ m, x < 4294967296) : ∀ (d i k : Nat), i + d = l.length → d < k → spec_l01SameAll.l0 k l m (i : Int) = some (smA (l.drop i) (m.drop i))
  | _, _, 0, _, h => by omega
  | 0, i, k + 1, h1, h2 => by
    rw [spec_l01SameAll.l0, if_neg (by omega), List.drop_eq_nil_of_le (by omega), List.drop_eq_nil_of_le (by omega)]; rfl
  | d + 1, i, k + 1, h1, h2 => by
    have hi : i < l.length := by omega
    have hj : i < m.length := by omega
    have e : ((i : Int) + 1) = ((i + 1 : Nat) : Int) := by omega
    rw [spec_l01SameAll.l0, if_pos (by omega), if_pos (by omega), if_pos (by omega), rdN_at hi, rdN_at hj, sm_spec _ _ (hx _ (List.getElem_mem hi)) (hy _ (List.getElem_mem hj)), Option.bind_some, w64 (by omega) (by omega), e, sma_spec l m hl he hx hy d (i + 1) k (by omega) (by omega), List.drop_eq_getElem_cons hi, List.drop_eq_getElem_cons hj, smA]
    cases smB l[i] m[i] <;> rfl
theorem sma_impl (l m : List Nat) (hl : l.length ≤ 1048576) (he : l.length = m.length) (hx : ∀ x ∈ l, x < 4294967296) (hy : ∀ x ∈ m, x < 4294967296) : ∀ (d i k : Nat), i + d = l.length → d + 1 < k → impl_sameNumbers.l0 k m l (l.length : Int) (i : Int) = some (smA (l.drop i) (m.drop i))
  | _, _, 0, _, h => by omega
  | 0, i, k + 1, h1, h2 => by
    rw [impl_sameNumbers.l0, if_neg (by omega), List.drop_eq_nil_of_le (by omega), List.drop_eq_nil_of_le (by omega)]; rfl
  | d + 1, i, k + 1, h1, h2 => by
    have hi : i < l.length := by omega
    have hj : i < m.length := by omega
    have e : ((i : Int) + 1) = ((i + 1 : Nat) : Int) := by omega
    rw [impl_sameNumbers.l0, if_pos (by omega), if_pos (by omega), if_pos (by omega), if_pos (by omega), rdN_at hi, rdN_at hj, sm_impl _ _ (hx _ (List.getElem_mem hi)) (hy _ (List.getElem_mem hj)) k (by omega), Option.bind_some, w64 (by omega) (by omega), e, sma_impl l m hl he hx hy d (i + 1) k (by omega) (by omega), List.drop_eq_getElem_cons hi, List.drop_eq_getElem_cons hj, smA]
    cases smB l[i] m[i] <;> rfl
def smL (l m : List Nat) : Bool := decide (l.length = m.length) && smA l m
theorem sml_spec (l m : List Nat) (hl : l.length ≤ 1048576) (hx : ∀ x ∈ l, x < 4294967296) (hy : ∀ x ∈ m, x < 4294967296) (k : Nat) (hk : 1048600 ≤ k) : spec_l01SameAll.f k l m = some (smL l m) := by
  unfold spec_l01SameAll.f smL
  by_cases c : l.length = m.length
  · rw [if_pos (by omega), decide_eq_true c, Bool.true_and]
    exact sma_spec l m hl c hx hy l.length 0 k (by omega) (by omega)
  · rw [if_neg (by omega), decide_eq_false c]; rfl
theorem sml_impl (l m : List Nat) (hl : l.length ≤ 1048576) (hx : ∀ x ∈ l, x < 4294967296) (hy : ∀ x ∈ m, x < 4294967296) (k : Nat) (hk : 1048600 ≤ k) : impl_sameNumbers.f k l m = some (smL l m) := by
  unfold impl_sameNumbers.f smL
  by_cases c : l.length = m.length
  · rw [if_pos (by omega), decide_eq_true c, Bool.true_and]
    exact sma_impl l m hl c hx hy l.length 0 k (by omega) (by omega)
  · rw [if_neg (by omega), decide_eq_false c]; rfl
theorem tube_same (l l' : List Nat) (a b c a' b' c' : Nat) (hl : l.length ≤ 1048576) (hx : ∀ x ∈ l, x < 4294967296) (hx' : ∀ x ∈ l', x < 4294967296) (ha : a < 4294967296) (hb : b < 4294967296) (hc : c < 4294967296) (ha' : a' < 4294967296) (hb' : b' < 4294967296) (hc' : c' < 4294967296) (k : Nat) (hk : 1048600 ≤ k) :
    ∃ r, spec_l02Same.f k [(⟨l, a, b, c⟩ : S72)] [(⟨l', a', b', c'⟩ : S72)] = some r ∧ impl_SameTube.f k l a b c l' a' b' c' = some r := by
  have hr : rd_T72 [(⟨l, a, b, c⟩ : S72)] 0 = ⟨l, a, b, c⟩ := rfl
  have hr' : rd_T72 [(⟨l', a', b', c'⟩ : S72)] 0 = ⟨l', a', b', c'⟩ := rfl
  refine ⟨smL l l' && (smB a a' && (smB b b' && smB c c')), ?_, ?_⟩
  · unfold spec_l02Same.f
    rw [if_pos (by simp), if_pos (by simp), hr, hr']
    dsimp only
    rw [sml_spec l l' hl hx hx' k hk, sm_spec a a' ha ha', sm_spec b b' hb hb', sm_spec c c' hc hc']
    cases smL l l' <;> cases smB a a' <;> cases smB b b' <;> rfl
  · unfold impl_SameTube.f
    rw [sml_impl l l' hl hx hx' k hk, sm_impl a a' ha ha' k (by omega), sm_impl b b' hb hb' k (by omega), sm_impl c c' hc hc' k (by omega)]
    cases smL l l' <;> cases smB a a' <;> cases smB b b' <;> rfl
theorem throat_same (a b c d e a' b' c' d' e' : Nat) (ha : a < 4294967296) (hb : b < 4294967296) (hc : c < 4294967296) (hd : d < 4294967296) (he : e < 4294967296) (ha' : a' < 4294967296) (hb' : b' < 4294967296) (hc' : c' < 4294967296) (hd' : d' < 4294967296) (he' : e' < 4294967296) (k : Nat) (hk : 1048600 ≤ k) :
    ∃ r, spec_SameThroat.f a b c d e a' b' c' d' e' = some r ∧ impl_SameThroat.f k a b c d e a' b' c' d' e' = some r := by
  refine ⟨smL [a, b, c, d, e] [a', b', c', d', e'], ?_, ?_⟩
  · have h : smL [a, b, c, d, e] [a', b', c', d', e'] = (smB a a' && (smB b b' && (smB c c' && (smB d d' && smB e e')))) := by simp [smL, smA]
    unfold spec_SameThroat.f
    rw [h, sm_spec a a' ha ha', sm_spec b b' hb hb', sm_spec c c' hc hc', sm_spec d d' hd hd', sm_spec e e' he he']
    cases smB a a' <;> cases smB b b' <;> cases smB c c' <;> cases smB d d' <;> rfl
  · unfold impl_SameThroat.f
    rw [sml_impl _ _ (by simp) (by simp; omega) (by simp; omega) k hk]; rfl
theorem pred_same (l l' : List Nat) (a a' : Nat) (hl : l.length ≤ 1048576) (hx : ∀ x ∈ l, x < 4294967296) (hx' : ∀ x ∈ l', x < 4294967296) (ha : a < 4294967296) (ha' : a' < 4294967296) (k : Nat) (hk : 1048600 ≤ k) :
    ∃ r, spec_l04Same.f k [(⟨l, a⟩ : S76)] [(⟨l', a'⟩ : S76)] = some r ∧ impl_SamePredictor.f k l a l' a' = some r := by
  have hr : rd_T76 [(⟨l, a⟩ : S76)] 0 = ⟨l, a⟩ := rfl
  have hr' : rd_T76 [(⟨l', a'⟩ : S76)] 0 = ⟨l', a'⟩ := rfl
  refine ⟨smL l l' && smB a a', ?_, ?_⟩
  · unfold spec_l04Same.f
    rw [if_pos (by simp), if_pos (by simp), hr, hr']
    dsimp only
    rw [sml_spec l l' hl hx hx' k hk, sm_spec a a' ha ha']
    cases smL l l' <;> rfl
  · unfold impl_SamePredictor.f
    rw [sml_impl l l' hl hx hx' k hk, sm_impl a a' ha ha' k (by omega)]
    cases smL l l' <;> rfl
def ssB (x y : IS) : Bool := decide (x.f0.toList = y.f0.toList) && (smL x.f1 y.f1 && (smB x.f2 y.f2 && (smB x.f3 y.f3 && (smB x.f4 y.f4 && smB x.f5 y.f5))))
theorem ss_spec (x y : IS) (hx : okI x) (hy : okI y) (k : Nat) (hk : 1048600 ≤ k) : spec_l06SameSound.f k [x] [y] = some (ssB x y) := by
  have hr : rd_T138 [x] 0 = x := rfl
  have hr' : rd_T138 [y] 0 = y := rfl
  unfold spec_l06SameSound.f spec_l06SameSound.g ssB
  rw [if_pos (by simp), if_pos (by simp), hr, hr', sml_spec x.f1 y.f1 hx.2.1 hx.2.2.1 hy.2.2.1 k hk, sm_spec x.f2 y.f2 hx.2.2.2.1 hy.2.2.2.1, sm_spec x.f3 y.f3 hx.2.2.2.2.1 hy.2.2.2.2.1, sm_spec x.f4 y.f4 hx.2.2.2.2.2.1 hy.2.2.2.2.2.1, sm_spec x.f5 y.f5 hx.2.2.2.2.2.2 hy.2.2.2.2.2.2]
  by_cases c : x.f0.toList = y.f0.toList
  · rw [if_pos c, decide_eq_true c]
    cases smL x.f1 y.f1 <;> cases smB x.f2 y.f2 <;> cases smB x.f3 y.f3 <;> cases smB x.f4 y.f4 <;> rfl
  · rw [if_neg c, decide_eq_false c]; rfl
theorem ss_impl (x y : IS) (hx : okI x) (hy : okI y) (k : Nat) (hk : 1048600 ≤ k) : impl_SameSounds_1.f k x.f0 x.f1 x.f2 x.f3 x.f4 x.f5 y.f0 y.f1 y.f2 y.f3 y.f4 y.f5 = some (ssB x y) := by
  have h : smL [x.f2, x.f3, x.f4, x.f5] [y.f2, y.f3, y.f4, y.f5] = (smB x.f2 y.f2 && (smB x.f3 y.f3 && (smB x.f4 y.f4 && smB x.f5 y.f5))) := by simp [smL, smA]
  have hx4 : ∀ z ∈ [x.f2, x.f3, x.f4, x.f5], z < 4294967296 := by
    have := hx.2.2.2
    simp; omega
  have hy4 : ∀ z ∈ [y.f2, y.f3, y.f4, y.f5], z < 4294967296 := by
    have := hy.2.2.2
    simp; omega
  unfold impl_SameSounds_1.f ssB
  rw [sml_impl x.f1 y.f1 hx.2.1 hx.2.2.1 hy.2.2.1 k hk, sml_impl _ _ (by simp) hx4 hy4 k hk, h]
  by_cases c : x.f0.toList = y.f0.toList
  · rw [if_pos c, decide_eq_true c]
    cases smL x.f1 y.f1 <;> rfl
  · rw [if_neg c, decide_eq_false c]; rfl
def ssA : List IS → List IS → Bool
  | [], [] => true
  | x :: l, y :: m => ssB x y && ssA l m
  | _, _ => false
theorem ssa_spec (l m : List IS) (hl : l.length ≤ 1048576) (he : l.length = m.length) (hx : ∀ x ∈ l, okI x) (hy : ∀ x ∈ m, okI x) : ∀ (d i k : Nat), i + d = l.length → d + 1048601 ≤ k → spec_l06Same.l0 k l m (i : Int) = some (ssA (l.drop i) (m.drop i))
  | _, _, 0, _, h => by omega
  | 0, i, k + 1, h1, h2 => by
    rw [spec_l06Same.l0, if_neg (by omega), List.drop_eq_nil_of_le (by omega), List.drop_eq_nil_of_le (by omega)]; rfl
  | d + 1, i, k + 1, h1, h2 => by
    have hi : i < l.length := by omega
    have hj : i < m.length := by omega
    have e : ((i : Int) + 1) = ((i + 1 : Nat) : Int) := by omega
    rw [spec_l06Same.l0, if_pos (by omega), if_pos (by omega), if_pos (by omega), rdI_at hi, rdI_at hj, ss_spec _ _ (hx _ (List.getElem_mem hi)) (hy _ (List.getElem_mem hj)) k (by omega), Option.bind_some, w64 (by omega) (by omega), e, ssa_spec l m hl he hx hy d (i + 1) k (by omega) (by omega), List.drop_eq_getElem_cons hi, List.drop_eq_getElem_cons hj, ssA]
    cases ssB l[i] m[i] <;> rfl
theorem ssa_impl (l m : List IS) (hl : l.length ≤ 1048576) (he : l.length = m.length) (hx : ∀ x ∈ l, okI x) (hy : ∀ x ∈ m, okI x) : ∀ (d i k : Nat), i + d = l.length → d + 1048601 ≤ k → slices_EqualFunc_v_impl_SameSounds_1.l0 k m l (l.length : Int) (i : Int) = some (ssA (l.drop i) (m.drop i))
  | _, _, 0, _, h => by omega
  | 0, i, k + 1, h1, h2 => by
    rw [slices_EqualFunc_v_impl_SameSounds_1.l0, if_neg (by omega), List.drop_eq_nil_of_le (by omega), List.drop_eq_nil_of_le (by omega)]; rfl
  | d + 1, i, k + 1, h1, h2 => by
    have hi : i < l.length := by omega
    have hj : i < m.length := by omega
    have e : ((i : Int) + 1) = ((i + 1 : Nat) : Int) := by omega
    rw [slices_EqualFunc_v_impl_SameSounds_1.l0, if_pos (by omega), if_pos (by omega), if_pos (by omega), if_pos (by omega), rdI_at hi, rdI_at hj, ss_impl _ _ (hx _ (List.getElem_mem hi)) (hy _ (List.getElem_mem hj)) k (by omega), Option.bind_some, w64 (by omega) (by omega), e, ssa_impl l m hl he hx hy d (i + 1) k (by omega) (by omega), List.drop_eq_getElem_cons hi, List.drop_eq_getElem_cons hj, ssA]
    cases ssB l[i] m[i] <;> rfl
theorem sounds_same (l m : List IS) (hl : l.length ≤ 1048576) (hx : ∀ x ∈ l, okI x) (hy : ∀ x ∈ m, okI x) (k : Nat) (hk : 2100000 ≤ k) : ∃ r, spec_l06Same.f k l m = some r ∧ impl_SameSounds.f k l m = some r := by
  unfold spec_l06Same.f impl_SameSounds.f slices_EqualFunc_v_impl_SameSounds_1.f
  by_cases c : l.length = m.length
  · rw [if_pos (by omega), if_pos (by omega)]
    have h1 := ssa_spec l m hl c hx hy l.length 0 k (by omega) (by omega)
    have h2 := ssa_impl l m hl c hx hy l.length 0 k (by omega) (by omega)
    rw [show ((0 : Nat) : Int) = 0 from rfl] at h1 h2
    rw [h1, h2]
    exact ⟨_, rfl, rfl⟩
  · rw [if_neg (by omega), if_neg (by omega)]
    exact ⟨false, rfl, rfl⟩
theorem szL_at (l : List LS) (hl : l.length ≤ 9223372036854775807) (hx : ∀ x ∈ l, okS x) (k : Nat) (hk : 1048600 ≤ k) (a : Int) (ha : 0 ≤ a) (hb : a ≤ 1048576) : ∃ r, laws_szSoundS.f k l a = some r ∧ (r < 0 ∨ (0 ≤ r ∧ r ≤ 1048576) ∧ l.length ≤ 1048576 ∧ ∀ x ∈ l, x.f0.size ≤ 1048576 ∧ x.f1.length ≤ 1048576) := by
  unfold laws_szSoundS.f
  rw [w64 (x := a - l.length) (by omega) (by omega)]
  split
  · exact ⟨_, rfl, .inl (by omega)⟩
  · obtain ⟨r, e, hr⟩ := szl_some l (by omega) hx l.length 0 k (a - l.length) (by omega) (by omega) (by omega) (by omega)
    refine ⟨r, e, ?_⟩
    rcases hr with hr | ⟨h1, h2⟩
    · exact .inl hr
    · exact .inr ⟨h1, by omega, h2⟩
theorem szDesk_some (l0 : List Nat) (a1 a2 a3 a4 a5 a6 a7 a8 : Nat) (l9 : List Nat) (a10 : Nat) (L : List LS) (h0 : l0.length ≤ 9223372036854775807) (h9 : l9.length ≤ 9223372036854775807) (hl : L.length ≤ 9223372036854775807) (hx : ∀ x ∈ L, okS x) (k : Nat) (hk : 1048600 ≤ k) (a : Int) (ha : 0 ≤ a) (hb : a ≤ 1048576) : ∃ r, laws_szDesk.f k l0 a1 a2 a3 a4 a5 a6 a7 a8 l9 a10 L a = some r ∧ (r < 0 ∨ (0 ≤ r ∧ r ≤ 1048576) ∧ l0.length ≤ 1048576 ∧ l9.length ≤ 1048576 ∧ L.length ≤ 1048576 ∧ ∀ x ∈ L, x.f0.size ≤ 1048576 ∧ x.f1.length ≤ 1048576) := by
  unfold laws_szDesk.f laws_szTube.f laws_szPredictor.f
  obtain ⟨r1, e1, hr1⟩ := szF_some l0 h0 a ha hb
  rw [e1, Option.bind_some]
  by_cases c1 : r1 < 0
  · rw [if_pos c1, Option.bind_some, if_pos (by decide)]; exact ⟨_, rfl, .inl (by omega)⟩
  rw [if_neg c1, Option.bind_some, if_neg c1]
  obtain ⟨r2, e2, hr2⟩ := szF_some l9 h9 r1 (by omega) (by omega)
  rw [e2, Option.bind_some]
  by_cases c2 : r2 < 0
  · rw [if_pos c2, Option.bind_some, if_pos (by decide)]; exact ⟨_, rfl, .inl (by omega)⟩
  rw [if_neg c2, Option.bind_some, if_neg c2]
  obtain ⟨r3, e3, hr3⟩ := szL_at L hl hx k hk r2 (by omega) (by omega)
  rw [e3, Option.bind_some]
  by_cases c3 : r3 < 0
  · rw [if_pos c3]; exact ⟨_, rfl, .inl (by omega)⟩
  rw [if_neg c3]
  obtain ⟨b1, b2, b3⟩ := hr3.resolve_left c3
  exact ⟨_, rfl, .inr ⟨b1, by omega, by omega, b2, b3⟩⟩
theorem okI_cv (x : LS) (h : okS x) (hz : x.f0.size ≤ 1048576 ∧ x.f1.length ≤ 1048576) : okI (cv1 x) := ⟨hz.1, hz.2, h.2.1.2, h.2.2.1, h.2.2.2.1, h.2.2.2.2.1, h.2.2.2.2.2⟩
end Go.Proofs.Ytoiaojdkgagblaa.SaPure
