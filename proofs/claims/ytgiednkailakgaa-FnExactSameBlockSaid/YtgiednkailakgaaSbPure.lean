/- What the printed functions of SameBlock come to: both tell whether times and words are equal. -/
import Derived.Test.YtgiednkailakgaaPFnExactSameBlockx3
import Derived.Test.YtgiednkailakgaaOp
import Derived.Test.YtgiednkailakgaaOpen
import Derived.Test.YtgiednkailakgaaFm
set_option linter.unusedVariables false
set_option linter.unusedSimpArgs false
namespace Go.Proofs.Ytgiednkailakgaa.SbPure
open Go.RowKit Go.Proofs.YtgiednkailakgaaW.PrintWords Go.Proofs.YtgiednkailakgaaW.PrintFl Go.Proofs.Ytgiednkailakgaa.PFnExactSameBlock Go.ChangeShapes Go.WideShapes
theorem szF_some (l : List Nat) (hl : l.length ≤ 9223372036854775807) (a : Int) (ha : 0 ≤ a) (hb : a ≤ 1048576) : ∃ r, laws_szFloat32S.f l a = some r ∧ (r < 0 ∨ 0 ≤ r ∧ r ≤ 1048576 ∧ l.length ≤ 1048576) := by
  unfold laws_szFloat32S.f
  rw [w64 (x := a - l.length) (by omega) (by omega)]
  split
  · exact ⟨_, rfl, .inl (by omega)⟩
  · exact ⟨_, rfl, .inr (by omega)⟩
theorem toFl_some (l : List Nat) (hl : l.length ≤ 1048576) : ∀ (k : Nat) (ys : List Nat) (i : Nat), i ≤ l.length → l.length - i < k → ys.length = l.length → ys.take i = l.take i → laws_toFloat32S.l0 k l ys (i : Int) = some l
  | 0, ys, i, h1, hk, hy, ht => by omega
  | k + 1, ys, i, h1, hk, hy, ht => by
    unfold laws_toFloat32S.l0
    by_cases c : (i : Int) < (l.length : Int)
    · rw [if_pos c, if_pos (by omega), if_pos (by omega), w64 (by omega) (by omega)]
      have e : ((i : Int) + 1) = ((i + 1 : Nat) : Int) := by omega
      rw [e]
      refine toFl_some l hl k _ (i + 1) (by omega) (by omega) (by rw [List.length_set]; exact hy) ?_
      have hil : i < l.length := by omega
      show (ys.set ((i : Int)).toNat (rdOf 0 l (i : Int))).take (i + 1) = _
      rw [Int.toNat_natCast]
      refine take_set_succ hil hy ht ?_
      unfold rdOf
      rw [Int.toNat_natCast, List.getD_eq_getElem?_getD, List.getElem?_eq_getElem hil]
      rfl
    · rw [if_neg c]
      have : i = l.length := by omega
      subst this
      rw [List.take_length, List.take_of_length_le (by omega)] at ht
      rw [ht]
theorem toF_some (l : List Nat) (hl : l.length ≤ 1048576) (k : Nat) (hk : 1048577 ≤ k) : laws_toFloat32S.f k l = some l := by
  unfold laws_toFloat32S.f
  rw [if_pos (by omega), if_pos (by omega)]
  exact toFl_some l hl k _ 0 (by omega) (by omega) (by rw [List.length_replicate]; omega) rfl
theorem eqF_some (l : List Nat) (hl : l.length ≤ 1048576) (hb : ∀ x ∈ l, x < 4294967296) : laws_eqFloat32S.f l l = some true := by
  unfold laws_eqFloat32S.f
  rw [if_pos ⟨rfl, hl, hb⟩]
theorem szB_some (t : Int) (l : List Nat) (hl : l.length ≤ 9223372036854775807) (a : Int) (ha : 0 ≤ a) (hb : a ≤ 1048576) : ∃ r, laws_szBlock.f t l a = some r ∧ (r < 0 ∨ 0 ≤ r ∧ r ≤ 1048576 ∧ l.length ≤ 1048576) := by
  obtain ⟨r, hr, h⟩ := szF_some l hl a ha hb
  unfold laws_szBlock.f
  rw [hr, Option.bind_some]
  split
  · exact ⟨_, rfl, .inl (by omega)⟩
  · exact ⟨_, rfl, h⟩
theorem toB_some (t : Int) (l : List Nat) (hl : l.length ≤ 1048576) (k : Nat) (hk : 1048577 ≤ k) : laws_toBlock.f k t l = some (t, l) := by
  unfold laws_toBlock.f
  rw [toF_some l hl k hk]
  rfl
theorem eqB_some (t : Int) (l : List Nat) (hl : l.length ≤ 1048576) (hb : ∀ x ∈ l, x < 4294967296) : laws_eqBlock.f t l t l = some true := by
  unfold laws_eqBlock.f
  rw [if_pos rfl, eqF_some l hl hb, Option.bind_some, if_pos rfl]
theorem same_s (x y : Nat) (hx : x < 4294967296) (hy : y < 4294967296) : spec_l01Same.f x y = some (if isN .f32 x || isN .f32 y then (isN .f32 x && isN .f32 y) else x == y) := by
  unfold spec_l01Same.f spec_l01Bits.f
  rw [fne_self, fne_self]
  rw [w64 (x := (x : Int)) (by omega) (by omega), w64 (x := (y : Int)) (by omega) (by omega)]
  rcases nx : isN .f32 x <;> rcases ny : isN .f32 y
  · simp only [Bool.false_eq_true, if_false, Option.bind_some, Bool.or_self]
    by_cases e : x = y
    · subst e; simp
    · have : ¬ ((x : Int) = (y : Int)) := by omega
      rw [beq_eq_false_iff_ne.2 this, beq_eq_false_iff_ne.2 e]
  · simp only [Bool.false_eq_true, if_false, if_true, Option.bind_some, Bool.or_true, Bool.false_and]
    have : (x : Int) ≠ 2143289344 := by
      intro e
      have : x = 2143289344 := by omega
      subst this
      exact absurd nx (by decide +kernel)
    simpa using this
  · simp only [Bool.false_eq_true, if_false, if_true, Option.bind_some, Bool.true_or, Bool.true_and]
    have : (2143289344 : Int) ≠ y := by
      intro e
      have : y = 2143289344 := by omega
      subst this
      exact absurd ny (by decide +kernel)
    simpa using this
  · rfl
theorem sign_s {x : Nat} (hx : x < 4294967296) (h : isN .f32 x = false) : math_Signbit.f (fconv .f32 x .f64) = some (decide (2147483648 ≤ x)) := by
  obtain ⟨_, r, hr, he⟩ := wide_sign hx h
  unfold math_Signbit.f
  rw [he]
  congr 1
  by_cases c : 2147483648 ≤ x
  · rw [if_pos c]
    unfold wrap64
    simp only [c, decide_true, decide_eq_true_eq]
    omega
  · rw [if_neg c, w64 (by omega) (by omega)]
    simp only [c, decide_false, decide_eq_false_iff_not]
    omega
theorem same_i (x y : Nat) (hx : x < 4294967296) (hy : y < 4294967296) (k : Nat) (hk : 0 < k) : impl_SameNumber.f k x y = spec_l01Same.f x y := by
  rw [same_s x y hx hy]
  obtain ⟨k, rfl⟩ : ∃ m, k = m + 1 := ⟨k - 1, by omega⟩
  unfold impl_SameNumber.f
  rw [fne_self, fne_self]
  simp only [impl_SameNumber.j0, fne_self]
  rcases nx : isN .f32 x <;> rcases ny : isN .f32 y
  · have h1 := (wide_sign hx nx).1
    have h2 := (wide_sign hy ny).1
    simp only [Bool.false_eq_true, if_false, Bool.or_self, h1, h2, if_true, sign_s hx nx, sign_s hy ny, Option.bind_some]
    rw [← same_word hx hy nx ny]
    rcases feq .f32 x y <;> simp
  all_goals simp
theorem rd_lt {l : List Nat} (h : ∀ x ∈ l, x < 4294967296) (i : Int) : rdOf (0 : Nat) l i < 4294967296 := by
  unfold rdOf
  rw [List.getD_eq_getElem?_getD]
  rcases hh : l[i.toNat]? with _ | x
  · decide
  · exact h x (List.mem_of_getElem? hh)
theorem samel (xs ys : List Nat) (hx : ∀ x ∈ xs, x < 4294967296) (hy : ∀ x ∈ ys, x < 4294967296) (hl : xs.length = ys.length) (hb : xs.length ≤ 1048576) : ∀ (k : Nat) (i : Int), 0 ≤ i → i ≤ xs.length → xs.length - i < k →
    ∃ b, spec_l01SameAll.l0 k xs ys i = some b ∧ impl_sameNumbers.l0 k ys xs (xs.length : Int) i = some b
  | 0, i, h0, h1, hk => by omega
  | k + 1, i, h0, h1, hk => by
    unfold spec_l01SameAll.l0 impl_sameNumbers.l0
    by_cases c : i < (xs.length : Int)
    · rw [if_pos c, if_pos c, if_pos h0, if_pos h0, if_pos (by omega), if_pos c, if_pos (by omega), w64 (by omega) (by omega)]
      obtain ⟨b, h2, h3⟩ := samel xs ys hx hy hl hb k (i + 1) (by omega) (by omega) (by omega)
      obtain ⟨q, hq⟩ : ∃ q, spec_l01Same.f (rdOf (0 : Nat) xs i) (rdOf (0 : Nat) ys i) = some q := ⟨_, same_s _ _ (rd_lt hx i) (rd_lt hy i)⟩
      rw [same_i _ _ (rd_lt hx i) (rd_lt hy i) k (by omega), hq, Option.bind_some, Option.bind_some]
      split
      · exact ⟨b, h2, h3⟩
      · exact ⟨_, rfl, rfl⟩
    · rw [if_neg c, if_neg c]; exact ⟨_, rfl, rfl⟩
theorem sames (t u : Int) (xs ys : List Nat) (hx : ∀ x ∈ xs, x < 4294967296) (hy : ∀ x ∈ ys, x < 4294967296) (hb : xs.length ≤ 1048576) : ∃ b, spec_SameBlock.f 1048578 t xs u ys = some b ∧ impl_SameBlock.f 1048578 t xs u ys = some b := by
  unfold spec_SameBlock.f impl_SameBlock.f spec_l01SameAll.f impl_sameNumbers.f
  by_cases c : t = u
  · rw [if_pos c, if_pos c]
    by_cases e : (xs.length : Int) = (ys.length : Int)
    · rw [if_pos e, if_pos e]
      obtain ⟨b, h2, h3⟩ := samel xs ys hx hy (by omega) hb 1048578 0 (by omega) (by omega) (by omega)
      rw [h2, h3]
      exact ⟨b, rfl, rfl⟩
    · rw [if_neg e, if_neg e]; exact ⟨_, rfl, rfl⟩
  · rw [if_neg c, if_neg c]; exact ⟨_, rfl, rfl⟩
theorem pure (t u : Int) (xs ys : List Nat) (h0 : xs.length ≤ 9223372036854775807) (h1 : ys.length ≤ 9223372036854775807) (hx : ∀ x ∈ xs, x < 4294967296) (hy : ∀ x ∈ ys, x < 4294967296) : laws_FnExactSameBlock.f 1048578 t xs u ys = some true := by
  unfold laws_FnExactSameBlock.f
  obtain ⟨r0, e0, hr0⟩ := szB_some t xs h0 1048576 (by omega) (by omega)
  rw [e0, Option.bind_some]
  split
  · rfl
  obtain ⟨r1, e1, hr1⟩ := szB_some u ys h1 r0 (by omega) (by omega)
  rw [e1, Option.bind_some]
  split
  · rfl
  obtain ⟨b, hs, hi⟩ := sames t u xs ys hx hy (by omega)
  rw [toB_some t xs (by omega) _ (by omega), toB_some u ys (by omega) _ (by omega)]
  simp only [Option.bind_some]
  rw [hs, hi]
  simp only [Option.bind_some]
  rw [eqB_some t xs (by omega) hx, eqB_some u ys (by omega) hy]
  simp
end Go.Proofs.Ytgiednkailakgaa.SbPure
namespace Go.Proofs.Ytgiednkailakgaa
open Go.RowKit Go.Proofs.YtgiednkailakgaaW.PrintWords Go.Proofs.YtgiednkailakgaaW.PrintFl Go.ChangeShapes Go.WideShapes
theorem opens_raw {P : Program} {t : TypeId} {k : FloatKind} (ht : P.underlying t = some (.float k)) : Opens P t (Kd.float k) (fun x => x < fw k) := by
  intro H enc w base spare held fuel cs x h _
  obtain ⟨n, rfl, _, hw⟩ := trod_float ht h
  exact ⟨n, rfl, wf_lt hw⟩
theorem opens_block : Opens Try.prog 24 (Kd.iso (Kd.pair (Kd.int .i64) (Kd.slice 65 (Kd.float .f32))) (fun x : Int × List Nat => x)) (fun x => x.2.length ≤ 9223372036854775807 ∧ ∀ y ∈ x.2, y < 4294967296) :=
  opens_imp (opens_struct (P := Try.prog) (fun x : Int × List Nat => x) (fun x => x) (fun _ => rfl) Try.underlying24 rfl (N := 2) (by kernel_rfl)
    (opensF_cons rfl (off' := 1) (by kernel_rfl) (opens_int Try.underlying2) (opensF_last rfl (by kernel_rfl) (opens_slice (B := 4) _ Try.underlying22 (by kernel_rfl) (by kernel_rfl) (opens_raw Try.underlying65)))))
    (fun x h => ⟨h.2.1, h.2.2.2⟩)
theorem sameBlock_w (cs0 : Array Value) (y0 : Int × List Nat) (cs1 : Array Value) (y1 : Int × List Nat) (w : World) (k0 : (Kd.iso (Kd.pair (Kd.int .i64) (Kd.slice 65 (Kd.float .f32))) (fun x : Int × List Nat => x)).K w y0 cs0.toList) (z0 : y0.2.length ≤ 9223372036854775807 ∧ ∀ y ∈ y0.2, y < 4294967296)
    (k1 : (Kd.iso (Kd.pair (Kd.int .i64) (Kd.slice 65 (Kd.float .f32))) (fun x : Int × List Nat => x)).K w y1 cs1.toList) (z1 : y1.2.length ≤ 9223372036854775807 ∧ ∀ y ∈ y1.2, y < 4294967296) :
    Calls Try.prog 5 #[.agg cs0, .agg cs1] w fun e w' => e = .returned (.bool true) ∧ Below w.heap.size w w' := by
  obtain ⟨_, _, e0, rfl, ⟨A0, c0, rfl, hl0, hr0⟩⟩ := k0
  obtain ⟨_, _, e1, rfl, ⟨A1, c1, rfl, hl1, hr1⟩⟩ := k1
  have d0 : cs0 = #[.int .i64 y0.1, .slice A0 y0.2.length c0] := by rw [← Array.toArray_toList (xs := cs0), e0]; rfl
  have d1 : cs1 = #[.int .i64 y1.1, .slice A1 y1.2.length c1] := by rw [← Array.toArray_toList (xs := cs1), e1]; rfl
  subst d0 d1
  exact PFnExactSameBlock.laws_FnExactSameBlock.calls 1048578 y0.1 A0 c0 y0.2 y1.1 A1 c1 y1.2 true w hr0 hl0 hr1 hl1 (SbPure.pure y0.1 y1.1 y0.2 y1.2 z0.1 z1.1 z0.2 z1.2)
end Go.Proofs.Ytgiednkailakgaa
