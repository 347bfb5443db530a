/- What the printed functions of ValidBlock come to: both test the time and the count of values. -/
import Derived.Test.YtgiednkailakgaaPFnExactValidBlockx2
import Derived.Test.YtgiednkailakgaaOb
set_option linter.unusedVariables false
set_option linter.unusedSimpArgs false
namespace Go.Proofs.Ytgiednkailakgaa.VbPure
open Go.RowKit Go.Proofs.YtgiednkailakgaaW.PrintWords Go.Proofs.YtgiednkailakgaaW.PrintFl Go.Proofs.Ytgiednkailakgaa.PFnExactValidBlock
theorem szF_some (l : List Nat) (hl : l.length ≤ 9223372036854775807) (a : Int) (ha : 0 ≤ a) (hb : a ≤ 1048576) : ∃ r, laws_szFloat32S.f l a = some r ∧ (r < 0 ∨ 0 ≤ r ∧ r ≤ 1048576 ∧ l.length ≤ 1048576) := by
  unfold laws_szFloat32S.f
  rw [w64 (x := a - l.length) (by omega) (by omega)]
  split
  · exact ⟨_, rfl, .inl (by omega)⟩
  · exact ⟨_, rfl, .inr (by omega)⟩
theorem toFl_some (l : List Nat) (hl : l.length ≤ 1048576) : ∀ (k : Nat) (ys : List Nat) (i : Nat), i ≤ l.length → l.length - i < k → ys.length = l.length → ys.take i = l.take i → laws_toFloat32S.l0 k l ys (i : Int) = some l
  | 0, ys, i, h1, hk, hy, ht => by omega
  | k + 1, ys, i, h1, hk, hy, ht => by
    unfold laws_toFloat32S.l0
    by_cases c : (i : Int) < (l.length : Int)
    · rw [if_pos c, if_pos (by omega), if_pos (by omega), w64 (by omega) (by omega)]
      have e : ((i : Int) + 1) = ((i + 1 : Nat) : Int) := by omega
      rw [e]
      refine toFl_some l hl k _ (i + 1) (by omega) (by omega) (by rw [List.length_set]; exact hy) ?_
      have hil : i < l.length := by omega
      show (ys.set ((i : Int)).toNat (rdOf 0 l (i : Int))).take (i + 1) = _
      rw [Int.toNat_natCast]
      refine take_set_succ hil hy ht ?_
      unfold rdOf
      rw [Int.toNat_natCast, List.getD_eq_getElem?_getD, List.getElem?_eq_getElem hil]
      rfl
    · rw [if_neg c]
      have : i = l.length := by omega
      subst this
      rw [List.take_length, List.take_of_length_le (by omega)] at ht
      rw [ht]
theorem toF_some (l : List Nat) (hl : l.length ≤ 1048576) (k : Nat) (hk : 1048577 ≤ k) : laws_toFloat32S.f k l = some l := by
  unfold laws_toFloat32S.f
  rw [if_pos (by omega), if_pos (by omega)]
  exact toFl_some l hl k _ 0 (by omega) (by omega) (by rw [List.length_replicate]; omega) rfl
theorem eqF_some (l : List Nat) (hl : l.length ≤ 1048576) (hb : ∀ x ∈ l, x < 4294967296) : laws_eqFloat32S.f l l = some true := by
  unfold laws_eqFloat32S.f
  rw [if_pos ⟨rfl, hl, hb⟩]
theorem szB_some (t : Int) (l : List Nat) (hl : l.length ≤ 9223372036854775807) (a : Int) (ha : 0 ≤ a) (hb : a ≤ 1048576) : ∃ r, laws_szBlock.f t l a = some r ∧ (r < 0 ∨ 0 ≤ r ∧ r ≤ 1048576 ∧ l.length ≤ 1048576) := by
  obtain ⟨r, hr, h⟩ := szF_some l hl a ha hb
  unfold laws_szBlock.f
  rw [hr, Option.bind_some]
  split
  · exact ⟨_, rfl, .inl (by omega)⟩
  · exact ⟨_, rfl, h⟩
theorem toB_some (t : Int) (l : List Nat) (hl : l.length ≤ 1048576) (k : Nat) (hk : 1048577 ≤ k) : laws_toBlock.f k t l = some (t, l) := by
  unfold laws_toBlock.f
  rw [toF_some l hl k hk]
  rfl
theorem eqB_some (t : Int) (l : List Nat) (hl : l.length ≤ 1048576) (hb : ∀ x ∈ l, x < 4294967296) : laws_eqBlock.f t l t l = some true := by
  unfold laws_eqBlock.f
  rw [if_pos rfl, eqF_some l hl hb, Option.bind_some, if_pos rfl]
theorem same (t : Int) (l : List Nat) : ∃ b, spec_ValidBlock.f t l = some b ∧ impl_ValidBlock.f t l = some b := by
  unfold spec_ValidBlock.f impl_ValidBlock.f spec_l07Block.f spec_l00In.f impl_within.f spec_l07Values.f
  have hr : rd_T27 [(⟨t, l⟩ : S27)] 0 = ⟨t, l⟩ := rfl
  rw [if_pos (show (0 : Int) < (([(⟨t, l⟩ : S27)] : List S27).length : Int) by show (0 : Int) < 1; decide), hr]
  dsimp only
  by_cases c : t ≥ 0
  · rw [if_pos c]
    simp only [Option.bind_some]
    by_cases d : decide (t ≤ 4294967295) = true
    · rw [if_pos d]
      by_cases e : (l.length : Int) ≥ 1
      · rw [if_pos e]; exact ⟨_, rfl, rfl⟩
      · rw [if_neg e]; exact ⟨_, rfl, rfl⟩
    · rw [if_neg d]; exact ⟨_, rfl, rfl⟩
  · rw [if_neg c]; exact ⟨_, rfl, rfl⟩
theorem pure (t : Int) (l : List Nat) (h0 : l.length ≤ 9223372036854775807) (hx : ∀ x ∈ l, x < 4294967296) : laws_FnExactValidBlock.f 1048578 t l = some true := by
  unfold laws_FnExactValidBlock.f
  obtain ⟨r0, e0, hr0⟩ := szB_some t l h0 1048576 (by omega) (by omega)
  rw [e0, Option.bind_some]
  split
  · rfl
  obtain ⟨b, hs, hi⟩ := same t l
  rw [toB_some t l (by omega) _ (by omega)]
  simp only [Option.bind_some]
  rw [hs, hi]
  simp only [Option.bind_some]
  rw [eqB_some t l (by omega) hx]
  simp
end Go.Proofs.Ytgiednkailakgaa.VbPure
namespace Go.Proofs.Ytgiednkailakgaa
open Go.RowKit Go.Proofs.YtgiednkailakgaaW.PrintWords Go.Proofs.YtgiednkailakgaaW.PrintFl
theorem validBlock_w (cs0 : Array Value) (y0 : Int × List Nat) (w : World) (k0 : (Kd.iso (Kd.pair (Kd.int .i64) (Kd.slice 65 (Kd.float .f32))) (fun x : Int × List Nat => x)).K w y0 cs0.toList) (z0 : y0.2.length ≤ 9223372036854775807 ∧ ∀ y ∈ y0.2, y < 4294967296) :
    Calls Try.prog 3 #[.agg cs0] w fun e w' => e = .returned (.bool true) ∧ Below w.heap.size w w' := by
  obtain ⟨A0, c0, rfl, hl0, hr0⟩ := block_open k0
  exact PFnExactValidBlock.laws_FnExactValidBlock.calls 1048578 y0.1 A0 c0 y0.2 true w hr0 hl0 (VbPure.pure y0.1 y0.2 z0.1 z0.2)
end Go.Proofs.Ytgiednkailakgaa
