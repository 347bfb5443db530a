import Derived.Test.YteooifighndmkaaFrq
set_option linter.unusedVariables false
set_option linter.unusedSimpArgs false
namespace Go.Proofs.Yteooifighndmkaa.FrPure
open Go.RowKit Go.Proofs.YteooifighndmkaaW.PrintWords Go.Proofs.YteooifighndmkaaW.PrintLast Go.Proofs.YteooifighndmkaaW.PrintMore Go.Proofs.YteooifighndmkaaW.PrintFl Go.Proofs.Yteooifighndmkaa Go.Proofs.Yteooifighndmkaa.PFnExactFrameAt Go.Proofs.Yteooifighndmkaa.Lm Go.Proofs.Yteooifighndmkaa.Sdm
theorem allc_len (L : List IS) : ∀ d i, allc L d i = true → ∀ j, i ≤ j → j < i + d → (rd_T49 L (j : Int)).f1.length = (rd_T49 L 0).f1.length
  | 0, i, _, j, h1, h2 => by omega
  | d + 1, i, h, j, h1, h2 => by
    rw [allc, Bool.and_eq_true] at h
    by_cases c : j = i
    · subst c
      have := h.1
      unfold cnd at this
      rw [Bool.and_eq_true, Bool.and_eq_true] at this
      exact of_decide_eq_true this.2.1
    · exact allc_len L d (i + 1) h.2 j (by omega) (by omega)
theorem fa1 (x : Nat) : impl_FrameAt_1.f x = some (!ab x) := by
  unfold impl_FrameAt_1.f impl_IsFinite.f ab
  rw [Option.bind_some]
  cases h : finB x with
  | true => rw [if_pos rfl, gt_le x h]; simp
  | false => rfl
theorem fcont (l : List Nat) (hl : l.length ≤ 1048576) : ∀ (d i k : Nat), i + d = l.length → d < k → ∃ r : Int, slices_IndexFunc_v_impl_FrameAt_1.l0 k l (l.length : Int) (i : Int) = some r ∧ decide (r ≥ 0) = !((l.drop i).all ab)
  | _, _, 0, _, h => by omega
  | 0, i, k + 1, h1, h2 => by
    obtain rfl : i = l.length := by omega
    refine ⟨-1, ?_, by rw [List.drop_length]; rfl⟩
    rw [slices_IndexFunc_v_impl_FrameAt_1.l0, if_neg (by omega)]
  | d + 1, i, k + 1, h1, h2 => by
    have hi : i < l.length := by omega
    have e : wrap64 ((i : Int) + 1) = ((i + 1 : Nat) : Int) := by rw [w64 (by omega) (by omega)]; omega
    rw [slices_IndexFunc_v_impl_FrameAt_1.l0, if_pos (by omega), if_pos (by omega), if_pos (by omega), rdN_at hi, fa1, Option.bind_some, e, List.drop_eq_getElem_cons hi, List.all_cons]
    cases c : ab l[i] with
    | false =>
      rw [if_pos (by rfl)]
      exact ⟨_, rfl, by rw [decide_eq_true (by omega)]; rfl⟩
    | true =>
      rw [if_neg (by decide)]
      obtain ⟨r, h3, h4⟩ := fcont l hl d (i + 1) k (by omega) (by omega)
      exact ⟨r, h3, by rw [h4]; simp⟩
theorem fcont_some (l : List Nat) (hl : l.length ≤ 1048576) (k : Nat) (hk : 1048600 ≤ k) : slices_ContainsFunc_v_impl_FrameAt_1.f k l = some (!(l.all ab)) := by
  obtain ⟨r, h1, h2⟩ := fcont l hl l.length 0 k (by omega) (by omega)
  unfold slices_ContainsFunc_v_impl_FrameAt_1.f slices_IndexFunc_v_impl_FrameAt_1.f
  rw [show ((0 : Nat) : Int) = 0 from rfl] at h1
  rw [h1, Option.bind_some, h2, List.drop_zero]
theorem fo_both (L : List IS) (hl : L.length ≤ 1048576) (hx : ∀ x ∈ L, okI x) (ns : List ByteArray) (hn : ns.length ≤ 1048576) (ls : List Nat) (hls : ls.length ≤ 1048576) (t : Nat) : ∃ (r : List Nat) (p v u : Nat) (ok : Bool), AnsOk r p v u ∧ Frl.Fsays 12 L ns ls t r p v u ok ∧ Frl.Fsays 8 L ns ls t r p v u ok := by
  obtain ⟨b, hb, hbt⟩ := names_both L hl hx ns hn
  have hN1 : ∀ (X0 X1 : Option Addr) (d0 d1 : Nat) (W : World), Kd.C k49 W X0 L.length L → L.length ≤ d0 → Kd.C Kd.string W X1 ns.length ns → ns.length ≤ d1 → Fra.SaysB 45 #[.slice X0 L.length d0, .slice X1 ns.length d1] b W ∧ Fra.SaysB 41 #[.slice X0 L.length d0, .slice X1 ns.length d1] b W := fun X0 X1 d0 d1 W h1 h2 h3 h4 =>
    ⟨fun W' hW => impl_areNames.calls 4000000 X0 d0 L X1 d1 ns b W' (Kd.C_below h1 hW) h2 (Kd.C_below h3 hW) h4 (hb _ (by decide)).2, fun W' hW => spec_l06Names.calls 4000000 X0 d0 L X1 d1 ns b W' (Kd.C_below h1 hW) h2 (Kd.C_below h3 hW) h4 (hb _ (by decide)).1⟩
  have hI : ∀ W : World, Fra.SaysB 46 #[.float .f32 t] (finB t) W := fun W W' hW => (impl_IsFinite.calls t (finB t) W' rfl).mono (fun e w' ⟨h1, h2⟩ => ⟨h1, by first | exact db h2 | exact h2⟩)
  have hLe : ∀ W : World, Fra.SaysB 42 #[.float .f32 t] (finB t && fge .f32 t 0) W := fun W W' hW => (spec_l02Least.calls t _ W' (by
    unfold spec_l02Least.f spec_l01Finite.f
    rw [Option.bind_some]
    cases finB t <;> rfl)).mono (fun e w' ⟨h1, h2⟩ => ⟨h1, by first | exact db h2 | exact h2⟩)
  have hAb : ∀ (x : Nat) (W : World), Fra.SaysB 43 #[.float .f32 x] (ab x) W := fun x W W' hW => (spec_l02Above.calls x _ W' (ab_spec x)).mono (fun e w' ⟨h1, h2⟩ => ⟨h1, by first | exact db h2 | exact h2⟩)
  by_cases c : b = true ∧ ls.length = ns.length ∧ finB t = true ∧ fge .f32 t 0 = true ∧ ls.all ab = true
  · obtain ⟨c1, c2, c3, c4, c5⟩ := c
    obtain ⟨h1, h2, h3⟩ := hbt c1
    have hare : impl_AreSounds.f 2100000 L = some (allc L L.length 0 && decide (L.length ≤ 16)) := are_impl L hl hx L.length 0 2100000 (by omega) (by omega)
    have hall : allc L L.length 0 = true := by
      rw [h3] at hare
      have := Option.some.inj hare
      cases h : allc L L.length 0 with
      | true => rfl
      | false => rw [h] at this; cases this
    have hmem : ∀ x ∈ L, ∃ j : Nat, j < L.length ∧ rd_T49 L (j : Int) = x := fun x hxm => by
      obtain ⟨j, hj, rfl⟩ := List.getElem_of_mem hxm
      exact ⟨j, hj, rdI_at hj⟩
    have g : Good L ns ls t := ⟨hl, hx, fun x hxm => by
        obtain ⟨j, hj, rfl⟩ := hmem x hxm
        exact snd_ok _ (hx _ hxm) (allc_at L L.length 0 hall j (by omega) (by omega)), fun x hxm y hym => by
        obtain ⟨j, hj, rfl⟩ := hmem x hxm
        obtain ⟨i, hi, rfl⟩ := hmem y hym
        rw [allc_len L L.length 0 hall j (by omega) (by omega), allc_len L L.length 0 hall i (by omega) (by omega)], h1, fun s hs => List.all_eq_true.1 h2 s hs, c2, c5, c3⟩
    obtain ⟨r, p, v, u, ok, ha, hi, hs⟩ := at_both g
    refine ⟨r, p, v, u, ok, ha, fun X0 X1 X2 d0 d1 d2 W k0 k1 k2 k3 k4 k5 => ?_, fun X0 X1 X2 d0 d1 d2 W k0 k1 k2 k3 k4 k5 => ?_⟩
    · exact Fra.fo_impl X0 X1 X2 d0 d1 d2 L.length ns.length ls.length t b (finB t) false r p v u ok W (hN1 X0 X1 d0 d1 W k0 k1 k2 k3).1 (hI W) (fun _ _ W' hW => (slices_ContainsFunc_v_impl_FrameAt_1.calls 1048600 X2 d2 ls false W' (Kd.C_below k4 hW) k5 (by rw [fcont_some ls hls _ (by decide), c5]; rfl)).mono (fun e w' ⟨q1, q2⟩ => ⟨q1, db q2⟩))
        (fun _ _ _ _ _ W' hW => hi X0 X1 X2 d0 d1 d2 W' ⟨Kd.C_below k0 hW, Kd.C_below k2 hW, Kd.C_below k4 hW, k1, k3, k5⟩) (.inl ⟨c1, c2, c3, c4, rfl⟩)
    · exact Fra.fo_spec X0 X1 X2 d0 d1 d2 L.length ns.length t ls ab b (finB t && fge .f32 t 0) r p v u ok W hls k4 (hN1 X0 X1 d0 d1 W k0 k1 k2 k3).2 (hLe W) (fun x => hAb x W)
        (fun _ _ _ _ W' hW => hs X0 X1 X2 d0 d1 d2 W' ⟨Kd.C_below k0 hW, Kd.C_below k2 hW, Kd.C_below k4 hW, k1, k3, k5⟩) (.inl ⟨c1, c2, by rw [c3, c4]; rfl, c5⟩)
  · refine ⟨[], 0, 0, 0, false, ⟨by decide, fun y hy => (List.not_mem_nil hy).elim, by decide, by decide, by decide⟩, fun X0 X1 X2 d0 d1 d2 W k0 k1 k2 k3 k4 k5 => ?_, fun X0 X1 X2 d0 d1 d2 W k0 k1 k2 k3 k4 k5 => ?_⟩
    · have hc : ¬ (b = true ∧ ls.length = ns.length ∧ finB t = true ∧ fge .f32 t 0 = true ∧ (!(ls.all ab)) = false) := fun ⟨q1, q2, q3, q4, q5⟩ => c ⟨q1, q2, q3, q4, by simpa using q5⟩
      exact Fra.fo_impl X0 X1 X2 d0 d1 d2 L.length ns.length ls.length t b (finB t) (!(ls.all ab)) [] 0 0 0 false W (hN1 X0 X1 d0 d1 W k0 k1 k2 k3).1 (hI W) (fun _ _ W' hW => (slices_ContainsFunc_v_impl_FrameAt_1.calls 1048600 X2 d2 ls _ W' (Kd.C_below k4 hW) k5 (fcont_some ls hls _ (by decide))).mono (fun e w' ⟨q1, q2⟩ => ⟨q1, db q2⟩))
        (fun q1 q2 q3 q4 q5 => absurd ⟨q1, q2, q3, q4, q5⟩ hc) (.inr ⟨rfl, rfl, rfl, rfl, rfl, hc⟩)
    · have hc : ¬ (b = true ∧ ls.length = ns.length ∧ (finB t && fge .f32 t 0) = true ∧ ls.all ab = true) := fun ⟨q1, q2, q3, q4⟩ => c ⟨q1, q2, (Bool.and_eq_true _ _ ▸ q3).1, (Bool.and_eq_true _ _ ▸ q3).2, q4⟩
      exact Fra.fo_spec X0 X1 X2 d0 d1 d2 L.length ns.length t ls ab b (finB t && fge .f32 t 0) [] 0 0 0 false W hls k4 (hN1 X0 X1 d0 d1 W k0 k1 k2 k3).2 (hLe W) (fun x => hAb x W)
        (fun q1 q2 q3 q4 => absurd ⟨q1, q2, q3, q4⟩ hc) (.inr ⟨rfl, rfl, rfl, rfl, rfl, hc⟩)
end Go.Proofs.Yteooifighndmkaa.FrPure
