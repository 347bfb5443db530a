/- What the printed functions of SameRules come to. -/
import Derived.Test.YtiedighbadakdaaPFnExactSameRulesx3
import Derived.Test.YtiedighbadakdaaOp
set_option linter.unusedVariables false
set_option linter.unusedSimpArgs false
namespace Go.Proofs.Ytiedighbadakdaa.SrPure
open Go.RowKit Go.Proofs.YtiedighbadakdaaW.PrintWords Go.Proofs.Ytiedighbadakdaa.PFnExactSameRules Go.ChangeShapes Go.WideShapes

theorem w64 {x : Int} (h0 : -9223372036854775808 ≤ x) (h1 : x ≤ 9223372036854775807) : wrap64 x = x := by
  unfold wrap64; omega
abbrev SL := S62
abbrev SI := S54
def okS (x : SL) : Prop := x.f0.size ≤ 140737488351232 ∧ x.f1.size ≤ 140737488351232 ∧ x.f2.size ≤ 140737488351232 ∧ x.f3.size ≤ 140737488351232
theorem rd_ok {l : List SL} (h : ∀ x ∈ l, okS x) (i : Int) : okS (rd_T62 l i) := by
  unfold rd_T62
  rw [List.getD_eq_getElem?_getD]
  rcases hh : l[i.toNat]? with _ | x
  · exact ⟨by decide, by decide, by decide, by decide⟩
  · exact h x (List.mem_of_getElem? hh)
theorem sz_some (x0 x1 x2 x3 : ByteArray) (a : Int) (ha : 0 ≤ a) (hb : a ≤ 1048576) (h0 : x0.size ≤ 140737488351232) (h1 : x1.size ≤ 140737488351232) (h2 : x2.size ≤ 140737488351232) (h3 : x3.size ≤ 140737488351232) :
    ∃ r, laws_szRule.f x0 x1 x2 x3 a = some r ∧ (r < 0 ∨ 0 ≤ r ∧ r ≤ 1048576) := by
  unfold laws_szRule.f
  generalize x0.size = s0 at *
  generalize x1.size = s1 at *
  generalize x2.size = s2 at *
  generalize x3.size = s3 at *
  rw [w64 (x := a - s0) (by omega) (by omega)]
  split
  · exact ⟨_, rfl, .inl (by omega)⟩
  rw [w64 (x := a - s0 - s1) (by omega) (by omega)]
  split
  · exact ⟨_, rfl, .inl (by omega)⟩
  rw [w64 (x := a - s0 - s1 - s2) (by omega) (by omega)]
  split
  · exact ⟨_, rfl, .inl (by omega)⟩
  rw [w64 (x := a - s0 - s1 - s2 - s3) (by omega) (by omega)]
  split
  · exact ⟨_, rfl, .inl (by omega)⟩
  · exact ⟨_, rfl, .inr (by omega)⟩
theorem szl_some (l : List SL) (hl : l.length ≤ 1048576) (ho : ∀ x ∈ l, okS x) : ∀ (k : Nat) (a i : Int), 0 ≤ i → i ≤ l.length → l.length - i < k → 0 ≤ a → a ≤ 1048576 → ∃ r, laws_szRuleS.l0 k l a i = some r ∧ (r < 0 ∨ 0 ≤ r ∧ r ≤ 1048576)
  | 0, a, i, h0, h1, hk, _, _ => by omega
  | k + 1, a, i, h0, h1, hk, ha, hb => by
    unfold laws_szRuleS.l0
    by_cases c : i < (l.length : Int)
    · rw [if_pos c, if_pos h0]
      have ho' := rd_ok ho i
      obtain ⟨r, hr, hr2⟩ := sz_some _ _ _ _ a ha hb ho'.1 ho'.2.1 ho'.2.2.1 ho'.2.2.2
      rw [hr]
      show ∃ r', (if r < 0 then some (-1) else laws_szRuleS.l0 k l r (wrap64 (i + 1))) = some r' ∧ _
      by_cases c2 : r < 0
      · rw [if_pos c2]; exact ⟨_, rfl, .inl (by omega)⟩
      · rw [if_neg c2, w64 (by omega) (by omega)]
        exact szl_some l hl ho k r (i + 1) (by omega) (by omega) (by omega) (by omega) (by omega)
    · rw [if_neg c]; exact ⟨_, rfl, .inr ⟨ha, hb⟩⟩
theorem szs_some (l : List SL) (hl : l.length ≤ 9223372036854775807) (ho : ∀ x ∈ l, okS x) (a : Int) (ha : 0 ≤ a) (hb : a ≤ 1048576) (k : Nat) (hk : 1048577 ≤ k) : ∃ r, laws_szRuleS.f k l a = some r ∧ (r < 0 ∨ 0 ≤ r ∧ r ≤ 1048576 ∧ l.length ≤ 1048576) := by
  unfold laws_szRuleS.f
  rw [w64 (x := a - l.length) (by omega) (by omega)]
  split
  · exact ⟨_, rfl, .inl (by omega)⟩
  · obtain ⟨r, hr, h⟩ := szl_some l (by omega) ho k (a - l.length) 0 (by omega) (by omega) (by omega) (by omega) (by omega)
    exact ⟨r, hr, by omega⟩
theorem tol_some (l : List SL) (hl : l.length ≤ 1048576) : ∀ (k : Nat) (ys : List SI) (i : Int), 0 ≤ i → i ≤ l.length → l.length - i < k → ys.length = l.length → ∃ zs, laws_toRuleS.l0 k l ys i = some zs ∧ zs.length = l.length
  | 0, ys, i, h0, h1, hk, hy => by omega
  | k + 1, ys, i, h0, h1, hk, hy => by
    unfold laws_toRuleS.l0
    by_cases c : i < (l.length : Int)
    · rw [if_pos c, if_pos h0]
      unfold laws_toRule.f
      rw [Option.bind_some, if_pos (by omega), w64 (by omega) (by omega)]
      exact tol_some l hl k _ (i + 1) (by omega) (by omega) (by omega) (by rw [List.length_set]; exact hy)
    · rw [if_neg c]; exact ⟨_, rfl, hy⟩
theorem tos_some (l : List SL) (hl : l.length ≤ 1048576) (k : Nat) (hk : 1048577 ≤ k) : ∃ zs, laws_toRuleS.f k l = some zs ∧ zs.length = l.length := by
  unfold laws_toRuleS.f
  rw [if_pos (by omega), if_pos (by omega)]
  exact tol_some l hl k _ 0 (by omega) (by omega) (by omega) (by rw [List.length_replicate]; omega)
theorem eq_refl (x0 x1 x2 x3 : ByteArray) : laws_eqRule.f x0 x1 x2 x3 x0 x1 x2 x3 = some true := by
  unfold laws_eqRule.f
  rw [if_pos rfl, if_pos rfl, if_pos rfl, if_pos rfl]
theorem eql_some (l : List SI) (hl : l.length ≤ 1048576) : ∀ (k : Nat) (i : Int), 0 ≤ i → i ≤ l.length → l.length - i < k → laws_eqRuleS.l0 k l l i = some true
  | 0, i, h0, h1, hk => by omega
  | k + 1, i, h0, h1, hk => by
    unfold laws_eqRuleS.l0
    by_cases c : i < (l.length : Int)
    · rw [if_pos c, if_pos h0, if_pos c, eq_refl, Option.bind_some, if_pos rfl, w64 (by omega) (by omega)]
      exact eql_some l hl k (i + 1) (by omega) (by omega) (by omega)
    · rw [if_neg c]
theorem eqs_some (l : List SI) (hl : l.length ≤ 1048576) (k : Nat) (hk : 1048577 ≤ k) : laws_eqRuleS.f k l l = some true := by
  unfold laws_eqRuleS.f
  rw [if_pos rfl]
  exact eql_some l hl k 0 (by omega) (by omega) (by omega)
theorem samel (xs ys : List SI) (n : Int) : ∀ (k : Nat) (i : Int), spec_SameRules.l0 k xs ys n i = impl_Rule.l0 k xs ys n i
  | 0, i => rfl
  | k + 1, i => by
    unfold spec_SameRules.l0 impl_Rule.l0
    rw [samel xs ys n k]
theorem sames (xs ys : List SI) (k : Nat) : spec_SameRules.f k xs ys = impl_SameRules.f k xs ys := by
  unfold spec_SameRules.f impl_SameRules.f impl_Rule.f
  rw [samel]
  cases (if (xs.length : Int) = (ys.length : Int) then impl_Rule.l0 k xs ys (xs.length : Int) 0 else some false) <;> rfl
theorem implementl (xs ys : List SI) (hl : xs.length ≤ 1048576) (he : xs.length = ys.length) : ∀ (k : Nat) (i : Int), 0 ≤ i → i ≤ xs.length → xs.length - i < k → ∃ b, spec_SameRules.l0 k xs ys (xs.length : Int) i = some b
  | 0, i, h0, h1, hk => by omega
  | k + 1, i, h0, h1, hk => by
    unfold spec_SameRules.l0
    by_cases c : i < (xs.length : Int)
    · rw [if_pos c, if_pos h0, if_pos c, if_pos (by omega)]
      split
      · exact ⟨_, rfl⟩
      · rw [w64 (by omega) (by omega)]
        exact implementl xs ys hl he k (i + 1) (by omega) (by omega) (by omega)
    · rw [if_neg c]; exact ⟨_, rfl⟩
theorem spec_some (xs ys : List SI) (hl : xs.length ≤ 1048576) (k : Nat) (hk : 1048577 ≤ k) : ∃ b, spec_SameRules.f k xs ys = some b := by
  unfold spec_SameRules.f
  split
  · exact implementl xs ys hl (by omega) k 0 (by omega) (by omega) (by omega)
  · exact ⟨_, rfl⟩
theorem pure (l0 l1 : List SL) (h0 : l0.length ≤ 9223372036854775807) (h1 : l1.length ≤ 9223372036854775807) (o0 : ∀ x ∈ l0, okS x) (o1 : ∀ x ∈ l1, okS x) : laws_FnExactSameRules.f 1048577 l0 l1 = some true := by
  unfold laws_FnExactSameRules.f
  obtain ⟨r0, e0, hr0⟩ := szs_some l0 h0 o0 1048576 (by omega) (by omega) 1048577 (by omega)
  rw [e0, Option.bind_some]
  split
  · rfl
  obtain ⟨r1, e1, hr1⟩ := szs_some l1 h1 o1 r0 (by omega) (by omega) 1048577 (by omega)
  rw [e1, Option.bind_some]
  split
  · rfl
  obtain ⟨xs, ex, hx⟩ := tos_some l0 (by omega) 1048577 (by omega)
  obtain ⟨ys, ey, hy⟩ := tos_some l1 (by omega) 1048577 (by omega)
  obtain ⟨b, eb⟩ := spec_some xs ys (by omega) 1048577 (by omega)
  rw [ex, ey, Option.bind_some, Option.bind_some, eb, Option.bind_some, Option.bind_some, Option.bind_some, ← sames, eb, Option.bind_some]
  rw [if_neg (by simp), Option.bind_some, eqs_some xs (by omega) 1048577 (by omega), Option.bind_some, if_pos rfl, Option.bind_some, eqs_some ys (by omega) 1048577 (by omega), Option.bind_some, if_pos rfl]
end Go.Proofs.Ytiedighbadakdaa.SrPure
namespace Go.Proofs.Ytiedighbadakdaa
open Go.RowKit Go.Proofs.YtiedighbadakdaaW.PrintWords Go.Proofs.Ytiedighbadakdaa.PFnExactSameRules Go.ChangeShapes Go.WideShapes
theorem opens_rule : Opens Try.prog 62 k62 SrPure.okS :=
  opens_imp (opens_struct (P := Try.prog) (fun x : S62 => (x.f0, x.f1, x.f2, x.f3)) (fun x => ⟨x.1, x.2.1, x.2.2.1, x.2.2.2⟩) (fun _ => rfl) Try.underlying62 rfl (N := 4) (by kernel_rfl)
    (opensF_cons rfl (off' := 1) (by kernel_rfl) (opens_str Try.underlying9) (opensF_cons rfl (off' := 2) (by kernel_rfl) (opens_str Try.underlying9) (opensF_cons rfl (off' := 3) (by kernel_rfl) (opens_str Try.underlying9) (opensF_last rfl (by kernel_rfl) (opens_str Try.underlying9))))))
    (fun x h => h)
theorem opens_rules : Opens Try.prog 44 (Kd.slice 62 k62) (fun l => l.length ≤ 9223372036854775807 ∧ l.length * 64 ≤ 140737488351232 ∧ ∀ x ∈ l, SrPure.okS x) :=
  opens_slice _ Try.underlying44 (by kernel_rfl) (by kernel_rfl) opens_rule
theorem sameRules_w (A0 : Option Addr) (c0 : Nat) (l0 : List S62) (A1 : Option Addr) (c1 : Nat) (l1 : List S62) (w : World) (hr0 : Kd.C k62 w A0 l0.length l0) (hc0 : l0.length ≤ c0)
    (z0 : l0.length ≤ 9223372036854775807 ∧ l0.length * 64 ≤ 140737488351232 ∧ ∀ x ∈ l0, SrPure.okS x) (hr1 : Kd.C k62 w A1 l1.length l1) (hc1 : l1.length ≤ c1) (z1 : l1.length ≤ 9223372036854775807 ∧ l1.length * 64 ≤ 140737488351232 ∧ ∀ x ∈ l1, SrPure.okS x) :
    Calls Try.prog 7 #[.slice A0 l0.length c0, .slice A1 l1.length c1] w fun e w' => e = .returned (.bool true) ∧ Below w.heap.size w w' :=
  laws_FnExactSameRules.calls 1048577 A0 c0 l0 A1 c1 l1 true w hr0 hc0 hr1 hc1 (SrPure.pure l0 l1 z0.1 z1.1 z0.2.2 z1.2.2)
end Go.Proofs.Ytiedighbadakdaa
