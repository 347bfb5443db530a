import Derived.Test.YtjkpbmdkkdofkaaDoorSoBase
import Derived.Test.YtjkpbmdkkdofkaaDoorLm
import Derived.Test.YtjkpbmdkkdofkaaDoorOp
import Derived.Lib.IndexBytes
set_option linter.unusedVariables false
set_option linter.unusedSimpArgs false
namespace Go.Proofs.YtjkpbmdkkdofkaaDoor.SoPure
open Go.RowKit Go.Proofs.YtjkpbmdkkdofkaaDoorW.PrintWords Go.Proofs.YtjkpbmdkkdofkaaDoor.PFnExactSoundsOf Go.Proofs.YtjkpbmdkkdofkaaDoor.Lm
theorem both (l : List SI) (hl : l.length ≤ 1048576) (ho : ∀ x ∈ l, okR x) (w : ByteArray) (hw : w.size ≤ 1048576) : ∃ r : List ByteArray × Bool, r.1.length ≤ 600 ∧ ∀ k, 12000001 ≤ k → spec_SoundsOf.f k l w = some r ∧ impl_SoundsOf.f k l w = some r := by
  by_cases c : rulesB l = true
  · by_cases d : wordB w = true
    · obtain ⟨hlen, hr⟩ := rulesB_parts c
      obtain ⟨r, h0, h⟩ := sounds_both l hlen ho hr w (wordB_size d)
      refine ⟨r, h0, fun k hk => ⟨?_, ?_⟩⟩
      · unfold spec_SoundsOf.f
        rw [rules_f l hl ho _ (by omega), Option.bind_some, if_pos c, word_s w (by omega) _ (by omega), Option.bind_some, if_pos d, (h k hk).1, Option.bind_some]
      · unfold impl_SoundsOf.f
        rw [areRules_f l hl ho _ (by omega), Option.bind_some, if_pos c, word_i w (by omega) _ (by omega), Option.bind_some, if_pos d, (h k hk).2, Option.bind_some]
    · refine ⟨([], false), by decide, fun k hk => ⟨?_, ?_⟩⟩
      · unfold spec_SoundsOf.f
        rw [rules_f l hl ho _ (by omega), Option.bind_some, if_pos c, word_s w (by omega) _ (by omega), Option.bind_some, if_neg d]
      · unfold impl_SoundsOf.f
        rw [areRules_f l hl ho _ (by omega), Option.bind_some, if_pos c, word_i w (by omega) _ (by omega), Option.bind_some, if_neg d]
  · refine ⟨([], false), by decide, fun k hk => ⟨?_, ?_⟩⟩
    · unfold spec_SoundsOf.f
      rw [rules_f l hl ho _ (by omega), Option.bind_some, if_neg c]
    · unfold impl_SoundsOf.f
      rw [areRules_f l hl ho _ (by omega), Option.bind_some, if_neg c]
theorem pure (l : List SL) (hl : l.length ≤ 9223372036854775807) (ho : ∀ x ∈ l, okS x) (w : ByteArray) : ∃ k, laws_FnExactSoundsOf.f k l w = some true := by
  obtain ⟨K, hK⟩ : ∃ K : Nat, K = 12000001 := ⟨_, rfl⟩
  refine ⟨K + 1 + 1 + 1, ?_⟩
  unfold laws_FnExactSoundsOf.f
  by_cases cw : (w.size : Int) > 1048576
  · rw [if_pos cw]
  obtain ⟨r0, h0, hr⟩ := szs l hl ho 1048576 (by decide) (by decide)
  rw [if_neg cw, hr _ (by omega), Option.bind_some]
  by_cases c : r0 < 0
  · rw [if_pos c]
  · obtain ⟨hlen, hok⟩ := h0.resolve_left c
    have hcl : (convR l).length ≤ 1048576 := by rw [convR_len]; exact hlen
    obtain ⟨⟨r, ok⟩, hr48, h⟩ := both (convR l) hcl hok w (by omega)
    replace hr48 : r.length ≤ 600 := hr48
    obtain ⟨m, zs, hm, hm0⟩ := mr_some (convR l) hcl (K + 1 + 1) (by omega)
    have n0 : ¬ (((1 + r.length : Nat) : Int) < 0) := by omega
    rw [if_neg c, tos l hlen _ (by omega), Option.bind_some, (h _ (by omega)).1, Option.bind_some, Option.bind_some, (h _ (by omega)).2, Option.bind_some]
    dsimp only
    rw [eqSs r (by omega) _ (by omega), Option.bind_some, if_pos rfl, laws_FnExactSoundsOf.j0, if_neg (by simp), tos l hlen _ (by omega), Option.bind_some, eqRs _ hcl _ (by omega), Option.bind_some, if_pos rfl, hm, Option.bind_some]
    dsimp only
    rw [if_neg hm0, eqSs r (by omega) _ (by omega), Option.bind_some, if_pos rfl, laws_FnExactSoundsOf.j1, if_neg (by simp), markS_some r (by omega) _ (by omega), Option.bind_some]
    dsimp only
    rw [heldS_some r.length (by omega) _ (by omega), Option.bind_some, if_neg n0, if_pos rfl, tos l hlen _ (by omega), Option.bind_some, (h _ (by omega)).2, Option.bind_some]
    dsimp only
    rw [eqSs r (by omega) _ (by omega), Option.bind_some, if_pos rfl, laws_FnExactSoundsOf.j2, if_neg (by simp), heldS_some r.length (by omega) _ (by omega), Option.bind_some, if_neg n0, if_pos rfl]
end Go.Proofs.YtjkpbmdkkdofkaaDoor.SoPure
namespace Go.Proofs.YtjkpbmdkkdofkaaDoor
open Go.RowKit Go.Proofs.YtjkpbmdkkdofkaaDoorW.PrintWords Go.Proofs.YtjkpbmdkkdofkaaDoor.PFnExactSoundsOf Go.ChangeShapes Go.WideShapes
theorem opens_ruleS_sox : Opens Tryd.prog 23 k23 SoPure.okS :=
  opens_imp (opens_struct (P := Tryd.prog) (fun x : S23 => (x.f0, x.f1, x.f2, x.f3)) (fun x => ⟨x.1, x.2.1, x.2.2.1, x.2.2.2⟩) (fun _ => rfl) Tryd.underlying23 rfl (N := 4) (by kernel_rfl)
    (opensF_cons rfl (off' := 1) (by kernel_rfl) (opens_str Tryd.underlying9) (opensF_cons rfl (off' := 2) (by kernel_rfl) (opens_str Tryd.underlying9) (opensF_cons rfl (off' := 3) (by kernel_rfl) (opens_str Tryd.underlying9) (opensF_last rfl (by kernel_rfl) (opens_str Tryd.underlying9))))))
    (fun x h => h)
theorem opens_rules_sox : Opens Tryd.prog 37 (Kd.slice 23 k23) (fun l => l.length ≤ 9223372036854775807 ∧ l.length * 64 ≤ 140737488351232 ∧ ∀ x ∈ l, SoPure.okS x) :=
  opens_slice _ Tryd.underlying37 (by kernel_rfl) (by kernel_rfl) opens_ruleS_sox
theorem soundsOf_w (A0 : Option Addr) (c0 : Nat) (l0 : List S23) (a1 : ByteArray) (w : World) (hr0 : Kd.C k23 w A0 l0.length l0) (hc0 : l0.length ≤ c0) (z0 : l0.length ≤ 9223372036854775807 ∧ l0.length * 64 ≤ 140737488351232 ∧ ∀ x ∈ l0, SoPure.okS x) (w1 : a1.size ≤ 140737488351232) :
    Calls Tryd.prog 9 #[.slice A0 l0.length c0, .string a1] w fun e w' => e = .returned (.bool true) ∧ Below w.heap.size w w' := by
  obtain ⟨k, hk⟩ := SoPure.pure l0 z0.1 z0.2.2 a1
  exact laws_FnExactSoundsOf.calls k A0 c0 l0 a1 true w hr0 hc0 hk
end Go.Proofs.YtjkpbmdkkdofkaaDoor
