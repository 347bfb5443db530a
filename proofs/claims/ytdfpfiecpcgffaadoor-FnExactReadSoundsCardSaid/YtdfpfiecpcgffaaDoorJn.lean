import Derived.Test.YtdfpfiecpcgffaaDoorShelf
import Derived.Test.YtdfpfiecpcgffaaDoorWWords
namespace Go.Proofs.YtdfpfiecpcgffaaDoor
open Go.RowKit Go.Proofs.YtdfpfiecpcgffaaDoorW.PrintWords
theorem own_plain {α : Type} {d : Kd α} {e : Nat} {w : World} {base : Nat} {ok : Nat → Prop} {A : Option Addr} {n c : Nat} {xs : List α} (h : d.R e w base ok (.slice A n c) xs) : ∀ ad, A = some ad → ad.spot = none := by
  obtain ⟨_, inner, ⟨_, ho⟩, _⟩ := h
  intro ad he
  rcases ho with ⟨h1, _⟩ | ⟨g, cap, cur, h1, _⟩
  · injection h1 with h1; rw [h1] at he; cases he
  · injection h1 with h1; rw [h1] at he; cases he; rfl
theorem own_addr {α : Type} {d : Kd α} {e : Nat} {w : World} {base : Nat} {ok : Nat → Prop} {A : Option Addr} {n c : Nat} {xs : List α} (h : d.R e w base ok (.slice A n c) xs) (hn : 0 < n) : ∃ g, A = some ⟨g, 0, none⟩ ∧ base ≤ g := by
  obtain ⟨_, inner, ⟨_, ho⟩, _⟩ := h
  rcases ho with ⟨h1, _⟩ | ⟨g, cap, cur, h1, hg, _⟩
  · injection h1 with h1 h2; omega
  · injection h1 with h1; exact ⟨g, h1, hg⟩
theorem giv_Join (A0 : Option Addr) (c0 : Nat) (l0 : List ByteArray) (a1 : ByteArray) (w : World) (hr0 : Kd.C Kd.string w A0 l0.length l0) (hc0 : l0.length ≤ c0) (hp0 : ∀ ad, A0 = some ad → ad.spot = none)
    (h1 : l0.length ≤ 140737488355328) (h2 : (Lib.join (l0.map (·.data.toList)) a1.data.toList).length ≤ 140737488355328) :
    Calls Tryd.prog 59 #[.slice A0 l0.length c0, .string a1] w fun e w' => e = .returned (.string ⟨(Lib.join (l0.map (·.data.toList)) a1.data.toList).toArray⟩) ∧ Below w.heap.size w w' := by
  cases l0 with
  | nil => exact (Tryd.strings_Join_none A0 c0 a1 w).mono fun e w' ⟨he, hw⟩ => ⟨he, hw ▸ Below.refl _ _⟩
  | cons x l =>
    obtain ⟨ad, hA, hc⟩ := hr0.2.2 (by simp)
    have hs := hp0 ad hA
    obtain ⟨b, o, s⟩ := ad
    obtain rfl : s = none := hs
    subst hA
    have hx : ∀ (j : Nat) y, (x :: l)[j]? = some y → w.cell? ⟨b, o + j, none⟩ = some (.string y) := by
      intro j y hj
      obtain ⟨c, hl, hk, hcell⟩ := hc j y hj
      have hk' : c = [Value.string y] := hk
      subst hk'
      have := hcell 0 (.string y) rfl
      rw [show j * Kd.string.sz + 0 = j from Nat.mul_one j] at this
      unfold Addr.add at this
      split at this
      · rename_i h0; rw [h0]; exact this
      · exact this
    exact Tryd.strings_Join b o c0 (x :: l) a1 w hx (World.block_lt_of_cell? w _ (hx 0 x rfl)) h1 hc0 h2
end Go.Proofs.YtdfpfiecpcgffaaDoor
