/- NumberWords: what is left of the law beside the walk: both tell the same words. -/
import Derived.Test.YtiebjnppmcpffaaDoorPFnExactNumberWordsx
set_option linter.unusedVariables false
set_option linter.unusedSimpArgs false
namespace Go.Proofs.YtiebjnppmcpffaaDoor.NwPure
open Go.RowKit Go.Proofs.YtiebjnppmcpffaaDoorW.PrintWords Go.Proofs.YtiebjnppmcpffaaDoor Go.Proofs.YtiebjnppmcpffaaDoor.PFnExactNumberWords
theorem ba_assoc (a b c : ByteArray) : (a ++ b) ++ c = a ++ (b ++ c) := ByteArray.append_assoc
theorem wm_pos {s t : ByteArray} {r : Int} (h : 0 < r) : wordMore s r t = s ++ (⟨#[32]⟩ ++ t) := if_pos h
theorem wm_zero {s t : ByteArray} : wordMore s 0 t = s := if_neg (by omega)
theorem small_eq {n : Int} (h0 : 0 ≤ n) (h1 : n < 20) : spec_l07Small.f n = some (rdOf ByteArray.empty smallL n) := by
  unfold spec_l07Small.f
  rw [Option.bind_some, if_pos h0, if_pos (by simpa using h1)]; rfl
theorem tens_eq {n : Int} (h0 : 0 ≤ n) (h1 : n < 10) : spec_l07Tens.f n = some (rdOf ByteArray.empty tenL n) := by
  unfold spec_l07Tens.f
  rw [Option.bind_some, if_pos h0, if_pos (by simpa using h1)]; rfl
theorem bind_some' {α} (x : Option α) : (x.bind fun t => some t) = x := by cases x <;> rfl
/-- one step of 'more': whatever tells the words of the rest -/
theorem more_step (F : Int → Option ByteArray) (s t : ByteArray) (r : Int) (h0 : 0 ≤ r) (hs : s.size ≤ 100) (ht : t.size ≤ 100) (hF : 0 < r → F r = some t) :
    (if r = 0 then (some s) else (if s.size + 1 ≤ 9223372036854775807 then ((F r).bind fun t111 => (if (s ++ (⟨#[32]⟩ : ByteArray)).size + t111.size ≤ 9223372036854775807 then (some ((s ++ (⟨#[32]⟩ : ByteArray)) ++ t111)) else (none))) else (none))) = some (wordMore s r t) := by
  by_cases hr : r = 0
  · rw [if_pos hr, hr, wm_zero]
  · have hp : 0 < r := by omega
    rw [if_neg hr, if_pos (by omega), hF hp, Option.bind_some, if_pos (by rw [ByteArray.size_append]; show s.size + 1 + t.size ≤ _; omega), wm_pos hp, ba_assoc]
theorem hund_step (M : ByteArray → Int → Option ByteArray) (n : Int) (h0 : 0 ≤ n) (h1 : n < 1000)
    (hM : ∀ s r, 0 ≤ r → s.size ≤ 50 → (n < 100 → r < 10 → M s r = some (wordMore s r (nwA r))) ∧ (100 ≤ n → r < 100 → M s r = some (wordMore s r (nwB r)))) :
    (if n < 20 then ((spec_l07Small.f n).bind fun t112 => (some t112)) else (if n < 100 then ((spec_l07Tens.f (wrap64 (Int.tdiv n 10))).bind fun t113 => ((M t113 (Int.tmod n 10)).bind fun t114 => (some t114))) else ((spec_l07Small.f (wrap64 (Int.tdiv n 100))).bind fun t115 => (if t115.size + 8 ≤ 9223372036854775807 then ((M (t115 ++ (⟨#[32, 104, 117, 110, 100, 114, 101, 100]⟩ : ByteArray)) (Int.tmod n 100)).bind fun t116 => (some t116)) else (none))))) = some (nwC n) := by
  by_cases a : n < 20
  · rw [if_pos a, bind_some', small_eq h0 a]; unfold nwC nwB; rw [if_pos (by omega), if_pos a]; rfl
  rw [if_neg a]
  by_cases b : n < 100
  · rw [if_pos b]
    obtain ⟨x1, x2, x3, x4⟩ := div_mod n 10 h0 (by omega)
    rw [w64 (by omega) (by omega), tens_eq x1 (by omega), Option.bind_some, bind_some', (hM _ _ x3 (by have := ten_size (n.tdiv 10); omega)).1 b x4]
    unfold nwC nwB; rw [if_pos b, if_neg a]
  · rw [if_neg b]
    obtain ⟨x1, x2, x3, x4⟩ := div_mod n 100 h0 (by omega)
    have hz : (rdOf ByteArray.empty smallL (n.tdiv 100)).size ≤ 9 := nwA_size _
    rw [w64 (by omega) (by omega), small_eq x1 (by omega), Option.bind_some, bind_some', if_pos (by omega), (hM _ _ x3 (by rw [ByteArray.size_append]; show (rdOf ByteArray.empty smallL (n.tdiv 100)).size + 8 ≤ _; omega)).2 (by omega) x4]
    unfold nwC; rw [if_neg b]
theorem hund2 (n : Int) (h0 : 0 ≤ n) (h1 : n < 20) : spec_l07Hundreds_d2.f n = some (nwA n) := by
  unfold spec_l07Hundreds_d2.f
  rw [if_pos h1, bind_some', small_eq h0 h1]; rfl
theorem hund4 (n : Int) (h0 : 0 ≤ n) (h1 : n < 100) : spec_l07Hundreds_d4.f n = some (nwB n) := by
  unfold spec_l07Hundreds_d4.f
  have := hund_step spec_l07More_d3.f n h0 (by omega) (fun s r hr hs => ⟨fun _ h => by unfold spec_l07More_d3.f; exact more_step _ s _ r hr (by omega) (by have := nwA_size r; omega) (fun hp => hund2 r hr (by omega)), fun h => by omega⟩)
  rw [this]; unfold nwC; rw [if_pos h1]
theorem hund6 (n : Int) (h0 : 0 ≤ n) (h1 : n < 1000) : spec_l07Hundreds_d6.f n = some (nwC n) := by
  unfold spec_l07Hundreds_d6.f
  exact hund_step spec_l07More_d5.f n h0 (by omega) (fun s r hr hs => ⟨fun _ h => by
      unfold spec_l07More_d5.f; refine more_step _ s _ r hr (by omega) (by have := nwA_size r; omega) (fun hp => ?_)
      rw [hund4 r hr (by omega)]; unfold nwB; rw [if_pos (by omega)],
    fun _ h => by unfold spec_l07More_d5.f; exact more_step _ s _ r hr (by omega) (by have := nwB_size r; omega) (fun hp => hund4 r hr h)⟩)
theorem hund1 (n : Int) (h0 : 0 ≤ n) (h1 : n < 20) : spec_l07Hundreds_d1.f n = some (nwA n) := by
  unfold spec_l07Hundreds_d1.f
  rw [if_pos h1, bind_some', small_eq h0 h1]; rfl
theorem hund3 (n : Int) (h0 : 0 ≤ n) (h1 : n < 100) : spec_l07Hundreds_d3.f n = some (nwB n) := by
  unfold spec_l07Hundreds_d3.f
  have := hund_step spec_l07More_d2.f n h0 (by omega) (fun s r hr hs => ⟨fun _ h => by unfold spec_l07More_d2.f; exact more_step _ s _ r hr (by omega) (by have := nwA_size r; omega) (fun hp => hund1 r hr (by omega)), fun h => by omega⟩)
  rw [this]; unfold nwC; rw [if_pos h1]
theorem hund5 (n : Int) (h0 : 0 ≤ n) (h1 : n < 1000) : spec_l07Hundreds_d5.f n = some (nwC n) := by
  unfold spec_l07Hundreds_d5.f
  exact hund_step spec_l07More_d4.f n h0 (by omega) (fun s r hr hs => ⟨fun _ h => by
      unfold spec_l07More_d4.f; refine more_step _ s _ r hr (by omega) (by have := nwA_size r; omega) (fun hp => ?_)
      rw [hund3 r hr (by omega)]; unfold nwB; rw [if_pos (by omega)],
    fun _ h => by unfold spec_l07More_d4.f; exact more_step _ s _ r hr (by omega) (by have := nwB_size r; omega) (fun hp => hund3 r hr h)⟩)
theorem spoken_eq (n : Int) (h0 : 0 ≤ n) (h1 : n < 1000000) : spec_l07Spoken.f n = some (nwD n) := by
  unfold spec_l07Spoken.f
  by_cases a : n < 1000
  · rw [if_pos a, bind_some', hund6 n h0 a]; unfold nwD; rw [if_pos a]
  · rw [if_neg a]
    obtain ⟨x1, x2, x3, x4⟩ := div_mod n 1000 h0 (by omega)
    have hz := nwC_size (n.tdiv 1000)
    have hs : (nwC (n.tdiv 1000) ++ (⟨#[32, 116, 104, 111, 117, 115, 97, 110, 100]⟩ : ByteArray)).size ≤ 100 := by rw [ByteArray.size_append]; show (nwC (n.tdiv 1000)).size + 9 ≤ _; omega
    rw [w64 (by omega) (by omega), hund6 _ x1 (by omega), Option.bind_some, bind_some', if_pos (by omega)]
    unfold nwD; rw [if_neg a]
    unfold spec_l07More_d6.f
    exact more_step _ _ _ _ x3 hs (by have := nwC_size (n.tmod 1000); omega) (fun hp => hund5 _ x3 x4)
theorem pure : laws_FnExactNumberWords.Pure := by
  intro n _
  unfold laws_FnExactNumberWords.f spec_NumberWords.f impl_NumberWords.f spec_l00In.f impl_within.f impl_numberWords.f
  by_cases h0 : n ≥ 0
  · rw [if_pos h0]; simp only [Option.bind_some]
    by_cases h1 : n ≤ 999999
    · rw [spoken_eq n h0 (by omega), if_pos (show 0 ≤ n ∧ n < 1000000 from ⟨h0, by omega⟩)]
      simp [h1]
    · simp [h1]
  · rw [if_neg h0]; simp
end Go.Proofs.YtiebjnppmcpffaaDoor.NwPure
namespace Go.Proofs.YtiebjnppmcpffaaDoor
open Go.RowKit
theorem numberWords_w (a0 : Int) (w : World) (hT : GL w) (w0 : (Lit.int .i64 a0).wf = true) :
    Calls Tryd.prog 3 #[.int .i64 a0] w fun e w' => e = .returned (.bool true) ∧ Below w.heap.size w w' :=
  PFnExactNumberWords.laws_FnExactNumberWords.walk NwPure.pure a0 w w0 hT
end Go.Proofs.YtiebjnppmcpffaaDoor
