/- ReadNumberWords: what is left of the law beside the walk: both tell the one number that has these words. -/
import Derived.Test.YtiebjnppmcpffaaDoorPFnExactReadNumberWordsx
import Derived.Test.YtiebjnppmcpffaaDoorNk
set_option linter.unusedVariables false
set_option linter.unusedSimpArgs false
namespace Go.Proofs.YtiebjnppmcpffaaDoor.RnPure
open Go.RowKit Go.Proofs.YtiebjnppmcpffaaDoorW.PrintWords Go.Proofs.YtiebjnppmcpffaaDoor Go.Proofs.YtiebjnppmcpffaaDoor.PFnExactReadNumberWords Go.Proofs.YtiebjnppmcpffaaDoor.Lm Go.Proofs.YtiebjnppmcpffaaDoor.Nk
theorem ba_assoc (a b c : ByteArray) : (a ++ b) ++ c = a ++ (b ++ c) := ByteArray.append_assoc
theorem wm_pos {s t : ByteArray} {r : Int} (h : 0 < r) : wordMore s r t = s ++ (⟨#[32]⟩ ++ t) := if_pos h
theorem wm_zero {s t : ByteArray} : wordMore s 0 t = s := if_neg (by omega)
theorem small_eq {n : Int} (h0 : 0 ≤ n) (h1 : n < 20) : spec_l07Small.f n = some (rdOf ByteArray.empty smallL n) := by
  unfold spec_l07Small.f
  rw [Option.bind_some, if_pos h0, if_pos (by simpa using h1)]; rfl
theorem tens_eq {n : Int} (h0 : 0 ≤ n) (h1 : n < 10) : spec_l07Tens.f n = some (rdOf ByteArray.empty tenL n) := by
  unfold spec_l07Tens.f
  rw [Option.bind_some, if_pos h0, if_pos (by simpa using h1)]; rfl
theorem bind_some' {α} (x : Option α) : (x.bind fun t => some t) = x := by cases x <;> rfl
/-- one step of 'more': whatever tells the words of the rest -/
theorem more_step (F : Int → Option ByteArray) (s t : ByteArray) (r : Int) (h0 : 0 ≤ r) (hs : s.size ≤ 100) (ht : t.size ≤ 100) (hF : 0 < r → F r = some t) :
    (if r = 0 then (some s) else (if s.size + 1 ≤ 9223372036854775807 then ((F r).bind fun t111 => (if (s ++ (⟨#[32]⟩ : ByteArray)).size + t111.size ≤ 9223372036854775807 then (some ((s ++ (⟨#[32]⟩ : ByteArray)) ++ t111)) else (none))) else (none))) = some (wordMore s r t) := by
  by_cases hr : r = 0
  · rw [if_pos hr, hr, wm_zero]
  · have hp : 0 < r := by omega
    rw [if_neg hr, if_pos (by omega), hF hp, Option.bind_some, if_pos (by rw [ByteArray.size_append]; show s.size + 1 + t.size ≤ _; omega), wm_pos hp, ba_assoc]
theorem hund_step (M : ByteArray → Int → Option ByteArray) (n : Int) (h0 : 0 ≤ n) (h1 : n < 1000)
    (hM : ∀ s r, 0 ≤ r → s.size ≤ 50 → (n < 100 → r < 10 → M s r = some (wordMore s r (nwA r))) ∧ (100 ≤ n → r < 100 → M s r = some (wordMore s r (nwB r)))) :
    (if n < 20 then ((spec_l07Small.f n).bind fun t112 => (some t112)) else (if n < 100 then ((spec_l07Tens.f (wrap64 (Int.tdiv n 10))).bind fun t113 => ((M t113 (Int.tmod n 10)).bind fun t114 => (some t114))) else ((spec_l07Small.f (wrap64 (Int.tdiv n 100))).bind fun t115 => (if t115.size + 8 ≤ 9223372036854775807 then ((M (t115 ++ (⟨#[32, 104, 117, 110, 100, 114, 101, 100]⟩ : ByteArray)) (Int.tmod n 100)).bind fun t116 => (some t116)) else (none))))) = some (nwC n) := by
  by_cases a : n < 20
  · rw [if_pos a, bind_some', small_eq h0 a]; unfold nwC nwB; rw [if_pos (by omega), if_pos a]; rfl
  rw [if_neg a]
  by_cases b : n < 100
  · rw [if_pos b]
    obtain ⟨x1, x2, x3, x4⟩ := div_mod n 10 h0 (by omega)
    rw [w64 (by omega) (by omega), tens_eq x1 (by omega), Option.bind_some, bind_some', (hM _ _ x3 (by have := ten_size (n.tdiv 10); omega)).1 b x4]
    unfold nwC nwB; rw [if_pos b, if_neg a]
  · rw [if_neg b]
    obtain ⟨x1, x2, x3, x4⟩ := div_mod n 100 h0 (by omega)
    have hz : (rdOf ByteArray.empty smallL (n.tdiv 100)).size ≤ 9 := nwA_size _
    rw [w64 (by omega) (by omega), small_eq x1 (by omega), Option.bind_some, bind_some', if_pos (by omega), (hM _ _ x3 (by rw [ByteArray.size_append]; show (rdOf ByteArray.empty smallL (n.tdiv 100)).size + 8 ≤ _; omega)).2 (by omega) x4]
    unfold nwC; rw [if_neg b]
theorem hund2 (n : Int) (h0 : 0 ≤ n) (h1 : n < 20) : spec_l07Hundreds_d2.f n = some (nwA n) := by
  unfold spec_l07Hundreds_d2.f
  rw [if_pos h1, bind_some', small_eq h0 h1]; rfl
theorem hund4 (n : Int) (h0 : 0 ≤ n) (h1 : n < 100) : spec_l07Hundreds_d4.f n = some (nwB n) := by
  unfold spec_l07Hundreds_d4.f
  have := hund_step spec_l07More_d3.f n h0 (by omega) (fun s r hr hs => ⟨fun _ h => by unfold spec_l07More_d3.f; exact more_step _ s _ r hr (by omega) (by have := nwA_size r; omega) (fun hp => hund2 r hr (by omega)), fun h => by omega⟩)
  rw [this]; unfold nwC; rw [if_pos h1]
theorem hund6 (n : Int) (h0 : 0 ≤ n) (h1 : n < 1000) : spec_l07Hundreds_d6.f n = some (nwC n) := by
  unfold spec_l07Hundreds_d6.f
  exact hund_step spec_l07More_d5.f n h0 (by omega) (fun s r hr hs => ⟨fun _ h => by
      unfold spec_l07More_d5.f; refine more_step _ s _ r hr (by omega) (by have := nwA_size r; omega) (fun hp => ?_)
      rw [hund4 r hr (by omega)]; unfold nwB; rw [if_pos (by omega)],
    fun _ h => by unfold spec_l07More_d5.f; exact more_step _ s _ r hr (by omega) (by have := nwB_size r; omega) (fun hp => hund4 r hr h)⟩)
theorem hund1 (n : Int) (h0 : 0 ≤ n) (h1 : n < 20) : spec_l07Hundreds_d1.f n = some (nwA n) := by
  unfold spec_l07Hundreds_d1.f
  rw [if_pos h1, bind_some', small_eq h0 h1]; rfl
theorem hund3 (n : Int) (h0 : 0 ≤ n) (h1 : n < 100) : spec_l07Hundreds_d3.f n = some (nwB n) := by
  unfold spec_l07Hundreds_d3.f
  have := hund_step spec_l07More_d2.f n h0 (by omega) (fun s r hr hs => ⟨fun _ h => by unfold spec_l07More_d2.f; exact more_step _ s _ r hr (by omega) (by have := nwA_size r; omega) (fun hp => hund1 r hr (by omega)), fun h => by omega⟩)
  rw [this]; unfold nwC; rw [if_pos h1]
theorem hund5 (n : Int) (h0 : 0 ≤ n) (h1 : n < 1000) : spec_l07Hundreds_d5.f n = some (nwC n) := by
  unfold spec_l07Hundreds_d5.f
  exact hund_step spec_l07More_d4.f n h0 (by omega) (fun s r hr hs => ⟨fun _ h => by
      unfold spec_l07More_d4.f; refine more_step _ s _ r hr (by omega) (by have := nwA_size r; omega) (fun hp => ?_)
      rw [hund3 r hr (by omega)]; unfold nwB; rw [if_pos (by omega)],
    fun _ h => by unfold spec_l07More_d4.f; exact more_step _ s _ r hr (by omega) (by have := nwB_size r; omega) (fun hp => hund3 r hr h)⟩)
theorem spoken_eq (n : Int) (h0 : 0 ≤ n) (h1 : n < 1000000) : spec_l07Spoken.f n = some (nwD n) := by
  unfold spec_l07Spoken.f
  by_cases a : n < 1000
  · rw [if_pos a, bind_some', hund6 n h0 a]; unfold nwD; rw [if_pos a]
  · rw [if_neg a]
    obtain ⟨x1, x2, x3, x4⟩ := div_mod n 1000 h0 (by omega)
    have hz := nwC_size (n.tdiv 1000)
    have hs : (nwC (n.tdiv 1000) ++ (⟨#[32, 116, 104, 111, 117, 115, 97, 110, 100]⟩ : ByteArray)).size ≤ 100 := by rw [ByteArray.size_append]; show (nwC (n.tdiv 1000)).size + 9 ≤ _; omega
    rw [w64 (by omega) (by omega), hund6 _ x1 (by omega), Option.bind_some, bind_some', if_pos (by omega)]
    unfold nwD; rw [if_neg a]
    unfold spec_l07More_d6.f
    exact more_step _ _ _ _ x3 hs (by have := nwC_size (n.tmod 1000); omega) (fun hp => hund5 _ x3 x4)
theorem cutl (s : ByteArray) (hs : s.size ≤ 4194304) (c : UInt8) : ∀ (d k : Nat) (out : List ByteArray) (a i : Nat), i + d = s.size → a ≤ i → c ∉ (s.data.toList.drop a).take (i - a) → out.length ≤ i → d + 1 < k →
    spec_l01Cut.l0 k s ((c.toNat : Nat) : Int) out (a : Int) (i : Int) = some (out ++ (cut c (s.data.toList.drop a)).map ba)
  | d, 0, out, a, i, h1, ha, hc, ho, hk => by omega
  | 0, k + 1, out, a, i, h1, ha, hc, ho, hk => by
    obtain ⟨k, rfl⟩ : ∃ m, k = m + 1 := ⟨k - 1, by omega⟩
    have hi : i = s.size := h1
    subst hi
    have hd : (s.data.toList.drop a).take (s.size - a) = s.data.toList.drop a := List.take_of_length_le (by rw [List.length_drop, size_list]; exact Nat.le_refl _)
    rw [hd] at hc
    rw [spec_l01Cut.l0, if_pos (Int.le_refl _), if_pos rfl, if_pos (by omega), if_pos (by omega), if_pos (by omega), Int.toNat_natCast, Int.toNat_natCast, w64 (by omega) (by omega), spec_l01Cut.l0, if_neg (by omega), cut_none hc, extract_ba, hd]
    rfl
  | d + 1, k + 1, out, a, i, h1, ha, hc, ho, hk => by
    have hi : i < s.size := by omega
    have e1 : wrap64 ((i : Int) + 1) = ((i + 1 : Nat) : Int) := by rw [w64 (by omega) (by omega)]; omega
    have hx : s.data.toList.drop a = (s.data.toList.drop a).take (i - a) ++ (s.data.toList[i]'hi) :: s.data.toList.drop (i + 1) := by
      have h2 : (s.data.toList.drop a).drop (i - a) = (s.data.toList[i]'hi) :: s.data.toList.drop (i + 1) := by
        rw [List.drop_drop, show a + (i - a) = i by omega]; exact List.drop_eq_getElem_cons hi
      rw [← h2, List.take_append_drop]
    have hb := bt_nat s i hi
    rw [spec_l01Cut.l0, if_pos (by omega), if_neg (by omega), if_pos (by omega), if_pos (by omega), hb]
    by_cases c1 : (((s.data.toList[i]'hi).toNat : Nat) : Int) = ((c.toNat : Nat) : Int)
    · have hc1 := u8_eq c1
      rw [if_pos c1, if_pos (by omega), if_pos (by omega), if_pos (by omega), e1, Int.toNat_natCast, Int.toNat_natCast]
      rw [cutl s hs c d k _ (i + 1) (i + 1) (by omega) (Nat.le_refl _) (by rw [Nat.sub_self, List.take_zero]; exact fun h => by cases h) (by rw [List.length_append, List.length_singleton]; omega) (by omega)]
      rw [hx, hc1, cut_hit _ hc, extract_ba, List.append_assoc]
      rfl
    · rw [if_neg c1, e1]
      refine cutl s hs c d k out a (i + 1) (by omega) (by omega) ?_ (by omega) (by omega)
      have h3 : (s.data.toList.drop a).take (i + 1 - a) = (s.data.toList.drop a).take (i - a) ++ [s.data.toList[i]'hi] := by
        rw [show i + 1 - a = (i - a) + 1 by omega, List.take_succ_eq_append_getElem (by rw [List.length_drop, size_list]; omega)]
        congr 2
        rw [List.getElem_drop]
        congr 1
        omega
      rw [h3]
      intro hm
      rcases List.mem_append.1 hm with e | e
      · exact hc e
      · rw [List.mem_singleton] at e
        exact c1 (by rw [e])
theorem cut_spec (s : ByteArray) (hs : s.size ≤ 4194304) (c : UInt8) (k : Nat) (hk : s.size + 1 < k) : spec_l01Cut.f k s ((c.toNat : Nat) : Int) = some (cutB c s) :=
  cutl s hs c s.size k [] 0 0 (by omega) (by omega) (by simp) (by simp) hk
theorem rd_eq {ss : List ByteArray} {k : Nat} {w : ByteArray} (hk : k < ss.length) : (rdOf ByteArray.empty ss (k : Int)).toList = w.toList ↔ (ss.map fun s => s.data.toList).getD k [] = w.data.toList := by
  rw [toList_lit, ByteArray.toList_eq, rd_list]
theorem find_step {α : Type} (p : α → Bool) (l : List α) (j : Nat) (d : α) (hj : j < l.length) : (l.drop j).findIdx? p = if p (l.getD j d) = true then some 0 else ((l.drop (j + 1)).findIdx? p).map (· + 1) := by
  rw [List.drop_eq_getElem_cons hj, List.findIdx?_cons, List.getD_eq_getElem?_getD, List.getElem?_eq_getElem hj]
  rfl
/-- the second loop of the values: the tens -/
theorem val1 (w : ByteArray) : ∀ (d j k : Nat), j + d = 10 → d < k → spec_l07Value.l1 k w (j : Int) = some (match (tL.drop j).findIdx? (· == w.data.toList) with | some i => ((10 * (j + i) : Nat) : Int) | none => -1)
  | d, j, 0, h1, h2 => by omega
  | 0, j, k + 1, h1, h2 => by
    obtain rfl : j = 10 := by omega
    rw [spec_l07Value.l1, if_neg (by omega)]; rfl
  | d + 1, j, k + 1, h1, h2 => by
    have hj : j < 10 := by omega
    have hl : tL.length = 10 := rfl
    rw [spec_l07Value.l1, if_pos (by omega), tens_eq (by omega) (by omega), Option.bind_some, find_step _ tL j [] (by omega)]
    by_cases e : tL.getD j [] = w.data.toList
    · rw [if_pos ((rd_eq (show j < tenL.length from hj)).2 e), if_pos (by simpa using e), w64 (by omega) (by omega)]
      simp <;> omega
    · rw [if_neg (fun h => e ((rd_eq (show j < tenL.length from hj)).1 h)), if_neg (by simpa using e), w64 (by omega) (by omega), show (j : Int) + 1 = ((j + 1 : Nat) : Int) by omega, val1 w d (j + 1) k (by omega) (by omega)]
      cases (tL.drop (j + 1)).findIdx? (· == w.data.toList) with
      | none => rfl
      | some i => simp only [Option.map_some]; congr 2; omega
theorem val0 (w : ByteArray) : ∀ (d j k : Nat), j + d = 20 → d + 9 < k → spec_l07Value.l0 k w (j : Int) = some (match (sL.drop j).findIdx? (· == w.data.toList) with | some i => ((j + i : Nat) : Int) | none => match (tL.drop 2).findIdx? (· == w.data.toList) with | some i => ((10 * (2 + i) : Nat) : Int) | none => -1)
  | d, j, 0, h1, h2 => by omega
  | 0, j, k + 1, h1, h2 => by
    obtain rfl : j = 20 := by omega
    rw [spec_l07Value.l0, if_neg (by omega), show (2 : Int) = ((2 : Nat) : Int) from rfl, val1 w 8 2 k rfl (by omega)]; rfl
  | d + 1, j, k + 1, h1, h2 => by
    have hj : j < 20 := by omega
    have hl : sL.length = 20 := rfl
    rw [spec_l07Value.l0, if_pos (by omega), small_eq (by omega) (by omega), Option.bind_some, find_step _ sL j [] (by omega)]
    by_cases e : sL.getD j [] = w.data.toList
    · rw [if_pos ((rd_eq (show j < smallL.length from hj)).2 e), if_pos (by simpa using e)]
      simp
    · rw [if_neg (fun h => e ((rd_eq (show j < smallL.length from hj)).1 h)), if_neg (by simpa using e), w64 (by omega) (by omega), show (j : Int) + 1 = ((j + 1 : Nat) : Int) by omega, val0 w d (j + 1) k (by omega) (by omega)]
      cases (sL.drop (j + 1)).findIdx? (· == w.data.toList) with
      | none => rfl
      | some i => simp only [Option.map_some]; congr 2; omega
def vI (w : List UInt8) : Int := match valL w with | some v => (v : Int) | none => -1
theorem value_eq (w : ByteArray) (k : Nat) (hk : 29 < k) : spec_l07Value.f k w = some (vI w.data.toList) := by
  unfold spec_l07Value.f
  rw [show (0 : Int) = ((0 : Nat) : Int) from rfl, val0 w 20 0 k rfl (by omega)]
  unfold vI valL
  rw [List.drop_zero]
  cases sL.findIdx? (· == w.data.toList) with
  | some i => simp
  | none =>
    cases (tL.drop 2).findIdx? (· == w.data.toList) with
    | some i => rfl
    | none => rfl
theorem valL_le {w : List UInt8} {v : Nat} (h : valL w = some v) : v ≤ 90 := by
  unfold valL at h
  split at h
  · rename_i k hk
    obtain rfl := Option.some.inj h
    obtain ⟨hl, _⟩ := List.findIdx?_eq_some_iff_getElem.1 hk
    have : sL.length = 20 := rfl
    omega
  · split at h
    · rename_i k hk
      obtain rfl := Option.some.inj h
      obtain ⟨hl, _⟩ := List.findIdx?_eq_some_iff_getElem.1 hk
      have : (tL.drop 2).length = 8 := rfl
      omega
    · cases h
def fin (a0 : ByteArray) (p : Option (Nat × Nat)) : Int × Bool := match p with | none => (0, false) | some (th, now) => if 999999 < th + now then (0, false) else if lD (th + now) = a0.data.toList then (((th + now : Nat) : Int), true) else (0, false)
theorem fin_none (a0 : ByteArray) : fin a0 none = (0, false) := rfl
theorem loop (a0 : ByteArray) (ws : List ByteArray) (hw : ws.length ≤ 100) : ∀ (d j k th now : Nat), j + d = ws.length → d + 30 < k → th ≤ 1000000000 → now ≤ 1000000 →
    spec_ReadNumberWords.l0 k a0 ws (th : Int) (now : Int) (ws.length : Int) (j : Int) = some (fin a0 (((ws.drop j).map fun s => s.data.toList).foldlM Nk.step (th, now)))
  | d, j, 0, th, now, h1, h2, h3, h4 => by omega
  | 0, j, k + 1, th, now, h1, h2, h3, h4 => by
    obtain rfl : j = ws.length := by omega
    have e1 : wrap64 ((th : Int) + (now : Int)) = ((th + now : Nat) : Int) := by rw [w64 (by omega) (by omega)]; omega
    rw [spec_ReadNumberWords.l0, if_neg (by omega), e1, List.drop_length, List.map_nil, List.foldlM_nil]
    unfold fin
    show _ = some (if 999999 < th + now then (0, false) else if lD (th + now) = a0.data.toList then (((th + now : Nat) : Int), true) else (0, false))
    by_cases c : 999999 < th + now
    · rw [if_pos (by omega), if_pos c]
    · rw [if_neg (by omega), if_neg c, spoken_eq _ (by omega) (by omega), Option.bind_some]
      by_cases e : lD (th + now) = a0.data.toList
      · rw [if_pos e, if_pos (by rw [list_eq_iff]; exact nwD_eq.2 e)]
      · rw [if_neg e, if_neg (fun h => e (nwD_eq.1 (list_eq_iff.1 h)))]
  | d + 1, j, k + 1, th, now, h1, h2, h3, h4 => by
    have hj : j < ws.length := by omega
    have e1 : wrap64 ((j : Int) + 1) = ((j + 1 : Nat) : Int) := by rw [w64 (by omega) (by omega)]; omega
    have e2 : wrap64 ((now : Int) * 100) = ((now * 100 : Nat) : Int) := by rw [w64 (by omega) (by omega)]; omega
    have e3 : wrap64 ((now : Int) * 1000) = ((now * 1000 : Nat) : Int) := by rw [w64 (by omega) (by omega)]; omega
    have hr : rdOf ByteArray.empty ws (j : Int) = ws[j] := by
      unfold rdOf
      rw [Int.toNat_natCast, List.getD_eq_getElem?_getD, List.getElem?_eq_getElem hj]; rfl
    have hd : (ws.drop j).map (fun s => s.data.toList) = ws[j].data.toList :: (ws.drop (j + 1)).map fun s => s.data.toList := by
      rw [List.drop_eq_getElem_cons hj, List.map_cons]
    rw [spec_ReadNumberWords.l0, if_pos (by omega), if_pos (by omega), if_pos (by omega), hr, value_eq _ _ (by omega), Option.bind_some, hd, List.foldlM_cons, e1, e2, e3]
    clear e1 e2 e3 hr hd
    simp only [toList_lit]
    rw [show ([104, 117, 110, 100, 114, 101, 100] : List UInt8) = hunW from rfl, show ([116, 104, 111, 117, 115, 97, 110, 100] : List UInt8) = thoW from rfl]
    generalize ws[j].data.toList = w
    by_cases c1 : w = hunW
    · have hs : Nk.step (th, now) w = if 1000000 < now * 100 then none else some (th, now * 100) := by unfold Nk.step; rw [if_pos c1]
      rw [if_pos c1, hs]
      by_cases c2 : 1000000 < now * 100
      · rw [if_pos (by omega), if_pos c2]; rfl
      · rw [if_neg (by omega), if_neg c2]
        exact loop a0 ws hw d (j + 1) k th (now * 100) (by omega) (by omega) h3 (by omega)
    · rw [if_neg c1]
      by_cases c2 : w = thoW
      · have hs : Nk.step (th, now) w = some (now * 1000, 0) := by unfold Nk.step; rw [if_neg c1, if_pos c2]
        rw [if_pos c2, hs]
        exact loop a0 ws hw d (j + 1) k (now * 1000) 0 (by omega) (by omega) (by omega) (by omega)
      · rw [if_neg c2]
        unfold vI
        cases hv : valL w with
        | none =>
          have hs : Nk.step (th, now) w = none := by unfold Nk.step; rw [if_neg c1, if_neg c2, hv]
          rw [if_neg (by show ¬ ((-1 : Int) ≥ 0); omega), hs]; rfl
        | some v =>
          have hv9 := valL_le hv
          have hs : Nk.step (th, now) w = if 1000000 < now + v then none else some (th, now + v) := by unfold Nk.step; rw [if_neg c1, if_neg c2, hv]
          have e4 : wrap64 ((now : Int) + (v : Int)) = ((now + v : Nat) : Int) := by rw [w64 (by omega) (by omega)]; omega
          rw [if_pos (by show ((v : Int) ≥ 0); omega), hs]
          show (if wrap64 ((now : Int) + (v : Int)) > 1000000 then _ else _) = _
          rw [e4]
          clear e4 hs
          by_cases c3 : 1000000 < now + v
          · rw [if_pos (by omega), if_pos c3]; rfl
          · rw [if_neg (by omega), if_neg c3]
            exact loop a0 ws hw d (j + 1) k th (now + v) (by omega) (by omega) h3 (by omega)
/-- what both tell -/
def Tells (a0 : ByteArray) (r : Int × Bool) : Prop := (r = (0, false) ∧ ∀ n, n < 1000000 → lD n ≠ a0.data.toList) ∨ ∃ n, n < 1000000 ∧ lD n = a0.data.toList ∧ r = ((n : Int), true)
theorem tells_unique {a0 : ByteArray} {r s : Int × Bool} (h1 : Tells a0 r) (h2 : Tells a0 s) : r = s := by
  rcases h1 with ⟨rfl, h1⟩ | ⟨n, hn, en, rfl⟩
  · rcases h2 with ⟨rfl, _⟩ | ⟨m, hm, em, _⟩
    · rfl
    · exact absurd em (h1 m hm)
  · rcases h2 with ⟨_, h2⟩ | ⟨m, hm, em, rfl⟩
    · exact absurd en (h2 n hn)
    · rw [inj hn hm (en.trans em.symm)]
theorem spec_tells (a0 : ByteArray) (hz : a0.size ≤ 1048576) (k : Nat) (hk : a0.size + 200 < k) : ∃ r, spec_ReadNumberWords.f k a0 = some r ∧ Tells a0 r := by
  unfold spec_ReadNumberWords.f
  rw [show (32 : Int) = (((32 : UInt8).toNat : Nat) : Int) from rfl, cut_spec a0 (by omega) 32 k (by omega), Option.bind_some]
  have hl : (cutB 32 a0).length = (cut 32 a0.data.toList).length := by unfold cutB; rw [List.length_map]
  by_cases c : 12 < (cutB 32 a0).length
  · refine ⟨(0, false), by rw [if_pos (by omega)], .inl ⟨rfl, fun n hn e => ?_⟩⟩
    have := words_le n hn
    rw [e] at this
    omega
  · refine ⟨_, by rw [if_neg (by omega)]; exact loop a0 (cutB 32 a0) (by omega) (cutB 32 a0).length 0 k 0 0 (by omega) (by omega) (by omega) (by omega), ?_⟩
    have hm : ((cutB 32 a0).drop 0).map (fun s => s.data.toList) = cut 32 a0.data.toList := by
      rw [List.drop_zero]; unfold cutB; rw [List.map_map]; exact List.map_id _
    rw [hm]
    have key : ∀ n, n < 1000000 → lD n = a0.data.toList → ∃ th now, (cut 32 a0.data.toList).foldlM Nk.step (0, 0) = some (th, now) ∧ th + now = n := by
      intro n hn e
      obtain ⟨th, now, h1, h2, _⟩ := parse n hn
      rw [e] at h1
      exact ⟨th, now, h1, h2⟩
    cases hf : (cut 32 a0.data.toList).foldlM Nk.step (0, 0) with
    | none =>
      refine .inl ⟨rfl, fun n hn e => ?_⟩
      obtain ⟨th, now, h1, _⟩ := key n hn e
      rw [hf] at h1; cases h1
    | some p =>
      obtain ⟨th, now⟩ := p
      unfold fin
      show Tells a0 (if 999999 < th + now then (0, false) else if lD (th + now) = a0.data.toList then (((th + now : Nat) : Int), true) else (0, false))
      by_cases c1 : 999999 < th + now
      · rw [if_pos c1]
        refine .inl ⟨rfl, fun n hn e => ?_⟩
        obtain ⟨th', now', h1, h2⟩ := key n hn e
        rw [hf] at h1
        have := Option.some.inj h1
        injection this with x y
        omega
      · rw [if_neg c1]
        by_cases e1 : lD (th + now) = a0.data.toList
        · rw [if_pos e1]; exact .inr ⟨th + now, by omega, e1, rfl⟩
        · rw [if_neg e1]
          refine .inl ⟨rfl, fun n hn e => ?_⟩
          obtain ⟨th', now', h1, h2⟩ := key n hn e
          rw [hf] at h1
          have := Option.some.inj h1
          injection this with x y
          subst x y
          rw [h2] at e1
          exact e1 e
/-- the program's small numbers: the first one with these words -/
theorem small_loop (x : ByteArray) : ∀ (d j k : Nat), j + d = 1000 → d < k → ∃ r, impl_smallNumber.l0 k x (j : Int) = some r ∧ ((r = (0, false) ∧ ∀ n, j ≤ n → n < 1000 → lC n ≠ x.data.toList) ∨ ∃ n, j ≤ n ∧ n < 1000 ∧ lC n = x.data.toList ∧ r = ((n : Int), true))
  | d, j, 0, h1, h2 => by omega
  | 0, j, k + 1, h1, h2 => by
    obtain rfl : j = 1000 := by omega
    refine ⟨(0, false), by rw [impl_smallNumber.l0, if_neg (by omega)], .inl ⟨rfl, fun n a b => by omega⟩⟩
  | d + 1, j, k + 1, h1, h2 => by
    have hD : nwD (j : Int) = nwC (j : Int) := by unfold nwD; rw [if_pos (by omega)]
    rw [impl_smallNumber.l0, if_pos (by omega)]
    unfold impl_numberWords.f
    rw [if_pos ⟨by omega, by omega⟩, Option.bind_some, hD]
    by_cases e : lC j = x.data.toList
    · refine ⟨((j : Int), true), by rw [if_pos (by rw [toList_lit, ByteArray.toList_eq, nwC_list]; exact e)], .inr ⟨j, Nat.le_refl _, by omega, e, rfl⟩⟩
    · obtain ⟨r, h3, h4⟩ := small_loop x d (j + 1) k (by omega) (by omega)
      refine ⟨r, ?_, ?_⟩
      · rw [if_neg (by rw [toList_lit, ByteArray.toList_eq, nwC_list]; exact e), w64 (by omega) (by omega)]; exact h3
      · rcases h4 with ⟨hr, h4⟩ | ⟨n, h5, h6, h7, h8⟩
        · exact .inl ⟨hr, fun n a b => by
            by_cases hn : n = j
            · rw [hn]; exact e
            · exact h4 n (by omega) b⟩
        · exact .inr ⟨n, by omega, h6, h7, h8⟩
theorem lC_inj {n m : Nat} (hn : n < 1000) (hm : m < 1000) (h : lC n = lC m) : n = m := by
  refine inj (n := n) (m := m) (by omega) (by omega) ?_
  unfold lD; rw [if_pos hn, if_pos hm, h]
/-- the small number of a text: of none 0; of words their number -/
def Small (x : List UInt8) (r : Int × Bool) : Prop := (x = [] ∧ r = (0, true)) ∨ (r = (0, false) ∧ x ≠ [] ∧ ∀ n, n < 1000 → lC n ≠ x) ∨ ∃ n, n < 1000 ∧ lC n = x ∧ r = ((n : Int), true)
theorem small_tells (x : ByteArray) (k : Nat) (hk : 1000 < k) : ∃ r, impl_smallNumber.f k x = some r ∧ Small x.data.toList r := by
  unfold impl_smallNumber.f
  by_cases e : x.data.toList = []
  · exact ⟨(0, true), by rw [if_pos (by rw [toList_lit]; exact e)], .inl ⟨e, rfl⟩⟩
  · obtain ⟨r, h1, h2⟩ := small_loop x 1000 0 k rfl hk
    refine ⟨r, by rw [if_neg (by rw [toList_lit]; exact e)]; exact h1, ?_⟩
    rcases h2 with ⟨hr, h2⟩ | ⟨n, _, h4, h5, h6⟩
    · exact .inr (.inl ⟨hr, e, fun n hn => h2 n (Nat.zero_le _) hn⟩)
    · exact .inr (.inr ⟨n, h4, h5, h6⟩)
theorem small_of {x : List UInt8} {r : Int × Bool} (h : Small x r) : 0 ≤ r.1 ∧ r.1 < 1000 := by
  rcases h with ⟨_, rfl⟩ | ⟨rfl, _⟩ | ⟨n, hn, _, rfl⟩ <;> simp <;> omega
theorem small_word {n : Nat} (hn : n < 1000) {x : List UInt8} {r : Int × Bool} (h : Small x r) (e : lC n = x) : r = ((n : Int), true) := by
  rcases h with ⟨h, _⟩ | ⟨_, _, h⟩ | ⟨m, hm, em, rfl⟩
  · rw [h] at e; exact absurd e (k2 ⟨n, hn⟩).2.2.2
  · exact absurd e (h n hn)
  · rw [lC_inj hn hm (e.trans em.symm)]
theorem small_nil {r : Int × Bool} (h : Small [] r) : r = (0, true) := by
  rcases h with ⟨_, h⟩ | ⟨_, h, _⟩ | ⟨m, hm, em, _⟩
  · exact h
  · exact absurd rfl h
  · exact absurd em (k2 ⟨m, hm⟩).2.2.2
theorem trim_suf (xs : List UInt8) : Lib.trimSuffix (xs ++ [32]) [32] = xs := by
  unfold Lib.trimSuffix Lib.hasSuffix
  rw [if_pos (List.isSuffixOf_iff_suffix.2 (List.suffix_append _ _))]
  simp
theorem trim_pre (xs : List UInt8) : Lib.trimPrefix (32 :: xs) [32] = xs := by
  unfold Lib.trimPrefix Lib.hasPrefix
  rw [if_pos (by simp [List.isPrefixOf])]; rfl
theorem trim_not {xs : List UInt8} (h : xs.head? ≠ some 32) : Lib.trimPrefix xs [32] = xs := by
  unfold Lib.trimPrefix Lib.hasPrefix
  refine if_neg ?_
  cases xs with
  | nil => decide
  | cons x xs =>
    intro e
    apply h
    simp only [List.isPrefixOf, Bool.and_eq_true, beq_iff_eq] at e
    rw [List.head?_cons, ← e.1]
theorem great {n : Nat} (hn : n < 1000000) (h : 1000 ≤ n) : ∃ R, lD n = lC (n / 1000) ++ 32 :: thoW ++ R ∧ ((R = [] ∧ n % 1000 = 0) ∨ R = 32 :: lC (n % 1000)) := by
  unfold lD lmore
  rw [if_neg (by omega)]
  by_cases hz : n % 1000 = 0
  · exact ⟨[], by rw [if_pos hz, List.append_nil], .inl ⟨rfl, hz⟩⟩
  · exact ⟨_, by rw [if_neg hz], .inr rfl⟩
theorem small_words (n : Nat) (h : n < 1000) : lD n = lC n := by unfold lD; rw [if_pos h]
theorem impl_tells (a0 : ByteArray) (k : Nat) (hk : 1001 < k) : ∃ r, impl_ReadNumberWords.f k a0 = some r ∧ Tells a0 r := by
  obtain ⟨k, rfl⟩ : ∃ m, k = m + 1 := ⟨k - 1, by omega⟩
  unfold impl_ReadNumberWords.f strings_Cut.f
  by_cases hz : 256 < a0.size
  · refine ⟨(0, false), by rw [if_pos (by omega)], .inl ⟨rfl, fun n hn e => ?_⟩⟩
    have h1 := nwD_size (n : Int)
    have h2 : (nwD (n : Int)).size = (lD n).length := by rw [← nwD_list]; exact (size_list _).symm
    rw [h2, e, size_list] at h1
    omega
  rw [if_neg (by omega), if_pos (by omega), Option.bind_some]
  have ht : ((⟨#[116, 104, 111, 117, 115, 97, 110, 100]⟩ : ByteArray)).data.toList = thoW := rfl
  rw [ht]
  clear ht
  have hs : ∀ x : ByteArray, x.size ≤ 256 → strings_TrimSuffix.f x (⟨#[32]⟩ : ByteArray) = some ⟨(Lib.trimSuffix x.data.toList [32]).toArray⟩ := fun x hx => by
    unfold strings_TrimSuffix.f; rw [if_pos (by omega)]
  have hp : ∀ x : ByteArray, strings_TrimPrefix.f x (⟨#[32]⟩ : ByteArray) = some ⟨(Lib.trimPrefix x.data.toList [32]).toArray⟩ := fun x => rfl
  unfold Lib.cut
  by_cases c : 0 ≤ Lib.index a0.data.toList thoW
  · rw [if_pos c]
    simp only [if_true]
    rw [impl_ReadNumberWords.j0, hs _ (by show (a0.data.toList.take _).toArray.size ≤ 256; rw [List.size_toArray, List.length_take, size_list]; omega), Option.bind_some]
    obtain ⟨H, h1, h2⟩ := small_tells ⟨(Lib.trimSuffix (a0.data.toList.take (Lib.index a0.data.toList thoW).toNat) [32]).toArray⟩ k (by omega)
    rw [h1, Option.bind_some, hp, Option.bind_some]
    obtain ⟨L, h3, h4⟩ := small_tells ⟨(Lib.trimPrefix (a0.data.toList.drop ((Lib.index a0.data.toList thoW).toNat + thoW.length)) [32]).toArray⟩ k (by omega)
    rw [h3, Option.bind_some, if_pos rfl]
    have b1 := small_of h2
    have b2 := small_of h4
    have key : ∀ n, n < 1000000 → lD n = a0.data.toList → H.2 = true ∧ L.2 = true ∧ 1000 * H.1 + L.1 = (n : Int) := by
      intro n hn e
      by_cases hl : n < 1000
      · rw [← e, small_words n hl, cut_none' hl] at c; omega
      · obtain ⟨R, e1, e2⟩ := great hn (by omega)
        have ha : n / 1000 < 1000 := by omega
        have hi : Lib.index a0.data.toList thoW = (((lC (n / 1000)).length + 1 : Nat) : Int) := by rw [← e, e1]; exact cut_some ha R
        have ht : a0.data.toList.take (Lib.index a0.data.toList thoW).toNat = lC (n / 1000) ++ [32] := by
          rw [hi, Int.toNat_natCast, ← e, e1, List.append_assoc, List.take_append, List.take_of_length_le (by omega)]
          simp
        have hd : a0.data.toList.drop ((Lib.index a0.data.toList thoW).toNat + thoW.length) = R := by
          have h9 : (lC (n / 1000) ++ 32 :: thoW).length = (lC (n / 1000)).length + 1 + thoW.length := by rw [List.length_append, List.length_cons]; omega
          rw [hi, Int.toNat_natCast, ← e, e1, ← h9, List.drop_left]
        have hH : H = (((n / 1000 : Nat) : Int), true) := by
          refine small_word ha h2 ?_
          show _ = (Lib.trimSuffix (a0.data.toList.take _) [32]).toArray.toList
          rw [ht, trim_suf]
        have hL : L = (((n % 1000 : Nat) : Int), true) := by
          rcases e2 with ⟨r1, r2⟩ | r1
          · rw [r2]
            refine small_nil (?_ : Small [] L)
            have : (Lib.trimPrefix (a0.data.toList.drop ((Lib.index a0.data.toList thoW).toNat + thoW.length)) [32]) = [] := by rw [hd, r1]; decide
            rw [this] at h4; exact h4
          · refine small_word (by omega) h4 ?_
            show _ = (Lib.trimPrefix (a0.data.toList.drop _) [32]).toArray.toList
            rw [hd, r1, trim_pre]
        rw [hH, hL]
        refine ⟨rfl, rfl, ?_⟩
        show 1000 * ((n / 1000 : Nat) : Int) + ((n % 1000 : Nat) : Int) = n
        omega
    by_cases c1 : H.2 = true
    · rw [if_pos c1]
      by_cases c2 : L.2 = true
      · rw [if_pos c2]
        have e1 : wrap64 (wrap64 (1000 * H.1) + L.1) = 1000 * H.1 + L.1 := by rw [w64 (x := 1000 * H.1) (by omega) (by omega), w64 (by omega) (by omega)]
        rw [e1]
        unfold impl_numberWords.f
        rw [if_pos ⟨by omega, by omega⟩, Option.bind_some]
        obtain ⟨m, hm⟩ : ∃ m : Nat, 1000 * H.1 + L.1 = (m : Int) := ⟨(1000 * H.1 + L.1).toNat, by omega⟩
        rw [hm]
        by_cases e2 : lD m = a0.data.toList
        · exact ⟨_, by rw [if_pos (by rw [list_eq_iff]; exact nwD_eq.2 e2)], .inr ⟨m, by omega, e2, rfl⟩⟩
        · refine ⟨(0, false), by rw [if_neg (fun h => e2 (nwD_eq.1 (list_eq_iff.1 h)))], .inl ⟨rfl, fun n hn e => ?_⟩⟩
          have := (key n hn e).2.2
          rw [hm] at this
          obtain rfl : m = n := by omega
          exact e2 e
      · exact ⟨(0, false), by rw [if_neg c2], .inl ⟨rfl, fun n hn e => c2 (key n hn e).2.1⟩⟩
    · exact ⟨(0, false), by rw [if_neg c1], .inl ⟨rfl, fun n hn e => c1 (key n hn e).1⟩⟩
  · rw [if_neg c]
    simp only [Bool.false_eq_true, if_false]
    rw [impl_ReadNumberWords.j0, hs _ (by show (0 : Nat) ≤ 256; omega), Option.bind_some]
    obtain ⟨H, h1, h2⟩ := small_tells ⟨(Lib.trimSuffix (⟨#[]⟩ : ByteArray).data.toList [32]).toArray⟩ k (by omega)
    rw [h1, Option.bind_some, hp, Option.bind_some]
    obtain ⟨L, h3, h4⟩ := small_tells ⟨(Lib.trimPrefix a0.data.toList [32]).toArray⟩ k (by omega)
    rw [h3, Option.bind_some, if_neg (by decide)]
    have b2 := small_of h4
    have key : ∀ n, n < 1000000 → lD n = a0.data.toList → L = ((n : Int), true) := by
      intro n hn e
      by_cases hl : n < 1000
      · refine small_word hl h4 ?_
        show _ = (Lib.trimPrefix a0.data.toList [32]).toArray.toList
        rw [← e, small_words n hl, trim_not (k2 ⟨n, hl⟩).2.2.1]
      · exfalso
        obtain ⟨R, e1, e2⟩ := great hn (by omega)
        have hi : Lib.index a0.data.toList thoW = (((lC (n / 1000)).length + 1 : Nat) : Int) := by rw [← e, e1]; exact cut_some (by omega) R
        rw [hi] at c; omega
    by_cases c2 : L.2 = true
    · rw [if_pos c2, w64 (x := L.1) (by omega) (by omega)]
      unfold impl_numberWords.f
      rw [if_pos ⟨by omega, by omega⟩, Option.bind_some]
      obtain ⟨m, hm⟩ : ∃ m : Nat, L.1 = (m : Int) := ⟨L.1.toNat, by omega⟩
      rw [hm]
      by_cases e2 : lD m = a0.data.toList
      · exact ⟨_, by rw [if_pos (by rw [list_eq_iff]; exact nwD_eq.2 e2)], .inr ⟨m, by omega, e2, rfl⟩⟩
      · refine ⟨(0, false), by rw [if_neg (fun h => e2 (nwD_eq.1 (list_eq_iff.1 h)))], .inl ⟨rfl, fun n hn e => ?_⟩⟩
        have := key n hn e
        rw [this] at hm
        have hm' : n = m := by have h9 : (n : Int) = (m : Int) := hm; omega
        rw [hm'] at e
        exact e2 e
    · refine ⟨(0, false), by rw [if_neg c2], .inl ⟨rfl, fun n hn e => ?_⟩⟩
      rw [key n hn e] at c2
      exact c2 rfl
theorem pure : laws_FnExactReadNumberWords.Pure := by
  intro a0 _
  by_cases hz : 1048576 < a0.size
  · refine ⟨1, ?_⟩
    unfold laws_FnExactReadNumberWords.f
    rw [if_pos (by omega)]
  · refine ⟨a0.size + 2000, ?_⟩
    unfold laws_FnExactReadNumberWords.f
    obtain ⟨r, h1, h2⟩ := spec_tells a0 (by omega) (a0.size + 2000) (by omega)
    obtain ⟨s, h3, h4⟩ := impl_tells a0 (a0.size + 2000) (by omega)
    rw [if_neg (by omega), h1, h3, tells_unique h4 h2]
    simp
end Go.Proofs.YtiebjnppmcpffaaDoor.RnPure
namespace Go.Proofs.YtiebjnppmcpffaaDoor
open Go.RowKit
theorem readNumberWords_w (a0 : ByteArray) (w : World) (hT : GLr w) (w0 : a0.size ≤ 140737488351232) :
    Calls Tryd.prog 4 #[.string a0] w fun e w' => e = .returned (.bool true) ∧ Below w.heap.size w w' :=
  PFnExactReadNumberWords.laws_FnExactReadNumberWords.walk RnPure.pure a0 w w0 hT
end Go.Proofs.YtiebjnppmcpffaaDoor
