/- SpeakNumbers: what is left of the law beside the walk. -/
import Derived.Test.YtiebjnppmcpffaaDoorPFnExactSpeakNumbersx
import Derived.Test.YtiebjnppmcpffaaDoorDn
set_option linter.unusedVariables false
set_option linter.unusedSimpArgs false
namespace Go.Proofs.YtiebjnppmcpffaaDoor.SpnPure
set_option maxRecDepth 4000
open Go.RowKit Go.Proofs.YtiebjnppmcpffaaDoorW.PrintWords Go.Proofs.YtiebjnppmcpffaaDoor Go.Proofs.YtiebjnppmcpffaaDoor.PFnExactSpeakNumbers Go.Proofs.YtiebjnppmcpffaaDoor.Lm
theorem ba_assoc (a b c : ByteArray) : (a ++ b) ++ c = a ++ (b ++ c) := ByteArray.append_assoc
theorem wm_pos {s t : ByteArray} {r : Int} (h : 0 < r) : wordMore s r t = s ++ (⟨#[32]⟩ ++ t) := if_pos h
theorem wm_zero {s t : ByteArray} : wordMore s 0 t = s := if_neg (by omega)
theorem small_eq {n : Int} (h0 : 0 ≤ n) (h1 : n < 20) : spec_l07Small.f n = some (rdOf ByteArray.empty smallL n) := by
  unfold spec_l07Small.f
  rw [Option.bind_some, if_pos h0, if_pos (by simpa using h1)]; rfl
theorem tens_eq {n : Int} (h0 : 0 ≤ n) (h1 : n < 10) : spec_l07Tens.f n = some (rdOf ByteArray.empty tenL n) := by
  unfold spec_l07Tens.f
  rw [Option.bind_some, if_pos h0, if_pos (by simpa using h1)]; rfl
theorem bind_some' {α} (x : Option α) : (x.bind fun t => some t) = x := by cases x <;> rfl
/-- one step of 'more': whatever tells the words of the rest -/
theorem more_step (F : Int → Option ByteArray) (s t : ByteArray) (r : Int) (h0 : 0 ≤ r) (hs : s.size ≤ 100) (ht : t.size ≤ 100) (hF : 0 < r → F r = some t) :
    (if r = 0 then (some s) else (if s.size + 1 ≤ 9223372036854775807 then ((F r).bind fun t111 => (if (s ++ (⟨#[32]⟩ : ByteArray)).size + t111.size ≤ 9223372036854775807 then (some ((s ++ (⟨#[32]⟩ : ByteArray)) ++ t111)) else (none))) else (none))) = some (wordMore s r t) := by
  by_cases hr : r = 0
  · rw [if_pos hr, hr, wm_zero]
  · have hp : 0 < r := by omega
    rw [if_neg hr, if_pos (by omega), hF hp, Option.bind_some, if_pos (by rw [ByteArray.size_append]; show s.size + 1 + t.size ≤ _; omega), wm_pos hp, ba_assoc]
theorem hund_step (M : ByteArray → Int → Option ByteArray) (n : Int) (h0 : 0 ≤ n) (h1 : n < 1000)
    (hM : ∀ s r, 0 ≤ r → s.size ≤ 50 → (n < 100 → r < 10 → M s r = some (wordMore s r (nwA r))) ∧ (100 ≤ n → r < 100 → M s r = some (wordMore s r (nwB r)))) :
    (if n < 20 then ((spec_l07Small.f n).bind fun t112 => (some t112)) else (if n < 100 then ((spec_l07Tens.f (wrap64 (Int.tdiv n 10))).bind fun t113 => ((M t113 (Int.tmod n 10)).bind fun t114 => (some t114))) else ((spec_l07Small.f (wrap64 (Int.tdiv n 100))).bind fun t115 => (if t115.size + 8 ≤ 9223372036854775807 then ((M (t115 ++ (⟨#[32, 104, 117, 110, 100, 114, 101, 100]⟩ : ByteArray)) (Int.tmod n 100)).bind fun t116 => (some t116)) else (none))))) = some (nwC n) := by
  by_cases a : n < 20
  · rw [if_pos a, bind_some', small_eq h0 a]; unfold nwC nwB; rw [if_pos (by omega), if_pos a]; rfl
  rw [if_neg a]
  by_cases b : n < 100
  · rw [if_pos b]
    obtain ⟨x1, x2, x3, x4⟩ := div_mod n 10 h0 (by omega)
    rw [w64 (by omega) (by omega), tens_eq x1 (by omega), Option.bind_some, bind_some', (hM _ _ x3 (by have := ten_size (n.tdiv 10); omega)).1 b x4]
    unfold nwC nwB; rw [if_pos b, if_neg a]
  · rw [if_neg b]
    obtain ⟨x1, x2, x3, x4⟩ := div_mod n 100 h0 (by omega)
    have hz : (rdOf ByteArray.empty smallL (n.tdiv 100)).size ≤ 9 := nwA_size _
    rw [w64 (by omega) (by omega), small_eq x1 (by omega), Option.bind_some, bind_some', if_pos (by omega), (hM _ _ x3 (by rw [ByteArray.size_append]; show (rdOf ByteArray.empty smallL (n.tdiv 100)).size + 8 ≤ _; omega)).2 (by omega) x4]
    unfold nwC; rw [if_neg b]
theorem hund2 (n : Int) (h0 : 0 ≤ n) (h1 : n < 20) : spec_l07Hundreds_d2.f n = some (nwA n) := by
  unfold spec_l07Hundreds_d2.f
  rw [if_pos h1, bind_some', small_eq h0 h1]; rfl
theorem hund4 (n : Int) (h0 : 0 ≤ n) (h1 : n < 100) : spec_l07Hundreds_d4.f n = some (nwB n) := by
  unfold spec_l07Hundreds_d4.f
  have := hund_step spec_l07More_d3.f n h0 (by omega) (fun s r hr hs => ⟨fun _ h => by unfold spec_l07More_d3.f; exact more_step _ s _ r hr (by omega) (by have := nwA_size r; omega) (fun hp => hund2 r hr (by omega)), fun h => by omega⟩)
  rw [this]; unfold nwC; rw [if_pos h1]
theorem hund6 (n : Int) (h0 : 0 ≤ n) (h1 : n < 1000) : spec_l07Hundreds_d6.f n = some (nwC n) := by
  unfold spec_l07Hundreds_d6.f
  exact hund_step spec_l07More_d5.f n h0 (by omega) (fun s r hr hs => ⟨fun _ h => by
      unfold spec_l07More_d5.f; refine more_step _ s _ r hr (by omega) (by have := nwA_size r; omega) (fun hp => ?_)
      rw [hund4 r hr (by omega)]; unfold nwB; rw [if_pos (by omega)],
    fun _ h => by unfold spec_l07More_d5.f; exact more_step _ s _ r hr (by omega) (by have := nwB_size r; omega) (fun hp => hund4 r hr h)⟩)
theorem hund1 (n : Int) (h0 : 0 ≤ n) (h1 : n < 20) : spec_l07Hundreds_d1.f n = some (nwA n) := by
  unfold spec_l07Hundreds_d1.f
  rw [if_pos h1, bind_some', small_eq h0 h1]; rfl
theorem hund3 (n : Int) (h0 : 0 ≤ n) (h1 : n < 100) : spec_l07Hundreds_d3.f n = some (nwB n) := by
  unfold spec_l07Hundreds_d3.f
  have := hund_step spec_l07More_d2.f n h0 (by omega) (fun s r hr hs => ⟨fun _ h => by unfold spec_l07More_d2.f; exact more_step _ s _ r hr (by omega) (by have := nwA_size r; omega) (fun hp => hund1 r hr (by omega)), fun h => by omega⟩)
  rw [this]; unfold nwC; rw [if_pos h1]
theorem hund5 (n : Int) (h0 : 0 ≤ n) (h1 : n < 1000) : spec_l07Hundreds_d5.f n = some (nwC n) := by
  unfold spec_l07Hundreds_d5.f
  exact hund_step spec_l07More_d4.f n h0 (by omega) (fun s r hr hs => ⟨fun _ h => by
      unfold spec_l07More_d4.f; refine more_step _ s _ r hr (by omega) (by have := nwA_size r; omega) (fun hp => ?_)
      rw [hund3 r hr (by omega)]; unfold nwB; rw [if_pos (by omega)],
    fun _ h => by unfold spec_l07More_d4.f; exact more_step _ s _ r hr (by omega) (by have := nwB_size r; omega) (fun hp => hund3 r hr h)⟩)
theorem spoken_eq (n : Int) (h0 : 0 ≤ n) (h1 : n < 1000000) : spec_l07Spoken.f n = some (nwD n) := by
  unfold spec_l07Spoken.f
  by_cases a : n < 1000
  · rw [if_pos a, bind_some', hund6 n h0 a]; unfold nwD; rw [if_pos a]
  · rw [if_neg a]
    obtain ⟨x1, x2, x3, x4⟩ := div_mod n 1000 h0 (by omega)
    have hz := nwC_size (n.tdiv 1000)
    have hs : (nwC (n.tdiv 1000) ++ (⟨#[32, 116, 104, 111, 117, 115, 97, 110, 100]⟩ : ByteArray)).size ≤ 100 := by rw [ByteArray.size_append]; show (nwC (n.tdiv 1000)).size + 9 ≤ _; omega
    rw [w64 (by omega) (by omega), hund6 _ x1 (by omega), Option.bind_some, bind_some', if_pos (by omega)]
    unfold nwD; rw [if_neg a]
    unfold spec_l07More_d6.f
    exact more_step _ _ _ _ x3 hs (by have := nwC_size (n.tmod 1000); omega) (fun hp => hund5 _ x3 x4)
theorem cutl (s : ByteArray) (hs : s.size ≤ 4194304) (c : UInt8) : ∀ (d k : Nat) (out : List ByteArray) (a i : Nat), i + d = s.size → a ≤ i → c ∉ (s.data.toList.drop a).take (i - a) → out.length ≤ i → d + 1 < k →
    spec_l01Cut.l0 k s ((c.toNat : Nat) : Int) out (a : Int) (i : Int) = some (out ++ (cut c (s.data.toList.drop a)).map ba)
  | d, 0, out, a, i, h1, ha, hc, ho, hk => by omega
  | 0, k + 1, out, a, i, h1, ha, hc, ho, hk => by
    obtain ⟨k, rfl⟩ : ∃ m, k = m + 1 := ⟨k - 1, by omega⟩
    have hi : i = s.size := h1
    subst hi
    have hd : (s.data.toList.drop a).take (s.size - a) = s.data.toList.drop a := List.take_of_length_le (by rw [List.length_drop, size_list]; exact Nat.le_refl _)
    rw [hd] at hc
    rw [spec_l01Cut.l0, if_pos (Int.le_refl _), if_pos rfl, if_pos (by omega), if_pos (by omega), if_pos (by omega), Int.toNat_natCast, Int.toNat_natCast, w64 (by omega) (by omega), spec_l01Cut.l0, if_neg (by omega), cut_none hc, extract_ba, hd]
    rfl
  | d + 1, k + 1, out, a, i, h1, ha, hc, ho, hk => by
    have hi : i < s.size := by omega
    have e1 : wrap64 ((i : Int) + 1) = ((i + 1 : Nat) : Int) := by rw [w64 (by omega) (by omega)]; omega
    have hx : s.data.toList.drop a = (s.data.toList.drop a).take (i - a) ++ (s.data.toList[i]'hi) :: s.data.toList.drop (i + 1) := by
      have h2 : (s.data.toList.drop a).drop (i - a) = (s.data.toList[i]'hi) :: s.data.toList.drop (i + 1) := by
        rw [List.drop_drop, show a + (i - a) = i by omega]; exact List.drop_eq_getElem_cons hi
      rw [← h2, List.take_append_drop]
    have hb := bt_nat s i hi
    rw [spec_l01Cut.l0, if_pos (by omega), if_neg (by omega), if_pos (by omega), if_pos (by omega), hb]
    by_cases c1 : (((s.data.toList[i]'hi).toNat : Nat) : Int) = ((c.toNat : Nat) : Int)
    · have hc1 := u8_eq c1
      rw [if_pos c1, if_pos (by omega), if_pos (by omega), if_pos (by omega), e1, Int.toNat_natCast, Int.toNat_natCast]
      rw [cutl s hs c d k _ (i + 1) (i + 1) (by omega) (Nat.le_refl _) (by rw [Nat.sub_self, List.take_zero]; exact fun h => by cases h) (by rw [List.length_append, List.length_singleton]; omega) (by omega)]
      rw [hx, hc1, cut_hit _ hc, extract_ba, List.append_assoc]
      rfl
    · rw [if_neg c1, e1]
      refine cutl s hs c d k out a (i + 1) (by omega) (by omega) ?_ (by omega) (by omega)
      have h3 : (s.data.toList.drop a).take (i + 1 - a) = (s.data.toList.drop a).take (i - a) ++ [s.data.toList[i]'hi] := by
        rw [show i + 1 - a = (i - a) + 1 by omega, List.take_succ_eq_append_getElem (by rw [List.length_drop, size_list]; omega)]
        congr 2
        rw [List.getElem_drop]
        congr 1
        omega
      rw [h3]
      intro hm
      rcases List.mem_append.1 hm with e | e
      · exact hc e
      · rw [List.mem_singleton] at e
        exact c1 (by rw [e])
theorem cut_spec (s : ByteArray) (hs : s.size ≤ 4194304) (c : UInt8) (k : Nat) (hk : s.size + 1 < k) : spec_l01Cut.f k s ((c.toNat : Nat) : Int) = some (cutB c s) :=
  cutl s hs c s.size k [] 0 0 (by omega) (by omega) (by simp) (by simp) hk
theorem gs0 (c : UInt8) (k : Nat) (x : ByteArray) (l : List ByteArray) (n : Nat) (hc : x.data.toList.count c = 0) (hl : l.length = n + 1) (hn : n ≤ 4194304) : strings_genSplit.l0 (k + 1) x (ba [c]) 0 (n : Int) l (n : Int) = some (l.take n ++ cutB c x) := by
  have hn0 : c ∉ x.data.toList := fun h => by
    have := List.count_pos_iff.2 h
    omega
  have e1 : wrap64 ((n : Int) + 1) = ((n + 1 : Nat) : Int) := by rw [w64 (by omega) (by omega)]; omega
  have f1 : ¬ ((n : Int) < (n : Int)) := by omega
  have f2 : (0 : Int) ≤ (n : Int) := by omega
  have f3 : (n : Int) < (l.length : Int) := by omega
  have f4 : (0 : Int) ≤ ((n + 1 : Nat) : Int) := by omega
  have f5 : ((n + 1 : Nat) : Int) ≤ (l.length : Int) := by omega
  have f6 : n < l.length := by omega
  rw [strings_genSplit.l0, if_neg f1, if_pos f2, if_pos f3, e1, if_pos f4, if_pos f5, Int.toNat_natCast, Int.toNat_natCast]
  unfold cutB
  rw [cut_none hn0, take_set_snoc f6]
  rfl
theorem gs1 (c : UInt8) (k : Nat) (x : ByteArray) (l : List ByteArray) (i n : Nat) (p r : List UInt8) (hin : i < n) (hl : l.length = n + 1) (hn : n ≤ 4194304) (hx : x.size ≤ 4194304) (h2 : x.data.toList = p ++ c :: r) (h4 : Lib.indexByte x.data.toList c = (p.length : Int)) :
    strings_genSplit.l0 (k + 1) x (ba [c]) 0 (n : Int) l (i : Int) = strings_genSplit.l0 k (ba r) (ba [c]) 0 (n : Int) (l.set i (ba p)) ((i + 1 : Nat) : Int) := by
  obtain ⟨g1, g2, g3⟩ := take_hit h2
  have hI : strings_Index.f x (ba [c]) = some ((p.length : Nat) : Int) := by
    unfold strings_Index.f
    rw [if_pos (show (ba [c]).size = 1 from rfl), ← h4]; rfl
  clear h4 h2
  have f1 : (i : Int) < (n : Int) := by omega
  have f2 : ¬ (((p.length : Nat) : Int) < 0) := by omega
  have f3 : (0 : Int) ≤ ((p.length : Nat) : Int) := by omega
  have f4 : ((p.length : Nat) : Int) ≤ (x.size : Int) := by omega
  have f5 : (0 : Int) ≤ (i : Int) := by omega
  have f6 : (i : Int) < (l.length : Int) := by omega
  have f7 : (0 : Int) ≤ ((p.length + 1 : Nat) : Int) := by omega
  have f8 : ((p.length + 1 : Nat) : Int) ≤ (x.size : Int) := by omega
  have e1 : wrap64 ((i : Int) + 1) = ((i + 1 : Nat) : Int) := by rw [w64 (by omega) (by omega)]; omega
  have e2 : wrap64 (((p.length : Nat) : Int) + 0) = ((p.length : Nat) : Int) := by rw [w64 (by omega) (by omega)]; omega
  have e3 : wrap64 (((p.length : Nat) : Int) + (((ba [c]).size : Nat) : Int)) = ((p.length + 1 : Nat) : Int) := by
    rw [show (((ba [c]).size : Nat) : Int) = 1 from rfl, w64 (by omega) (by omega)]; omega
  rw [strings_genSplit.l0, if_pos f1, hI, Option.bind_some, if_neg f2, e2, if_pos f3, if_pos f4, if_pos f5, if_pos f6, e3, if_pos f7, if_pos f8, e1, Int.toNat_natCast, Int.toNat_natCast, Int.toNat_natCast, g1, g2]
theorem gsl (c : UInt8) (n : Nat) (hn : n ≤ 4194304) (d : Nat) : ∀ (k : Nat) (x : ByteArray) (l : List ByteArray) (i : Nat), i + d = n → x.data.toList.count c = d → l.length = n + 1 → x.size ≤ 4194304 → d < k →
    strings_genSplit.l0 k x (ba [c]) 0 (n : Int) l (i : Int) = some (l.take i ++ cutB c x) := by
  induction d with
  | zero =>
    intro k x l i h1 hc hl hx hk
    obtain ⟨k, rfl⟩ : ∃ m, k = m + 1 := ⟨k - 1, by omega⟩
    obtain rfl : i = n := by omega
    exact gs0 c k x l i hc hl hn
  | succ d ih =>
    intro k x l i h1 hc hl hx hk
    obtain ⟨k, rfl⟩ : ∃ m, k = m + 1 := ⟨k - 1, by omega⟩
    rcases index_spec c x.data.toList with ⟨_, h⟩ | ⟨p, r, h2, h3, h4⟩
    · rw [List.count_eq_zero_of_not_mem h] at hc
      omega
    · obtain ⟨g1, g2, g3⟩ := take_hit h2
      have hcr : (ba r).data.toList.count c = d := by
        rw [h2, count_hit h3] at hc
        rw [list_ba]; omega
      rw [gs1 c k x l i n p r (by omega) hl hn hx h2 h4, ih k (ba r) _ (i + 1) (by omega) hcr (by rw [List.length_set]; exact hl) (by rw [size_ba]; omega) (by omega), take_set_snoc (by omega)]
      unfold cutB
      rw [h2, cut_hit r h3, List.append_assoc]
      rfl
theorem split_some (s : ByteArray) (hs : s.size ≤ 4194303) (c : UInt8) (k : Nat) (hk : s.size + 1 < k) : strings_Split.f k s (ba [c]) = some (cutB c s) := by
  obtain ⟨k, rfl⟩ : ∃ m, k = m + 1 := ⟨k - 1, by omega⟩
  have hle : s.data.toList.count c ≤ s.size := List.count_le_length
  have hC : strings_Count.f s (ba [c]) = some ((s.data.toList.count c : Nat) : Int) := by
    unfold strings_Count.f
    rw [if_pos (show (ba [c]).size = 1 from rfl)]; rfl
  have e1 : wrap64 (((s.data.toList.count c : Nat) : Int) + 1) = ((s.data.toList.count c + 1 : Nat) : Int) := by rw [w64 (by omega) (by omega)]; omega
  have e2 : mn ((s.data.toList.count c + 1 : Nat) : Int) (wrap64 ((s.size : Int) + 1)) = ((s.data.toList.count c + 1 : Nat) : Int) := by
    rw [w64 (by omega) (by omega)]; unfold mn; split <;> omega
  have e3 : wrap64 (((s.data.toList.count c + 1 : Nat) : Int) - 1) = ((s.data.toList.count c : Nat) : Int) := by rw [w64 (by omega) (by omega)]; omega
  have hne : ¬ ((ba [c]).toList = ([] : List UInt8)) := by
    intro h
    have := nil_iff.1 h
    cases this
  unfold strings_Split.f strings_genSplit.f
  rw [if_neg (by decide), if_neg hne, if_pos (by decide), hC, Option.bind_some, e1, strings_genSplit.j0, e2, if_pos (by omega), if_pos (by omega), e3, Int.toNat_natCast]
  have hg := gsl c (s.data.toList.count c) (by omega) (s.data.toList.count c) k s (List.replicate (s.data.toList.count c + 1) (⟨#[]⟩ : ByteArray)) 0 (by omega) rfl (by rw [List.length_replicate]) (by omega) (by omega)
  rw [show (((0 : Nat) : Int)) = 0 from rfl] at hg
  rw [hg]
  rfl
/-- the digits as the reference lays them, from the last one -/
def dI (u : Nat) : List Int := (Lib.decDigits u).map fun c => (c.toNat : Int)
theorem str_dI (L : List UInt8) : strOfNums (L.map fun c => (c.toNat : Int)) = ⟨L.toArray⟩ := by
  unfold strOfNums
  rw [List.map_map]
  congr 2
  conv => rhs; rw [← List.map_id L]
  refine List.map_congr_left fun c _ => ?_
  show UInt8.ofNat ((c.toNat : Int)).toNat = c
  rw [Int.toNat_natCast, UInt8.ofNat_toNat]
theorem dI_one {u : Nat} (h : u < 10) : dI u = [((48 + u : Nat) : Int)] := by
  unfold dI
  rw [Lib.decDigits, dif_pos h, List.map_singleton, Dn.dig_nat u h]
theorem dI_more {u : Nat} (h : ¬ u < 10) : dI u = dI (u / 10) ++ [((48 + u % 10 : Nat) : Int)] := by
  unfold dI
  rw [Lib.decDigits, dif_neg h, List.map_append, List.map_singleton, Dn.dig_nat _ (by omega)]
theorem dI_len (d u : Nat) (h : u < 10 ^ (d + 1)) : (dI u).length ≤ d + 1 := by unfold dI; rw [List.length_map]; exact Dn.dec_len d u h
theorem dec_dig (x : Int) (h0 : -9223372036854775808 ≤ x) (h1 : x ≤ 9223372036854775807) : (if Int.tmod x 10 < 0 then (wrap64 (48 + (wrap64 (-(Int.tmod x 10))))) % 256 else (wrap64 (48 + (Int.tmod x 10))) % 256) = ((48 + x.natAbs % 10 : Nat) : Int) := by
  have h2 : Int.tmod x 10 = if x < 0 then -((x.natAbs % 10 : Nat) : Int) else ((x.natAbs % 10 : Nat) : Int) := by
    split
    · rename_i h
      rw [show x = -((x.natAbs : Nat) : Int) by omega, Int.neg_tmod, Int.tmod_eq_emod_of_nonneg (by omega)]
      simp
    · rename_i h
      rw [Int.tmod_eq_emod_of_nonneg (by omega)]
      omega
  have hm : x.natAbs % 10 < 10 := by omega
  generalize x.natAbs % 10 = m at h2 hm ⊢
  by_cases hx : x < 0
  · rw [if_pos hx] at h2
    rw [h2]
    split
    · rw [w64 (x := - -(m : Int)) (by omega) (by omega), w64 (by omega) (by omega)]; omega
    · rw [w64 (by omega) (by omega)]; omega
  · rw [if_neg hx] at h2
    rw [h2, if_neg (by omega), w64 (by omega) (by omega)]; omega
theorem dec_next (x : Int) (h0 : -9223372036854775808 ≤ x) (h1 : x ≤ 9223372036854775807) : (wrap64 (Int.tdiv x 10)).natAbs = x.natAbs / 10 ∧ -9223372036854775808 ≤ wrap64 (Int.tdiv x 10) ∧ wrap64 (Int.tdiv x 10) ≤ 9223372036854775807 ∧ (wrap64 (Int.tdiv x 10) = 0 ↔ x.natAbs / 10 = 0) := by
  have h2 : (Int.tdiv x 10).natAbs = x.natAbs / 10 := by rw [Int.natAbs_tdiv]; rfl
  have h3 : wrap64 (Int.tdiv x 10) = Int.tdiv x 10 := w64 (by omega) (by omega)
  rw [h3]
  exact ⟨h2, by omega, by omega, by omega⟩
def decFin (x0 : Int) (L : List Int) : ByteArray := if x0 < 0 then strOfNums (45 :: L) else strOfNums L
theorem dec_end (k : Nat) (x0 : Int) (L : List Int) (hL : L ≠ []) (hl : L.length ≤ 1000) : spec_l01Dec.l0 (k + 2) x0 L 0 = some (decFin x0 L) := by
  rw [spec_l01Dec.l0, if_neg (by cases L with | nil => exact absurd rfl hL | cons a L => simp; omega), show ((0 : Int) != 0) = false from rfl, spec_l01Dec.j1, if_neg (by decide)]
  unfold decFin
  split
  · rw [Option.bind_some, if_pos (by simp; omega)]; rfl
  · rfl
theorem dec_loop (x0 : Int) : ∀ (d k : Nat) (x : Int) (L : List Int), x.natAbs < 10 ^ (d + 1) → -9223372036854775808 ≤ x → x ≤ 9223372036854775807 → (L = [] ∨ x ≠ 0) → L.length + d + 1 ≤ 900 → 2 * d + 4 ≤ k → spec_l01Dec.l0 k x0 L x = some (decFin x0 (dI x.natAbs ++ L))
  | d, 0, x, L, h, h0, h1, hx, hl, hk => by omega
  | d, 1, x, L, h, h0, h1, hx, hl, hk => by omega
  | d, k + 2, x, L, h, h0, h1, hx, hl, hk => by
    have hj : spec_l01Dec.l0 (k + 2) x0 L x = spec_l01Dec.j1 (k + 1) x0 L x true := by
      rw [spec_l01Dec.l0]
      by_cases c : (L.length : Int) = 0
      · rw [if_pos c]
      · rw [if_neg c]
        have : x ≠ 0 := by
          rcases hx with rfl | hx
          · exact absurd rfl c
          · exact hx
        rw [show (x != 0) = true from bne_iff_ne.2 this]
    have hs : spec_l01Dec.j1 (k + 1) x0 L x true = spec_l01Dec.l0 k x0 (((48 + x.natAbs % 10 : Nat) : Int) :: L) (wrap64 (Int.tdiv x 10)) := by
      have hd := dec_dig x h0 h1
      rw [spec_l01Dec.j1, if_pos rfl]
      split at hd
      · rename_i h
        rw [if_pos h, Option.bind_some, hd, if_pos (by simp; omega)]; rfl
      · rename_i h
        rw [if_neg h, Option.bind_some, hd, if_pos (by simp; omega)]; rfl
    obtain ⟨n1, n2, n3, n4⟩ := dec_next x h0 h1
    rw [hj, hs]
    by_cases c : x.natAbs < 10
    · have z : wrap64 (Int.tdiv x 10) = 0 := n4.2 (by omega)
      obtain ⟨k, rfl⟩ : ∃ m, k = m + 2 := ⟨k - 2, by omega⟩
      rw [z, dec_end k x0 _ (by simp) (by simp; omega), dI_one c, show x.natAbs % 10 = x.natAbs by omega]; rfl
    · cases d with
      | zero => simp at h; omega
      | succ d =>
        rw [dec_loop x0 d k _ _ (by rw [n1]; rw [Nat.pow_succ] at h; omega) n2 n3 (.inr (fun e => by have := n4.1 e; omega)) (by simp only [List.length_cons]; omega) (by omega), n1, dI_more c, List.append_assoc]; rfl
theorem spec_dec (n : Int) (h0 : -9223372036854775808 ≤ n) (h1 : n ≤ 9223372036854775807) (k : Nat) (hk : 50 ≤ k) : spec_l01Dec.f k n = some ⟨(Lib.itoa n).toArray⟩ := by
  unfold spec_l01Dec.f
  rw [dec_loop n 19 k n [] (by show n.natAbs < 100000000000000000000; omega) h0 h1 (.inl rfl) (by simp) (by omega), List.append_nil]
  unfold decFin Lib.itoa dI
  split
  · rw [show (45 : Int) = (((45 : UInt8).toNat : Nat) : Int) from rfl, ← List.map_cons (f := fun c : UInt8 => (c.toNat : Int)), str_dI]
  · rw [str_dI, show n.natAbs = n.toNat by omega]
theorem val_end (x : ByteArray) (n : Int) (k : Nat) (hn : -999999999999999999 ≤ n ∧ n ≤ 999999999999999999) (hk : 51 ≤ k) : spec_l01Value.j2 k x n = some (if (-1000000000000000 ≤ n ∧ n ≤ 1000000000000000) ∧ Lib.itoa n = x.data.toList then (n, true) else (0, false)) := by
  obtain ⟨k, rfl⟩ : ∃ m, k = m + 1 := ⟨k - 1, by omega⟩
  rw [spec_l01Value.j2]
  unfold spec_l00In.f
  by_cases c1 : n ≥ -1000000000000000
  · rw [if_pos c1, Option.bind_some]
    by_cases c2 : n ≤ 1000000000000000
    · rw [if_pos (decide_eq_true c2), spec_dec n (by omega) (by omega) k (by omega), Option.bind_some]
      by_cases c3 : Lib.itoa n = x.data.toList
      · rw [if_pos (by rw [ByteArray.toList_eq, ByteArray.toList_eq]; exact c3), if_pos ⟨⟨c1, c2⟩, c3⟩]
      · rw [if_neg (by rw [ByteArray.toList_eq, ByteArray.toList_eq]; exact c3), if_neg (fun h => c3 h.2)]
    · rw [if_neg (by simpa using c2), if_neg (fun h => c2 h.1.2)]
  · rw [if_neg c1, Option.bind_some, if_neg (by decide), if_neg (fun h => c1 h.1.1)]
theorem dval_le (d : Nat) : ∀ (l : List UInt8), l.length ≤ d → Dn.dval 0 l < 10 ^ d := by
  induction d with
  | zero => intro l hl; obtain rfl : l = [] := List.length_eq_zero_iff.1 (by omega); decide
  | succ d ih =>
    intro l hl
    rcases List.eq_nil_or_concat l with rfl | ⟨l', c, rfl⟩
    · unfold Dn.dval; rw [List.foldl_nil]; exact Nat.pow_pos (by omega)
    · have h1 := ih l' (by simp at hl; omega)
      unfold Dn.dval at h1 ⊢
      rw [List.concat_eq_append, List.foldl_append, List.foldl_cons, List.foldl_nil, Nat.pow_succ]
      split <;> omega
theorem val_loop (x : ByteArray) (hx0 : 0 < x.size) (hx : x.size ≤ 17) : ∀ (d i k : Nat), i + d = x.size → d + 53 ≤ k → spec_l01Value.l0 k x ((Dn.dval 0 (x.data.toList.take i) : Nat) : Int) (i : Int) = some (if (-1000000000000000 ≤ Dn.sval x.data.toList ∧ Dn.sval x.data.toList ≤ 1000000000000000) ∧ Lib.itoa (Dn.sval x.data.toList) = x.data.toList then (Dn.sval x.data.toList, true) else (0, false))
  | d, i, 0, h1, h2 => by omega
  | 0, i, k + 1, h1, h2 => by
    obtain rfl : i = x.size := by omega
    have ht : x.data.toList.take x.size = x.data.toList := List.take_of_length_le (by rw [size_list]; omega)
    have hv := dval_le 17 x.data.toList (by rw [size_list]; omega)
    have hv' : Dn.dval 0 x.data.toList < 100000000000000000 := hv
    have h0 : bt x 0 = ((x.data.toList[0]'(by rw [size_list]; omega)).toNat : Int) := bt_nat x 0 hx0
    have hh : x.data.toList.head? = some (x.data.toList[0]'(by rw [size_list]; omega)) := by rw [List.head?_eq_getElem?, List.getElem?_eq_getElem]
    rw [spec_l01Value.l0, if_neg (by omega), if_pos (by omega), ht, h0]
    by_cases c : (x.data.toList[0]'(by rw [size_list]; omega)) = 45
    · have hs : Dn.sval x.data.toList = -(Dn.dval 0 x.data.toList : Int) := by unfold Dn.sval; rw [hh, c, if_pos rfl]
      rw [if_pos (by rw [c]; rfl), w64 (by omega) (by omega), val_end x _ k (by omega) (by omega), hs]
    · have hs : Dn.sval x.data.toList = (Dn.dval 0 x.data.toList : Int) := by unfold Dn.sval; rw [hh, if_neg (fun e => c (Option.some.inj e))]
      rw [if_neg (show ¬ (((x.data.toList[0]'(by rw [size_list]; omega)).toNat : Int) = 45) from fun e => c (u8_eq (b := 45) e)), val_end x _ k (by omega) (by omega), hs]
  | d + 1, i, k + 1, h1, h2 => by
    have hi : i < x.size := by omega
    have hb := bt_nat x i hi
    have ht : x.data.toList.take (i + 1) = x.data.toList.take i ++ [x.data.toList[i]'hi] := List.take_succ_eq_append_getElem hi
    have hv := dval_le 17 (x.data.toList.take i) (by rw [List.length_take, size_list]; omega)
    have hv' : Dn.dval 0 (x.data.toList.take i) < 100000000000000000 := hv
    have hn : Dn.dval 0 (x.data.toList.take (i + 1)) = if 48 ≤ (x.data.toList[i]'hi).toNat ∧ (x.data.toList[i]'hi).toNat ≤ 57 then 10 * Dn.dval 0 (x.data.toList.take i) + ((x.data.toList[i]'hi).toNat - 48) else Dn.dval 0 (x.data.toList.take i) := by
      rw [ht]; unfold Dn.dval; rw [List.foldl_append]; rfl
    have ih := val_loop x hx0 hx d (i + 1) k (by omega) (by omega)
    have e1 : wrap64 ((i : Int) + 1) = ((i + 1 : Nat) : Int) := by rw [w64 (by omega) (by omega)]; omega
    rw [spec_l01Value.l0, if_pos (by omega), if_pos (by omega), hb, e1]
    generalize (x.data.toList[i]'hi).toNat = c at hn ⊢
    by_cases c1 : 48 ≤ c
    · rw [if_pos (by omega)]
      by_cases c2 : c ≤ 57
      · rw [if_pos ⟨c1, c2⟩] at hn
        rw [if_pos (by omega), w64 (x := 10 * _) (by omega) (by omega), show (((c : Int) - 48) % 256) = ((c - 48 : Nat) : Int) by omega, w64 (by omega) (by omega), ← ih, hn]
        congr 1
        try omega
      · rw [if_neg (fun h => c2 h.2)] at hn
        rw [if_neg (by omega), ← ih, hn]
    · rw [if_neg (fun h => c1 h.1)] at hn
      rw [if_neg (by omega), ← ih, hn]
theorem spec_value (x : ByteArray) (k : Nat) (hk : 80 ≤ k) : spec_l01Value.f k x = some (readDec x) := by
  obtain ⟨k, rfl⟩ : ∃ m, k = m + 1 := ⟨k - 1, by omega⟩
  have hr := Dn.is_readDec x
  suffices h : ∃ r, spec_l01Value.f (k + 1) x = some r ∧ Dn.Is x.data.toList r by
    obtain ⟨r, h1, h2⟩ := h
    rw [h1, Dn.is_unique h2 hr]
  unfold spec_l01Value.f
  by_cases c0 : x.size = 0
  · refine ⟨(0, false), by rw [if_pos (by omega), spec_l01Value.j0, if_pos rfl], .inl ⟨rfl, fun n a b e => ?_⟩⟩
    have := (Dn.itoa_len n a b).1
    rw [e, size_list] at this; omega
  · rw [if_neg (by omega)]
    by_cases c1 : 17 < x.size
    · refine ⟨(0, false), by rw [spec_l01Value.j0, if_pos (decide_eq_true (by omega))], .inl ⟨rfl, fun n a b e => ?_⟩⟩
      have := (Dn.itoa_len n a b).2
      rw [e, size_list] at this; omega
    · have hl := val_loop x (by omega) (by omega) x.size 0 k (by omega) (by omega)
      rw [List.take_zero] at hl
      refine ⟨_, by rw [spec_l01Value.j0, if_neg (by rw [decide_eq_false (by omega)]; decide)]; exact hl, ?_⟩
      split
      · rename_i h; exact .inr ⟨_, h.1, h.2, rfl⟩
      · rename_i h
        refine .inl ⟨rfl, fun n a b e => h ?_⟩
        have : Dn.sval x.data.toList = n := by rw [← e]; exact Dn.sval_itoa n
        rw [this]
        exact ⟨⟨a, b⟩, e⟩
def tailB (ws : List ByteArray) : List UInt8 := (ws.map fun w => 32 :: (sp1 w).data.toList).flatten
theorem readDec_nat (x : ByteArray) : (readDec x).2 = true → -1000000000000000 ≤ (readDec x).1 ∧ (readDec x).1 ≤ 1000000000000000 := by
  intro h
  rcases Dn.is_readDec x with ⟨h1, _⟩ | ⟨n, hn, _, h1⟩
  · rw [h1] at h; cases h
  · rw [h1]; exact hn
/-- one word of the reference -/
theorem word_step (x4 : List ByteArray) (out : ByteArray) (j k : Nat) (n : Int) (hj : j < x4.length) (hl : x4.length ≤ 1000) (hz : ∀ x ∈ x4, x.size ≤ 1000) (ho : out.size ≤ 100000000) (hk : 90 ≤ k) :
    spec_SpeakNumbers.j1 (k + 1) x4 out (j : Int) n (j : Int) = spec_SpeakNumbers.l0 k x4 (out ++ sp1 x4[j]) n ((j + 1 : Nat) : Int) := by
  have hr : rdOf ByteArray.empty x4 (j : Int) = x4[j] := by
    unfold rdOf
    rw [Int.toNat_natCast, List.getD_eq_getElem?_getD, List.getElem?_eq_getElem hj]; rfl
  have hx := hz x4[j] (List.getElem_mem _)
  have e1 : wrap64 ((j : Int) + 1) = ((j + 1 : Nat) : Int) := by rw [w64 (by omega) (by omega)]; omega
  rw [spec_SpeakNumbers.j1, if_pos (by omega), if_pos (by omega), hr, spec_value _ k (by omega), Option.bind_some, e1]
  generalize x4[j] = x at hx ⊢
  have hb := readDec_nat x
  unfold sp1
  by_cases c1 : (readDec x).2 = true
  · have hb' := hb c1
    rw [if_pos c1]
    unfold spec_l00In.f
    by_cases c2 : (readDec x).1 ≥ 0
    · rw [if_pos c2, Option.bind_some]
      by_cases c3 : (readDec x).1 ≤ 999999
      · have hs := nwD_size (readDec x).1
        rw [if_pos (decide_eq_true c3), spoken_eq _ c2 (by omega), Option.bind_some, if_pos (by omega), if_pos ⟨c1, c2, c3⟩]
      · rw [if_neg (by simpa using c3), if_pos (by omega), if_neg (fun h => c3 h.2.2)]
    · rw [if_neg c2, Option.bind_some, if_neg (by decide), if_pos (by omega), if_neg (fun h => c2 h.2.1)]
  · rw [if_neg c1, if_pos (by omega), if_neg (fun h => c1 h.1)]
theorem ba_ext {a b : ByteArray} (h : a.data.toList = b.data.toList) : a = b := ByteArray.ext (Array.toList_inj.1 h)
theorem ba_app (a b : ByteArray) : (a ++ b).data.toList = a.data.toList ++ b.data.toList := by rw [ByteArray.data_append, Array.toList_append]
theorem words (x4 : List ByteArray) (hl : x4.length ≤ 1000) (hz : ∀ x ∈ x4, x.size ≤ 1000) : ∀ (d j k : Nat) (out : ByteArray), j + d = x4.length → 0 < j → 2 * d + 95 ≤ k → out.size ≤ 1001 * j →
    spec_SpeakNumbers.l0 k x4 out (x4.length : Int) (j : Int) = some (⟨(out.data.toList ++ tailB (x4.drop j)).toArray⟩, true)
  | d, j, 0, out, h1, h2, h3, h4 => by omega
  | d, j, 1, out, h1, h2, h3, h4 => by omega
  | 0, j, k + 2, out, h1, h2, h3, h4 => by
    obtain rfl : j = x4.length := by omega
    rw [spec_SpeakNumbers.l0, if_neg (by omega), List.drop_length]
    show some (out, true) = some ((⟨(out.data.toList ++ []).toArray⟩ : ByteArray), true)
    rw [List.append_nil]
  | d + 1, j, k + 2, out, h1, h2, h3, h4 => by
    have hj : j < x4.length := by omega
    have hs := sp1_size x4[j] (hz _ (List.getElem_mem _))
    have hos : (out ++ (⟨#[32]⟩ : ByteArray)).size = out.size + 1 := by rw [ByteArray.size_append]; rfl
    have hos2 : ((out ++ (⟨#[32]⟩ : ByteArray)) ++ sp1 x4[j]).size = out.size + 1 + (sp1 x4[j]).size := by rw [ByteArray.size_append, hos]
    rw [spec_SpeakNumbers.l0, if_pos (by omega), if_pos (by omega), if_pos (by omega), word_step x4 _ j k _ hj hl hz (by omega) (by omega),
      words x4 hl hz d (j + 1) k _ (by omega) (by omega) (by omega) (by omega), ba_app, ba_app, List.drop_eq_getElem_cons hj]
    show some ((⟨(out.data.toList ++ [32] ++ (sp1 x4[j]).data.toList ++ tailB (x4.drop (j + 1))).toArray⟩ : ByteArray), true) = some (⟨(out.data.toList ++ (32 :: (sp1 x4[j]).data.toList ++ tailB (x4.drop (j + 1)))).toArray⟩, true)
    simp
theorem join_tail (t : List ByteArray) : ∀ (x : ByteArray), Lib.join (((x :: t).map sp1).map (·.data.toList)) [32] = (sp1 x).data.toList ++ tailB t := by
  intro x
  rw [List.map_cons, List.map_cons, Lib.join_cons]
  unfold Lib.joinTail tailB
  rw [List.map_map, List.map_map]; rfl
theorem spec_sn (a0 : ByteArray) (h : ¬ (a0.size : Int) > 256) (k : Nat) (hk : 1500 ≤ k) : spec_SpeakNumbers.f k a0 = some (⟨(Lib.join (((cutB 32 a0).map sp1).map (·.data.toList)) [32]).toArray⟩, true) := by
  obtain ⟨k, rfl⟩ : ∃ m, k = m + 2 := ⟨k - 2, by omega⟩
  have hl : (cutB 32 a0).length ≤ 257 := by
    unfold cutB
    rw [List.length_map, cut_len]
    have : a0.data.toList.count 32 ≤ a0.data.toList.length := List.count_le_length
    rw [size_list] at this; omega
  have hz : ∀ x ∈ cutB 32 a0, x.size ≤ 1000 := by
    intro x hx
    unfold cutB at hx
    obtain ⟨p, hp, rfl⟩ := List.mem_map.1 hx
    have := cut_piece hp
    rw [size_list] at this
    rw [size_ba]; omega
  unfold spec_SpeakNumbers.f
  rw [if_neg h, show (32 : Int) = (((32 : UInt8).toNat : Nat) : Int) from rfl, cut_spec a0 (by omega) 32 _ (by omega), Option.bind_some]
  have hne : cutB 32 a0 ≠ [] := by unfold cutB; intro e; exact cut_ne 32 a0.data.toList (List.map_eq_nil_iff.1 e)
  generalize cutB 32 a0 = t at hl hz hne ⊢
  cases t with
  | nil => exact absurd rfl hne
  | cons x t =>
    have hs := sp1_size x (hz x (by simp))
    have he : ((⟨#[]⟩ : ByteArray) ++ sp1 x).size = (sp1 x).size := by rw [ByteArray.size_append]; exact Nat.zero_add _
    rw [spec_SpeakNumbers.l0, if_pos (by simp only [List.length_cons]; omega), if_neg (by omega)]
    have hw := word_step (x :: t) ⟨#[]⟩ 0 k ((x :: t).length : Int) (by simp) (by omega) hz (Nat.zero_le _) (by omega)
    rw [show (((0 : Nat)) : Int) = 0 from rfl] at hw
    rw [hw, words (x :: t) (by omega) hz t.length 1 k _ (by simp only [List.length_cons]; omega) (by omega) (by simp only [List.length_cons] at hl; omega) (by rw [List.getElem_cons_zero, he]; omega), join_tail, List.getElem_cons_zero, ba_app]
    rfl
theorem impl_sn (a0 : ByteArray) (h : ¬ (a0.size : Int) > 256) (k : Nat) (hk : 1500 ≤ k) : impl_SpeakNumbers.f k a0 = some (⟨(Lib.join (((cutB 32 a0).map sp1).map (·.data.toList)) [32]).toArray⟩, true) := by
  unfold impl_SpeakNumbers.f
  rw [if_neg h, show ((⟨#[32]⟩ : ByteArray)) = ba [32] from rfl, split_some a0 (by omega) 32 k (by omega), Option.bind_some]
  refine if_pos ⟨?_, ?_, ?_⟩
  · refine List.length_pos_iff.2 fun e => cut_ne 32 a0.data.toList ?_
    unfold cutB at e; exact List.map_eq_nil_iff.1 e
  · unfold cutB
    rw [List.length_map, cut_len]
    have : a0.data.toList.count 32 ≤ a0.data.toList.length := List.count_le_length
    rw [size_list] at this; omega
  · intro x hx
    unfold cutB at hx
    obtain ⟨p, hp, rfl⟩ := List.mem_map.1 hx
    have := cut_piece hp
    rw [size_list] at this
    rw [size_ba]; omega
theorem pure : laws_FnExactSpeakNumbers.Pure := by
  intro a0 _
  refine ⟨1500, ?_⟩
  unfold laws_FnExactSpeakNumbers.f
  by_cases c : (a0.size : Int) > 1048576
  · rw [if_pos c]
  rw [if_neg c]
  by_cases h : (a0.size : Int) > 256
  · unfold spec_SpeakNumbers.f impl_SpeakNumbers.f
    rw [if_pos h, if_pos h]; simp
  · rw [spec_sn a0 h 1500 (by omega), impl_sn a0 h 1500 (by omega)]; simp
end Go.Proofs.YtiebjnppmcpffaaDoor.SpnPure
namespace Go.Proofs.YtiebjnppmcpffaaDoor
open Go.RowKit
theorem speakNumbers_w (a0 : ByteArray) (w : World) (hT : GLs w) (w0 : a0.size ≤ 140737488351232) :
    Calls Tryd.prog 6 #[.string a0] w fun e w' => e = .returned (.bool true) ∧ Below w.heap.size w w' :=
  PFnExactSpeakNumbers.laws_FnExactSpeakNumbers.walk SpnPure.pure a0 w w0 hT
end Go.Proofs.YtiebjnppmcpffaaDoor
