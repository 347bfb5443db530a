/- FnStoredOfAll: the law's walk. -/
import Derived.Test.YthnjgcdajjodjaaStdS
import Derived.Test.YthnjgcdajjodjaaBnt
import Derived.Lib.Hide
import Derived.Test.YthnjgcdajjodjaaOpen
import Derived.Test.YthnjgcdajjodjaaOf
import Derived.Lib.ConvBytes
set_option linter.unusedVariables false
set_option linter.unusedSimpArgs false
namespace Go.Proofs.Ythnjgcdajjodjaa.Soa
open Go.RowKit Go.Proofs.YthnjgcdajjodjaaW.PrintWords Go.Proofs.YthnjgcdajjodjaaW.PrintLast Go.Proofs.YthnjgcdajjodjaaW.PrintMore Go.Proofs.YthnjgcdajjodjaaW.PrintFl Go.Proofs.Ythnjgcdajjodjaa Go.Proofs.Ythnjgcdajjodjaa.PFnStoredOfAll Go.Proofs.Ythnjgcdajjodjaa.StdPure Go.Proofs.Ythnjgcdajjodjaa.Bnt
theorem bl {w w1 w2 : World} (h1 : Below w.heap.size w w1) (h2 : Below w1.heap.size w1 w2) : Below w.heap.size w w2 := h1.trans (h2.mono h1.size)
/-- where blocks end -/
def pos (l : List BI) (i : Nat) : Int := ((cat (l.take i)).size : Int)
def ends (l : List BI) (i : Nat) : List Int := (List.range (i + 1)).map (pos l)
theorem ends_len (l : List BI) (i : Nat) : (ends l i).length = i + 1 := by unfold ends; rw [List.length_map, List.length_range]
theorem ends_zero (l : List BI) : ends l 0 = [0] := rfl
theorem ends_snoc (l : List BI) (i : Nat) : ends l (i + 1) = ends l i ++ [pos l (i + 1)] := by
  unfold ends; rw [List.range_succ, List.map_append]; rfl
theorem ends_at (l : List BI) (i j : Nat) (h : j ≤ i) : rd (ends l i) (j : Int) = pos l j := by
  unfold rd ends
  rw [Int.toNat_natCast, List.getD_eq_getElem?_getD, List.getElem?_map, List.getElem?_range (by omega)]
  rfl
theorem pos_succ (l : List BI) (i : Nat) (h : i < l.length) : pos l (i + 1) = pos l i + ((stB l[i]).size : Int) := by
  unfold pos; rw [cat_snoc l i h, ByteArray.size_append]; omega
theorem R_one (W : World) (base : Nat) (hb : base ≤ W.heap.size) (x : Int) : Kd.R (Kd.int .i64) 3 (W.alloc (.cells #[.int .i64 x] 3)) base (fun _ => True) (.slice (some ⟨W.heap.size, 0, none⟩) 1 1) [x] := by
  have h2 := World.ownsRow_lit (base := base) (e := 3) (size := 1) W #[.int .i64 x] 1 hb (by decide) rfl
  exact Kd.R_of_own h2 (fun _ _ => trivial)
theorem pos_le (l : List BI) (i : Nat) (hi : i ≤ l.length) (hok : ∀ j, (h : j < l.length) → j < i → okB l[j]) : 0 ≤ pos l i ∧ pos l i ≤ 1292 * i := by
  have h1 := cat_size (l.take i) (fun x hx => by
    obtain ⟨j, hj, rfl⟩ := List.getElem_of_mem hx
    rw [List.length_take] at hj
    rw [List.getElem_take]
    exact hok j (by omega) (by omega))
  rw [List.length_take] at h1
  unfold pos
  omega
theorem R_C {α : Type} {d : Kd α} {e : Nat} {w : World} {base : Nat} {ok : Nat → Prop} {A : Option Addr} {n c : Nat} {xs : List α} (h : d.R e w base ok (.slice A n c) xs) : Kd.C d w A n xs ∧ n ≤ c ∧ n = xs.length := by
  obtain ⟨h1, h2, h3⟩ := Kd.R_reads' h
  subst h1
  exact ⟨h3, h2, rfl⟩
theorem S_C {α : Type} {d : Kd α} {e : Nat} {w : World} {base : Nat} {ok : Nat → Prop} {A : Option Addr} {n c : Nat} {xs : List α} (h : Kd.S d e w base ok (.slice A n c) xs) : Kd.C d w A n xs ∧ n ≤ c ∧ n = xs.length := by
  obtain ⟨h1, h2, h3⟩ := Kd.S_reads' h
  subst h1
  exact ⟨h3, h2, rfl⟩
theorem bits_byte (x y : Int) (h0 : 0 ≤ x) (h1 : x < 256) (h2 : 0 ≤ y) (h3 : y < 256) : 0 ≤ Go.bits .xor .u8 x y ∧ Go.bits .xor .u8 x y < 256 := by
  rw [u8_xor x y h0 h1 h2 h3]
  have : x.toNat ^^^ y.toNat < 2 ^ 8 := Nat.xor_lt_two_pow (by omega) (by omega)
  omega
set_option maxRecDepth 100000 in
theorem far (A0 : Option Addr) (c0 n : Nat) (cut bit : Int) (w : World) (hn : (n : Int) > 1000) : Calls Try.prog 3 #[.slice A0 n c0, .int .i64 cut, .int .u8 bit] w fun e w' => e = .returned (.bool true) ∧ Below w.heap.size w w' := by
  have c0 : decide (1000 < (n : Int)) = true := decide_eq_true hn
  clear hn
  go_enter Try.func3, Try.ntmps3
  go_wp2
  go_ret
  exact ⟨rfl, Below.refl _ _⟩
set_option maxHeartbeats 8000000 in
set_option maxRecDepth 100000 in
theorem near (A0 : Option Addr) (cp : Nat) (l : List BI) (cut bit : Int) (w : World) (hn : ¬ (l.length : Int) > 1000) (hr0 : Kd.C k28 w A0 l.length l) (hc0 : l.length ≤ cp) (hlt : ∀ x ∈ l, ∀ y ∈ x.f1, y < 4294967296) (hbit : 0 ≤ bit ∧ bit < 256) (K : Nat) (hK : 1073741825 ≤ K) (hK2 : 1073741850 ≤ K) :
    Calls Try.prog 3 #[.slice A0 l.length cp, .int .i64 cut, .int .u8 bit] w fun e w' => e = .returned (.bool true) ∧ Below w.heap.size w w' := by
  have c0 : decide (1000 < (l.length : Int)) = false := decide_eq_false hn
  have HN := Lib.hid hn
  have HR0 := Lib.hid hr0
  have HC0 := Lib.hid hc0
  have HLT := Lib.hid hlt
  have HK := Lib.hid hK
  have HBit := Lib.hid hbit
  have HK2 := Lib.hid hK2
  clear hn hr0 hc0 hlt hK hK2 hbit
  go_enter Try.func3, Try.ntmps3
  go_wp2
  go_loopw [7, 8] (fun v7 v8 wr => ∃ i : Nat, v8 = .int .i64 i ∧ i ≤ l.length ∧ Hid (Kd.R (Kd.int .i64) 3 wr w.heap.size (fun _ => True) v7 (ends l i)) ∧ Hid (Below w.heap.size w wr) ∧ Hid (∀ j, (h : j < l.length) → j < i → okB l[j])) (fun _ v8 _ => l.length - (intOf v8).toNat)
  case atStart => exact ⟨0, rfl, Nat.zero_le _, Lib.hid (R_one w w.heap.size (Nat.le_refl _) 0), Lib.hid (below_alloc (Below.refl _ _) _), Lib.hid (fun j h h2 => absurd h2 (Nat.not_lt_zero _))⟩
  case round =>
    obtain ⟨i, rfl, hi, HE, HB0, HOK⟩ := hrel
    by_cases hlt : i < l.length
    · have hms : l.length - (i + 1) < l.length - i := by omega
      have q1 : decide ((i : Int) < (l.length : Int)) = true := decide_eq_true (by omega)
      have p1 : (0 : Int) ≤ (i : Int) := Int.natCast_nonneg i
      have p2 : (i : Int) < (l.length : Int) := by omega
      obtain ⟨ad, A1, c1, rfl, x0, x1, hl1, hi1⟩ := at_T28 HR0.out (i : Int) p1 p2
      have hrd := rdB_in (l := l) (i := i) hlt
      have hbits := HLT.out l[i] (List.getElem_mem hlt)
      rw [hrd] at x0 x1 hl1 hi1
      rw [Int.toNat_natCast] at x0 x1
      have HX0 := Lib.hid x0
      have HX1 := Lib.hid x1
      have HL1 := Lib.hid hl1
      have HI1 := Lib.hid hi1
      replace x0 := (HB0.out.cell (World.block_lt_of_cell? w _ x0)).trans x0
      replace x1 := (HB0.out.cell (World.block_lt_of_cell? w _ x1)).trans x1
      replace p1 := eq_true p1
      replace p2 := eq_true p2
      clear hl1 hi1 hrd
      rcases valid_f l[i] hbits with hok | hno
      · have HO := Lib.hid hok
        have HS1 := Lib.hid (fun W hW => impl_StoreBlock.calls K l[i].f0 A1 c1 l[i].f1 (stB l[i]) true W (Kd.C_below HI1.out hW) HL1.out (StoreBlock_i l[i] hok K HK.out))
        have HS2 := Lib.hid (fun W hW => spec_StoreBlock.calls K l[i].f0 A1 c1 l[i].f1 (stB l[i]) true W (Kd.C_below HI1.out hW) HL1.out (StoreBlock_s l[i] hok K HK.out))
        have HS3 := Lib.hid (fun W => impl_LoadBlock.calls K (stB l[i]) l[i].f0 (canons l[i].f1) true W (LoadBlock_i l[i] hok K HK.out))
        have HS4 := Lib.hid (fun (A : Option Addr) (c : Nat) (W : World) (hC : Kd.C (Kd.float .f32) W A (canons l[i].f1).length (canons l[i].f1)) (hc : (canons l[i].f1).length ≤ c) => impl_StoreBlock.calls K l[i].f0 A c (canons l[i].f1) (stB l[i]) true W hC hc (by have := StoreBlock_i (cnB l[i]) (ok_cn hok) K HK.out; rw [stB_cn l[i] hok] at this; exact this))
        have HP := Lib.hid (pos_succ l i hlt)
        have HZ := Lib.hid (stB_size l[i] hok).2
        have HPl := Lib.hid (pos_le l i hi HOK.out)
        obtain ⟨g, cap, rfl, hg1, hg2, -⟩ := Kd.R_form HE.out (by rw [ends_len]; omega)
        have he := (Kd.R_cell (0 : Int) HE.out (i : Int) (Int.natCast_nonneg i) (by rw [ends_len]; omega)).1
        rw [Int.toNat_natCast] at he
        have hrd : rdOf (0 : Int) (ends l i) (i : Int) = pos l i := ends_at l i i (Nat.le_refl _)
        rw [hrd] at he
        rw [ends_len]
        have q2 : wrap64 (i : Int) = (i : Int) := by have := HN.out; unfold wrap64; omega
        have q3 : (i : Int) < ((i + 1 : Nat) : Int) := by omega
        have q3' : i < i + 1 := by omega
        replace q3 := eq_true q3
        have HEc := Lib.hid he
        clear hok hbits hrd he hg1 hg2
        have M1 : True := trivial
        generalize hb : stB l[i] = q at HS1 HS2 HS3 HS4 HP HZ
        generalize hcn : canons l[i].f1 = cs at HS3 HS4
        have q4 : wrap64 (pos l i + (q.size : Int)) = pos l (i + 1) := by have h1 := HP.out; have h2 := HPl.out; have h3 := HZ.out; have h4 := HN.out; rw [h1]; unfold wrap64; omega
        go_wp2_with (first
          | (go_at_call 5; clear M1; (with_reducible refine (HS1.out _ HB0.out).mono ?_); rintro e w1 ⟨rfl, hb⟩; have HB1 := Lib.hid (bl HB0.out hb); have HC1 := Lib.hid hb; clear hb
             replace x0 := (HB1.out.cell (World.block_lt_of_cell? w _ HX0.out)).trans HX0.out; replace x1 := (HB1.out.cell (World.block_lt_of_cell? w _ HX1.out)).trans HX1.out)
          | (go_at_call 6; (with_reducible refine (HS2.out _ HB1.out).mono ?_); rintro e w2 ⟨rfl, hb⟩; have HB2 := Lib.hid (bl HB1.out hb); have HC2 := Lib.hid (bl HC1.out hb); clear hb x0 x1)
          | (go_at_call 7; (with_reducible refine (HS3.out _).mono ?_); rintro e w3 ⟨v3, rfl, hr, hb⟩; obtain ⟨A3, c3, rfl⟩ := Kd.R_slice hr; have HB3 := Lib.hid (bl HB2.out hb); have HC3 := Lib.hid (bl HC2.out hb); have HR3 := Lib.hid (R_C hr); clear hb hr)
          | (go_at_call 5; (with_reducible refine (HS4.out A3 c3 _ (Kd.C_below HR3.out.1 (below_alloc (Below.refl _ _) _)) HR3.out.2.1).mono ?_); rintro e w4 ⟨rfl, hb⟩; have HB4 := Lib.hid (bl (below_alloc HB3.out _) hb); have HC4 := Lib.hid (bl (below_alloc HC3.out _) hb); clear hb
             have he4 := (HC4.out.cell (World.block_lt_of_cell? wr _ HEc.out)).trans HEc.out)
          | ((with_reducible refine gate_builtin (b := .append) (xs := #[.tmp 95, .tmp 105]) rfl ?_); at_builtin; refine Kd.R_append (Kd.int .i64) (w0 := w) w.heap.size rfl (.tmp 95) (.tmp 105) 23 3 (.int .i64 0) 8 rfl Try.underlying23 (by kernel_rfl) rfl (by decide) (by decide) (.slice (some ⟨g, 0, none⟩) (i + 1) cap) (ends l i) (pos l (i + 1)) [.int .i64 (pos l (i + 1))] (fun _ => True) (fun _ => False) rfl rfl ?aP (fun _ hk => hk.elim) ?aF ?aO ?aB ?aS ?aL ?_; (case aP => exact rfl); (case aB => exact HB4.out); (case aF => exact (fun _ _ => trivial)); (case aO => exact (by have h_ := Kd.R_below HE.out HC4.out; rw [ends_len] at h_; exact h_)); (case aS => exact below_size HB4.out); (case aL => have h_ := HN.out; rw [ends_len]; omega); intro v5 w5 ho hb hg hat; rw [← ends_snoc] at ho; have HB5 := Lib.hid hb; have HE5 := Lib.hid ho; clear ho hb hg hat))
        clear q2 q4 q3 p1 p2
        have e1 : wrap64 ((i : Int) + 1) = ((i + 1 : Nat) : Int) := by have := HN.out; unfold wrap64; omega
        refine ⟨⟨i + 1, ?g1, hlt, HE5, HB5, Lib.hid (fun j h h2 => ?g2)⟩, ?g3⟩
        case g1 => (clear HS1 HS2 HS3 HS4; go_num)
        case g2 =>
          rcases Nat.lt_or_ge j i with h3 | h3
          · exact HOK.out j h h3
          · obtain rfl : j = i := Nat.le_antisymm (Nat.le_of_lt_succ h2) h3
            exact HO.out
        case g3 =>
          rw [e1]
          show l.length - ((i + 1 : Nat) : Int).toNat < l.length - ((i : Nat) : Int).toNat
          rw [Int.toNat_natCast, Int.toNat_natCast]
          exact hms
      · have hno2 := StoreBlock_no l[i] hno K
        have HS1 := Lib.hid (fun W hW => impl_StoreBlock.calls K l[i].f0 A1 c1 l[i].f1 ⟨#[]⟩ false W (Kd.C_below HI1.out hW) HL1.out hno2.1)
        have HS2 := Lib.hid (fun W hW => spec_StoreBlock.calls K l[i].f0 A1 c1 l[i].f1 ⟨#[]⟩ false W (Kd.C_below HI1.out hW) HL1.out hno2.2)
        clear hno hno2 hbits
        go_wp2_with (first
          | (go_at_call 5; (with_reducible refine (HS1.out _ HB0.out).mono ?_); rintro e w1 ⟨rfl, hb⟩; have HB1 := Lib.hid (bl HB0.out hb); clear hb
             replace x0 := (HB1.out.cell (World.block_lt_of_cell? w _ HX0.out)).trans HX0.out; replace x1 := (HB1.out.cell (World.block_lt_of_cell? w _ HX1.out)).trans HX1.out)
          | (go_at_call 6; (with_reducible refine (HS2.out _ HB1.out).mono ?_); rintro e w2 ⟨rfl, hb⟩; have HB2 := Lib.hid (bl HB1.out hb); clear hb x0 x1))
        go_ret
        exact ⟨rfl, HB2.out⟩
    · have q1 : decide ((i : Int) < (l.length : Int)) = false := decide_eq_false (by omega)
      obtain rfl : i = l.length := Nat.le_antisymm hi (Nat.le_of_not_lt hlt)
      have hall : ∀ x ∈ l, okB x := fun x hx => by
        obtain ⟨j, hj, rfl⟩ := List.getElem_of_mem hx
        exact HOK.out j hj hj
      clear hi hlt HOK
      by_cases h8 : l.length ≤ 8
      · have hq := cat_size l hall
        have hcn := cat_cn l hall
        have hwl : (l.map cnB).length = l.length := List.length_map _
        have hok2 : ∀ x ∈ l.map cnB, okB x := fun x hx => by
          obtain ⟨y, hy, rfl⟩ := List.mem_map.1 hx
          exact ok_cn (hall y hy)
        have hst2 := StoreBlocks_i (l.map cnB) hok2 (by rw [hwl]; exact h8) K (Nat.le_trans (by decide) HK2.out)
        rw [hcn] at hst2
        have HS1 := Lib.hid (fun W hW => impl_StoreBlocks.calls K A0 cp l (cat l) true W (Kd.C_below HR0.out hW) HC0.out (StoreBlocks_i l hall h8 K (Nat.le_trans (by decide) HK2.out)))
        have HS2 := Lib.hid (fun W hW => spec_StoreBlocks.calls K A0 cp l (cat l) true W (Kd.C_below HR0.out hW) HC0.out (StoreBlocks_s l hall h8 K (Nat.le_trans (by decide) HK2.out)))
        have HS3 := Lib.hid (fun W => impl_RecoverBlocks.calls K (cat l) (l.map cnB) ((cat l).size : Int) true W (rec_whole l hall h8 K (Nat.le_trans (by decide) HK2.out)))
        have HS4 := Lib.hid (fun (A : Option Addr) (c : Nat) (W : World) (hC : Kd.C k28 W A (l.map cnB).length (l.map cnB)) (hc : (l.map cnB).length ≤ c) => impl_StoreBlocks.calls K A c (l.map cnB) (cat l) true W hC hc hst2)
        clear hst2 hok2 hcn
        obtain ⟨g, cap, rfl, hg1, hg2, -⟩ := Kd.R_form HE.out (by rw [ends_len]; omega)
        have he : ∀ j : Nat, j ≤ l.length → wr.cell? ⟨g, j, none⟩ = some (.int .i64 (pos l j)) := fun j hj => by
          have h := (Kd.R_cell (0 : Int) HE.out (j : Int) (Int.natCast_nonneg j) (by rw [ends_len]; omega)).1
          rw [Int.toNat_natCast, show rdOf (0 : Int) (ends l l.length) (j : Int) = pos l j from ends_at l l.length j hj] at h
          exact h
        have HEc := Lib.hid he
        have hpn : pos l l.length = ((cat l).size : Int) := by unfold pos; rw [List.take_of_length_le (Nat.le_refl _)]
        have HPn := Lib.hid hpn
        have HALL := Lib.hid hall
        have HH8 := Lib.hid h8
        have HQ := Lib.hid hq
        rw [ends_len]
        have p1 : (0 : Int) ≤ (l.length : Int) := Int.natCast_nonneg _
        replace p1 := eq_true p1
        have p2 : (l.length : Int) < ((l.length + 1 : Nat) : Int) := by clear HS1 HS2 HS3 HS4; omega
        replace p2 := eq_true p2
        have p3 : ((((l.map cnB).length : Nat) : Int) != (l.length : Int)) = false := by rw [hwl]; exact bne_self_eq_false _
        clear he hg1 hg2 hwl hpn hq hall h8
        have M1 : True := trivial
        generalize hws : l.map cnB = ws at HS3 HS4 p3
        have HWs := Lib.hid hws
        clear hws
        generalize hqq : cat l = q at HS1 HS2 HS3 HS4 HPn HQ
        have HQq := Lib.hid hqq
        clear hqq
        by_cases hc1 : cut < 0
        · have r1 : decide (cut < 0) = true := decide_eq_true hc1
          clear hc1
          go_wp2_with (first | (go_at_call 8; clear M1; (with_reducible refine (HS1.out _ HB0.out).mono ?_); rintro e w1 ⟨rfl, hb⟩; have HB1 := Lib.hid (bl HB0.out hb); have HC1 := Lib.hid hb; clear hb) | (go_at_call 9; (with_reducible refine (HS2.out _ HB1.out).mono ?_); rintro e w2 ⟨rfl, hb⟩; have HB2 := Lib.hid (bl HB1.out hb); have HC2 := Lib.hid (bl HC1.out hb); clear hb) | (go_at_call 10; (with_reducible refine (HS3.out _).mono ?_); rintro e w3 ⟨v3, rfl, hs, hb⟩; obtain ⟨A3, c3, rfl⟩ := Kd.S_slice hs; have HB3 := Lib.hid (bl HB2.out hb); have HC3 := Lib.hid (bl HC2.out hb); have HS5 := Lib.hid (S_C hs); clear hb hs) | (go_at_call 8; (with_reducible refine (HS4.out A3 c3 _ HS5.out.1 HS5.out.2.1).mono ?_); rintro e w4 ⟨rfl, hb⟩; have HB4 := Lib.hid (bl HB3.out hb); have HC4 := Lib.hid (bl HC3.out hb); clear hb; have he4 : w4.cell? ⟨g, l.length, none⟩ = some (.int .i64 (q.size : Int)) := (HC4.out.cell (World.block_lt_of_cell? wr _ (HEc.out l.length (Nat.le_refl _)))).trans ((HEc.out l.length (Nat.le_refl _)).trans (by rw [HPn.out]))))
          go_ret
          exact ⟨rfl, HB4.out⟩
        · have r1 : decide (cut < 0) = false := decide_eq_false hc1
          by_cases hc2 : (q.size : Int) ≤ cut
          · have r2 : decide ((q.size : Int) ≤ cut) = true := decide_eq_true hc2
            clear hc1 hc2
            go_wp2_with (first | (go_at_call 8; clear M1; (with_reducible refine (HS1.out _ HB0.out).mono ?_); rintro e w1 ⟨rfl, hb⟩; have HB1 := Lib.hid (bl HB0.out hb); have HC1 := Lib.hid hb; clear hb) | (go_at_call 9; (with_reducible refine (HS2.out _ HB1.out).mono ?_); rintro e w2 ⟨rfl, hb⟩; have HB2 := Lib.hid (bl HB1.out hb); have HC2 := Lib.hid (bl HC1.out hb); clear hb) | (go_at_call 10; (with_reducible refine (HS3.out _).mono ?_); rintro e w3 ⟨v3, rfl, hs, hb⟩; obtain ⟨A3, c3, rfl⟩ := Kd.S_slice hs; have HB3 := Lib.hid (bl HB2.out hb); have HC3 := Lib.hid (bl HC2.out hb); have HS5 := Lib.hid (S_C hs); clear hb hs) | (go_at_call 8; (with_reducible refine (HS4.out A3 c3 _ HS5.out.1 HS5.out.2.1).mono ?_); rintro e w4 ⟨rfl, hb⟩; have HB4 := Lib.hid (bl HB3.out hb); have HC4 := Lib.hid (bl HC3.out hb); clear hb; have he4 : w4.cell? ⟨g, l.length, none⟩ = some (.int .i64 (q.size : Int)) := (HC4.out.cell (World.block_lt_of_cell? wr _ (HEc.out l.length (Nat.le_refl _)))).trans ((HEc.out l.length (Nat.le_refl _)).trans (by rw [HPn.out]))))
            go_ret
            exact ⟨rfl, HB4.out⟩
          · have r2 : decide ((q.size : Int) ≤ cut) = false := decide_eq_false hc2
            obtain ⟨m, hm⟩ : ∃ m : Nat, cut = (m : Int) := ⟨cut.toNat, by omega⟩
            have hmq : m < q.size := by omega
            have HM := Lib.hid hmq
            have HC := Lib.hid hm
            have r3 : cut.toNat = m := by omega
            have r4 : (0 ≤ cut) = True := eq_true (by omega)
            have r5 : (cut ≤ (q.size : Int)) = True := eq_true (by omega)
            clear hc1 hc2 hm hmq
            go_wp2_with (first | (go_at_call 8; clear M1; (with_reducible refine (HS1.out _ HB0.out).mono ?_); rintro e w1 ⟨rfl, hb⟩; have HB1 := Lib.hid (bl HB0.out hb); have HC1 := Lib.hid hb; clear hb) | (go_at_call 9; (with_reducible refine (HS2.out _ HB1.out).mono ?_); rintro e w2 ⟨rfl, hb⟩; have HB2 := Lib.hid (bl HB1.out hb); have HC2 := Lib.hid (bl HC1.out hb); clear hb) | (go_at_call 10; (with_reducible refine (HS3.out _).mono ?_); rintro e w3 ⟨v3, rfl, hs, hb⟩; obtain ⟨A3, c3, rfl⟩ := Kd.S_slice hs; have HB3 := Lib.hid (bl HB2.out hb); have HC3 := Lib.hid (bl HC2.out hb); have HS5 := Lib.hid (S_C hs); clear hb hs) | (go_at_call 8; (with_reducible refine (HS4.out A3 c3 _ HS5.out.1 HS5.out.2.1).mono ?_); rintro e w4 ⟨rfl, hb⟩; have HB4 := Lib.hid (bl HB3.out hb); have HC4 := Lib.hid (bl HC3.out hb); clear hb; have he4 : w4.cell? ⟨g, l.length, none⟩ = some (.int .i64 (q.size : Int)) := (HC4.out.cell (World.block_lt_of_cell? wr _ (HEc.out l.length (Nat.le_refl _)))).trans ((HEc.out l.length (Nat.le_refl _)).trans (by rw [HPn.out]))))
            clear HS1 HS2 HS3 HS4 r1 r2 p3 he4
            go_loopw [26] (fun v26 W => ∃ j : Nat, v26 = .int .i64 j ∧ j ≤ l.length ∧ Hid (pos l j ≤ cut) ∧ W = w4) (fun v26 _ => l.length - (intOf v26).toNat)
            case atStart => exact ⟨0, rfl, Nat.zero_le _, Lib.hid (by have h1 := HC.out; have h2 : pos l 0 = 0 := rfl; omega), rfl⟩
            case round =>
              obtain ⟨j, rfl, hj, HJ, rfl⟩ := hrel
              have hjl : j < l.length := by
                have h1 := HJ.out
                have h2 := HPn.out
                have h3 := HC.out
                have h4 := HM.out
                rcases Nat.lt_or_ge j l.length with h | h
                · exact h
                · have : j = l.length := Nat.le_antisymm hj h
                  subst this
                  omega
              have hms : l.length - (j + 1) < l.length - j := by omega
              have u1 : decide ((j : Int) < (l.length : Int)) = true := decide_eq_true (by omega)
              have u2 : wrap64 ((j : Int) + 1) = ((j + 1 : Nat) : Int) := by have := HH8.out; unfold wrap64; omega
              have u3 : (((j + 1 : Nat) : Int) < ((l.length + 1 : Nat) : Int)) = True := eq_true (by clear u2; omega)
              have u4 : (0 ≤ ((j + 1 : Nat) : Int)) = True := eq_true (by clear u2; omega)
              have u5 : (j < l.length) = True := eq_true hjl
              have u6 : wr.cell? ⟨g, j + 1, none⟩ = some (.int .i64 (pos l (j + 1))) := (HC4.out.cell (World.block_lt_of_cell? _ _ (HEc.out (j + 1) hjl))).trans (HEc.out (j + 1) hjl)
              by_cases hp : pos l (j + 1) ≤ cut
              · have u7 : decide (pos l (j + 1) ≤ cut) = true := decide_eq_true hp
                clear hp
                have HJ2 := Lib.hid (of_decide_eq_true u7)
                go_wp2
                refine ⟨⟨j + 1, ?g1, hjl, HJ2, by first | rfl | trivial⟩, ?g3⟩
                case g1 => go_num
                case g3 =>
                  rw [u2]
                  show l.length - ((j + 1 : Nat) : Int).toNat < l.length - ((j : Nat) : Int).toNat
                  rw [Int.toNat_natCast, Int.toNat_natCast]
                  exact hms
              · have u7 : decide (pos l (j + 1) ≤ cut) = false := decide_eq_false hp
                have hcs : (cat (l.take j)).size ≤ m := by have h1 := HJ.out; have h2 := HC.out; unfold pos at h1; omega
                have hcs2 : m < (cat (l.take (j + 1))).size := by have h2 := HC.out; unfold pos at hp; omega
                have hmq := HM.out
                rw [← HQq.out] at hmq
                have hrec := rec_cut l HALL.out HH8.out m j hmq hjl hcs hcs2 K (Nat.le_trans (by decide) HK2.out)
                have hok1 : ∀ x ∈ l.take j, okB x := fun x hx => HALL.out x (List.mem_of_mem_take hx)
                have hcn := cat_cn (l.take j) hok1
                have hlen : ((l.take j).map cnB).length = j := by rw [List.length_map, List.length_take]; omega
                have hst := StoreBlocks_i ((l.take j).map cnB) (fun x hx => by
                  obtain ⟨y, hy, rfl⟩ := List.mem_map.1 hx
                  exact ok_cn (hok1 y hy)) (by rw [hlen]; exact Nat.le_trans hj HH8.out) K (Nat.le_trans (by decide) HK2.out)
                have hcat : cat (l.take j) = q.extract 0 (cat (l.take j)).size := by
                  rw [← HQq.out]
                  exact D_inj (by rw [D_to, D_cat_take l j, ← D_len]; exact List.take_left.symm)
                have hpj : pos l j = ((cat (l.take j)).size : Int) := rfl
                have HPre := Lib.hid (D_cat_take l j)
                rw [hcn] at hst
                rw [HQq.out] at hrec
                have hmD : m < (D q).length := by rw [D_len]; exact HM.out
                obtain ⟨y0, hy0⟩ : ∃ y0 : UInt8, (D q)[m]'hmD = y0 := ⟨_, rfl⟩
                have HY0 := Lib.hid hy0
                have hz := bits_byte (y0.toNat : Int) bit (Int.natCast_nonneg _) (by have := UInt8.toNat_lt y0; omega) HBit.out.1 HBit.out.2
                obtain ⟨b, hb⟩ := byte_of _ hz.1 hz.2
                have hbd : D (bent q m b) = D (cat (l.take j)) ++ (D (cat (l.drop j))).set (m - (cat (l.take j)).size) b := by
                  rw [D_bent, ← HQq.out, D_cat_take l j, List.set_append_right _ _ (by rw [D_len]; exact hcs), D_len]
                obtain ⟨r, o, g1, g2, g3, g4, g5, g6⟩ := rec_bent (bent q m b) (by rw [bent_size]; have h1 := HQ.out; have h2 := HH8.out; omega) (l.take j) hok1 (by rw [List.length_take]; have := HH8.out; omega) _ hbd
                rw [bent_size] at g4
                have hst8 := StoreBlocks_i r g3 g1 K (Nat.le_trans (by decide) HK2.out)
                rw [g5] at hst8
                have hjr : j ≤ r.length := by rw [List.length_take] at g2; omega
                have hcz : (cat (l.take j)).size ≤ q.size := Nat.le_trans hcs (Nat.le_of_lt HM.out)
                have T1 := Lib.hid (fun W => impl_RecoverBlocks.calls K (q.extract 0 m) ((l.take j).map cnB) ((cat (l.take j)).size : Int) true W hrec)
                have T2 := Lib.hid (fun (A : Option Addr) (c : Nat) (W : World) (hC : Kd.C k28 W A ((l.take j).map cnB).length ((l.take j).map cnB)) (hc : ((l.take j).map cnB).length ≤ c) => impl_StoreBlocks.calls K A c ((l.take j).map cnB) (cat (l.take j)) true W hC hc hst)
                have T3 := Lib.hid (fun W => impl_RecoverBlocks.calls K (bent q m b) r (o : Int) true W (g6 K HK2.out))
                have T4 := Lib.hid (fun (A : Option Addr) (c : Nat) (W : World) (hC : Kd.C k28 W A r.length r) (hc : r.length ≤ c) => impl_StoreBlocks.calls K A c r ((bent q m b).extract 0 o) true W hC hc hst8)
                have he0 := HEc.out j (Nat.le_of_lt hjl)
                rw [hpj] at he0
                rw [hcat] at T2
                have HCell := Lib.hid he0
                have HBv := Lib.hid hb
                have HO := Lib.hid g4
                have hjj : ((((l.take j).map cnB).length : Int) != (j : Int)) = false := by rw [hlen]; exact bne_self_eq_false _
                clear hrec hok1 hcn hlen hst hpj hcs2 hmq hz hbd g1 g2 g3 g4 g5 g6 hst8 he0 hp hcs hb hcat hy0
                generalize (l.take j).map cnB = ws2 at T1 T2 hjj
                generalize hpz : (cat (l.take j)).size = pz at T1 T2 HCell hcz
                have v1 : (0 ≤ (pz : Int)) = True := eq_true (Int.natCast_nonneg _)
                have v2 : ((pz : Int) ≤ (q.size : Int)) = True := eq_true (Int.ofNat_le.2 hcz)
                have v3 : (0 ≤ (j : Int)) = True := eq_true (Int.natCast_nonneg _)
                have v4 : ((j : Int) < ((l.length + 1 : Nat) : Int)) = True := eq_true (Int.ofNat_lt.2 (Nat.lt_succ_of_lt hjl))
                have v5 : (cut < (q.size : Int)) = True := by rw [HC.out]; exact eq_true (Int.ofNat_lt.2 HM.out)
                have v6 : decide ((j : Int) ≤ (r.length : Int)) = true := decide_eq_true (Int.ofNat_le.2 hjr)
                have v7 : decide (0 ≤ (o : Int)) = true := decide_eq_true (Int.natCast_nonneg _)
                have v8 : decide ((o : Int) ≤ (q.size : Int)) = true := decide_eq_true (Int.ofNat_le.2 HO.out)
                have v12 : (j ≤ r.length) = True := eq_true hjr
                have v13 : (o ≤ q.size) = True := eq_true HO.out
                have v9 : ((j : Int) < (l.length : Int) + 1) = True := eq_true (Int.lt_add_one_of_le (Int.ofNat_le.2 (Nat.le_of_lt hjl)))
                have v10 : (j < l.length + 1) = True := eq_true (Nat.lt_succ_of_lt hjl)
                have v11 := HBv.out
                clear hpz hjl hjr hcz hms hj
                have M1 : True := trivial
                have M2 : True := trivial
                have hcv : ∀ W, (convert 9 34 (.string q)).run Try.prog W = .ok (.slice (some ⟨W.heap.size, 0, none⟩) q.size (gc W q)) (bw W q) := fun W => run_cv W q
                go_wp2_with (first
                  | (go_at_call 10; clear M1; (with_reducible refine (T1.out _).mono ?_); rintro e w5 ⟨v5_, rfl, hs, hb⟩; obtain ⟨A5, c5, rfl⟩ := Kd.S_slice hs; have HB5 := Lib.hid (bl HB4.out hb); have HC5 := Lib.hid (bl HC4.out hb); have HS5' := Lib.hid (S_C hs); clear hb hs)
                  | (go_at_call 8; clear M2; (with_reducible refine (T2.out A5 c5 _ HS5'.out.1 HS5'.out.2.1).mono ?_); rintro e w6 ⟨rfl, hb⟩; have HB6 := Lib.hid (bl HB5.out hb); have HC6 := Lib.hid (bl HC5.out hb); clear hb
                     have he6 : w6.cell? ⟨g, j, none⟩ = some (.int .i64 (pz : Int)) := (HC6.out.cell (World.block_lt_of_cell? _ _ HCell.out)).trans HCell.out
                     have hx6 : (bw w6 q).cell? ⟨w6.heap.size, m, none⟩ = some (.int .u8 (y0.toNat : Int)) := (cell_bw w6 q m HM.out).trans (by rw [HY0.out])
                     have hf6 := frozen_bw w6 q m HM.out
                     have hs6 := str_bx_all w6 q m HM.out b _ (Below.refl _ _) (gc w6 q))
                  | (go_at_call 10; (with_reducible refine (T3.out _).mono ?_); rintro e w7 ⟨v7_, rfl, hs, hb⟩; obtain ⟨A7, c7, rfl⟩ := Kd.S_slice hs; have HX7 := Lib.hid hb; have HS7 := Lib.hid (S_C hs); clear hb hs)
                  | (go_at_call 8; (with_reducible refine (T4.out A7 c7 _ HS7.out.1 HS7.out.2.1).mono ?_); rintro e w8 ⟨rfl, hb⟩; have HX8 := Lib.hid (bl HX7.out hb); clear hb
                     have hcap : ((o : Int) ≤ ((gc w6 q : Nat) : Int)) = True := eq_true (Int.ofNat_le.2 (Nat.le_trans HO.out (grownCap_ge w6 q.size 0 5)))
                     have hcap2 : (o ≤ gc w6 q) = True := eq_true (Nat.le_trans HO.out (grownCap_ge w6 q.size 0 5))
                     have hs8 := str_bx w6 q m HM.out b w8 HX8.out o HO.out (gc w6 q)))
                go_ret
                exact ⟨rfl, bl HB6.out (bl (below_bx w6 q m _) HX8.out)⟩
      · have hno := StoreBlocks_no l h8 K
        have HS1 := Lib.hid (fun W hW => impl_StoreBlocks.calls K A0 cp l ⟨#[]⟩ false W (Kd.C_below HR0.out hW) HC0.out hno.1)
        have HS2 := Lib.hid (fun W hW => spec_StoreBlocks.calls K A0 cp l ⟨#[]⟩ false W (Kd.C_below HR0.out hW) HC0.out hno.2)
        clear hno h8 hall
        go_wp2_with (first
          | (go_at_call 8; (with_reducible refine (HS1.out _ HB0.out).mono ?_); rintro e w1 ⟨rfl, hb⟩; have HB1 := Lib.hid (bl HB0.out hb); clear hb)
          | (go_at_call 9; (with_reducible refine (HS2.out _ HB1.out).mono ?_); rintro e w2 ⟨rfl, hb⟩; have HB2 := Lib.hid (bl HB1.out hb); clear hb))
        go_ret
        exact ⟨rfl, HB2.out⟩
/-- the law, at all arguments -/
theorem soa_w (A0 : Option Addr) (c0 : Nat) (l : List BI) (cut bit : Int) (w : World) (hr0 : Kd.C k28 w A0 l.length l) (hc0 : l.length ≤ c0) (z0 : l.length ≤ 9223372036854775807 ∧ l.length * 32 ≤ 140737488351232 ∧ ∀ x ∈ l, ∀ y ∈ x.f1, y < 4294967296) (_ : (Lit.int .i64 cut).wf = true) (hb : (Lit.int .u8 bit).wf = true) :
    Calls Try.prog 3 #[.slice A0 l.length c0, .int .i64 cut, .int .u8 bit] w fun e w' => e = .returned (.bool true) ∧ Below w.heap.size w w' := by
  have hbit : 0 ≤ bit ∧ bit < 256 := by
    have h := hb
    rw [Lit.wf, Bool.and_eq_true] at h
    have h1 : (0 : Int) ≤ bit := of_decide_eq_true h.1
    have h2 : bit ≤ (255 : Int) := of_decide_eq_true h.2
    omega
  by_cases hn : (l.length : Int) > 1000
  · exact far A0 c0 l.length cut bit w hn
  · obtain ⟨K, hK⟩ : ∃ K : Nat, K = 1073741850 := ⟨_, rfl⟩
    exact near A0 c0 l cut bit w hn hr0 hc0 z0.2.2 hbit K (by rw [hK]; decide) (by rw [hK]; exact Nat.le_refl _)
theorem opens_blocks : Opens Try.prog 22 (Kd.slice 28 k28) (fun l => l.length ≤ 9223372036854775807 ∧ l.length * 32 ≤ 140737488351232 ∧ ∀ x ∈ l, ∀ y ∈ x.f1, y < 4294967296) :=
  opens_slice _ Try.underlying22 (by kernel_rfl) (by kernel_rfl)
    (opens_imp (opens_struct (P := Try.prog) (fun x : S28 => (x.f0, x.f1)) (fun x => ⟨x.1, x.2⟩) (fun _ => rfl) Try.underlying28 rfl (N := 2) (by kernel_rfl)
      (opensF_cons rfl (off' := 1) (by kernel_rfl) (opens_int Try.underlying2) (opensF_last rfl (by kernel_rfl) (opens_slice (B := 4) _ Try.underlying26 (by kernel_rfl) (by kernel_rfl) (opens_raw Try.underlying58)))))
      (fun x h => h.2.2.2))
end Go.Proofs.Ythnjgcdajjodjaa.Soa
