/- FnStored: the law's walk. -/
import Derived.Test.YthnjgcdajjodjaaSta
import Derived.Test.YthnjgcdajjodjaaBnt2
import Derived.Lib.Hide
import Derived.Test.YthnjgcdajjodjaaOpen
import Derived.Test.YthnjgcdajjodjaaOf
import Derived.Lib.ConvBytes
import Derived.Deep.RegionHeldLaw
import Derived.Deep.RegionLaw
set_option linter.unusedVariables false
set_option linter.unusedSimpArgs false
namespace Go.Proofs.Ythnjgcdajjodjaa.Sto
open Go.RowKit Go.Proofs.YthnjgcdajjodjaaW.PrintWords Go.Proofs.YthnjgcdajjodjaaW.PrintLast Go.Proofs.YthnjgcdajjodjaaW.PrintMore Go.Proofs.YthnjgcdajjodjaaW.PrintFl Go.Proofs.Ythnjgcdajjodjaa Go.Proofs.Ythnjgcdajjodjaa.PFnStored Go.Proofs.Ythnjgcdajjodjaa.StdPure2 Go.Proofs.Ythnjgcdajjodjaa.Bnt2
theorem bl {w w1 w2 : World} (h1 : Below w.heap.size w w1) (h2 : Below w1.heap.size w1 w2) : Below w.heap.size w w2 := h1.trans (h2.mono h1.size)
theorem dr {w w1 : World} (h : Drawn0 w w1) : Below w.heap.size w w1 := by obtain ⟨n, rfl⟩ := h; exact pw_below_drewN (Below.refl _ _) n
/-- where blocks end -/
def pos (l : List BI) (i : Nat) : Int := ((cat (l.take i)).size : Int)
def ends (l : List BI) (i : Nat) : List Int := (List.range (i + 1)).map (pos l)
theorem ends_len (l : List BI) (i : Nat) : (ends l i).length = i + 1 := by unfold ends; rw [List.length_map, List.length_range]
theorem ends_zero (l : List BI) : ends l 0 = [0] := rfl
theorem ends_snoc (l : List BI) (i : Nat) : ends l (i + 1) = ends l i ++ [pos l (i + 1)] := by
  unfold ends; rw [List.range_succ, List.map_append]; rfl
theorem ends_at (l : List BI) (i j : Nat) (h : j ≤ i) : rd (ends l i) (j : Int) = pos l j := by
  unfold rd ends
  rw [Int.toNat_natCast, List.getD_eq_getElem?_getD, List.getElem?_map, List.getElem?_range (by omega)]
  rfl
theorem pos_succ (l : List BI) (i : Nat) (h : i < l.length) : pos l (i + 1) = pos l i + ((stB l[i]).size : Int) := by
  unfold pos; rw [cat_snoc l i h, ByteArray.size_append]; omega
theorem R_one (W : World) (base : Nat) (hb : base ≤ W.heap.size) (x : Int) : Kd.R (Kd.int .i64) 3 (W.alloc (.cells #[.int .i64 x] 3)) base (fun _ => True) (.slice (some ⟨W.heap.size, 0, none⟩) 1 1) [x] := by
  have h2 := World.ownsRow_lit (base := base) (e := 3) (size := 1) W #[.int .i64 x] 1 hb (by decide) rfl
  exact Kd.R_of_own h2 (fun _ _ => trivial)
theorem pos_le (l : List BI) (i : Nat) (hi : i ≤ l.length) (hok : ∀ j, (h : j < l.length) → j < i → okB l[j]) : 0 ≤ pos l i ∧ pos l i ≤ 1292 * i := by
  have h1 := cat_size (l.take i) (fun x hx => by
    obtain ⟨j, hj, rfl⟩ := List.getElem_of_mem hx
    rw [List.length_take] at hj
    rw [List.getElem_take]
    exact hok j (by omega) (by omega))
  rw [List.length_take] at h1
  unfold pos
  omega
theorem R_C {α : Type} {d : Kd α} {e : Nat} {w : World} {base : Nat} {ok : Nat → Prop} {A : Option Addr} {n c : Nat} {xs : List α} (h : d.R e w base ok (.slice A n c) xs) : Kd.C d w A n xs ∧ n ≤ c ∧ n = xs.length := by
  obtain ⟨h1, h2, h3⟩ := Kd.R_reads' h
  subst h1
  exact ⟨h3, h2, rfl⟩
theorem genw {Pw : World → Prop} {G : Act → World → Prop} {a : Act} {w : World} (h : Pw w) (k : ∀ w, Pw w → G a w) : G a w := k w h
theorem S_C {α : Type} {d : Kd α} {e : Nat} {w : World} {base : Nat} {ok : Nat → Prop} {A : Option Addr} {n c : Nat} {xs : List α} (h : Kd.S d e w base ok (.slice A n c) xs) : Kd.C d w A n xs ∧ n ≤ c ∧ n = xs.length := by
  obtain ⟨h1, h2, h3⟩ := Kd.S_reads' h
  subst h1
  exact ⟨h3, h2, rfl⟩
theorem bits_byte (x y : Int) (h0 : 0 ≤ x) (h1 : x < 256) (h2 : 0 ≤ y) (h3 : y < 256) : 0 ≤ Go.bits .xor .u8 x y ∧ Go.bits .xor .u8 x y < 256 := by
  rw [u8_xor x y h0 h1 h2 h3]
  have : x.toNat ^^^ y.toNat < 2 ^ 8 := Nat.xor_lt_two_pow (by omega) (by omega)
  omega
set_option maxRecDepth 100000 in
theorem far (A0 A1 : Option Addr) (c0 c1 : Nat) (code more : List Int) (w : World) (hr0 : Kd.C (Kd.int .u8) w A0 code.length code) (hc0 : code.length ≤ c0) (hr1 : Kd.C (Kd.int .u8) w A1 more.length more) (hc1 : more.length ≤ c1) (h : laws_b10Long.f code more = some true) : Calls Try.prog 4 #[.slice A0 code.length c0, .slice A1 more.length c1] w fun e w' => e = .returned (.bool true) ∧ Below w.heap.size w w' := by
  have H := Lib.hid (laws_b10Long.calls A0 c0 code A1 c1 more true w hr0 hc0 hr1 hc1 h)
  clear hr0 hr1 h
  go_enter Try.func4, Try.ntmps4
  go_wp2_with (first | (go_at_call 11; (with_reducible refine H.out.mono ?_); rintro e w1 ⟨rfl, hb⟩; have HB := Lib.hid (dr hb); clear hb))
  go_ret
  exact ⟨rfl, HB.out⟩
set_option maxHeartbeats 8000000 in
set_option maxRecDepth 100000 in
theorem near (A0 A1 : Option Addr) (c0 c1 : Nat) (code more : List Int) (w : World) (hr0 : Kd.C (Kd.int .u8) w A0 code.length code) (hc0 : code.length ≤ c0) (hr1 : Kd.C (Kd.int .u8) w A1 more.length more) (hc1 : more.length ≤ c1) (h : laws_b10Long.f code more = some false) (hb0 : Byts code) (hb1 : Byts more) (hl0 : code.length ≤ 1048576)
    (K : Nat) (hK : 1073741825 ≤ K) (hK2 : 1073741850 ≤ K) (hK3 : 300 ≤ K) (hK4 : 1073741840 ≤ K) (hK5 : 40 ≤ K) : Calls Try.prog 4 #[.slice A0 code.length c0, .slice A1 more.length c1] w fun e w' => e = .returned (.bool true) ∧ Below w.heap.size w w' := by
  obtain ⟨l, h8, hall, hdr⟩ := blocks_some code hb0 hl0
  have L1 := Lib.hid (laws_b10Long.calls A0 c0 code A1 c1 more false w hr0 hc0 hr1 hc1 h)
  have L2 := Lib.hid (fun W hW => spec_B10Blocks.calls K A0 c0 code l W (Kd.C_below hr0 hW) hc0 (hdr K hK5))
  have L3 := Lib.hid (fun (i n : Int) (hi : 0 ≤ i) (hi2 : i ≤ 1000000) (hn : 1 < n) (hn2 : n ≤ 65536) W hW => fun (r : Int) (hr : laws_b10At.f more i n = some r) => laws_b10At.calls A1 c1 more i n r W (Kd.C_below hr1 hW) hc1 hr)
  have HB1 := Lib.hid hb1
  have HALL := Lib.hid hall
  have HH8 := Lib.hid h8
  have HK := Lib.hid hK
  have HK2 := Lib.hid hK2
  have HK3 := Lib.hid hK3
  have HK4 := Lib.hid hK4
  clear h8 hall hdr hr0 hr1 h hb0 hb1 hl0 hK hK2 hK3 hK4 hK5
  go_enter Try.func4, Try.ntmps4
  go_wp2_with (first
    | (go_at_call 11; (with_reducible refine L1.out.mono ?_); rintro e w1 ⟨rfl, hb⟩; have HW1 := Lib.hid (dr hb); clear hb)
    | (go_at_call 12; (with_reducible refine (L2.out _ HW1.out).mono ?_); rintro e w5 ⟨v5, rfl, hs, hb⟩; obtain ⟨A5, c5, rfl⟩ := Kd.S_slice hs; have HW5 := Lib.hid (bl HW1.out hb); have HS5 := Lib.hid (S_C hs); clear hb hs))
  go_loopw [6, 41] (fun v6 v41 wr => ∃ i : Nat, v41 = .int .i64 i ∧ i ≤ l.length ∧ Hid (Kd.R (Kd.int .i64) 3 wr w5.heap.size (fun _ => True) v6 (ends l i)) ∧ Hid (Below w5.heap.size w5 wr)) (fun _ v41 _ => l.length - (intOf v41).toNat)
  case atStart => exact ⟨0, rfl, Nat.zero_le _, Lib.hid (R_one w5 w5.heap.size (Nat.le_refl _) 0), Lib.hid (below_alloc (Below.refl _ _) _)⟩
  case round =>
    obtain ⟨i, rfl, hi, HE, HC0⟩ := hrel
    by_cases hlt : i < l.length
    · have hms : l.length - (i + 1) < l.length - i := by omega
      have q1 : decide ((i : Int) < (l.length : Int)) = true := decide_eq_true (by omega)
      have p1 : (0 : Int) ≤ (i : Int) := Int.natCast_nonneg i
      have p2 : (i : Int) < (l.length : Int) := by omega
      obtain ⟨ad, A1', c1', hA5, x0, x1, hl1, hi1⟩ := at_T28 HS5.out.1 (i : Int) p1 p2
      subst hA5
      have hrd := rdB_in (l := l) (i := i) hlt
      rw [hrd] at x0 x1 hl1 hi1
      rw [Int.toNat_natCast] at x0 x1
      have hok := HALL.out _ (List.getElem_mem hlt)
      have HX0 := Lib.hid x0
      have HX1 := Lib.hid x1
      have HL1 := Lib.hid hl1
      have HI1 := Lib.hid hi1
      replace x0 := (HC0.out.cell (World.block_lt_of_cell? w5 _ x0)).trans x0
      replace x1 := (HC0.out.cell (World.block_lt_of_cell? w5 _ x1)).trans x1
      replace p1 := eq_true p1
      replace p2 := eq_true p2
      clear hl1 hi1 hrd
      have HS1 := Lib.hid (fun W hW => impl_StoreBlock.calls K l[i].f0 A1' c1' l[i].f1 (stB l[i]) true W (Kd.C_below HI1.out hW) HL1.out (StoreBlock_i l[i] hok K HK.out))
      have HS3 := Lib.hid (fun W => impl_LoadBlock.calls K (stB l[i]) l[i].f0 (canons l[i].f1) true W (LoadBlock_i l[i] hok K HK.out))
      have HS4 := Lib.hid (fun W hW => impl_PackValues.calls K A1' c1' l[i].f1 (strOfNums (packFrom 0 (canons l[i].f1))) true W (Kd.C_below HI1.out hW) HL1.out (Pack_i l[i] hok K HK.out).1)
      have HS5b := Lib.hid (fun W => impl_UnpackValues.calls K (strOfNums (packFrom 0 (canons l[i].f1))) (canons l[i].f1) true W (Pack_i l[i] hok K HK.out).2)
      have HS6 := Lib.hid (fun W hW => impl_ValidBlock.calls l[i].f0 A1' c1' l[i].f1 true W (Kd.C_below HI1.out hW) HL1.out (valid_i l[i] hok))
      have HS7 := Lib.hid (fun (A : Option Addr) (c : Nat) (W : World) hW (hC : Kd.C (Kd.float .f32) W A (canons l[i].f1).length (canons l[i].f1)) (hc : (canons l[i].f1).length ≤ c) => impl_SameBlock.calls K l[i].f0 A c (canons l[i].f1) l[i].f0 A1' c1' l[i].f1 true W hC hc (Kd.C_below HI1.out hW) HL1.out (SameBlock_cn l[i] hok K HK3.out).1)
      have HS8 := Lib.hid (fun (A : Option Addr) (c : Nat) (W : World) hW (hC : Kd.C (Kd.float .f32) W A (canons l[i].f1).length (canons l[i].f1)) (hc : (canons l[i].f1).length ≤ c) => laws_b10List.calls K A c (canons l[i].f1) A1' c1' l[i].f1 true W hC hc (Kd.C_below HI1.out hW) HL1.out (SameBlock_cn l[i] hok K HK3.out).2)
      have HP := Lib.hid (pos_succ l i hlt)
      have HZ := Lib.hid (stB_size l[i] hok).2
      have HPl := Lib.hid (pos_le l i hi (fun j h _ => HALL.out _ (List.getElem_mem h)))
      obtain ⟨g, cap, rfl, hg1, hg2, -⟩ := Kd.R_form HE.out (by rw [ends_len]; omega)
      have he := (Kd.R_cell (0 : Int) HE.out (i : Int) (Int.natCast_nonneg i) (by rw [ends_len]; omega)).1
      rw [Int.toNat_natCast] at he
      have hrd : rdOf (0 : Int) (ends l i) (i : Int) = pos l i := ends_at l i i (Nat.le_refl _)
      rw [hrd] at he
      rw [ends_len]
      have q2 : wrap64 (i : Int) = (i : Int) := by have := HH8.out; unfold wrap64; omega
      have q3 : (i : Int) < ((i + 1 : Nat) : Int) := by clear q2; omega
      have q3' : i < i + 1 := Nat.lt_succ_self i
      replace q3 := eq_true q3
      have HEc := Lib.hid he
      clear hok hrd he hg1 hg2
      generalize hb : stB l[i] = q at HS1 HS3 HP HZ
      generalize hcn : canons l[i].f1 = cs at HS3 HS7 HS8 HS4 HS5b
      generalize hpk : strOfNums (packFrom 0 cs) = pk at HS4 HS5b
      generalize hbx : l[i] = bk at x0 x1 HX0 HX1 HL1 HI1 HS1 HS3 HS4 HS6 HS7 HS8
      have q4 : wrap64 (pos l i + (q.size : Int)) = pos l (i + 1) := by have h1 := HP.out; have h2 := HPl.out; have h3 := HZ.out; have h4 := HH8.out; clear q2; rw [h1]; unfold wrap64; omega
      clear hb hcn hpk hbx
      go_wp2_with (first
        | (go_at_call 5; (with_reducible refine (HS1.out _ HC0.out).mono ?_); rintro e w11 ⟨rfl, hb⟩; have HC1 := Lib.hid (bl HC0.out hb); have HD1 := Lib.hid hb; clear hb
           clear x0; replace x1 := (HC1.out.cell (World.block_lt_of_cell? w5 _ HX1.out)).trans HX1.out)
        | (go_at_call 7; (with_reducible refine (HS3.out _).mono ?_); rintro e w3 ⟨v3, rfl, hr, hb⟩; obtain ⟨A3, c3, rfl⟩ := Kd.R_slice hr; have HC3 := Lib.hid (bl HC1.out hb); have HD3 := Lib.hid (bl HD1.out hb); have HR3 := Lib.hid (R_C hr); clear hb hr
           clear x1
           have x1 := ((below_alloc HC3.out (.cells #[.int .i64 bk.f0, .slice A3 cs.length c3] 28)).cell (World.block_lt_of_cell? w5 _ HX1.out)).trans HX1.out)
        | (go_at_call 13; (with_reducible refine (HS4.out _ (below_alloc HC3.out _)).mono ?_); rintro e w4 ⟨rfl, hb⟩; have HC4 := Lib.hid (bl (below_alloc HC3.out _) hb); have HD4 := Lib.hid (bl (below_alloc HD3.out _) hb)
           have HBx4 := Lib.hid (show w4.heap[w3.heap.size]? = some (.cells #[.int .i64 bk.f0, .slice A3 cs.length c3] 28 (0, 0)) from blk_below (heap_alloc_new w3 _) hb)
           have HR4 := Lib.hid (Kd.C_below (Kd.C_below HR3.out.1 (below_alloc (Below.refl _ _) _)) hb)
           clear hb x1)
        | (go_at_call 14; (with_reducible refine (HS5b.out _).mono ?_); rintro e w6 ⟨v6_, rfl, hr, hb⟩; obtain ⟨A6, c6, rfl⟩ := Kd.R_slice hr; have HC6 := Lib.hid (bl HC4.out hb); have HD6 := Lib.hid (bl HD4.out hb); have HR6 := Lib.hid (R_C hr)
           have HBx6 := Lib.hid (blk_below HBx4.out hb)
           have HRb6 := Lib.hid (Kd.C_below HR4.out hb)
           clear hb hr))
      have y0 := (HC6.out.cell (World.block_lt_of_cell? w5 _ HX0.out)).trans HX0.out
      have y1 := (HC6.out.cell (World.block_lt_of_cell? w5 _ HX1.out)).trans HX1.out
      have z0 : w6.cell? ⟨w3.heap.size, 0, none⟩ = some (.int .i64 bk.f0) := (blk_cell HBx6.out 0).trans rfl
      have z1 : w6.cell? ⟨w3.heap.size, 1, none⟩ = some (.slice A3 cs.length c3) := (blk_cell HBx6.out 1).trans rfl
      have M1 : True := trivial
      go_region_held_law (fun w' => w'.cell? (ad.add (i * 2)) = some (.int .i64 bk.f0) ∧ w'.cell? ⟨(ad.add (i * 2)).block, (ad.add (i * 2)).off + 1, none⟩ = some (.slice A1' bk.f1.length c1') ∧ w'.cell? ⟨w3.heap.size, 0, none⟩ = some (.int .i64 bk.f0) ∧ w'.cell? ⟨w3.heap.size, 1, none⟩ = some (.slice A3 cs.length c3)) (first | (with_reducible exact ⟨t0, t1, t2, t3⟩) | go_keep) (first
        | (go_at_call 15; (with_reducible refine (HS6.out _ (by repeat (first | exact HC6.out | apply pw_below_drewN | apply below_drew1))).mono ?_); rintro e w7 ⟨rfl, hb⟩
           have HC7 := Lib.hid (bl (w2 := w7) (by repeat (first | exact HC6.out | apply pw_below_drewN | apply below_drew1)) hb)
           have HK7 := Lib.hid (show Below w6.heap.size w6 w7 from bl (w1 := w6.drew) (below_drew1 (Below.refl _ _)) hb)
           have t0 := (HK7.out.cell (World.block_lt_of_cell? w6 _ y0)).trans y0
           have t1 := (HK7.out.cell (World.block_lt_of_cell? w6 _ y1)).trans y1
           have t2 := (HK7.out.cell (World.block_lt_of_cell? w6 _ z0)).trans z0
           have t3 := (HK7.out.cell (World.block_lt_of_cell? w6 _ z1)).trans z1
           clear hb)
        | (go_at_call 16; (with_reducible refine (HS7.out A3 c3 _ HC7.out (Kd.C_below HRb6.out HK7.out) HR3.out.2.1).mono ?_); rintro e w8 ⟨rfl, hb⟩
           have HC8 := Lib.hid (bl HC7.out hb)
           have HK8 := Lib.hid (bl HK7.out hb)
           clear t0 t1 t2 t3
           have t0 := (HK8.out.cell (World.block_lt_of_cell? w6 _ y0)).trans y0
           have t1 := (HK8.out.cell (World.block_lt_of_cell? w6 _ y1)).trans y1
           have t2 := (HK8.out.cell (World.block_lt_of_cell? w6 _ z0)).trans z0
           have t3 := (HK8.out.cell (World.block_lt_of_cell? w6 _ z1)).trans z1
           clear hb)
        | (go_at_call 17; (with_reducible refine (HS8.out A6 c6 _ HC8.out (Kd.C_below HR6.out.1 HK8.out) HR6.out.2.1).mono ?_); rintro e w9 ⟨rfl, hb_⟩; have hb := dr hb_
           have HC9 := Lib.hid (bl HC8.out hb)
           have HK9 := Lib.hid (bl HK8.out hb)
           clear t0 t1 t2 t3
           have t0 := (HK9.out.cell (World.block_lt_of_cell? w6 _ y0)).trans y0
           have t1 := (HK9.out.cell (World.block_lt_of_cell? w6 _ y1)).trans y1
           have t2 := (HK9.out.cell (World.block_lt_of_cell? w6 _ z0)).trans z0
           have t3 := (HK9.out.cell (World.block_lt_of_cell? w6 _ z1)).trans z1
           clear hb hb_))
      have HD9 := Lib.hid (bl HD6.out HK9.out)
      have he9 := (HD9.out.cell (World.block_lt_of_cell? wr _ HEc.out)).trans HEc.out
      clear t0 t1 t2 t3 y0 y1 z0 z1
      go_wp2_with (first
        | ((with_reducible refine gate_builtin (b := .append) (xs := #[.tmp 112, .tmp 122]) rfl ?_); at_builtin; refine Kd.R_append (Kd.int .i64) (w0 := w5) w5.heap.size rfl (.tmp 112) (.tmp 122) 23 3 (.int .i64 0) 8 rfl Try.underlying23 (by kernel_rfl) rfl (by decide) (by decide) (.slice (some ⟨g, 0, none⟩) (i + 1) cap) (ends l i) (pos l (i + 1)) [.int .i64 (pos l (i + 1))] (fun _ => True) (fun _ => False) rfl rfl ?aP (fun _ hk => hk.elim) ?aF ?aO ?aB ?aS ?aL ?_; (case aP => exact rfl); (case aB => exact HC9.out); (case aF => exact (fun _ _ => trivial)); (case aO => exact (by have h_ := Kd.R_below HE.out HD9.out; rw [ends_len] at h_; exact h_)); (case aS => exact below_size HC9.out); (case aL => have h_ := HH8.out; rw [ends_len]; omega); intro v15 w15 ho hb hg hat; rw [← ends_snoc] at ho; have HC15 := Lib.hid hb; have HE15 := Lib.hid ho
           clear ho hb hg hat))
      clear q2 q4 q3 p1 p2
      have e1 : wrap64 ((i : Int) + 1) = ((i + 1 : Nat) : Int) := by have := HH8.out; unfold wrap64; omega
      refine ⟨⟨i + 1, ?g1, hlt, HE15, HC15⟩, ?g3⟩
      case g1 => go_num
      case g3 =>
        rw [e1]
        show l.length - ((i + 1 : Nat) : Int).toNat < l.length - ((i : Nat) : Int).toNat
        rw [Int.toNat_natCast, Int.toNat_natCast]
        exact hms
    · have q1 : decide ((i : Int) < (l.length : Int)) = false := decide_eq_false (by omega)
      obtain rfl : i = l.length := Nat.le_antisymm hi (Nat.le_of_not_lt hlt)
      clear hi hlt
      have hall := HALL.out
      have h8 := HH8.out
      have hq := cat_size l hall
      have hcn := cat_cn l hall
      have hwl : (l.map cnB).length = l.length := List.length_map _
      have HS1 := Lib.hid (fun W hW => impl_StoreBlocks.calls K A5 c5 l (cat l) true W (Kd.C_below HS5.out.1 hW) HS5.out.2.1 (StoreBlocks_i l hall h8 K HK4.out))
      have HS3 := Lib.hid (fun W => impl_RecoverBlocks.calls K (cat l) (l.map cnB) ((cat l).size : Int) true W (rec_whole l hall h8 K HK4.out))
      obtain ⟨g, cap, rfl, hg1, hg2, -⟩ := Kd.R_form HE.out (by rw [ends_len]; omega)
      have he : ∀ j : Nat, j ≤ l.length → wr.cell? ⟨g, j, none⟩ = some (.int .i64 (pos l j)) := fun j hj => by
        have h := (Kd.R_cell (0 : Int) HE.out (j : Int) (Int.natCast_nonneg j) (by rw [ends_len]; omega)).1
        rw [Int.toNat_natCast, show rdOf (0 : Int) (ends l l.length) (j : Int) = pos l j from ends_at l l.length j hj] at h
        exact h
      have HEc := Lib.hid he
      have hpn : pos l l.length = ((cat l).size : Int) := by unfold pos; rw [List.take_of_length_le (Nat.le_refl _)]
      have HPn := Lib.hid hpn
      have HQ := Lib.hid hq
      rw [ends_len]
      have p1 : (0 : Int) ≤ (l.length : Int) := Int.natCast_nonneg _
      replace p1 := eq_true p1
      have p2 : (l.length : Int) < ((l.length + 1 : Nat) : Int) := by clear HS1 HS3; omega
      replace p2 := eq_true p2
      have p3 : ((((l.map cnB).length : Nat) : Int) != (l.length : Int)) = false := by rw [hwl]; exact bne_self_eq_false _
      have hlen2 : ((l.map cnB).length : Int) = (l.length : Int) := by rw [hwl]
      clear he hg1 hg2 hpn hq hall h8 hcn
      generalize hqq : cat l = q at HS1 HS3 HPn HQ
      have HQq := Lib.hid hqq
      clear hqq
      go_wp2_with (first
        | (go_at_call 8; (with_reducible refine (HS1.out _ HC0.out).mono ?_); rintro e w11 ⟨rfl, hb⟩; have HC1 := Lib.hid (bl HC0.out hb); have HD1 := Lib.hid hb; clear hb)
        | (go_at_call 10; (with_reducible refine (HS3.out _).mono ?_); rintro e w3 ⟨v3, rfl, hs, hb⟩; obtain ⟨A3, c3, rfl⟩ := Kd.S_slice hs; have HC3 := Lib.hid (bl HC1.out hb); have HD3 := Lib.hid (bl HD1.out hb); have HB3 := Lib.hid (S_C hs); clear hb hs
           have he4 : w3.cell? ⟨g, l.length, none⟩ = some (.int .i64 (q.size : Int)) := (HD3.out.cell (World.block_lt_of_cell? wr _ (HEc.out l.length (Nat.le_refl _)))).trans ((HEc.out l.length (Nat.le_refl _)).trans (by rw [HPn.out]))))
      clear HS1 HS3 p3 he4
      go_loopw [167] (fun v167 wq => ∃ i : Nat, v167 = .int .i64 i ∧ i ≤ l.length ∧ Hid (Below w3.heap.size w3 wq)) (fun v167 _ => l.length - (intOf v167).toNat)
      case atStart => exact ⟨0, rfl, Nat.zero_le _, Lib.hid (Below.refl _ _)⟩
      case round =>
        obtain ⟨i, rfl, hi, HF⟩ := hrel
        by_cases hlt2 : i < l.length
        · have hms : l.length - (i + 1) < l.length - i := by omega
          have hlw : i < (l.map cnB).length := by rw [hwl]; exact hlt2
          have r1 : decide ((i : Int) < (l.length : Int)) = true := decide_eq_true (Int.ofNat_lt.2 hlt2)
          have r1' : decide ((i : Int) < ((l.map cnB).length : Int)) = true := decide_eq_true (Int.ofNat_lt.2 hlw)
          have p4 : (0 : Int) ≤ (i : Int) := Int.natCast_nonneg i
          have p5 : (i : Int) < (l.length : Int) := Int.ofNat_lt.2 hlt2
          have p6 : (i : Int) < ((l.map cnB).length : Int) := Int.ofNat_lt.2 hlw
          obtain ⟨ad, A1', c1', hA5, x0, x1, hl1, hi1⟩ := at_T28 HS5.out.1 (i : Int) p4 p5
          obtain ⟨ad3, B1, b1, hA3, y0, y1, hl3, hi3⟩ := at_T28 HB3.out.1 (i : Int) p4 p6
          subst hA5 hA3
          rw [rdB_in (l := l) (i := i) hlt2] at x0 x1 hl1 hi1
          rw [rdB_in (l := l.map cnB) (i := i) hlw, List.getElem_map] at y0 y1 hl3 hi3
          rw [Int.toNat_natCast] at x0 x1 y0 y1
          have hok := HALL.out _ (List.getElem_mem hlt2)
          have HS7 := Lib.hid (fun W (hW : Below w3.heap.size w3 W) => impl_SameBlock.calls K l[i].f0 B1 b1 (canons l[i].f1) l[i].f0 A1' c1' l[i].f1 true W (Kd.C_below hi3 hW) hl3 (Kd.C_below hi1 (bl HC3.out hW)) hl1 (SameBlock_cn l[i] hok K HK3.out).1)
          have hx0 := (bl HC3.out HF.out).cell (World.block_lt_of_cell? w5 _ x0)
          have HX0 := Lib.hid ((HC3.out.cell (World.block_lt_of_cell? w5 _ x0)).trans x0)
          have HX1 := Lib.hid ((HC3.out.cell (World.block_lt_of_cell? w5 _ x1)).trans x1)
          have HY0 := Lib.hid (show w3.cell? (ad3.add (i * 2)) = some (.int .i64 l[i].f0) from y0)
          have HY1 := Lib.hid (show w3.cell? ⟨(ad3.add (i * 2)).block, (ad3.add (i * 2)).off + 1, none⟩ = some (.slice B1 (canons l[i].f1).length b1) from y1)
          clear hx0 x0 x1 y0 y1 hl1 hi1 hl3 hi3 hok
          generalize l[i] = bk at HS7 HX0 HX1 HY0 HY1
          clear hlw
          have x0 := (HF.out.cell (World.block_lt_of_cell? w3 _ HX0.out)).trans HX0.out
          have x1 := (HF.out.cell (World.block_lt_of_cell? w3 _ HX1.out)).trans HX1.out
          have y0 := (HF.out.cell (World.block_lt_of_cell? w3 _ HY0.out)).trans HY0.out
          have y1 := (HF.out.cell (World.block_lt_of_cell? w3 _ HY1.out)).trans HY1.out
          replace p4 := eq_true p4
          replace p5 := eq_true p5
          replace p6 := eq_true p6
          go_wp2
          go_region_held_law (fun w' => w'.cell? (ad.add (i * 2)) = some (.int .i64 bk.f0) ∧ w'.cell? ⟨(ad.add (i * 2)).block, (ad.add (i * 2)).off + 1, none⟩ = some (.slice A1' bk.f1.length c1') ∧ w'.cell? (ad3.add (i * 2)) = some (.int .i64 bk.f0) ∧ w'.cell? ⟨(ad3.add (i * 2)).block, (ad3.add (i * 2)).off + 1, none⟩ = some (.slice B1 (canons bk.f1).length b1)) (first | (with_reducible exact ⟨t0, t1, t2, t3⟩) | go_keep) (first
            | (go_at_call 16; (with_reducible refine (HS7.out _ (by repeat (first | exact HF.out | apply pw_below_drewN | apply below_drew1))).mono ?_); rintro e w7 ⟨rfl, hb⟩
               have HF7 := Lib.hid (bl (w2 := w7) (by repeat (first | exact HF.out | apply pw_below_drewN | apply below_drew1)) hb)
               have t0 := (HF7.out.cell (World.block_lt_of_cell? w3 _ HX0.out)).trans HX0.out
               have t1 := (HF7.out.cell (World.block_lt_of_cell? w3 _ HX1.out)).trans HX1.out
               have t2 := (HF7.out.cell (World.block_lt_of_cell? w3 _ HY0.out)).trans HY0.out
               have t3 := (HF7.out.cell (World.block_lt_of_cell? w3 _ HY1.out)).trans HY1.out
               clear hb))
          clear t0 t1 t2 t3 x0 x1 y0 y1
          go_wp2
          have e1 : wrap64 ((i : Int) + 1) = ((i + 1 : Nat) : Int) := by have := HH8.out; clear p4 p5 p6; unfold wrap64; omega
          refine ⟨⟨i + 1, ?g1, hlt2, HF7⟩, ?g3⟩
          case g1 => go_num
          case g3 =>
            rw [e1]
            show l.length - ((i + 1 : Nat) : Int).toNat < l.length - ((i : Nat) : Int).toNat
            rw [Int.toNat_natCast, Int.toNat_natCast]
            exact hms
        · have r1 : decide ((i : Int) < (l.length : Int)) = false := decide_eq_false (by omega)
          obtain rfl : i = l.length := Nat.le_antisymm hi (Nat.le_of_not_lt hlt2)
          clear hi hlt2
          by_cases hz : q.size = 0
          · have r2 : ((q.size : Int) == 0) = true := beq_iff_eq.mpr (by omega)
            clear hz
            go_wp2
            go_ret
            exact ⟨rfl, bl HW5.out (bl HC3.out HF.out)⟩
          · have r2 : ((q.size : Int) == 0) = false := beq_eq_false_iff_ne.mpr (by omega)
            obtain ⟨ra, ha, ha0, ha1⟩ := at_some more HB1.out 0 256 (by decide) (by decide) (by decide) (by decide)
            obtain ⟨rb, hb, hb0, hb1⟩ := at_some more HB1.out 1 256 (by decide) (by decide) (by decide) (by decide)
            obtain ⟨rc, hc, hc0', hc1'⟩ := at_some more HB1.out 2 255 (by decide) (by decide) (by decide) (by decide)
            obtain ⟨cut, hcut⟩ : ∃ cut : Int, Int.tmod (256 * ra + rb) (q.size : Int) = cut := ⟨_, rfl⟩
            have hcr : 0 ≤ cut ∧ cut < (q.size : Int) := by
              rw [← hcut, Int.tmod_eq_emod_of_nonneg (by omega)]
              exact ⟨Int.emod_nonneg _ (by omega), Int.emod_lt_of_pos _ (by omega)⟩
            obtain ⟨m, hm⟩ : ∃ m : Nat, cut = (m : Int) := ⟨cut.toNat, by omega⟩
            have hmq : m < q.size := by clear hcut; omega
            have HM := Lib.hid hmq
            have HCm := Lib.hid hm
            have r3 : cut.toNat = m := by clear hcut; omega
            have r4 : (0 ≤ cut) = True := eq_true hcr.1
            have r5 : (cut ≤ (q.size : Int)) = True := eq_true (Int.le_of_lt hcr.2)
            have r6 : (cut < (q.size : Int)) = True := eq_true hcr.2
            have r7 : wrap64 (256 * ra) = 256 * ra := by clear hcut; unfold wrap64; omega
            have r8 : wrap64 (256 * ra + rb) = 256 * ra + rb := by clear hcut r7; unfold wrap64; omega
            have r9 : ((q.size : Int) = 0) = False := eq_false (by omega)
            have r10 : (q.size = 0) = False := eq_false hz
            have HRc := Lib.hid (show 0 ≤ rc ∧ rc < 255 from ⟨hc0', hc1'⟩)
            have T1 := Lib.hid (fun W hW => L3.out 0 256 (by decide) (by decide) (by decide) (by decide) W hW ra ha)
            have T2 := Lib.hid (fun W hW => L3.out 1 256 (by decide) (by decide) (by decide) (by decide) W hW rb hb)
            have T3 := Lib.hid (fun W hW => L3.out 2 255 (by decide) (by decide) (by decide) (by decide) W hW rc hc)
            have HWq := Lib.hid (bl HW5.out (bl HC3.out HF.out))
            clear hz ha hb hc ha0 ha1 hb0 hb1 hc0' hc1' hcr hm hmq
            go_wp2_with (first
              | (go_at_call 18; (with_reducible refine (T1.out _ HWq.out).mono ?_); rintro e wa ⟨rfl, hb_⟩; have HFa := Lib.hid (bl HF.out (dr hb_)); have HWa := Lib.hid (bl HWq.out (dr hb_)); clear hb_)
              | (go_at_call 18; (with_reducible refine (T2.out _ HWa.out).mono ?_); rintro e wk ⟨rfl, hb_⟩; have HFk := Lib.hid (bl HFa.out (dr hb_)); have HWk := Lib.hid (bl HWa.out (dr hb_)); clear hb_))
            have HDk := Lib.hid (bl HD3.out HFk.out)
            clear hcut r7 r8 r9 r10 r2 hlen2 hwl q1 r1 HB3 T1 T2 L1 L2 L3 HS5 HE
            go_loopw [23] (fun v23 W => ∃ j : Nat, v23 = .int .i64 j ∧ j ≤ l.length ∧ Hid (pos l j ≤ cut) ∧ W = wk) (fun v23 _ => l.length - (intOf v23).toNat)
            case atStart => exact ⟨0, rfl, Nat.zero_le _, Lib.hid (by have h1 := HCm.out; have h2 : pos l 0 = 0 := rfl; omega), rfl⟩
            case round =>
              obtain ⟨j, rfl, hj, HJ, rfl⟩ := hrel
              have hjl : j < l.length := by
                have h1 := HJ.out
                have h2 := HPn.out
                have h3 := HCm.out
                have h4 := HM.out
                rcases Nat.lt_or_ge j l.length with h | h
                · exact h
                · have : j = l.length := Nat.le_antisymm hj h
                  subst this
                  omega
              have hms : l.length - (j + 1) < l.length - j := by omega
              have u1 : decide ((j : Int) < (l.length : Int)) = true := decide_eq_true (Int.ofNat_lt.2 hjl)
              have u2 : wrap64 ((j : Int) + 1) = ((j + 1 : Nat) : Int) := by have := HH8.out; unfold wrap64; omega
              have u3 : (((j + 1 : Nat) : Int) < ((l.length + 1 : Nat) : Int)) = True := eq_true (Int.ofNat_lt.2 (Nat.succ_lt_succ hjl))
              have u4 : (0 ≤ ((j + 1 : Nat) : Int)) = True := eq_true (Int.natCast_nonneg _)
              have u5 : (j < l.length) = True := eq_true hjl
              have u6 := (HDk.out.cell (World.block_lt_of_cell? _ _ (HEc.out (j + 1) hjl))).trans (HEc.out (j + 1) hjl)
              by_cases hp : pos l (j + 1) ≤ cut
              · have u7 : decide (pos l (j + 1) ≤ cut) = true := decide_eq_true hp
                clear hp
                have HJ2 := Lib.hid (of_decide_eq_true u7)
                clear r3 r4 r5 r6 p1 p2
                go_wp2
                refine ⟨⟨j + 1, ?g1, hjl, HJ2, by first | rfl | trivial⟩, ?g3⟩
                case g1 => go_num
                case g3 =>
                  rw [u2]
                  show l.length - ((j + 1 : Nat) : Int).toNat < l.length - ((j : Nat) : Int).toNat
                  rw [Int.toNat_natCast, Int.toNat_natCast]
                  exact hms
              · have u7 : decide (pos l (j + 1) ≤ cut) = false := decide_eq_false hp
                have hcs : (cat (l.take j)).size ≤ m := by have h1 := HJ.out; have h2 := HCm.out; unfold pos at h1; clear u2; omega
                have hcs2 : m < (cat (l.take (j + 1))).size := by have h2 := HCm.out; unfold pos at hp; clear u2; omega
                have hmq := HM.out
                rw [← HQq.out] at hmq
                have hrec := rec_cut l HALL.out HH8.out m j hmq hjl hcs hcs2 K HK4.out
                have hok1 : ∀ x ∈ l.take j, okB x := fun x hx => HALL.out x (List.mem_of_mem_take hx)
                have hlen : ((l.take j).map cnB).length = j := by rw [List.length_map, List.length_take]; clear u2; omega
                have hpj : pos l j = ((cat (l.take j)).size : Int) := rfl
                rw [HQq.out] at hrec
                have hmD : m < (D q).length := by rw [D_len]; exact HM.out
                obtain ⟨y0, hy0⟩ : ∃ y0 : UInt8, (D q)[m]'hmD = y0 := ⟨_, rfl⟩
                have HY0 := Lib.hid hy0
                have hz : 0 ≤ IntKind.u8.wrap ((y0.toNat : Int) + IntKind.u8.wrap (IntKind.i64.wrap (1 + rc))) ∧ IntKind.u8.wrap ((y0.toNat : Int) + IntKind.u8.wrap (IntKind.i64.wrap (1 + rc))) < 256 := by
                  rw [IntKind.wrap_u8']
                  exact ⟨Int.emod_nonneg _ (by decide), Int.emod_lt_of_pos _ (by decide)⟩
                obtain ⟨b, hb⟩ := byte_of _ hz.1 hz.2
                have hbd : D (bent q m b) = D (cat (l.take j)) ++ (D (cat (l.drop j))).set (m - (cat (l.take j)).size) b := by
                  rw [D_bent, ← HQq.out, D_cat_take l j, List.set_append_right _ _ (by rw [D_len]; exact hcs), D_len]
                obtain ⟨r, o, g1, g2, g3, g4, g5, g6⟩ := rec_bent (bent q m b) (by rw [bent_size]; have h1 := HQ.out; have h2 := HH8.out; clear u2; omega) (l.take j) hok1 (by rw [List.length_take]; have := HH8.out; clear u2; omega) _ hbd
                rw [bent_size] at g4
                have hst8 := StoreBlocks_i r g3 g1 K HK4.out
                rw [g5] at hst8
                have hjr : j ≤ r.length := by rw [List.length_take] at g2; clear u2; omega
                have hcz : (cat (l.take j)).size ≤ q.size := Nat.le_trans hcs (Nat.le_of_lt HM.out)
                have N1 := Lib.hid (fun W => impl_RecoverBlocks.calls K (q.extract 0 m) ((l.take j).map cnB) ((cat (l.take j)).size : Int) true W hrec)
                have N3 := Lib.hid (fun W => impl_RecoverBlocks.calls K (bent q m b) r (o : Int) true W (g6 K HK2.out))
                have N4 := Lib.hid (fun (A : Option Addr) (c : Nat) (W : World) (hC : Kd.C k28 W A r.length r) (hc : r.length ≤ c) => impl_StoreBlocks.calls K A c r ((bent q m b).extract 0 o) true W hC hc hst8)
                have he0 := HEc.out j (Nat.le_of_lt hjl)
                rw [hpj] at he0
                have HCell := Lib.hid he0
                have HBv := Lib.hid hb
                have HO := Lib.hid g4
                have hjj : ((((l.take j).map cnB).length : Int) != (j : Int)) = false := by rw [hlen]; exact bne_self_eq_false _
                have v12 : (j ≤ r.length) = True := eq_true hjr
                have v13 : (o ≤ q.size) = True := eq_true HO.out
                have v3 : (0 ≤ (j : Int)) = True := eq_true (Int.natCast_nonneg _)
                have v4 : ((j : Int) < ((l.length + 1 : Nat) : Int)) = True := eq_true (Int.ofNat_lt.2 (Nat.lt_succ_of_lt hjl))
                have v6 : decide ((j : Int) ≤ (r.length : Int)) = true := decide_eq_true (Int.ofNat_le.2 hjr)
                have v7 : decide (0 ≤ (o : Int)) = true := decide_eq_true (Int.natCast_nonneg _)
                have v8 : decide ((o : Int) ≤ (q.size : Int)) = true := decide_eq_true (Int.ofNat_le.2 HO.out)
                have v9 : ((j : Int) < (l.length : Int) + 1) = True := eq_true (Int.lt_add_one_of_le (Int.ofNat_le.2 (Nat.le_of_lt hjl)))
                have v10 : (j < l.length + 1) = True := eq_true (Nat.lt_succ_of_lt hjl)
                clear hrec hok1 hlen hst8 hpj hcs2 hmq hz hbd g1 g2 g3 g4 g5 g6 he0 hp hcs hb hy0 hjl hjr hms hj
                generalize (l.take j).map cnB = ws2 at N1 hjj
                generalize (cat (l.take j)).size = pz at N1 HCell hcz
                have v2 : ((pz : Int) ≤ (q.size : Int)) = True := eq_true (Int.ofNat_le.2 hcz)
                clear hcz
                have M1 : True := trivial
                have hcv : ∀ W, (convert 9 34 (.string q)).run Try.prog W = .ok (.slice (some ⟨W.heap.size, 0, none⟩) q.size (gc W q)) (bw W q) := fun W => run_cv W q
                go_wp2_with (first
                  | (go_at_call 10; clear M1; (with_reducible refine (N1.out _).mono ?_); rintro e w6 ⟨v5_, rfl, hs, hb⟩; obtain ⟨A6, c6, rfl⟩ := Kd.S_slice hs; have HW6 := Lib.hid (bl HWk.out hb); have HD6 := Lib.hid (bl HDk.out hb); clear hb hs
                     have he6 : w6.cell? ⟨g, j, none⟩ = some (.int .i64 (pz : Int)) := (HD6.out.cell (World.block_lt_of_cell? _ _ HCell.out)).trans HCell.out
                     have hx6 : (bw w6 q).cell? ⟨w6.heap.size, m, none⟩ = some (.int .u8 (y0.toNat : Int)) := (cell_bw w6 q m HM.out).trans (by rw [HY0.out])
                     have hf6 := frozen_bw w6 q m HM.out))
                have HWb := Lib.hid (bl HW6.out (below_bw w6 q))
                clear u1 u2 u3 u4 u5 u6 u7 v2 v3 v4 v9 v10 hjj p1 p2
                go_region_law (go_simp; go_wp2_with (first | (go_at_call 18; (with_reducible refine (T3.out _ (by repeat (first | exact HWb.out | apply pw_below_drewN | apply below_drew1))).mono ?_); rintro e_ w_ ⟨rfl, ⟨nd, rfl⟩⟩)))
                all_goals (
                  rw [HBv.out]
                  refine genw (Pw := fun V => Below w6.heap.size w6 V ∧ w6.heap.size < V.heap.size ∧ Cl V w6.heap.size q m b) ⟨below_bd w6 q m _ _, size_bd w6 q m _ _, fun j hj => cell_bd w6 q m HM.out b _ j hj⟩ ?_
                  rintro V ⟨hV1, hV2, hV3⟩
                  have HV1 := Lib.hid hV1
                  have HV2 := Lib.hid hV2
                  have HV3 := Lib.hid hV3
                  have hs6 := str_at_all V w6.heap.size q m b hV2 hV3 (gc w6 q)
                  clear hV1 hV2 hV3 hx6 hf6 he6 hcv
                  go_wp2_with (first
                    | (go_at_call 10; (with_reducible refine (N3.out _).mono ?_); rintro e w7 ⟨v7_, rfl, hs, hb⟩; obtain ⟨A7, c7, rfl⟩ := Kd.S_slice hs; have HX7 := Lib.hid hb; have HS7 := Lib.hid (S_C hs); clear hb hs)
                    | (go_at_call 8; (with_reducible refine (N4.out A7 c7 _ HS7.out.1 HS7.out.2.1).mono ?_); rintro e w8 ⟨rfl, hb⟩; have HX8 := Lib.hid (bl HX7.out hb); clear hb
                       have hcap : ((o : Int) ≤ ((gc w6 q : Nat) : Int)) = True := eq_true (Int.ofNat_le.2 (Nat.le_trans HO.out (grownCap_ge w6 q.size 0 5)))
                       have hcap2 : (o ≤ gc w6 q) = True := eq_true (Nat.le_trans HO.out (grownCap_ge w6 q.size 0 5))
                       have hs8 := str_at V w6.heap.size q m b HV2.out HV3.out w8 HX8.out o HO.out (gc w6 q)))
                  go_ret
                  exact ⟨rfl, bl HW6.out (bl HV1.out HX8.out)⟩)
theorem byts_wf {l : List Int} (h : ∀ n ∈ l, (Lit.int .u8 n).wf = true) : Byts l := fun x hx => by
  have h1 := h x hx
  rw [Lit.wf, Bool.and_eq_true] at h1
  have h2 : (0 : Int) ≤ x := of_decide_eq_true h1.1
  have h3 : x ≤ (255 : Int) := of_decide_eq_true h1.2
  omega
/-- the law, at all arguments -/
theorem sto_w (a0 : Option Addr) (len0 cap0 : Nat) (z0 : List Int) (a1 : Option Addr) (len1 cap1 : Nat) (z1 : List Int) (w : World) (w0 : (a0 = none ∧ len0 = 0 ∧ cap0 = 0 ∧ z0 = []) ∨ ∃ x, a0 = some x ∧ len0 ≤ cap0 ∧ cap0 ≤ maxLen ∧ z0.length = cap0 ∧ (∀ i, i < z0.length → w.cell? (x.add i) = some (.int .u8 (z0.getD i 0))) ∧ ∀ n ∈ z0, (Lit.int .u8 n).wf = true) (y0 : len0 * 1 ≤ 140737488351232)
    (w1 : (a1 = none ∧ len1 = 0 ∧ cap1 = 0 ∧ z1 = []) ∨ ∃ x, a1 = some x ∧ len1 ≤ cap1 ∧ cap1 ≤ maxLen ∧ z1.length = cap1 ∧ (∀ i, i < z1.length → w.cell? (x.add i) = some (.int .u8 (z1.getD i 0))) ∧ ∀ n ∈ z1, (Lit.int .u8 n).wf = true) (y1 : len1 * 1 ≤ 140737488351232) :
    Calls Try.prog 4 #[.slice a0 len0 cap0, .slice a1 len1 cap1] w fun e w' => e = .returned (.bool true) ∧ Below w.heap.size w w' := by
  obtain ⟨l0, rfl, hr0, hm0, hw0, hc0⟩ := ReadsInt.ofRowC w0
  obtain ⟨l1, rfl, hr1, hm1, hw1, hc1⟩ := ReadsInt.ofRowC w1
  have g0 := Kd.C_of_reads (enc := Value.int .u8) (d := (0 : Int)) (h1 := fun _ => rfl) hr0
  have g1 := Kd.C_of_reads (enc := Value.int .u8) (d := (0 : Int)) (h1 := fun _ => rfl) hr1
  by_cases h : laws_b10Long.f l0 l1 = some true
  · exact far a0 a1 cap0 cap1 l0 l1 w g0 hc0 g1 hc1 h
  · have h2 : laws_b10Long.f l0 l1 = some false ∧ l0.length ≤ 1048576 := by
      unfold laws_b10Long.f at h ⊢
      by_cases c : (l0.length : Int) > 1048576
      · rw [if_pos c] at h; exact absurd rfl h
      · rw [if_neg c] at h ⊢
        by_cases c2 : (l1.length : Int) > 1048576
        · rw [decide_eq_true c2] at h; exact absurd rfl h
        · rw [decide_eq_false c2]; exact ⟨rfl, by omega⟩
    obtain ⟨K, hK⟩ : ∃ K : Nat, K = 1073741850 := ⟨_, rfl⟩
    exact near a0 a1 cap0 cap1 l0 l1 w g0 hc0 g1 hc1 h2.1 (byts_wf hw0) (byts_wf hw1) h2.2 K (by rw [hK]; decide) (by rw [hK]; exact Nat.le_refl _) (by rw [hK]; decide) (by rw [hK]; decide) (by rw [hK]; decide)
end Go.Proofs.Ythnjgcdajjodjaa.Sto
