import Derived.Test.YtdfpfiecpcgffaaDoorPFnExactReadSoundsx
import Derived.Deep.RegionHeldLaw
set_option linter.unusedVariables false
set_option linter.unusedSimpArgs false
namespace Go.Proofs.YtdfpfiecpcgffaaDoor.Rsd
open Go.RowKit Go.Proofs.YtdfpfiecpcgffaaDoorW.PrintWords Go.Proofs.YtdfpfiecpcgffaaDoorW.PrintLast Go.Proofs.YtdfpfiecpcgffaaDoorW.PrintMore Go.Proofs.YtdfpfiecpcgffaaDoorW.PrintFl Go.Proofs.YtdfpfiecpcgffaaDoor Go.Proofs.YtdfpfiecpcgffaaDoor.PFnExactReadSounds
attribute [local go_sem] run_stf run_stc
abbrev SD := S58
abbrev kSd : Kd SD := k58
abbrev LSk : Kd (List Nat) := Kd.slice 30 (Kd.float .f32)
theorem lists_open {W : World} {base : Nat} {ok : Nat → Prop} {l0 l1 : List Nat} {v : Value} (h : Kd.S LSk 37 W base ok v [l0, l1]) : ∃ (g cap : Nat) (A0 : Option Addr) (d0 : Nat) (A1 : Option Addr) (d1 : Nat) (f : Nat → Nat), v = .slice (some ⟨g, 0, none⟩) 2 cap ∧ W.cell? ⟨g, 0, none⟩ = some (.slice A0 l0.length d0) ∧ W.cell? ⟨g, 1, none⟩ = some (.slice A1 l1.length d1) ∧ Kd.R (Kd.float .f32) 30 W base (fun k => (ok k ∧ k ≠ g) ∧ f k = 0) (.slice A0 l0.length d0) l0 ∧ Kd.R (Kd.float .f32) 30 W base (fun k => (ok k ∧ k ≠ g) ∧ f k = 1) (.slice A1 l1.length d1) l1 := by
  obtain ⟨g, cap, rfl, -, -, -⟩ := Kd.S_form h (by simp)
  obtain ⟨f, hR⟩ := h
  obtain ⟨c0, hl0, hM0, hcc0, -⟩ := Kd.R_elem hR ([], 0) 0 (by decide) (by simp)
  obtain ⟨c1, hl1, hM1, hcc1, -⟩ := Kd.R_elem hR ([], 0) 1 (by decide) (by simp)
  obtain ⟨v0, rfl, hR0⟩ := (show LSk.M W base (fun k => (ok k ∧ k ≠ g) ∧ f k = 0) l0 c0 from hM0)
  obtain ⟨v1, rfl, hR1⟩ := (show LSk.M W base (fun k => (ok k ∧ k ≠ g) ∧ f k = 1) l1 c1 from hM1)
  obtain ⟨A0, d0, rfl⟩ := Kd.R_slice hR0
  obtain ⟨A1, d1, rfl⟩ := Kd.R_slice hR1
  exact ⟨g, cap, A0, d0, A1, d1, f, rfl, hcc0 0 _ rfl, hcc1 0 _ rfl, hR0, hR1⟩
theorem gate_step {P : Program} {ops : Array Oper} {o : Oper} {a : Act} {W : World} {Kc : Act → World → Prop} {Q : Exit → Act → World → Prop} {E : Prop} (n : Nat) (_ : o.dst = some n) (h : if Region.wanted o (yielded ops a.tmps) = true then Oper.wp P o a W Kc Q else E) : if Region.wanted o (yielded ops a.tmps) = true then Oper.wp P o a W Kc Q else E := h
theorem bl2 {w w1 w2 : World} (h1 : Below w.heap.size w w1) (h2 : Below w1.heap.size w1 w2) : Below w.heap.size w w2 := h1.trans (h2.mono h1.size)
theorem far_cell {w3 W w6 : World} {v : Value} {b2 : Nat} {o : Value} (hg : W.grownBy w6 v.ownBlock) (hW : ∀ a, W.cell? a = w3.cell? a) (hs : W.heap.size = w3.heap.size) (hv : ∀ k, v.ownBlock = some k → k < b2) {a : Addr} (h1 : b2 ≤ a.block ∧ a.block < w3.heap.size) (hc : w3.cell? a = some o) : w6.cell? a = some o := by
  rw [hg.cell_far a (by rw [hs]; exact h1.2) (fun e => by have := hv a.block e.symm; omega), hW]; exact hc
def rsW (cut : ByteArray → ByteArray × ByteArray × Bool) (rl : ByteArray → List (List Nat) × Bool) (are : List SD → Bool) : List ByteArray → List SD → List SD × Bool
  | [], acc => if are acc = true then (acc, true) else ([], false)
  | x :: r, acc => if (rl (cut x).2.1).2 = true then (if ((rl (cut x).2.1).1.getD 1 []).length = 4 then rsW cut rl are r (acc ++ [⟨(cut x).1, (rl (cut x).2.1).1.getD 0 [], ((rl (cut x).2.1).1.getD 1 []).getD 0 0, ((rl (cut x).2.1).1.getD 1 []).getD 1 0, ((rl (cut x).2.1).1.getD 1 []).getD 2 0, ((rl (cut x).2.1).1.getD 1 []).getD 3 0⟩]) else ([], false)) else ([], false)
structure RsRel (P : SD → Prop) (w1 : World) (acc : List SD) (n : Nat) (u : Value) (wr : World) : Prop where
  row : Kd.S kSd 58 wr w1.heap.size (fun k => k < wr.heap.size) u acc
  below : Below w1.heap.size w1 wr
  room : acc.length = n
  all : ∀ y ∈ acc, P y
theorem RsRel.to {P : SD → Prop} {w1 : World} {acc : List SD} {n : Nat} {u : Value} {W W' : World} (h : RsRel P w1 acc n u W) (hb : Below W.heap.size W W') : RsRel P w1 acc n u W' :=
  ⟨Kd.S_mono (Kd.S_below h.row hb) (fun _ hk => Nat.lt_of_lt_of_le hk hb.size), bl2 h.below hb, h.room, h.all⟩
set_option maxHeartbeats 8000000 in
set_option maxRecDepth 100000 in
theorem rs_none (w : World) (s : ByteArray) (hs : s = ⟨#[110, 111, 110, 101]⟩) : Calls Tryd.prog 27 #[.string s] w fun e w' => e = .returned (.tuple #[.slice none 0 0, .bool true]) ∧ Below w.heap.size w w' := by
  have c0 : ((s.toList : List UInt8) == (⟨#[110, 111, 110, 101]⟩ : ByteArray).toList) = true := by rw [hs]; exact beq_self_eq_true _
  go_enter Tryd.func27, Tryd.ntmps27
  subst hs
  go_wp2
  go_ret2
  exact ⟨rfl, Below.refl _ _⟩
set_option maxHeartbeats 16000000 in
set_option maxRecDepth 100000 in
theorem rs_walk (P : SD → Prop) (cut : ByteArray → ByteArray × ByteArray × Bool) (rl : ByteArray → List (List Nat) × Bool) (are : List SD → Bool) (t : List ByteArray) (w : World) (hT_ : GLt w) (a0 : ByteArray) (hn : a0.toList ≠ [110, 111, 110, 101]) (htl : t.length ≤ 1048577) (r1 : List SD) (r2 : Bool) (hr : rsW cut rl are t [] = (r1, r2))
    (hS : ∀ W : World, Calls Tryd.prog 50 #[.string a0, .string ⟨#[47]⟩] W fun e w' => ∃ v0_ : Value, e = .returned v0_ ∧ Kd.R Kd.string 9 w' W.heap.size (fun _ => True) v0_ t ∧ Below W.heap.size W w')
    (hC : ∀ x ∈ t, ∀ W : World, Calls Tryd.prog 51 #[.string x, .string ⟨#[58]⟩] W fun e w' => e = .returned (.tuple #[.string (cut x).1, .string (cut x).2.1, .bool (cut x).2.2]) ∧ Below W.heap.size W w')
    (hL : ∀ x ∈ t, ∀ W : World, GLt W → Calls Tryd.prog 42 #[.string (cut x).2.1, .string ⟨#[58]⟩, .int .i64 2] W fun e w' => ∃ v0_ : Value, e = .returned (.tuple #[v0_, .bool (rl (cut x).2.1).2]) ∧ Kd.S LSk 37 w' W.heap.size (fun _ => True) v0_ (rl (cut x).2.1).1 ∧ Below W.heap.size W w')
    (h2 : ∀ x ∈ t, (rl (cut x).2.1).2 = true → (rl (cut x).2.1).1.length = 2)
    (hP : ∀ x ∈ t, ∀ l0 a b c d, rl (cut x).2.1 = ([l0, [a, b, c, d]], true) → P ⟨(cut x).1, l0, a, b, c, d⟩)
    (hA : ∀ (A : Option Addr) (c : Nat) (l : List SD) (W : World), l.length ≤ 1048577 → (∀ y ∈ l, P y) → Kd.C kSd W A l.length l → l.length ≤ c → Calls Tryd.prog 34 #[.slice A l.length c] W fun e w' => e = .returned (.bool (are l)) ∧ Below W.heap.size W w') :
    Calls Tryd.prog 27 #[.string a0] w fun e w' => ∃ v0_ : Value, e = .returned (.tuple #[v0_, .bool r2]) ∧ Kd.S kSd 58 w' w.heap.size (fun _ => True) v0_ r1 ∧ Below w.heap.size w w' := by
  have HS := Lib.hid hS
  have HC := Lib.hid hC
  have HLS := Lib.hid hL
  have H2 := Lib.hid h2
  have HA := Lib.hid hA
  have HP := Lib.hid hP
  have HT := Lib.hid hT_
  have HR0 := Lib.hid hr
  have c0 : ((a0.toList : List UInt8) == [110, 111, 110, 101]) = false := beq_eq_false_iff_ne.mpr hn
  clear hS hC hL h2 hA hP hT_ hn hr
  go_enter Tryd.func27, Tryd.ntmps27
  go_wp2_with (first | ((with_reducible refine gate_callee (f := 50) rfl ?_); refine goesL_ (some 16) rfl rfl Tryd.func50 (by kernel_rfl) rfl #[.string a0, .string ⟨#[47]⟩] rfl (by (try simp only [List.map_toArray, List.map_cons, List.map_nil]); first | done | rfl) ?_; (with_reducible refine (HS.out _).mono ?_); rintro e w1 ⟨v, rfl, hr, hb⟩; obtain ⟨A0, c0, rfl⟩ := Kd.R_slice hr; have HR := Lib.hid hr; have HB := Lib.hid hb; clear hr hb; refine ⟨_, rfl, ?_⟩))
  go_loopw [4, 18] (fun v4 v18 wr => ∃ (j : Nat) (acc : List SD), j ≤ t.length ∧ v18 = .int .i64 j ∧ Hid (rsW cut rl are (t.drop j) acc = (r1, r2)) ∧ RsRel P w1 acc j v4 wr) (fun _ v18 _ => t.length - (intOf v18).toNat)
  case atStart => exact ⟨0, [], Nat.zero_le _, rfl, HR0, ⟨Kd.S_nil _ _ _ _ _, Below.refl _ _, rfl, fun y hy => (List.not_mem_nil hy).elim⟩⟩
  case round =>
    obtain ⟨j, acc, hj, rfl, HD, hrl⟩ := hrel
    have HL := Lib.hid hrl
    clear hrl
    obtain ⟨Ao, co, eo⟩ := Kd.S_slice HL.out.row
    subst eo
    by_cases hlt : j < t.length
    · obtain ⟨g0, rfl, hg0⟩ := own_addr HR.out (by omega)
      have hx := (Kd.R_celln (enc := Value.string) (h1 := fun _ => rfl) ByteArray.empty (Kd.R_below HR.out HL.out.below) (j : Int) (by omega) (by omega)).1
      have hjs : rdOf ByteArray.empty t (j : Int) = t[j] := by
        unfold rdOf
        rw [Int.toNat_natCast, List.getD_eq_getElem?_getD, List.getElem?_eq_getElem hlt]; rfl
      have hD := HD.out
      rw [List.drop_eq_getElem_cons hlt] at hD
      rw [Int.toNat_natCast, hjs] at hx
      have HXm := Lib.hid (List.getElem_mem hlt)
      generalize t[j] = x at hx hD hjs HXm
      clear hjs HD
      rw [rsW] at hD
      obtain ⟨ls, ok, hrl⟩ : ∃ ls ok, rl (cut x).2.1 = (ls, ok) := ⟨_, _, rfl⟩
      have hl2 := H2.out x HXm.out
      rw [hrl] at hl2
      have HLx := Lib.hid (fun W hW => HLS.out x HXm.out W hW)
      rw [hrl] at HLx hD
      dsimp only at HLx
      have HCx := Lib.hid (fun W => HC.out x HXm.out W)
      cases ok with
      | false =>
        have e1 : r1 = [] := by
          have := congrArg Prod.fst hD
          simpa using this.symm
        have e2 : r2 = false := by
          have := congrArg Prod.snd hD
          simpa using this.symm
        subst e1 e2
        clear hrl hD
        go_wp2_with (first
          | ((with_reducible refine gate_callee (f := 51) rfl ?_); refine goesL_ (some 24) rfl rfl Tryd.func51 (by kernel_rfl) rfl #[.string x, .string ⟨#[58]⟩] rfl (by (try simp only [List.map_toArray, List.map_cons, List.map_nil]); first | done | rfl) ?_; (with_reducible refine (HCx.out _).mono ?_); rintro e w2 ⟨rfl, hb2⟩; have HL2 := Lib.hid (HL.out.to hb2); clear hb2; refine ⟨_, rfl, ?_⟩)
          | (go_at_call 42; (with_reducible refine (HLx.out _ (GLt_below (GLt_below HT.out HB.out) (HL2.out.below))).mono ?_); rintro e w3 ⟨v3, rfl, hs3, hb3⟩; have HL3 := Lib.hid (HL2.out.to hb3); clear hb3 hs3))
        go_ret2
        exact ⟨_, rfl, Kd.S_nil _ _ _ _ _, bl2 HB.out HL3.out.below⟩
      | true =>
        obtain ⟨l0, l1, rfl⟩ : ∃ l0 l1, ls = [l0, l1] := by
          match ls, hl2 rfl with
          | [p, q], _ => exact ⟨p, q, rfl⟩
        clear hl2
        dsimp only [List.getD_cons_zero, List.getD_cons_succ] at hD
        rw [if_pos rfl] at hD
        by_cases h4 : l1.length = 4
        · rw [if_pos (by simpa using h4)] at hD
          obtain ⟨x0, x1, x2, x3, rfl⟩ : ∃ a b c d, l1 = [a, b, c, d] := by
            match l1, h4 with
            | [p, q, r, s], _ => exact ⟨p, q, r, s, rfl⟩
          have q4 : ((([x0, x1, x2, x3] : List Nat).length : Int) != 4) = false := rfl
          have HD := Lib.hid (show rsW cut rl are (t.drop (j + 1)) (acc ++ [⟨(cut x).1, l0, x0, x1, x2, x3⟩]) = (r1, r2) from hD)
          have HPx := Lib.hid (HP.out x HXm.out l0 x0 x1 x2 x3 hrl)
          clear hD h4 hrl
          go_wp2_with (first
            | ((with_reducible refine gate_callee (f := 51) rfl ?_); refine goesL_ (some 24) rfl rfl Tryd.func51 (by kernel_rfl) rfl #[.string x, .string ⟨#[58]⟩] rfl (by (try simp only [List.map_toArray, List.map_cons, List.map_nil]); first | done | rfl) ?_; (with_reducible refine (HCx.out _).mono ?_); rintro e w2 ⟨rfl, hb2⟩; have HL2 := Lib.hid (HL.out.to hb2); clear hb2; refine ⟨_, rfl, ?_⟩)
            | (go_at_call 42; (with_reducible refine (HLx.out _ (GLt_below (GLt_below HT.out HB.out) (HL2.out.below))).mono ?_); rintro e w3 ⟨v3, rfl, hs, hb⟩
               have HB3 := Lib.hid (bl2 HL2.out.below hb)
               have HRow := Lib.hid (Kd.S_below HL2.out.row hb)
               have hbs := hb.size
               clear hb
               obtain ⟨g, cap, B0, cap0, A1, cap1, f, rfl, hx0, hx1, hR0, hR1⟩ := lists_open (Kd.S_mono (Kd.S_bound hs) (ok' := fun k => w2.heap.size ≤ k ∧ k < w3.heap.size) (fun _ hk => ⟨hk.2.1, hk.2.2.1⟩))
               obtain ⟨g1, cap2, eA1, hg10, hg1l, hg1t⟩ := Kd.R_form hR1 (by simp)
               injection eA1 with eA1 eA2 eA3
               subst eA1 eA3
               have hy0 : w3.cell? ⟨g1, 0, none⟩ = some (.float .f32 x0) := (Kd.R_celln 0 hR1 0 (by decide) (by simp)).1
               have hy1 : w3.cell? ⟨g1, 1, none⟩ = some (.float .f32 x1) := (Kd.R_celln 0 hR1 1 (by decide) (by simp)).1
               have hy2 : w3.cell? ⟨g1, 2, none⟩ = some (.float .f32 x2) := (Kd.R_celln 0 hR1 2 (by decide) (by simp)).1
               have hy3 : w3.cell? ⟨g1, 3, none⟩ = some (.float .f32 x3) := (Kd.R_celln 0 hR1 3 (by decide) (by simp)).1
               have hg_ : w2.heap.size ≤ g ∧ g < w3.heap.size := by
                 have h_ := (Kd.S_R (Kd.S_mono (Kd.S_bound hs) (ok' := fun k => w2.heap.size ≤ k ∧ k < w3.heap.size) (fun _ hk => ⟨hk.2.1, hk.2.2.1⟩))).1 g rfl
                 exact h_
               have hg1_ : w2.heap.size ≤ g1 ∧ g1 < w3.heap.size := (hR1.1 g1 rfl).1.1
               have HG := Lib.hid hg_
               have HG1 := Lib.hid hg1_
               clear hg_ hg1_
               obtain ⟨ok0, hok0⟩ : ∃ ok0 : Nat → Prop, ok0 = fun k => ((w2.heap.size ≤ k ∧ k < w3.heap.size) ∧ k ≠ g) ∧ f k = 0 := ⟨_, rfl⟩
               rw [← hok0] at hR0
               have HO0 := Lib.hid (show ∀ k, ok0 k → w2.heap.size ≤ k from by rw [hok0]; exact fun k hk => hk.1.1.1)
               have HR0 := Lib.hid (Kd.R_lower hR0 (show w1.heap.size ≤ w2.heap.size from HL2.out.below.size))
               clear eA2 hR0 hR1 hok0 hg10 hg1l hg1t hs hbs))
          go_region_held_law (fun w' => w'.cell? ⟨g, 0, none⟩ = some (.slice B0 l0.length cap0) ∧ w'.cell? ⟨g, 1, none⟩ = some (.slice (some ⟨g1, 0, none⟩) [x0, x1, x2, x3].length cap1) ∧ w'.cell? ⟨g1, 0, none⟩ = some (.float .f32 x0) ∧ w'.cell? ⟨g1, 1, none⟩ = some (.float .f32 x1) ∧ w'.cell? ⟨g1, 2, none⟩ = some (.float .f32 x2) ∧ w'.cell? ⟨g1, 3, none⟩ = some (.float .f32 x3)) (first | exact HK6.out | go_keep) (first
            | ((with_reducible refine gate_step 64 rfl ?_); refine Kd.S_append_step kSd (w0 := w1) (W := w3.drew) w1.heap.size (by rfl) (.tmp 45) (.tmp 63) 26 58 (.agg #[.string ⟨#[]⟩, .slice none 0 0, .float .f32 0, .float .f32 0, .float .f32 0, .float .f32 0]) 56 rfl Tryd.underlying26 (by kernel_rfl) rfl (by decide) (by decide) (.slice Ao acc.length co) acc (⟨(cut x).1, l0, x0, x1, x2, x3⟩ : SD) [.string (cut x).1, .slice B0 l0.length cap0, .float .f32 x0, .float .f32 x1, .float .f32 x2, .float .f32 x3] (fun _ => True) ok0 rfl rfl ?aP ?aK (fun _ _ => trivial) ?aO ?aB ?aS ?aL ?_
               (case aP => exact k58_mkM _ w1.heap.size ok0 (⟨(cut x).1, l0, x0, x1, x2, x3⟩ : SD) (Kd.R_below HR0.out (by repeat (first | exact Below.refl _ _ | apply below_alloc | apply pw_below_drewN | apply below_drew1))))
               (case aK => exact fun k hk => ⟨trivial, fun he => by have h1 := (Kd.S_R HRow.out).1 k he.symm; have h2 := HO0.out k hk; omega⟩)
               (case aO => exact Kd.S_mono (Kd.S_below HRow.out (by repeat (first | exact Below.refl _ _ | apply below_alloc | apply pw_below_drewN | apply below_drew1))) (fun k hk => ⟨trivial, fun h0 => by have h2 := HO0.out k h0; omega⟩))
               (case aB => exact bl2 HB3.out (by repeat (first | exact Below.refl _ _ | apply below_alloc | apply pw_below_drewN | apply below_drew1)))
               (case aS => exact (bl2 HB3.out (by repeat (first | exact Below.refl _ _ | apply below_alloc | apply pw_below_drewN | apply below_drew1))).size)
               (case aL => have h1 := HL.out.room; omega)
               intro v6 w6 ho hb hg hat
               have HO := Lib.hid (Kd.S_mono (Kd.S_bound ho) (fun _ hk => hk.2.2.1))
               have HB6 := Lib.hid hb
               have hv_ : ∀ k, (Value.slice Ao acc.length co).ownBlock = some k → k < w2.heap.size := fun k hk => (Kd.S_R HRow.out).1 k hk
               have HK6 := Lib.hid (show w6.cell? ⟨g, 0, none⟩ = some (.slice B0 l0.length cap0) ∧ w6.cell? ⟨g, 1, none⟩ = some (.slice (some ⟨g1, 0, none⟩) [x0, x1, x2, x3].length cap1) ∧ w6.cell? ⟨g1, 0, none⟩ = some (.float .f32 x0) ∧ w6.cell? ⟨g1, 1, none⟩ = some (.float .f32 x1) ∧ w6.cell? ⟨g1, 2, none⟩ = some (.float .f32 x2) ∧ w6.cell? ⟨g1, 3, none⟩ = some (.float .f32 x3) from ⟨far_cell (w3 := w3) hg (fun _ => rfl) rfl hv_ HG.out hx0, far_cell (w3 := w3) hg (fun _ => rfl) rfl hv_ HG.out hx1, far_cell (w3 := w3) hg (fun _ => rfl) rfl hv_ HG1.out hy0, far_cell (w3 := w3) hg (fun _ => rfl) rfl hv_ HG1.out hy1, far_cell (w3 := w3) hg (fun _ => rfl) rfl hv_ HG1.out hy2, far_cell (w3 := w3) hg (fun _ => rfl) rfl hv_ HG1.out hy3⟩)
               clear ho hb hg hat hv_)
            | fail)
          all_goals
            go_wp2
            exact ⟨⟨j + 1, _, by omega, by first | rfl | (simp; done), HD, ⟨HO.out, HB6.out, by rw [List.length_append, HL.out.room]; rfl, fun y hy => by
              rcases List.mem_append.1 hy with h_ | h_
              · exact HL.out.all y h_
              · rw [List.mem_singleton.1 h_]; exact HPx.out⟩⟩, by show t.length - (j + 1) < t.length - j; omega⟩
        · rw [if_neg (by simpa using h4)] at hD
          have q4 : ((l1.length : Int) != 4) = true := bne_iff_ne.mpr (by omega)
          injection hD with e1 e2
          subst e1 e2
          clear h4 hrl
          go_wp2_with (first
            | ((with_reducible refine gate_callee (f := 51) rfl ?_); refine goesL_ (some 24) rfl rfl Tryd.func51 (by kernel_rfl) rfl #[.string x, .string ⟨#[58]⟩] rfl (by (try simp only [List.map_toArray, List.map_cons, List.map_nil]); first | done | rfl) ?_; (with_reducible refine (HCx.out _).mono ?_); rintro e w2 ⟨rfl, hb2⟩; have HL2 := Lib.hid (HL.out.to hb2); clear hb2; refine ⟨_, rfl, ?_⟩)
            | (go_at_call 42; (with_reducible refine (HLx.out _ (GLt_below (GLt_below HT.out HB.out) (HL2.out.below))).mono ?_); rintro e w3 ⟨v3, rfl, hs, hb⟩
               have HL3 := Lib.hid (HL2.out.to hb)
               clear hb
               obtain ⟨g, cap, B0, cap0, A1, cap1, f, rfl, hx0, hx1, hR0, hR1⟩ := lists_open hs
               clear hs hR0 hR1))
          go_ret2
          exact ⟨_, rfl, Kd.S_nil _ _ _ _ _, bl2 HB.out HL3.out.below⟩
    · obtain rfl : j = t.length := by omega
      have hD := HD.out
      rw [List.drop_length, rsW] at hD
      have hC := Kd.S_reads' HL.out.row
      have HAx := Lib.hid (fun W hW => HA.out Ao co acc W (by rw [HL.out.room]; exact htl) HL.out.all (Kd.C_below hC.2.2 hW) (by rw [← hC.1]; exact hC.2.1))
      cases ha : are acc with
      | true =>
        rw [ha] at HAx
        rw [ha, if_pos rfl] at hD
        injection hD with e1 e2
        subst e1 e2
        clear ha hC
        go_wp2_with (first
          | (go_at_call 34; (with_reducible refine (HAx.out _ (by repeat (first | exact Below.refl _ _ | apply below_alloc | apply pw_below_drewN | apply below_drew1))).mono ?_); rintro e w3 ⟨rfl, hb3⟩; have HL3 := Lib.hid (HL.out.to hb3); clear hb3))
        go_ret2
        exact ⟨_, rfl, Kd.S_lower (Kd.S_mono HL3.out.row (fun _ _ => trivial)) HB.out.size, bl2 HB.out HL3.out.below⟩
      | false =>
        rw [ha] at HAx
        rw [ha, if_neg (by decide)] at hD
        injection hD with e1 e2
        subst e1 e2
        clear ha hC
        go_wp2_with (first
          | (go_at_call 34; (with_reducible refine (HAx.out _ (by repeat (first | exact Below.refl _ _ | apply below_alloc | apply pw_below_drewN | apply below_drew1))).mono ?_); rintro e w3 ⟨rfl, hb3⟩; have HL3 := Lib.hid (HL.out.to hb3); clear hb3))
        go_ret2
        exact ⟨_, rfl, Kd.S_nil _ _ _ _ _, bl2 HB.out HL3.out.below⟩
end Go.Proofs.YtdfpfiecpcgffaaDoor.Rsd
namespace Go.Proofs.YtdfpfiecpcgffaaDoor.Sdm
open Go.RowKit Go.Proofs.YtdfpfiecpcgffaaDoorW.PrintWords Go.Proofs.YtdfpfiecpcgffaaDoorW.PrintLast Go.Proofs.YtdfpfiecpcgffaaDoorW.PrintMore Go.Proofs.YtdfpfiecpcgffaaDoorW.PrintFl Go.Proofs.YtdfpfiecpcgffaaDoor Go.Proofs.YtdfpfiecpcgffaaDoor.PFnExactReadSounds
abbrev SD := S58
@[go_sem] theorem run_store_float (P : Program) (w : World) (a : Addr) (m : Mode) (f : FloatKind) (x : Nat) : Sem.run P (store a (.float f x) m) w = Go.stored P w a (.float f x) m := Go.run_store P w a _ m rfl
def flA (a : Int) : Nat := floatOfInt .f32 a
def sd0 : Nat → List SD → Int → Int → Option (Int × List SD)
  | 0, _, _, _ => none
  | k + 1, xs, a, i => if i < (xs.length : Int) then (laws_markText.f k a).bind fun s => (laws_markFloat32S.f k (rd_T58 xs i).f1 (wrap64 (a + 1))).bind fun t =>
      sd0 k (xs.set i.toNat ⟨s, t.2, flA t.1, flA (wrap64 (t.1 + 1)), flA (wrap64 ((wrap64 (t.1 + 1)) + 1)), flA (wrap64 ((wrap64 ((wrap64 (t.1 + 1)) + 1)) + 1))⟩) (wrap64 ((wrap64 ((wrap64 ((wrap64 (t.1 + 1)) + 1)) + 1)) + 1)) (wrap64 (i + 1)) else some (a, xs)
structure SdRel (w0 : World) (W0 : World) (P : Nat → Prop) (u : Value) (xs : List SD) (wr : World) : Prop where
  row : Kd.S k58 58 wr w0.heap.size P u xs
  below : Below w0.heap.size w0 wr
  kept : Kept W0 wr P
theorem rdD_getD (xs : List SD) (i : Int) : rd_T58 xs i = xs.getD i.toNat z58 := rfl
theorem rdD_set {xs : List SD} {j : Nat} (h : j < xs.length) (x : SD) : rd_T58 (xs.set j x) (j : Int) = x := by
  rw [rdD_getD, Int.toNat_natCast, List.getD_eq_getElem?_getD, List.getElem?_set_self h]; rfl
theorem sd_facts {w0 W0 W : World} {P : Nat → Prop} {g n cap : Nat} {xs : List SD} (h : SdRel w0 W0 P (.slice (some ⟨g, 0, none⟩) n cap) xs W) (j : Nat) (hj : j < n) :
    n = xs.length ∧ W.cell? ⟨g, j * 6, none⟩ = some (.string (rd_T58 xs (j : Int)).f0) ∧ W.cell? ⟨g, j * 6 + 2, none⟩ = some (.float .f32 (rd_T58 xs (j : Int)).f2) ∧ W.cell? ⟨g, j * 6 + 3, none⟩ = some (.float .f32 (rd_T58 xs (j : Int)).f3) ∧ W.cell? ⟨g, j * 6 + 4, none⟩ = some (.float .f32 (rd_T58 xs (j : Int)).f4) ∧ W.cell? ⟨g, j * 6 + 5, none⟩ = some (.float .f32 (rd_T58 xs (j : Int)).f5) ∧ (∀ m, W.frozen? ⟨g, j * 6 + m, none⟩ = false) := by
  obtain ⟨oki, c, hcl, hM, hcc, hfr, hoki, hH⟩ := Kd.S_elem h.row z58 (j : Int) (by omega) (by omega)
  rw [Int.toNat_natCast] at hM hcc hfr
  obtain ⟨v, rfl, hR⟩ := k58_openM hM
  exact ⟨(Kd.S_reads' h.row).1, hcc 0 _ rfl, hcc 2 _ rfl, hcc 3 _ rfl, hcc 4 _ rfl, hcc 5 _ rfl, fun m => hfr m⟩
theorem sd_put0 {w0 W0 W : World} {P : Nat → Prop} {g n cap : Nat} {xs : List SD} (h : SdRel w0 W0 P (.slice (some ⟨g, 0, none⟩) n cap) xs W) (j : Nat) (hj : j < n) (a : ByteArray) (x : SD) (hx : rd_T58 xs (j : Int) = x) :
    SdRel w0 W0 P (.slice (some ⟨g, 0, none⟩) n cap) (xs.set j (⟨a, x.f1, x.f2, x.f3, x.f4, x.f5⟩ : SD)) (W.setCell ⟨g, j * 6, none⟩ (.string a)) := by
  subst hx
  obtain ⟨oki, c, hcl, hM, hcc, hfr, hoki, hH⟩ := Kd.S_elem (Kd.S_mono (ok' := fun k => P k ∧ ¬ False) h.row (fun k hk => ⟨hk, id⟩)) z58 (j : Int) (by omega) (by omega)
  rw [Int.toNat_natCast] at hM hcc hfr
  obtain ⟨v, rfl, hR⟩ := k58_openM hM
  have hg : w0.heap.size ≤ g := Kd.S_base h.row g (by simp [Value.ownBlock])
  obtain ⟨hs, -⟩ := Kd.S_seg (okg := fun _ => False) hH (by omega) (by omega) (seg := [.string a]) (j := 0) (x' := ⟨a, (rd_T58 xs (j : Int)).f1, (rd_T58 xs (j : Int)).f2, (rd_T58 xs (j : Int)).f3, (rd_T58 xs (j : Int)).f4, (rd_T58 xs (j : Int)).f5⟩) (okp := oki) (by show 0 + 1 ≤ 6; decide) (k58_mkM W w0.heap.size oki ⟨a, (rd_T58 xs (j : Int)).f1, (rd_T58 xs (j : Int)).f2, (rd_T58 xs (j : Int)).f3, (rd_T58 xs (j : Int)).f4, (rd_T58 xs (j : Int)).f5⟩ hR) (fun k hk => .inl hk) (fun k hk => hk.elim)
  rw [Int.toNat_natCast] at hs
  exact ⟨hs, Below.setCell h.below (p := ⟨g, j * 6, none⟩) hg _, Kept.setCell h.kept (p := ⟨g, j * 6, none⟩) (.inl ((Kd.S_R h.row).1 g rfl)) _⟩
theorem sd_put2 {w0 W0 W : World} {P : Nat → Prop} {g n cap : Nat} {xs : List SD} (h : SdRel w0 W0 P (.slice (some ⟨g, 0, none⟩) n cap) xs W) (j : Nat) (hj : j < n) (a : Nat) (x : SD) (hx : rd_T58 xs (j : Int) = x) :
    SdRel w0 W0 P (.slice (some ⟨g, 0, none⟩) n cap) (xs.set j (⟨x.f0, x.f1, a, x.f3, x.f4, x.f5⟩ : SD)) (W.setCell ⟨g, j * 6 + 2, none⟩ (.float .f32 a)) := by
  subst hx
  obtain ⟨oki, c, hcl, hM, hcc, hfr, hoki, hH⟩ := Kd.S_elem (Kd.S_mono (ok' := fun k => P k ∧ ¬ False) h.row (fun k hk => ⟨hk, id⟩)) z58 (j : Int) (by omega) (by omega)
  rw [Int.toNat_natCast] at hM hcc hfr
  obtain ⟨v, rfl, hR⟩ := k58_openM hM
  have hg : w0.heap.size ≤ g := Kd.S_base h.row g (by simp [Value.ownBlock])
  obtain ⟨hs, -⟩ := Kd.S_seg (okg := fun _ => False) hH (by omega) (by omega) (seg := [.float .f32 a]) (j := 2) (x' := ⟨(rd_T58 xs (j : Int)).f0, (rd_T58 xs (j : Int)).f1, a, (rd_T58 xs (j : Int)).f3, (rd_T58 xs (j : Int)).f4, (rd_T58 xs (j : Int)).f5⟩) (okp := oki) (by show 2 + 1 ≤ 6; decide) (k58_mkM W w0.heap.size oki ⟨(rd_T58 xs (j : Int)).f0, (rd_T58 xs (j : Int)).f1, a, (rd_T58 xs (j : Int)).f3, (rd_T58 xs (j : Int)).f4, (rd_T58 xs (j : Int)).f5⟩ hR) (fun k hk => .inl hk) (fun k hk => hk.elim)
  rw [Int.toNat_natCast] at hs
  exact ⟨hs, Below.setCell h.below (p := ⟨g, j * 6 + 2, none⟩) hg _, Kept.setCell h.kept (p := ⟨g, j * 6 + 2, none⟩) (.inl ((Kd.S_R h.row).1 g rfl)) _⟩
theorem sd_put3 {w0 W0 W : World} {P : Nat → Prop} {g n cap : Nat} {xs : List SD} (h : SdRel w0 W0 P (.slice (some ⟨g, 0, none⟩) n cap) xs W) (j : Nat) (hj : j < n) (a : Nat) (x : SD) (hx : rd_T58 xs (j : Int) = x) :
    SdRel w0 W0 P (.slice (some ⟨g, 0, none⟩) n cap) (xs.set j (⟨x.f0, x.f1, x.f2, a, x.f4, x.f5⟩ : SD)) (W.setCell ⟨g, j * 6 + 3, none⟩ (.float .f32 a)) := by
  subst hx
  obtain ⟨oki, c, hcl, hM, hcc, hfr, hoki, hH⟩ := Kd.S_elem (Kd.S_mono (ok' := fun k => P k ∧ ¬ False) h.row (fun k hk => ⟨hk, id⟩)) z58 (j : Int) (by omega) (by omega)
  rw [Int.toNat_natCast] at hM hcc hfr
  obtain ⟨v, rfl, hR⟩ := k58_openM hM
  have hg : w0.heap.size ≤ g := Kd.S_base h.row g (by simp [Value.ownBlock])
  obtain ⟨hs, -⟩ := Kd.S_seg (okg := fun _ => False) hH (by omega) (by omega) (seg := [.float .f32 a]) (j := 3) (x' := ⟨(rd_T58 xs (j : Int)).f0, (rd_T58 xs (j : Int)).f1, (rd_T58 xs (j : Int)).f2, a, (rd_T58 xs (j : Int)).f4, (rd_T58 xs (j : Int)).f5⟩) (okp := oki) (by show 3 + 1 ≤ 6; decide) (k58_mkM W w0.heap.size oki ⟨(rd_T58 xs (j : Int)).f0, (rd_T58 xs (j : Int)).f1, (rd_T58 xs (j : Int)).f2, a, (rd_T58 xs (j : Int)).f4, (rd_T58 xs (j : Int)).f5⟩ hR) (fun k hk => .inl hk) (fun k hk => hk.elim)
  rw [Int.toNat_natCast] at hs
  exact ⟨hs, Below.setCell h.below (p := ⟨g, j * 6 + 3, none⟩) hg _, Kept.setCell h.kept (p := ⟨g, j * 6 + 3, none⟩) (.inl ((Kd.S_R h.row).1 g rfl)) _⟩
theorem sd_put4 {w0 W0 W : World} {P : Nat → Prop} {g n cap : Nat} {xs : List SD} (h : SdRel w0 W0 P (.slice (some ⟨g, 0, none⟩) n cap) xs W) (j : Nat) (hj : j < n) (a : Nat) (x : SD) (hx : rd_T58 xs (j : Int) = x) :
    SdRel w0 W0 P (.slice (some ⟨g, 0, none⟩) n cap) (xs.set j (⟨x.f0, x.f1, x.f2, x.f3, a, x.f5⟩ : SD)) (W.setCell ⟨g, j * 6 + 4, none⟩ (.float .f32 a)) := by
  subst hx
  obtain ⟨oki, c, hcl, hM, hcc, hfr, hoki, hH⟩ := Kd.S_elem (Kd.S_mono (ok' := fun k => P k ∧ ¬ False) h.row (fun k hk => ⟨hk, id⟩)) z58 (j : Int) (by omega) (by omega)
  rw [Int.toNat_natCast] at hM hcc hfr
  obtain ⟨v, rfl, hR⟩ := k58_openM hM
  have hg : w0.heap.size ≤ g := Kd.S_base h.row g (by simp [Value.ownBlock])
  obtain ⟨hs, -⟩ := Kd.S_seg (okg := fun _ => False) hH (by omega) (by omega) (seg := [.float .f32 a]) (j := 4) (x' := ⟨(rd_T58 xs (j : Int)).f0, (rd_T58 xs (j : Int)).f1, (rd_T58 xs (j : Int)).f2, (rd_T58 xs (j : Int)).f3, a, (rd_T58 xs (j : Int)).f5⟩) (okp := oki) (by show 4 + 1 ≤ 6; decide) (k58_mkM W w0.heap.size oki ⟨(rd_T58 xs (j : Int)).f0, (rd_T58 xs (j : Int)).f1, (rd_T58 xs (j : Int)).f2, (rd_T58 xs (j : Int)).f3, a, (rd_T58 xs (j : Int)).f5⟩ hR) (fun k hk => .inl hk) (fun k hk => hk.elim)
  rw [Int.toNat_natCast] at hs
  exact ⟨hs, Below.setCell h.below (p := ⟨g, j * 6 + 4, none⟩) hg _, Kept.setCell h.kept (p := ⟨g, j * 6 + 4, none⟩) (.inl ((Kd.S_R h.row).1 g rfl)) _⟩
theorem sd_put5 {w0 W0 W : World} {P : Nat → Prop} {g n cap : Nat} {xs : List SD} (h : SdRel w0 W0 P (.slice (some ⟨g, 0, none⟩) n cap) xs W) (j : Nat) (hj : j < n) (a : Nat) (x : SD) (hx : rd_T58 xs (j : Int) = x) :
    SdRel w0 W0 P (.slice (some ⟨g, 0, none⟩) n cap) (xs.set j (⟨x.f0, x.f1, x.f2, x.f3, x.f4, a⟩ : SD)) (W.setCell ⟨g, j * 6 + 5, none⟩ (.float .f32 a)) := by
  subst hx
  obtain ⟨oki, c, hcl, hM, hcc, hfr, hoki, hH⟩ := Kd.S_elem (Kd.S_mono (ok' := fun k => P k ∧ ¬ False) h.row (fun k hk => ⟨hk, id⟩)) z58 (j : Int) (by omega) (by omega)
  rw [Int.toNat_natCast] at hM hcc hfr
  obtain ⟨v, rfl, hR⟩ := k58_openM hM
  have hg : w0.heap.size ≤ g := Kd.S_base h.row g (by simp [Value.ownBlock])
  obtain ⟨hs, -⟩ := Kd.S_seg (okg := fun _ => False) hH (by omega) (by omega) (seg := [.float .f32 a]) (j := 5) (x' := ⟨(rd_T58 xs (j : Int)).f0, (rd_T58 xs (j : Int)).f1, (rd_T58 xs (j : Int)).f2, (rd_T58 xs (j : Int)).f3, (rd_T58 xs (j : Int)).f4, a⟩) (okp := oki) (by show 5 + 1 ≤ 6; decide) (k58_mkM W w0.heap.size oki ⟨(rd_T58 xs (j : Int)).f0, (rd_T58 xs (j : Int)).f1, (rd_T58 xs (j : Int)).f2, (rd_T58 xs (j : Int)).f3, (rd_T58 xs (j : Int)).f4, a⟩ hR) (fun k hk => .inl hk) (fun k hk => hk.elim)
  rw [Int.toNat_natCast] at hs
  exact ⟨hs, Below.setCell h.below (p := ⟨g, j * 6 + 5, none⟩) hg _, Kept.setCell h.kept (p := ⟨g, j * 6 + 5, none⟩) (.inl ((Kd.S_R h.row).1 g rfl)) _⟩
theorem sd_lend {w0 W0 W : World} {P : Nat → Prop} {g n cap : Nat} {xs : List SD} (h : SdRel w0 W0 P (.slice (some ⟨g, 0, none⟩) n cap) xs W) (j : Nat) (hj : j < n) (x : SD) (hx : rd_T58 xs (j : Int) = x) :
    ∃ (v : Value) (oki : Nat → Prop), W.cell? ⟨g, j * 6 + 1, none⟩ = some v ∧ Kd.R (Kd.float .f32) 30 W w0.heap.size oki v x.f1 ∧
      (∀ (W' : World) (ys : List Nat), Kd.R (Kd.float .f32) 30 W' w0.heap.size (fun k => oki k ∨ W.heap.size ≤ k) v ys → Below w0.heap.size w0 W' → Kept W W' oki → SdRel w0 W0 P (.slice (some ⟨g, 0, none⟩) n cap) (xs.set j (⟨x.f0, ys, x.f2, x.f3, x.f4, x.f5⟩ : SD)) W') := by
  subst hx
  obtain ⟨oki, c, hcl, hM, hcc, hoki, hH⟩ := Kd.S_lend h.row z58 (j : Int) (by omega) (by omega)
  rw [Int.toNat_natCast] at hM hcc
  obtain ⟨v, rfl, hR⟩ := k58_openM hM
  have e1 := hcc 1 _ rfl
  refine ⟨v, oki, e1, hR, fun W' ys hy hb hk => ⟨?_, hb, h.kept.then_ hk (fun k hk2 => .inl (hoki k hk2).1)⟩⟩
  have hH' := Kd.H_step (w1 := W') hH (fun k _ hn hlt => hk.2 k hlt hn)
  have hy' := Kd.R_mono (ok' := oki) (Kd.R_tight rfl hy) (fun k hk => hR.1 k hk.symm)
  have hs := Kd.H_back hH' (x' := ⟨(rd_T58 xs (j : Int)).f0, ys, (rd_T58 xs (j : Int)).f2, (rd_T58 xs (j : Int)).f3, (rd_T58 xs (j : Int)).f4, (rd_T58 xs (j : Int)).f5⟩) (okp := oki) (k58_mkM W' w0.heap.size oki ⟨(rd_T58 xs (j : Int)).f0, ys, (rd_T58 xs (j : Int)).f2, (rd_T58 xs (j : Int)).f3, (rd_T58 xs (j : Int)).f4, (rd_T58 xs (j : Int)).f5⟩ hy') (fun _ hk => hk)
  rw [Int.toNat_natCast] at hs
  exact hs
theorem sd_bel {w0 W0 W W' : World} {P : Nat → Prop} {u : Value} {xs : List SD} (h : SdRel w0 W0 P u xs W) (hb : Below W.heap.size W W') : SdRel w0 W0 P u xs W' := ⟨Kd.S_below h.row hb, h.below.trans (hb.mono h.below.size), h.kept.below hb⟩
set_option maxHeartbeats 16000000 in
set_option maxRecDepth 100000 in
theorem sd_mark (k : Nat) (P : Nat → Prop) (u : Value) (l0 : List SD) (a1 r1 : Int) (r2 : List SD) (w0 w : World) (hB : Below w0.heap.size w0 w) (ho : Kd.S k58 58 w w0.heap.size P u l0) (hl1 : l0.length ≤ 2000000) (h : sd0 k l0 a1 0 = some (r1, r2)) :
    Calls Tryd.prog 28 #[u, .int .i64 a1] w fun e w' => e = .returned (.int .i64 r1) ∧ Kd.S k58 58 w' w0.heap.size P u r2 ∧ Below w0.heap.size w0 w' ∧ Kept w w' P := by
  obtain ⟨A, c, rfl⟩ := Kd.S_slice ho
  have HR0 := Lib.hid (show SdRel w0 w P (.slice A l0.length c) l0 w from ⟨ho, hB, Kept.refl _ _⟩)
  have HH := Lib.hid h
  clear hB ho h
  go_enter Tryd.func28, Tryd.ntmps28
  go_wp2
  go_loopw [1, 5] (fun v1 v5 wr => ∃ (kq : Nat) (xs : List SD) (a : Int) (j : Nat), v1 = .int .i64 a ∧ v5 = .int .i64 j ∧ j ≤ l0.length ∧ xs.length = l0.length ∧ Hid (sd0 kq xs a (j : Int) = some (r1, r2)) ∧ SdRel w0 w P (.slice A l0.length c) xs wr) (fun _ v5 _ => l0.length - (intOf v5).toNat)
  case atStart => exact ⟨k, l0, a1, 0, rfl, rfl, Nat.zero_le _, rfl, HH, HR0.out⟩
  case round =>
    obtain ⟨kq, xs, a, j, rfl, rfl, hj, hlen, HD, hrl⟩ := hrel
    have HL := Lib.hid hrl
    clear hrl
    have hD := HD.out
    cases kq with
    | zero => simp [sd0] at hD
    | succ kq =>
      rw [sd0] at hD
      by_cases hlt : j < l0.length
      · obtain ⟨g, capg, eA, hg⟩ := Kd.R_form (Kd.S_R HL.out.row) (by omega)
        injection eA with eA1 eA2 eA3
        clear eA2
        subst eA1 eA3
        rw [if_pos (by omega)] at hD
        obtain ⟨s, hs, hD⟩ := Option.bind_eq_some_iff.mp hD
        obtain ⟨⟨t1, t2⟩, ht, hD⟩ := Option.bind_eq_some_iff.mp hD
        rw [Int.toNat_natCast] at hD
        obtain ⟨x, hx⟩ : ∃ x, rd_T58 xs (j : Int) = x := ⟨_, rfl⟩
        rw [hx] at ht
        have hjx : j < xs.length := by omega
        have HT := Lib.hid (fun W => laws_markText.calls kq a s W hs)
        have HM := Lib.hid (fun oki v W hB hR => laws_markFloat32S.calls kq oki v x.f1 (wrap64 (a + 1)) t1 t2 w0 W hB hR ht)
        have HD2 := Lib.hid hD
        have HLen := Lib.hid hlen
        have HX := Lib.hid hx
        have HJX := Lib.hid hjx
        clear hD hs ht hg HD hlen hx hjx
        go_wp2_with (first
          | (go_at_call 52; (with_reducible refine (HT.out _).mono ?_); rintro e w2 ⟨rfl, hb2⟩
             have hL2 := sd_bel HL.out hb2
             obtain ⟨-, e0, -, -, -, -, hf⟩ := sd_facts hL2 j hlt
             have f0 : w2.frozen? ⟨g, j * 6, none⟩ = false := hf 0
             have hP := sd_put0 hL2 j hlt s x HX.out
             obtain ⟨v, oki, e1, hR, hback⟩ := sd_lend hP j hlt _ (rdD_set HJX.out _)
             have HM2 := Lib.hid (HM.out oki v _ hP.below hR)
             have HBk := Lib.hid hback
             clear hL2 hf hP hR hback hb2)
          | (go_at_call 45; (with_reducible refine HM2.out.mono ?_); rintro e w3 ⟨rfl, hr3, hb3, hk3⟩
             have hN := HBk.out w3 t2 hr3 hb3 hk3
             obtain ⟨-, -, e2, e3, e4, e5, hf⟩ := sd_facts hN j hlt
             have f2 := hf 2
             have f3 := hf 3
             have f4 := hf 4
             have f5 := hf 5
             have HN := Lib.hid hN
             clear hN hf hr3 hb3 hk3))
        have e1 : wrap64 ((j : Int) + 1) = ((j + 1 : Nat) : Int) := by unfold wrap64; omega
        have hD3 := HD2.out
        rw [e1] at hD3
        have hN2 := sd_put2 HN.out j hlt (flA t1) _ (rdD_set (by rw [List.length_set]; exact HJX.out) _)
        have hN3 := sd_put3 hN2 j hlt (flA (wrap64 (t1 + 1))) _ (rdD_set (by rw [List.length_set, List.length_set]; exact HJX.out) _)
        have hN4 := sd_put4 hN3 j hlt (flA (wrap64 (wrap64 (t1 + 1) + 1))) _ (rdD_set (by rw [List.length_set, List.length_set, List.length_set]; exact HJX.out) _)
        have hN5 := sd_put5 hN4 j hlt (flA (wrap64 (wrap64 (wrap64 (t1 + 1) + 1) + 1))) _ (rdD_set (by rw [List.length_set, List.length_set, List.length_set, List.length_set]; exact HJX.out) _)
        simp only [List.set_set] at hN5
        exact ⟨⟨kq, _, _, j + 1, rfl, by go_num, hlt, by rw [List.length_set]; exact HLen.out, Lib.hid hD3, hN5⟩, by simp [intOf]; omega⟩
      · rw [if_neg (by omega)] at hD
        injection hD with hD
        injection hD with h1 h2
        subst h1 h2
        go_wp2
        go_ret
        exact ⟨rfl, HL.out.row, HL.out.below, HL.out.kept⟩
end Go.Proofs.YtdfpfiecpcgffaaDoor.Sdm
