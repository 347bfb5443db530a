import Derived.Test.YtoiaojdkgagblaaSaPure
import Derived.Test.YtoiaojdkgagblaaDs
import Derived.Test.YtoiaojdkgagblaaOf
set_option linter.unusedVariables false
set_option linter.unusedSimpArgs false
namespace Go.Proofs.Ytoiaojdkgagblaa.Sdl
open Go.RowKit Go.Proofs.YtoiaojdkgagblaaW.PrintWords Go.Proofs.YtoiaojdkgagblaaW.PrintLast Go.Proofs.YtoiaojdkgagblaaW.PrintMore Go.Proofs.YtoiaojdkgagblaaW.PrintFl Go.Proofs.Ytoiaojdkgagblaa Go.Proofs.Ytoiaojdkgagblaa.PFnExactSameDesk Go.Proofs.Ytoiaojdkgagblaa.Lm Go.Proofs.Ytoiaojdkgagblaa.SaPure Go.ChangeShapes Go.WideShapes
abbrev kL : Kd S135 := k135
abbrev kI : Kd S138 := k138
theorem sz_at (k : Nat) (d : De) (L : List S135) (p : Pl) (a z : Int) (w : World) (h : DR kL w d L p) (hz : laws_szDesk.f k d.l0 d.a1 d.a2 d.a3 d.a4 d.a5 d.a6 d.a7 d.a8 d.l9 d.a10 L a = some z) : ∀ W, Below w.heap.size w W → Calls Try.prog 54 #[.agg #[.slice p.A0 d.l0.length p.c0, .float .f32 d.a1, .float .f32 d.a2, .float .f32 d.a3, .float .f32 d.a4, .float .f32 d.a5, .float .f32 d.a6, .float .f32 d.a7, .float .f32 d.a8, .slice p.A9 d.l9.length p.c9, .float .f32 d.a10, .slice p.A11 L.length p.c11], .int .i64 a] W fun e w' => e = .returned (.int .i64 z) ∧ Below W.heap.size W w' := fun W hW =>
  laws_szDesk.calls k p.A0 p.c0 d.l0 d.a1 d.a2 d.a3 d.a4 d.a5 d.a6 d.a7 d.a8 p.A9 p.c9 d.l9 d.a10 p.A11 p.c11 L a z W (h.to hW).r0 h.h0 (h.to hW).r9 h.h9 (h.to hW).r11 h.h11 hz
theorem toD_at (k : Nat) (d : De) (L : List S135) (I : List S138) (p : Pl) (w : World) (h : DR kL w d L p) (hz : laws_toDesk.f k d.l0 d.a1 d.a2 d.a3 d.a4 d.a5 d.a6 d.a7 d.a8 d.l9 d.a10 L = some (d.l0, d.a1, d.a2, d.a3, d.a4, d.a5, d.a6, d.a7, d.a8, d.l9, d.a10, I)) : ∀ W, Below w.heap.size w W → Calls Try.prog 56 #[.agg #[.slice p.A0 d.l0.length p.c0, .float .f32 d.a1, .float .f32 d.a2, .float .f32 d.a3, .float .f32 d.a4, .float .f32 d.a5, .float .f32 d.a6, .float .f32 d.a7, .float .f32 d.a8, .slice p.A9 d.l9.length p.c9, .float .f32 d.a10, .slice p.A11 L.length p.c11]] W fun e w' => ∃ q : Pl, e = .returned (.agg #[.slice q.A0 d.l0.length q.c0, .float .f32 d.a1, .float .f32 d.a2, .float .f32 d.a3, .float .f32 d.a4, .float .f32 d.a5, .float .f32 d.a6, .float .f32 d.a7, .float .f32 d.a8, .slice q.A9 d.l9.length q.c9, .float .f32 d.a10, .slice q.A11 I.length q.c11]) ∧ DR kI w' d I q ∧ Below W.heap.size W w' := by
  intro W hW
  refine (laws_toDesk.calls k p.A0 p.c0 d.l0 d.a1 d.a2 d.a3 d.a4 d.a5 d.a6 d.a7 d.a8 p.A9 p.c9 d.l9 d.a10 p.A11 p.c11 L _ _ _ _ _ _ _ _ _ _ _ _ W (h.to hW).r0 h.h0 (h.to hW).r9 h.h9 (h.to hW).r11 h.h11 hz).mono ?_
  rintro e w' ⟨v0, v9, v11, rfl, h0, h9, h11, hb⟩
  obtain ⟨A0, c0, rfl⟩ := Kd.R_slice h0
  obtain ⟨A9, c9, rfl⟩ := Kd.R_slice h9
  obtain ⟨A11, c11, rfl⟩ := Kd.S_slice h11
  exact ⟨⟨A0, c0, A9, c9, A11, c11⟩, rfl, ⟨(Kd.R_reads' h0).2.2, (Kd.R_reads' h0).2.1, (Kd.R_reads' h9).2.2, (Kd.R_reads' h9).2.1, (Kd.S_reads' h11).2.2, (Kd.S_reads' h11).2.1⟩, hb⟩
theorem eqD_at (k : Nat) (d : De) (I : List S138) (hz : laws_eqDesk.f k d.l0 d.a1 d.a2 d.a3 d.a4 d.a5 d.a6 d.a7 d.a8 d.l9 d.a10 I d.l0 d.a1 d.a2 d.a3 d.a4 d.a5 d.a6 d.a7 d.a8 d.l9 d.a10 I = some true) : ∀ W q r, DR kI W d I q → DR kI W d I r → Calls Try.prog 49 #[.agg #[.slice q.A0 d.l0.length q.c0, .float .f32 d.a1, .float .f32 d.a2, .float .f32 d.a3, .float .f32 d.a4, .float .f32 d.a5, .float .f32 d.a6, .float .f32 d.a7, .float .f32 d.a8, .slice q.A9 d.l9.length q.c9, .float .f32 d.a10, .slice q.A11 I.length q.c11], .agg #[.slice r.A0 d.l0.length r.c0, .float .f32 d.a1, .float .f32 d.a2, .float .f32 d.a3, .float .f32 d.a4, .float .f32 d.a5, .float .f32 d.a6, .float .f32 d.a7, .float .f32 d.a8, .slice r.A9 d.l9.length r.c9, .float .f32 d.a10, .slice r.A11 I.length r.c11]] W fun e w' => e = .returned (.bool true) ∧ Below W.heap.size W w' := fun W q r hq hr =>
  laws_eqDesk.calls k q.A0 q.c0 d.l0 d.a1 d.a2 d.a3 d.a4 d.a5 d.a6 d.a7 d.a8 q.A9 q.c9 d.l9 d.a10 q.A11 q.c11 I r.A0 r.c0 d.l0 d.a1 d.a2 d.a3 d.a4 d.a5 d.a6 d.a7 d.a8 r.A9 r.c9 d.l9 d.a10 r.A11 r.c11 I true W hq.r0 hq.h0 hq.r9 hq.h9 hq.r11 hq.h11 hr.r0 hr.h0 hr.r9 hr.h9 hr.r11 hr.h11 hz
theorem drawn_below {w w' : World} (h : Drawn0 w w') : Below w.heap.size w w' := by
  obtain ⟨n, rfl⟩ := h
  exact pw_below_drewN (Below.refl _ _) n
structure okD (d : De) : Prop where
  n0 : d.l0.length ≤ 9223372036854775807
  x0 : ∀ y ∈ d.l0, y < 4294967296
  b1 : d.a1 < 4294967296
  b2 : d.a2 < 4294967296
  b3 : d.a3 < 4294967296
  b4 : d.a4 < 4294967296
  b5 : d.a5 < 4294967296
  b6 : d.a6 < 4294967296
  b7 : d.a7 < 4294967296
  b8 : d.a8 < 4294967296
  b10 : d.a10 < 4294967296
  n9 : d.l9.length ≤ 9223372036854775807
  x9 : ∀ y ∈ d.l9, y < 4294967296
theorem toDesk_some (k : Nat) (hk : 2100000 ≤ k) (d : De) (h0 : d.l0.length ≤ 1048576) (h9 : d.l9.length ≤ 1048576) (L : List LS) (hl : L.length ≤ 1048576) (hz : ∀ x ∈ L, x.f1.length ≤ 1048576) : laws_toDesk.f k d.l0 d.a1 d.a2 d.a3 d.a4 d.a5 d.a6 d.a7 d.a8 d.l9 d.a10 L = some (d.l0, d.a1, d.a2, d.a3, d.a4, d.a5, d.a6, d.a7, d.a8, d.l9, d.a10, L.map cv1) := by
  unfold laws_toDesk.f laws_toTube.f laws_toThroat.f laws_toPredictor.f
  rw [toF_some d.l0 h0 k (by omega), toF_some d.l9 h9 k (by omega), toS_some L hl hz k hk]
  rfl
theorem eqDesk_some (k : Nat) (hk : 1048600 ≤ k) (d : De) (hd : okD d) (h0 : d.l0.length ≤ 1048576) (h9 : d.l9.length ≤ 1048576) (I : List IS) (hl : I.length ≤ 1048576) (hx : ∀ x ∈ I, okI x) : laws_eqDesk.f k d.l0 d.a1 d.a2 d.a3 d.a4 d.a5 d.a6 d.a7 d.a8 d.l9 d.a10 I d.l0 d.a1 d.a2 d.a3 d.a4 d.a5 d.a6 d.a7 d.a8 d.l9 d.a10 I = some true := by
  unfold laws_eqDesk.f laws_eqTube.f laws_eqThroat.f laws_eqPredictor.f
  rw [if_pos ⟨rfl, rfl, rfl, rfl, h0, hd.x0, hd.b1, hd.b2, hd.b3⟩, if_pos ⟨rfl, rfl, rfl, rfl, rfl, hd.b4, hd.b5, hd.b6, hd.b7, hd.b8⟩, if_pos ⟨rfl, rfl, h9, hd.x9, hd.b10⟩, eqS_some I hl hx k hk]
  rfl
theorem spec2_at (k : Nat) (d e : De) (I J : List S138) (t1 t2 t3 t4 : Bool) (e1 : spec_l02Same.f k [⟨d.l0, d.a1, d.a2, d.a3⟩] [⟨e.l0, e.a1, e.a2, e.a3⟩] = some t1) (e2 : spec_SameThroat.f d.a4 d.a5 d.a6 d.a7 d.a8 e.a4 e.a5 e.a6 e.a7 e.a8 = some t2) (e3 : spec_l04Same.f k [⟨d.l9, d.a10⟩] [⟨e.l9, e.a10⟩] = some t3) (e4 : spec_l06Same.f k I J = some t4) :
    ∀ W r s, DR kI W d I r → DR kI W e J s → Calls Try.prog 55 #[.agg #[.slice r.A0 d.l0.length r.c0, .float .f32 d.a1, .float .f32 d.a2, .float .f32 d.a3, .float .f32 d.a4, .float .f32 d.a5, .float .f32 d.a6, .float .f32 d.a7, .float .f32 d.a8, .slice r.A9 d.l9.length r.c9, .float .f32 d.a10, .slice r.A11 I.length r.c11], .agg #[.slice s.A0 e.l0.length s.c0, .float .f32 e.a1, .float .f32 e.a2, .float .f32 e.a3, .float .f32 e.a4, .float .f32 e.a5, .float .f32 e.a6, .float .f32 e.a7, .float .f32 e.a8, .slice s.A9 e.l9.length s.c9, .float .f32 e.a10, .slice s.A11 J.length s.c11]] W fun e w' => e = .returned (.bool (t1 && (t2 && (t3 && t4)))) ∧ Below W.heap.size W w' := by
  intro W r s hr hs
  refine specSd_walk d I.length r e J.length s t1 t2 t3 t4 W (fun W1 ga gb hb ha hc => ?_) (fun W1 _ => ?_) (fun W1 ga gb hb ha hc => ?_) (fun W1 hb => ?_)
  · exact spec_l02Same.calls k (some ⟨ga, 0, none⟩) [⟨d.l0, d.a1, d.a2, d.a3⟩] (some ⟨gb, 0, none⟩) [⟨e.l0, e.a1, e.a2, e.a3⟩] t1 W1 (Kd.C_one_at (off := 0) ha (k72_mk W1 ⟨d.l0, d.a1, d.a2, d.a3⟩ hr.h0 (hr.to hb).r0) (fun i u hu => by
    match i, hu with
    | 0, hu => exact hu
    | 1, hu => exact hu
    | 2, hu => exact hu
    | 3, hu => exact hu
    | i + 4, hu => simp at hu)) (Kd.C_one_at (off := 0) hc (k72_mk W1 ⟨e.l0, e.a1, e.a2, e.a3⟩ hs.h0 (hs.to hb).r0) (fun i u hu => by
    match i, hu with
    | 0, hu => exact hu
    | 1, hu => exact hu
    | 2, hu => exact hu
    | 3, hu => exact hu
    | i + 4, hu => simp at hu)) e1
  · exact spec_SameThroat.calls d.a4 d.a5 d.a6 d.a7 d.a8 e.a4 e.a5 e.a6 e.a7 e.a8 t2 W1 e2
  · refine (spec_l04Same.calls k (some ⟨ga, 9, none⟩) [⟨d.l9, d.a10⟩] (some ⟨gb, 9, none⟩) [⟨e.l9, e.a10⟩] t3 W1 (Kd.C_one_at (off := 9) ha (k76_mk W1 ⟨d.l9, d.a10⟩ hr.h9 (hr.to hb).r9) (fun i u hu => by
    match i, hu with
    | 0, hu => exact hu
    | 1, hu => exact hu
    | i + 2, hu => simp at hu)) (Kd.C_one_at (off := 9) hc (k76_mk W1 ⟨e.l9, e.a10⟩ hs.h9 (hs.to hb).r9) (fun i u hu => by
    match i, hu with
    | 0, hu => exact hu
    | 1, hu => exact hu
    | i + 2, hu => simp at hu)) e3).mono ?_
    rintro e' w' ⟨he, hw⟩
    exact ⟨he, drawn_below hw⟩
  · refine (spec_l06Same.calls k r.A11 r.c11 I s.A11 s.c11 J t4 W1 (hr.to hb).r11 hr.h11 (hs.to hb).r11 hs.h11 e4).mono ?_
    rintro e' w' ⟨he, hw⟩
    exact ⟨he, drawn_below hw⟩
theorem impl2_at (k : Nat) (d e : De) (I J : List S138) (t1 t2 t3 t4 : Bool) (e1 : impl_SameTube.f k d.l0 d.a1 d.a2 d.a3 e.l0 e.a1 e.a2 e.a3 = some t1) (e2 : impl_SameThroat.f k d.a4 d.a5 d.a6 d.a7 d.a8 e.a4 e.a5 e.a6 e.a7 e.a8 = some t2) (e3 : impl_SamePredictor.f k d.l9 d.a10 e.l9 e.a10 = some t3) (e4 : impl_SameSounds.f k I J = some t4) :
    ∀ W r s, DR kI W d I r → DR kI W e J s → Calls Try.prog 57 #[.agg #[.slice r.A0 d.l0.length r.c0, .float .f32 d.a1, .float .f32 d.a2, .float .f32 d.a3, .float .f32 d.a4, .float .f32 d.a5, .float .f32 d.a6, .float .f32 d.a7, .float .f32 d.a8, .slice r.A9 d.l9.length r.c9, .float .f32 d.a10, .slice r.A11 I.length r.c11], .agg #[.slice s.A0 e.l0.length s.c0, .float .f32 e.a1, .float .f32 e.a2, .float .f32 e.a3, .float .f32 e.a4, .float .f32 e.a5, .float .f32 e.a6, .float .f32 e.a7, .float .f32 e.a8, .slice s.A9 e.l9.length s.c9, .float .f32 e.a10, .slice s.A11 J.length s.c11]] W fun e w' => e = .returned (.bool (t1 && (t2 && (t3 && t4)))) ∧ Below W.heap.size W w' := fun W r s hr hs =>
  implSd_walk d I.length r e J.length s t1 t2 t3 t4 W
    (fun W1 h1 => impl_SameTube.calls k r.A0 r.c0 d.l0 d.a1 d.a2 d.a3 s.A0 s.c0 e.l0 e.a1 e.a2 e.a3 t1 W1 (hr.to h1).r0 hr.h0 (hs.to h1).r0 hs.h0 e1)
    (fun W1 h1 => impl_SameThroat.calls k d.a4 d.a5 d.a6 d.a7 d.a8 e.a4 e.a5 e.a6 e.a7 e.a8 t2 W1 e2)
    (fun W1 h1 => impl_SamePredictor.calls k r.A9 r.c9 d.l9 d.a10 s.A9 s.c9 e.l9 e.a10 t3 W1 (hr.to h1).r9 hr.h9 (hs.to h1).r9 hs.h9 e3)
    (fun W1 h1 => impl_SameSounds.calls k r.A11 r.c11 I s.A11 s.c11 J t4 W1 (hr.to h1).r11 hr.h11 (hs.to h1).r11 hs.h11 e4)
theorem law_all (d e : De) (L M : List LS) (p q : Pl) (w : World) (h : DR kL w d L p) (h' : DR kL w e M q) (hd : okD d) (hd' : okD e) (hl : L.length ≤ 9223372036854775807) (hx : ∀ x ∈ L, okS x) (hl' : M.length ≤ 9223372036854775807) (hx' : ∀ x ∈ M, okS x) :
    Calls Try.prog 10 #[.agg #[.slice p.A0 d.l0.length p.c0, .float .f32 d.a1, .float .f32 d.a2, .float .f32 d.a3, .float .f32 d.a4, .float .f32 d.a5, .float .f32 d.a6, .float .f32 d.a7, .float .f32 d.a8, .slice p.A9 d.l9.length p.c9, .float .f32 d.a10, .slice p.A11 L.length p.c11], .agg #[.slice q.A0 e.l0.length q.c0, .float .f32 e.a1, .float .f32 e.a2, .float .f32 e.a3, .float .f32 e.a4, .float .f32 e.a5, .float .f32 e.a6, .float .f32 e.a7, .float .f32 e.a8, .slice q.A9 e.l9.length q.c9, .float .f32 e.a10, .slice q.A11 M.length q.c11]] w fun e w' => e = .returned (.bool true) ∧ Below w.heap.size w w' := by
  obtain ⟨z, h1, h2⟩ := szDesk_some d.l0 d.a1 d.a2 d.a3 d.a4 d.a5 d.a6 d.a7 d.a8 d.l9 d.a10 L hd.n0 hd.n9 hl hx 6000000 (by decide) 1048576 (by decide) (by decide)
  have hs := sz_at 6000000 d L p 1048576 z w h h1
  by_cases c : z < 0
  · exact sd_far1 d L.length p e M.length q z w c hs
  obtain ⟨bz0, b0, b9, bl, bz⟩ := h2.resolve_left c
  obtain ⟨z2, h3, h4⟩ := szDesk_some e.l0 e.a1 e.a2 e.a3 e.a4 e.a5 e.a6 e.a7 e.a8 e.l9 e.a10 M hd'.n0 hd'.n9 hl' hx' 6000000 (by decide) z bz0.1 bz0.2
  have hs2 := sz_at 6000000 e M q z z2 w h' h3
  by_cases c2 : z2 < 0
  · exact sd_far2 d L.length p e M.length q z z2 w c c2 hs hs2
  obtain ⟨-, b0', b9', bl', bz'⟩ := h4.resolve_left c2
  have hI : ∀ x ∈ L.map cv1, okI x := by
    intro x hx2
    obtain ⟨y, hy, rfl⟩ := List.mem_map.1 hx2
    exact okI_cv y (hx y hy) (bz y hy)
  have hJ : ∀ x ∈ M.map cv1, okI x := by
    intro x hx2
    obtain ⟨y, hy, rfl⟩ := List.mem_map.1 hx2
    exact okI_cv y (hx' y hy) (bz' y hy)
  have hL : (L.map cv1).length ≤ 1048576 := by rw [List.length_map]; exact bl
  have hM : (M.map cv1).length ≤ 1048576 := by rw [List.length_map]; exact bl'
  obtain ⟨t1, s1, i1⟩ := tube_same d.l0 e.l0 d.a1 d.a2 d.a3 e.a1 e.a2 e.a3 b0 hd.x0 hd'.x0 hd.b1 hd.b2 hd.b3 hd'.b1 hd'.b2 hd'.b3 6000000 (by decide)
  obtain ⟨t2, s2, i2⟩ := throat_same d.a4 d.a5 d.a6 d.a7 d.a8 e.a4 e.a5 e.a6 e.a7 e.a8 hd.b4 hd.b5 hd.b6 hd.b7 hd.b8 hd'.b4 hd'.b5 hd'.b6 hd'.b7 hd'.b8 6000000 (by decide)
  obtain ⟨t3, s3, i3⟩ := pred_same d.l9 e.l9 d.a10 e.a10 b9 hd.x9 hd'.x9 hd.b10 hd'.b10 6000000 (by decide)
  obtain ⟨t4, s4, i4⟩ := sounds_same (L.map cv1) (M.map cv1) hL hI hJ 6000000 (by decide)
  exact sd_calls d L.length p e M.length q (L.map cv1) (M.map cv1) z z2 (t1 && (t2 && (t3 && t4))) w c c2 hs hs2 (toD_at 6000000 d L (L.map cv1) p w h (toDesk_some 6000000 (by decide) d b0 b9 L bl (fun x hx2 => (bz x hx2).2))) (toD_at 6000000 e M (M.map cv1) q w h' (toDesk_some 6000000 (by decide) e b0' b9' M bl' (fun x hx2 => (bz' x hx2).2)))
    (spec2_at 6000000 d e (L.map cv1) (M.map cv1) t1 t2 t3 t4 s1 s2 s3 s4) (impl2_at 6000000 d e (L.map cv1) (M.map cv1) t1 t2 t3 t4 i1 i2 i3 i4)
    (eqD_at 6000000 d (L.map cv1) (eqDesk_some 6000000 (by decide) d hd b0 b9 (L.map cv1) hL hI)) (eqD_at 6000000 e (M.map cv1) (eqDesk_some 6000000 (by decide) e hd' b0' b9' (M.map cv1) hM hJ))
theorem opens_soundS : Opens Try.prog 135 k135 okS :=
  opens_imp (opens_struct (P := Try.prog) (fun x : S135 => (x.f0, x.f1, x.f2, x.f3, x.f4, x.f5)) (fun x => ⟨x.1, x.2.1, x.2.2.1, x.2.2.2.1, x.2.2.2.2.1, x.2.2.2.2.2⟩) (fun _ => rfl) Try.underlying135 rfl (N := 6) (by kernel_rfl)
    (opensF_cons rfl (off' := 1) (by kernel_rfl) (opens_str Try.underlying9) (opensF_cons rfl (off' := 2) (by kernel_rfl) (opens_slice (B := 4) _ Try.underlying26 (by kernel_rfl) (by kernel_rfl) (opens_raw Try.underlying36))
      (opensF_cons rfl (off' := 3) (by kernel_rfl) (opens_raw Try.underlying36) (opensF_cons rfl (off' := 4) (by kernel_rfl) (opens_raw Try.underlying36) (opensF_cons rfl (off' := 5) (by kernel_rfl) (opens_raw Try.underlying36) (opensF_last rfl (by kernel_rfl) (opens_raw Try.underlying36))))))))
    (fun x h => ⟨h.1, ⟨h.2.1.1, h.2.1.2.2⟩, h.2.2.1, h.2.2.2.1, h.2.2.2.2.1, h.2.2.2.2.2⟩)
theorem opens_sounds : Opens Try.prog 62 (Kd.slice 135 k135) (fun l => l.length ≤ 9223372036854775807 ∧ l.length * 56 ≤ 140737488351232 ∧ ∀ x ∈ l, okS x) :=
  opens_slice _ Try.underlying62 (by kernel_rfl) (by kernel_rfl) opens_soundS
abbrev tubeKd : Kd (List Nat × Nat × Nat × Nat) := Kd.iso (Kd.pair (Kd.slice 36 (Kd.float .f32)) (Kd.pair (Kd.float .f32) (Kd.pair (Kd.float .f32) (Kd.float .f32)))) (fun x : List Nat × Nat × Nat × Nat => x)
abbrev tubeOk (x : List Nat × Nat × Nat × Nat) : Prop := (x.1.length ≤ 9223372036854775807 ∧ ∀ y ∈ x.1, y < 4294967296) ∧ x.2.1 < 4294967296 ∧ x.2.2.1 < 4294967296 ∧ x.2.2.2 < 4294967296
theorem opens_tube : Opens Try.prog 85 tubeKd tubeOk :=
  opens_imp (opens_struct (P := Try.prog) (fun x : List Nat × Nat × Nat × Nat => x) (fun x => x) (fun _ => rfl) Try.underlying85 rfl (N := 4) (by kernel_rfl)
    (opensF_cons rfl (off' := 1) (by kernel_rfl) (opens_slice (B := 4) _ Try.underlying26 (by kernel_rfl) (by kernel_rfl) (opens_raw Try.underlying36))
      (opensF_cons rfl (off' := 2) (by kernel_rfl) (opens_raw Try.underlying36) (opensF_cons rfl (off' := 3) (by kernel_rfl) (opens_raw Try.underlying36) (opensF_last rfl (by kernel_rfl) (opens_raw Try.underlying36))))))
    (fun x h => ⟨⟨h.1.1, h.1.2.2⟩, h.2.1, h.2.2.1, h.2.2.2⟩)
abbrev throatKd : Kd (Nat × Nat × Nat × Nat × Nat) := Kd.iso (Kd.pair (Kd.float .f32) (Kd.pair (Kd.float .f32) (Kd.pair (Kd.float .f32) (Kd.pair (Kd.float .f32) (Kd.float .f32))))) (fun x : Nat × Nat × Nat × Nat × Nat => x)
abbrev throatOk (x : Nat × Nat × Nat × Nat × Nat) : Prop := x.1 < 4294967296 ∧ x.2.1 < 4294967296 ∧ x.2.2.1 < 4294967296 ∧ x.2.2.2.1 < 4294967296 ∧ x.2.2.2.2 < 4294967296
theorem opens_throat : Opens Try.prog 86 throatKd throatOk :=
  opens_imp (opens_struct (P := Try.prog) (fun x : Nat × Nat × Nat × Nat × Nat => x) (fun x => x) (fun _ => rfl) Try.underlying86 rfl (N := 5) (by kernel_rfl)
    (opensF_cons rfl (off' := 1) (by kernel_rfl) (opens_raw Try.underlying36) (opensF_cons rfl (off' := 2) (by kernel_rfl) (opens_raw Try.underlying36)
      (opensF_cons rfl (off' := 3) (by kernel_rfl) (opens_raw Try.underlying36) (opensF_cons rfl (off' := 4) (by kernel_rfl) (opens_raw Try.underlying36) (opensF_last rfl (by kernel_rfl) (opens_raw Try.underlying36)))))))
    (fun x h => h)
abbrev predKd : Kd (List Nat × Nat) := Kd.iso (Kd.pair (Kd.slice 36 (Kd.float .f32)) (Kd.float .f32)) (fun x : List Nat × Nat => x)
abbrev predOk (x : List Nat × Nat) : Prop := (x.1.length ≤ 9223372036854775807 ∧ ∀ y ∈ x.1, y < 4294967296) ∧ x.2 < 4294967296
theorem opens_pred : Opens Try.prog 87 predKd predOk :=
  opens_imp (opens_struct (P := Try.prog) (fun x : List Nat × Nat => x) (fun x => x) (fun _ => rfl) Try.underlying87 rfl (N := 2) (by kernel_rfl)
    (opensF_cons rfl (off' := 1) (by kernel_rfl) (opens_slice (B := 4) _ Try.underlying26 (by kernel_rfl) (by kernel_rfl) (opens_raw Try.underlying36)) (opensF_last rfl (by kernel_rfl) (opens_raw Try.underlying36))))
    (fun x h => ⟨⟨h.1.1, h.1.2.2⟩, h.2⟩)
abbrev DT := (List Nat × Nat × Nat × Nat) × (Nat × Nat × Nat × Nat × Nat) × (List Nat × Nat) × List S135
abbrev deskKd : Kd DT := Kd.iso (Kd.pair tubeKd (Kd.pair throatKd (Kd.pair predKd (Kd.slice 135 k135)))) (fun x : DT => x)
abbrev deskOk (x : DT) : Prop := tubeOk x.1 ∧ throatOk x.2.1 ∧ predOk x.2.2.1 ∧ x.2.2.2.length ≤ 9223372036854775807 ∧ ∀ y ∈ x.2.2.2, okS y
theorem opens_desk : Opens Try.prog 89 deskKd deskOk :=
  opens_imp (opens_struct (P := Try.prog) (fun x : DT => x) (fun x => x) (fun _ => rfl) Try.underlying89 rfl (N := 12) (by kernel_rfl)
    (opensF_cons rfl (off' := 4) (by kernel_rfl) opens_tube (opensF_cons rfl (off' := 9) (by kernel_rfl) opens_throat (opensF_cons rfl (off' := 11) (by kernel_rfl) opens_pred (opensF_last rfl (by kernel_rfl) opens_sounds)))))
    (fun x h => ⟨h.1, h.2.1, h.2.2.1, h.2.2.2.1, h.2.2.2.2.2⟩)
def deOf (y : DT) : De := ⟨y.1.1, y.1.2.1, y.1.2.2.1, y.1.2.2.2, y.2.1.1, y.2.1.2.1, y.2.1.2.2.1, y.2.1.2.2.2.1, y.2.1.2.2.2.2, y.2.2.1.1, y.2.2.1.2⟩
theorem okD_of {y : DT} (z : deskOk y) : okD (deOf y) := ⟨z.1.1.1, z.1.1.2, z.1.2.1, z.1.2.2.1, z.1.2.2.2, z.2.1.1, z.2.1.2.1, z.2.1.2.2.1, z.2.1.2.2.2.1, z.2.1.2.2.2.2, z.2.2.1.2, z.2.2.1.1.1, z.2.2.1.1.2⟩
theorem desk_open {cs : Array Value} {y : DT} {w : World} (hk : deskKd.K w y cs.toList) : ∃ p : Pl, cs = #[.slice p.A0 (deOf y).l0.length p.c0, .float .f32 (deOf y).a1, .float .f32 (deOf y).a2, .float .f32 (deOf y).a3, .float .f32 (deOf y).a4, .float .f32 (deOf y).a5, .float .f32 (deOf y).a6, .float .f32 (deOf y).a7, .float .f32 (deOf y).a8, .slice p.A9 (deOf y).l9.length p.c9, .float .f32 (deOf y).a10, .slice p.A11 y.2.2.2.length p.c11] ∧ DR kL w (deOf y) y.2.2.2 p := by
  obtain ⟨_, _, e0, ⟨_, _, rfl, ⟨A0, c0, rfl, hl0, hr0⟩, _, _, rfl, rfl, _, _, rfl, rfl, rfl⟩, _, _, rfl, ⟨_, _, rfl, rfl, _, _, rfl, rfl, _, _, rfl, rfl, _, _, rfl, rfl, rfl⟩, _, _, rfl, ⟨_, _, rfl, ⟨A9, c9, rfl, hl9, hr9⟩, rfl⟩, ⟨A11, c11, rfl, hl11, hr11⟩⟩ := hk
  refine ⟨⟨A0, c0, A9, c9, A11, c11⟩, ?_, ⟨hr0, hl0, hr9, hl9, hr11, hl11⟩⟩
  rw [← Array.toArray_toList (xs := cs), e0]; rfl
theorem walk (cs : Array Value) (y : DT) (cs' : Array Value) (y' : DT) (w : World) (hk : deskKd.K w y cs.toList) (z : deskOk y) (hk' : deskKd.K w y' cs'.toList) (z' : deskOk y') :
    Calls Try.prog 10 #[.agg cs, .agg cs'] w fun e w' => e = .returned (.bool true) ∧ Below w.heap.size w w' := by
  obtain ⟨p, rfl, h⟩ := desk_open hk
  obtain ⟨q, rfl, h'⟩ := desk_open hk'
  exact law_all (deOf y) (deOf y') y.2.2.2 y'.2.2.2 p q w h h' (okD_of z) (okD_of z') z.2.2.2.1 z.2.2.2.2 z'.2.2.2.1 z'.2.2.2.2
end Go.Proofs.Ytoiaojdkgagblaa.Sdl
