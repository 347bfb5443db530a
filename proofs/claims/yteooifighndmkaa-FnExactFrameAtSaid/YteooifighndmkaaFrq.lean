import Derived.Test.YteooifighndmkaaFrp
set_option linter.unusedVariables false
set_option linter.unusedSimpArgs false
namespace Go.Proofs.Yteooifighndmkaa.FrPure
open Go.RowKit Go.Proofs.YteooifighndmkaaW.PrintWords Go.Proofs.YteooifighndmkaaW.PrintLast Go.Proofs.YteooifighndmkaaW.PrintMore Go.Proofs.YteooifighndmkaaW.PrintFl Go.Proofs.Yteooifighndmkaa Go.Proofs.Yteooifighndmkaa.PFnExactFrameAt Go.Proofs.Yteooifighndmkaa.Lm Go.Proofs.Yteooifighndmkaa.Sdm
def fN (L : List IS) (s : ByteArray) : Nat := (fd L s).toNat
theorem fN_at {L : List IS} {s : ByteArray} (h : hit L s = true) : fd L s = (fN L s : Int) ∧ fN L s < L.length := by
  unfold hit at h
  unfold fN
  rcases fd_in L s with h1 | ⟨j, h1, h2⟩
  · rw [h1] at h; exact absurd h (by decide)
  · rw [h1, Int.toNat_natCast]; exact ⟨rfl, h2⟩
structure Good (L : List IS) (ns : List ByteArray) (ls : List Nat) (t : Nat) : Prop where
  hl : L.length ≤ 1048576
  hx : ∀ x ∈ L, okI x
  snd : ∀ x ∈ L, SndOk x
  same : ∀ x ∈ L, ∀ y ∈ L, x.f1.length = y.f1.length
  hn : 1 ≤ ns.length ∧ ns.length ≤ 24
  hit : ∀ s ∈ ns, hit L s = true
  hls : ls.length = ns.length
  hab : ls.all ab = true
  ht : finB t = true
structure AnsOk (r : List Nat) (p v u : Nat) : Prop where
  len : r.length ≤ 16
  lt : ∀ y ∈ r, y < 4294967296
  p : p < 4294967296
  v : v < 4294967296
  u : u < 4294967296
theorem giv_ok (b : Bool) (l : List Nat) (p v n : Nat) (hl : l.length ≤ 16) (hx : ∀ y ∈ l, y < 4294967296) (hp : p < 4294967296) (hv : v < 4294967296) (hn : n < 4294967296) : AnsOk (giv b l p v n).1 (giv b l p v n).2.1 (giv b l p v n).2.2.1 (giv b l p v n).2.2.2.1 := by
  cases b with
  | true => exact ⟨hl, hx, hp, hv, hn⟩
  | false => exact ⟨by show (0 : Nat) ≤ 16; decide, fun y hy => (List.not_mem_nil hy).elim, by show (0 : Nat) < 4294967296; decide, by show (0 : Nat) < 4294967296; decide, by show (0 : Nat) < 4294967296; decide⟩
theorem sat_mem {L : List IS} {ns : List ByteArray} {ls : List Nat} {t : Nat} (g : Good L ns ls t) {i : Nat} (h : i < ns.length) : Fra.SndAt L (fN L) ns i ∈ L := by
  have h2 := (fN_at (g.hit _ (Fra.rd_mem h))).2
  unfold Fra.SndAt rd_T49
  rw [Int.toNat_natCast, List.getD_eq_getElem?_getD, List.getElem?_eq_getElem h2]
  exact List.getElem_mem h2
theorem db {w w' : World} (h : Drawn0 w w') : Below w.heap.size w w' := by
  obtain ⟨n, rfl⟩ := h
  exact pw_below_drewN (Below.refl _ _) n
abbrev Rows (W : World) (X0 X1 X2 : Option Addr) (d0 d1 d2 : Nat) (L : List IS) (ns : List ByteArray) (ls : List Nat) : Prop := Fra.Ag W X0 d0 L X1 d1 ns X2 d2 ls
theorem find_i {L : List IS} {ns : List ByteArray} {ls : List Nat} {t : Nat} (g : Good L ns ls t) {X0 X1 X2 : Option Addr} {d0 d1 d2 : Nat} {W : World} (h : Rows W X0 X1 X2 d0 d1 d2 L ns ls) : ∀ nm ∈ ns, ∀ W', Below W.heap.size W W' → Calls Try.prog 58 #[.slice X0 L.length d0, .string nm] W' fun e w' => e = .returned (.int .i64 (fN L nm)) ∧ Below W'.heap.size W' w' := fun nm hm W' hW =>
  impl_findSound.calls 2000000 X0 d0 L nm (fN L nm) W' (Kd.C_below h.r0 hW) h.c0 (by rw [fd_impl L g.hl nm _ (by decide), (fN_at (g.hit _ hm)).1])
theorem find_s {L : List IS} {ns : List ByteArray} {ls : List Nat} {t : Nat} (g : Good L ns ls t) {X0 X1 X2 : Option Addr} {d0 d1 d2 : Nat} {W : World} (h : Rows W X0 X1 X2 d0 d1 d2 L ns ls) : ∀ nm ∈ ns, ∀ W', Below W.heap.size W W' → Calls Try.prog 74 #[.slice X0 L.length d0, .string nm] W' fun e w' => e = .returned (.int .i64 (fN L nm)) ∧ Below W'.heap.size W' w' := fun nm hm W' hW =>
  (spec_l06Find.calls 2000000 X0 d0 L nm (fN L nm) W' (Kd.C_below h.r0 hW) h.c0 (by rw [fd_spec L g.hl nm _ (by decide), (fN_at (g.hit _ hm)).1])).mono (fun e w' ⟨h1, h2⟩ => ⟨h1, db h2⟩)
theorem at_both {L : List IS} {ns : List ByteArray} {ls : List Nat} {t : Nat} (g : Good L ns ls t) : ∃ (r : List Nat) (p v u : Nat) (ok : Bool), AnsOk r p v u ∧
    (∀ (X0 X1 X2 : Option Addr) (d0 d1 d2 : Nat) (W : World), Rows W X0 X1 X2 d0 d1 d2 L ns ls → Calls Try.prog 49 #[.slice X0 L.length d0, .slice X1 ns.length d1, .slice X2 ls.length d2, .float .f32 t] W (Fra.OutF W r p v u ok)) ∧
    (∀ (X0 X1 X2 : Option Addr) (d0 d1 d2 : Nat) (W : World), Rows W X0 X1 X2 d0 d1 d2 L ns ls → Calls Try.prog 44 #[.slice X0 L.length d0, .slice X1 ns.length d1, .slice X2 ls.length d2, .float .f32 t] W (Fra.OutF W r p v u ok)) := by
  have hn := g.hn
  have hls := g.hls
  obtain ⟨j, y, he, hy, -, hj⟩ := adv_some ls (by omega) g.hab (ns.length - 1) 0 t (by omega) (fin_nn t g.ht)
  have hjn : j < ns.length := by omega
  have hm := sat_mem g hjn
  obtain ⟨x, hxe⟩ : ∃ x, Fra.SndAt L (fN L) ns j = x := ⟨_, rfl⟩
  rw [hxe] at hm
  have hso := g.snd x hm
  have hxo := g.hx x hm
  have har : ∀ z ∈ L, z.f1.length ≤ 1048576 := fun z hz => (g.hx z hz).2.1
  have hfn : ∀ nm ∈ ns, fN L nm < L.length := fun nm hnm => (fN_at (g.hit _ hnm)).2
  have hgl := ge_ls hy hso.f3
  by_cases c : j = 0 ∨ fge .f32 y x.f3 = true
  · obtain ⟨b, hb⟩ := frame_both x.f1 (by have := hso.len; omega) 0 x.f4 x.f5
    have hok := giv_ok b x.f1 0 x.f4 x.f5 hso.len.2 hxo.2.2.1 (by decide) hxo.2.2.2.2.2.1 hxo.2.2.2.2.2.2
    generalize hq : giv b x.f1 0 x.f4 x.f5 = q at hb hok
    obtain ⟨r, p, v, u, ok⟩ := q
    refine ⟨r, p, v, u, ok, hok, fun X0 X1 X2 d0 d1 d2 W hR => ?_, fun X0 X1 X2 d0 d1 d2 W hR => ?_⟩
    · exact Fra.frameAt_plain X0 d0 L X1 d1 ns X2 d2 ls t j y W hR hn hls he (fN L) (find_i g hR) hfn har r p v u ok (by
        rw [hxe]
        exact ⟨c, fun P u0 w0 W' hB hR' => impl_checkedFrame.calls 100 P u0 x.f1 0 x.f4 x.f5 r p v u ok w0 W' hB hR' (hb 100 (by decide)).2⟩)
    · exact Fra.lat_plain X0 d0 L X1 d1 ns X2 d2 ls t j y W hR hn hls he (fN L) (find_s g hR) hfn har r p v u ok (by
        rw [hxe]
        refine ⟨c.imp_right (fun h => ?_), fun P u0 w0 W' hB hR' => spec_l06GiveFrame.calls 100 P u0 x.f1 0 x.f4 x.f5 r p v u ok w0 W' hB hR' (hb 100 (by decide)).1⟩
        rw [hgl] at h
        simpa using h)
  · have hj0 : j ≠ 0 := fun e => c (.inl e)
    have hge : fge .f32 y x.f3 = false := by
      cases h : fge .f32 y x.f3 with
      | true => exact absurd (.inr h) c
      | false => rfl
    have hlt : fls .f32 y x.f3 = true := by
      rw [hge] at hgl
      cases h : fls .f32 y x.f3 with
      | true => rfl
      | false => rw [h] at hgl; cases hgl
    obtain ⟨k1, k2, -⟩ := div_lt y x.f3 hlt hso.f3
    obtain ⟨sh, hr1, hr2, hsh⟩ := ramp_both _ k2
    have hm2 := sat_mem g (show j - 1 < ns.length by omega)
    obtain ⟨z, hze⟩ : ∃ z, Fra.SndAt L (fN L) ns (j - 1) = z := ⟨_, rfl⟩
    rw [hze] at hm2
    have hzo := g.snd z hm2
    have hzx := g.hx z hm2
    have hsame := g.same z hm2 x hm
    have okA : ∀ i : Nat, i < z.f1.length → Fra.MixOk sh (rdOf (0 : Nat) z.f1 (i : Int)) (rdOf (0 : Nat) x.f1 (i : Int)) ∧ Fra.mixV sh (rdOf (0 : Nat) z.f1 (i : Int)) (rdOf (0 : Nat) x.f1 (i : Int)) < 4294967296 := fun i hi => by
      rw [rdN_at hi, rdN_at (show i < x.f1.length by omega)]
      have a1 := ab_ge (List.all_eq_true.1 hzo.ar _ (List.getElem_mem hi))
      have a2 := ab_ge (List.all_eq_true.1 hso.ar _ (List.getElem_mem (show i < x.f1.length by omega)))
      exact mix_ok a1.1 a1.2 a2.1 a2.2 hsh
    have f0 : finB 0 = true := Nu_fin c0_Nu
    have g0 : fge .f32 0 0 = true := by rw [(ls_Nu c0_Nu c0_Nu).2.2.1]; decide
    have okP := mix_ok (sh := sh) f0 g0 f0 g0 hsh
    have okV := mix_ok (sh := sh) hzo.f4.1 hzo.f4.2 hso.f4.1 hso.f4.2 hsh
    have okU := mix_ok (sh := sh) hzo.f5.1 hzo.f5.2 hso.f5.1 hso.f5.2 hsh
    have hml := mixs_len sh z.f1 x.f1
    obtain ⟨b, hb⟩ := frame_both (mixs sh z.f1 x.f1) (by have := hzo.len; omega) (Fra.mixV sh 0 0) (Fra.mixV sh z.f4 x.f4) (Fra.mixV sh z.f5 x.f5)
    have hok := giv_ok b (mixs sh z.f1 x.f1) (Fra.mixV sh 0 0) (Fra.mixV sh z.f4 x.f4) (Fra.mixV sh z.f5 x.f5) (by have := hzo.len; omega) (fun y hy => by
      unfold mixs at hy
      obtain ⟨i, hi, rfl⟩ := List.mem_map.1 hy
      exact (okA i (List.mem_range.1 hi)).2) okP.2 okV.2 okU.2
    generalize hq : giv b (mixs sh z.f1 x.f1) (Fra.mixV sh 0 0) (Fra.mixV sh z.f4 x.f4) (Fra.mixV sh z.f5 x.f5) = q at hb hok
    obtain ⟨r, p, v, u, ok⟩ := q
    have hmx : impl_mixFrames.f 1000 z.f1 0 z.f4 z.f5 x.f1 0 x.f4 x.f5 sh = some (r, p, v, u, ok) := by
      unfold impl_mixFrames.f
      have hl16 := hzo.len
      rw [if_pos (by omega), if_pos (by rw [Int.toNat_natCast]; omega), mx1 sh 0 0 okP.1, Option.bind_some, mx1 sh _ _ okV.1, Option.bind_some, mx1 sh _ _ okU.1, Option.bind_some, Int.toNat_natCast]
      exact mixl_impl sh z.f1 x.f1 (by omega) hl16.2 (fun i hi => (okA i hi).1) 0 x.f4 x.f5 _ _ _ _ (fun k hk => (hb k (by omega)).2) z.f1.length 0 1000 _ (by omega) (by rw [List.length_replicate]) rfl (by omega)
    have hsp : spec_l02Mix.f 1000 z.f1 x.f1 sh = some (mixs sh z.f1 x.f1) := by
      have hl16 := hzo.len
      have h_ := mixl_spec sh z.f1 x.f1 (by omega) hl16.2 (fun i hi => (okA i hi).1) z.f1.length 0 1000 (by omega) (by omega)
      rw [List.take_zero] at h_
      exact h_
    refine ⟨r, p, v, u, ok, hok, fun X0 X1 X2 d0 d1 d2 W hR => ?_, fun X0 X1 X2 d0 d1 d2 W hR => ?_⟩
    · exact Fra.frameAt_mix X0 d0 L X1 d1 ns X2 d2 ls t j y W hR hn hls he (fN L) (find_i g hR) hfn har r p v u sh ok (by
        rw [hxe, hze]
        exact ⟨⟨hj0, hge, k1⟩, fun W' => (impl_rampAt.calls _ sh W' hr2).mono (fun e w' ⟨h1, h2⟩ => ⟨h1, db h2⟩), fun A B ca cb W' hW hC1 h1 hC2 h2 => impl_mixFrames.calls 1000 A ca z.f1 0 z.f4 z.f5 B cb x.f1 0 x.f4 x.f5 sh r p v u ok W' hC1 h1 hC2 h2 hmx⟩)
    · exact Fra.lat_mix X0 d0 L X1 d1 ns X2 d2 ls t j y W hR hn hls he (fN L) (find_s g hR) hfn har r (mixs sh z.f1 x.f1) p v u sh ok (by
        rw [hxe, hze]
        exact ⟨⟨hj0, hlt, k1⟩, fun W' => (spec_l06Ramp.calls _ sh W' hr1).mono (fun e w' ⟨h1, h2⟩ => ⟨h1, db h2⟩), fun A B ca cb W' hC1 h1 hC2 h2 => spec_l02Mix.calls 1000 A ca z.f1 B cb x.f1 sh _ W' hC1 h1 hC2 h2 hsp, ⟨okP.1, okV.1, okU.1⟩, fun P u0 w0 W' hB hR' => spec_l06GiveFrame.calls 100 P u0 (mixs sh z.f1 x.f1) (Fra.mixV sh 0 0) (Fra.mixV sh z.f4 x.f4) (Fra.mixV sh z.f5 x.f5) r p v u ok w0 W' hB hR' (hb 100 (by decide)).1⟩)
end Go.Proofs.Yteooifighndmkaa.FrPure
