/- impl.JournalOf by hand: a strings.Builder, written by each line. -/
import Derived.Test.YtbojmdjghfhmbaaDoorGld
import Derived.Test.YtbojmdjghfhmbaaDoorDc
import Derived.Test.YtbojmdjghfhmbaaDoorDn
set_option linter.unusedVariables false
set_option linter.unusedSimpArgs false
namespace Go.Proofs.YtbojmdjghfhmbaaDoor
open Go.RowKit Go.Proofs.YtbojmdjghfhmbaaDoorW.PrintWords Go.Proofs.YtbojmdjghfhmbaaDoorW.PrintLast Go.Proofs.YtbojmdjghfhmbaaDoorW.PrintMore
abbrev TB : Nat := 124
theorem builder_write (B b : Nat) (acc : List UInt8) (s : ByteArray) (w : World) (h : Lib.IsBuilder TB 5 B b (Lib.byteCells acc) w) (hlen : acc.length + s.size ≤ 140737488355328) (hBw : B ≤ w.heap.size) :
    Calls Tryd.prog 98 #[.pointer (some ⟨b, 0, none⟩), .string s] w fun e w' => e = .returned (.tuple #[.int .i64 s.size, .nilIface]) ∧ Lib.IsBuilder TB 5 B b (Lib.byteCells (acc ++ s.data.toList)) w' ∧ Below B w w' := by
  refine (Any.Builder_WriteString { Tryd.lays156 with } Tryd.Builder_Extra_156 B b (Lib.byteCells acc) s w h (by rw [Lib.byteCells_length]; exact hlen) hBw).mono ?_
  rintro e w' ⟨h1, h2, h3⟩
  refine ⟨h1, .inr ?_, h3⟩
  rw [Lib.byteCells_append, ← Lib.strCells_eq]
  exact h2
theorem builder_len (B b n : Nat) (acc : List UInt8) (w : World) (h : Lib.IsBuilder TB 5 B b (Lib.byteCells acc) w) (hn : acc.length = n) :
    Calls Tryd.prog 101 #[.pointer (some ⟨b, 0, none⟩)] w fun e w' => e = .returned (.int .i64 n) ∧ w' = w := by
  have := Tryd.Builder_Len B b (Lib.byteCells acc) w h
  rw [Lib.byteCells_length, hn] at this
  exact this
/-- what the journal of lines comes to, behind a check and some bytes -/
def jrun (chk : Int → ByteArray → Option (Int × Bool)) : List ByteArray → Int → List UInt8 → Option (ByteArray × Bool)
  | [], c, acc => some (⟨acc.toArray⟩, true)
  | x :: xs, c, acc => if x.size ≤ 100000000 then (chk c x).bind fun p => if 0 ≤ p.1 ∧ p.1 < 65003 then (if 0 ≤ Lib.indexByte x.data.toList 10 ∨ 16000 < (acc ++ (Lib.itoa p.1 ++ 32 :: (x.data.toList ++ [10]))).length then some (⟨#[]⟩, false) else jrun chk xs p.1 (acc ++ (Lib.itoa p.1 ++ 32 :: (x.data.toList ++ [10])))) else none else none
theorem jrun_mono {f g : Int → ByteArray → Option (Int × Bool)} (h : ∀ c x, LeO (f c x) (g c x)) : ∀ l c acc, LeO (jrun f l c acc) (jrun g l c acc)
  | [], c, acc => LeO.refl _
  | x :: l, c, acc => by
    rw [jrun, jrun]
    split
    · refine LeO.bind (h c x) (fun p => ?_)
      split
      · split
        · exact LeO.refl _
        · exact jrun_mono h l _ _
      · exact LeO.refl _
    · exact LeO.refl _
theorem builder_at_below {T e B b : Nat} {p : Value} {bs : List Value} {w w' : World} (h : Lib.BuilderAt T e B b p bs w) (hb : Below w.heap.size w w') : Lib.BuilderAt T e B b p bs w' := by
  obtain ⟨h1, v, h2, h3, h4⟩ := h
  have hl : b < w.heap.size := by
    cases hh : w.heap[b]? with
    | none => rw [hh] at h2; cases h2
    | some o => exact (Array.getElem?_eq_some_iff.1 hh).1
  refine ⟨h1, v, by rw [hb.block b hl]; exact h2, ?_, h4⟩
  obtain ⟨g1, g2⟩ := h3
  refine ⟨g1, ?_⟩
  rcases g2 with g2 | ⟨g, cap, cur, q1, q2, q3, q4⟩
  · exact .inl g2
  · have hg : g < w.heap.size := by
      cases hh : w.heap[g]? with
      | none => rw [hh] at q3; cases q3
      | some o => exact (Array.getElem?_eq_some_iff.1 hh).1
    exact .inr ⟨g, cap, cur, q1, q2, by rw [hb.block g hg]; exact q3, q4⟩
theorem builder_below {T e B b : Nat} {bs : List Value} {w w' : World} (h : Lib.IsBuilder T e B b bs w) (hb : Below w.heap.size w w') : Lib.IsBuilder T e B b bs w' :=
  h.imp (builder_at_below · hb) (builder_at_below · hb)
theorem builder_drewN {T e B b : Nat} {bs : List Value} {w : World} (h : Lib.IsBuilder T e B b bs w) (n : Nat) : Lib.IsBuilder T e B b bs (w.drewN n) := builder_below h (pw_below_drewN (Below.refl _ _) n)
theorem builder_new (w : World) : Lib.BuilderAt TB 5 w.heap.size w.heap.size (.pointer none) (Lib.byteCells []) (w.alloc (.cells #[.pointer none, .slice none 0 0] TB (0, 0))) := by
  refine ⟨Nat.le_refl _, .slice none 0 0, ?_, ⟨rfl, .inl ⟨rfl, rfl⟩⟩, fun h => by cases h⟩
  show (w.heap.push _)[w.heap.size]? = _
  rw [Array.getElem?_push_size]
structure JoRel (chk : Int → ByteArray → Option (Int × Bool)) (l0 : List ByteArray) (r1 : ByteArray) (r2 : Bool) (b : Nat) (w wr : World) (j : Nat) (c : Int) (acc : List UInt8) : Prop where
  bld : Lib.IsBuilder TB 5 w.heap.size b (Lib.byteCells acc) wr
  below : Below w.heap.size w wr
  run : jrun chk (l0.drop j) c acc = some (r1, r2)
  len : acc.length ≤ 16000
theorem jo_text (d x : ByteArray) (acc : List UInt8) (dl : List UInt8) (hd : d.data.toList = dl) : acc ++ (((d ++ (⟨#[32]⟩ : ByteArray)) ++ x) ++ (⟨#[10]⟩ : ByteArray)).data.toList = acc ++ (dl ++ 32 :: (x.data.toList ++ [10])) := by
  have h : ∀ a b : ByteArray, (a ++ b).data.toList = a.data.toList ++ b.data.toList := fun a b => by rw [ByteArray.data_append, Array.toList_append]
  rw [h, h, h, hd]
  show acc ++ (((dl ++ [32]) ++ x.data.toList) ++ [10]) = _
  simp
set_option maxHeartbeats 8000000 in
set_option maxRecDepth 100000 in
theorem jo_calls (chk : Int → ByteArray → Option (Int × Bool)) (hC : ∀ c x r1 r2 W, chk c x = some (r1, r2) → Calls Tryd.prog 97 #[.int .i64 c, .string x] W fun e w' => e = .returned (.tuple #[.int .i64 r1, .bool r2]) ∧ Drawn0 W w')
    (A0 : Option Addr) (c0 : Nat) (l0 : List ByteArray) (r1 : ByteArray) (r2 : Bool) (w : World) (hr0 : Kd.C Kd.string w A0 l0.length l0) (hc0 : l0.length ≤ c0) (hln : l0.length ≤ 100000000) (hT : GLd w) (h : jrun chk l0 0 [] = some (r1, r2)) :
    Calls Tryd.prog 52 #[.slice A0 l0.length c0] w fun e w' => e = .returned (.tuple #[.string r1, .bool r2]) ∧ Below w.heap.size w w' := by
  have HC := Lib.hid hC
  have HR := Lib.hid hr0
  have HT := Lib.hid hT
  have HH := Lib.hid h
  clear hC hr0 hT h
  go_enter Tryd.func52, Tryd.ntmps52
  go_wp2
  go_loopw [5, 10] (fun v5 v10 wr => ∃ (j : Nat) (c : Int) (acc : List UInt8), j ≤ l0.length ∧ v5 = .int .i64 c ∧ v10 = .int .i64 j ∧ JoRel chk l0 r1 r2 w.heap.size w wr j c acc) (fun _ v10 _ => l0.length - (intOf v10).toNat)
  case atStart =>
    exact ⟨0, 0, [], Nat.zero_le _, rfl, rfl, ⟨.inl (builder_new w), Below.alloc (Below.refl _ _) (Nat.le_refl _) _, HH.out, Nat.zero_le _⟩⟩
  case round =>
    obtain ⟨j, c, acc, hj, rfl, rfl, hrl⟩ := hrel
    have HL := Lib.hid hrl
    clear hrl
    by_cases hlt : j < l0.length
    · obtain ⟨ad, e1, hx⟩ := Kd.at_string (Kd.C_below HR.out HL.out.below) (j : Int) (by omega) (by omega)
      subst e1
      obtain ⟨x, hxe⟩ : ∃ x, l0[j] = x := ⟨_, rfl⟩
      have hxr : rdOf ByteArray.empty l0 (j : Int) = x := by
        rw [← hxe]; unfold rdOf
        rw [Int.toNat_natCast, List.getD_eq_getElem?_getD, List.getElem?_eq_getElem hlt]; rfl
      rw [Int.toNat_natCast, hxr] at hx
      have hrun := HL.out.run
      rw [List.drop_eq_getElem_cons hlt, hxe, jrun] at hrun
      clear hxr
      by_cases hxz : x.size ≤ 100000000
      · rw [if_pos hxz] at hrun
        obtain ⟨⟨c', b'⟩, hck, hrn⟩ := Option.bind_eq_some_iff.mp hrun
        clear hrun
        by_cases hcb : 0 ≤ c' ∧ c' < 65003
        · rw [if_pos hcb] at hrn
          obtain ⟨d, hd⟩ : ∃ d : ByteArray, (⟨(Lib.itoa c').toArray⟩ : ByteArray) = d := ⟨_, rfl⟩
          have hdl : d.data.toList = Lib.itoa c' := by rw [← hd]
          have hds : d.size ≤ 17 := by
            have := (Dn.itoa_len c' (by omega) (by omega)).2
            rw [← hdl] at this; exact this
          have HK := Lib.hid (HC.out c x c' b' wr hck)
          have hD := fun W hW => decimal_calls c' W hW (by omega) (by omega)
          rw [hd] at hD
          have HD := Lib.hid hD
          have HW := Lib.hid (fun W hW hb => builder_write w.heap.size w.heap.size acc (((d ++ (⟨#[32]⟩ : ByteArray)) ++ x) ++ (⟨#[10]⟩ : ByteArray)) W hW (by
            have h1 := HL.out.len
            have h2 : (((d ++ (⟨#[32]⟩ : ByteArray)) ++ x) ++ (⟨#[10]⟩ : ByteArray)).size = d.size + 1 + x.size + 1 := by rw [ByteArray.size_append, ByteArray.size_append, ByteArray.size_append]; rfl
            omega) hb)
          rw [jo_text d x acc _ hdl] at HW
          obtain ⟨n, hn⟩ : ∃ n, (acc ++ (Lib.itoa c' ++ 32 :: (x.data.toList ++ [10]))).length = n := ⟨_, rfl⟩
          have HNL := Lib.hid hn
          rw [hn] at hrn
          have HRUN := Lib.hid hrn
          have HXE := Lib.hid hxe
          clear hrn hck hdl hD hn hxe
          clear hd
          cases hco : decide (0 ≤ Lib.indexByte x.data.toList 10) with
          | true =>
            have HN := Lib.hid (Tryd.strings_Contains_one x 10)
            rw [hco] at HN
            have HCO := Lib.hid (of_decide_eq_true hco)
            clear hco
            go_wp2_with (first | (go_at_call 97; (with_reducible refine HK.out.mono ?_); rintro e w2 ⟨rfl, ⟨nd, rfl⟩⟩) | (go_at_call 99; (with_reducible refine (HD.out _ (decTab_below (GLd_dec HT.out) (pw_below_drewN HL.out.below _))).mono ?_); rintro e w3 ⟨rfl, hb3⟩; have HB3 := Lib.hid hb3; clear hb3) | (go_at_call 98; (with_reducible refine (HW.out _ (builder_below (builder_drewN HL.out.bld nd) HB3.out) (below_size (below_step (pw_below_drewN HL.out.below _) HB3.out))).mono ?_); rintro e w4 ⟨rfl, hi4, hb4⟩; have HI4 := Lib.hid hi4; have HB4 := Lib.hid hb4; clear hi4 hb4) | (go_at_call 100; (with_reducible refine (HN.out _).mono ?_); rintro e w5 ⟨rfl, rfl⟩) | (go_at_call 101; (with_reducible refine (builder_len _ _ n _ _ HI4.out HNL.out).mono ?_); rintro e w6 ⟨rfl, rfl⟩))
            go_ret2
            have hq := HRUN.out
            rw [if_pos (.inl HCO.out)] at hq
            injection hq with hq
            injection hq with hq1 hq2
            subst hq1 hq2
            exact ⟨rfl, (below_step (pw_below_drewN HL.out.below _) HB3.out).trans HB4.out⟩
          | false =>
            have HN := Lib.hid (Tryd.strings_Contains_one x 10)
            rw [hco] at HN
            have HCO := Lib.hid (of_decide_eq_false hco)
            clear hco
            by_cases hbig : 16000 < n
            · have hd16 : decide (16000 < (n : Int)) = true := decide_eq_true (by omega)
              go_wp2_with (first | (go_at_call 97; (with_reducible refine HK.out.mono ?_); rintro e w2 ⟨rfl, ⟨nd, rfl⟩⟩) | (go_at_call 99; (with_reducible refine (HD.out _ (decTab_below (GLd_dec HT.out) (pw_below_drewN HL.out.below _))).mono ?_); rintro e w3 ⟨rfl, hb3⟩; have HB3 := Lib.hid hb3; clear hb3) | (go_at_call 98; (with_reducible refine (HW.out _ (builder_below (builder_drewN HL.out.bld nd) HB3.out) (below_size (below_step (pw_below_drewN HL.out.below _) HB3.out))).mono ?_); rintro e w4 ⟨rfl, hi4, hb4⟩; have HI4 := Lib.hid hi4; have HB4 := Lib.hid hb4; clear hi4 hb4) | (go_at_call 100; (with_reducible refine (HN.out _).mono ?_); rintro e w5 ⟨rfl, rfl⟩) | (go_at_call 101; (with_reducible refine (builder_len _ _ n _ _ HI4.out HNL.out).mono ?_); rintro e w6 ⟨rfl, rfl⟩))
              go_ret2
              have hq := HRUN.out
              rw [if_pos (.inr hbig)] at hq
              injection hq with hq
              injection hq with hq1 hq2
              subst hq1 hq2
              exact ⟨rfl, (below_step (pw_below_drewN HL.out.below _) HB3.out).trans HB4.out⟩
            · have hd16 : decide (16000 < (n : Int)) = false := decide_eq_false (by omega)
              go_wp2_with (first | (go_at_call 97; (with_reducible refine HK.out.mono ?_); rintro e w2 ⟨rfl, ⟨nd, rfl⟩⟩) | (go_at_call 99; (with_reducible refine (HD.out _ (decTab_below (GLd_dec HT.out) (pw_below_drewN HL.out.below _))).mono ?_); rintro e w3 ⟨rfl, hb3⟩; have HB3 := Lib.hid hb3; clear hb3) | (go_at_call 98; (with_reducible refine (HW.out _ (builder_below (builder_drewN HL.out.bld nd) HB3.out) (below_size (below_step (pw_below_drewN HL.out.below _) HB3.out))).mono ?_); rintro e w4 ⟨rfl, hi4, hb4⟩; have HI4 := Lib.hid hi4; have HB4 := Lib.hid hb4; clear hi4 hb4) | (go_at_call 100; (with_reducible refine (HN.out _).mono ?_); rintro e w5 ⟨rfl, rfl⟩) | (go_at_call 101; (with_reducible refine (builder_len _ _ n _ _ HI4.out HNL.out).mono ?_); rintro e w6 ⟨rfl, rfl⟩))
              have hq := HRUN.out
              rw [if_neg (fun h => h.elim (fun h1 => by have h2 := HCO.out; omega) hbig)] at hq
              exact ⟨⟨j + 1, c', _, hlt, rfl, by go_num, ⟨HI4.out, (below_step (pw_below_drewN HL.out.below _) HB3.out).trans HB4.out, hq, by rw [HNL.out]; omega⟩⟩, by simp [intOf]; omega⟩
        · rw [if_neg hcb] at hrn; cases hrn
      · rw [if_neg hxz] at hrun; cases hrun
    · have hrun := HL.out.run
      rw [List.drop_of_length_le (by omega), jrun] at hrun
      injection hrun with hrun
      injection hrun with hq1 hq2
      subst hq1 hq2
      have HST := Lib.hid (Tryd.Builder_String_any w.heap.size w.heap.size acc wr HL.out.bld (below_size HL.out.below))
      go_wp2_with (first | (go_at_call 102; (with_reducible refine HST.out.mono ?_); rintro e w2 ⟨rfl, hb2⟩; have HB2 := Lib.hid hb2; clear hb2))
      go_ret2
      exact ⟨rfl, HL.out.below.trans HB2.out⟩
end Go.Proofs.YtbojmdjghfhmbaaDoor
