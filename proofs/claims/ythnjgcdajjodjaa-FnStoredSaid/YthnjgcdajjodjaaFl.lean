/- Words for floats: one word for all not-a-numbers; what the walk needs at an operation on floats; rows of floats. -/
import Derived.Test.YthnjgcdajjodjaaProg
import Derived.Test.YthnjgcdajjodjaaWWords
import Derived.Test.YthnjgcdajjodjaaWMore
import Derived.WalkLawsBesides
import Derived.Handy
import Derived.Deep.QuietTactic
import Derived.BigQuiet
import Derived.Lib.Hide
set_option linter.unusedVariables false
set_option linter.unusedSimpArgs false
namespace Go.Proofs.Ythnjgcdajjodjaa
open Go.RowKit Go.Proofs.YthnjgcdajjodjaaW.PrintWords

/-! ### one word for all not-a-numbers -/
def isN (k : FloatKind) (b : Nat) : Bool := (k.format.read b).isNaN
def qn : FloatKind → Nat
  | .f32 => 2143289344
  | .f64 => 9221120237041090560
/-- the word that stands for b -/
def cn (k : FloatKind) (b : Nat) : Nat := if isN k b = true then qn k else b
def fw : FloatKind → Nat
  | .f32 => 4294967296
  | .f64 => 18446744073709551616
/-- b is a word of the kind, and x stands for it. -/
structure IsF (k : FloatKind) (b x : Nat) : Prop where
  lt : b < fw k
  eq : cn k b = x
theorem fw_width (k : FloatKind) : 2 ^ k.format.width = fw k := by cases k <;> rfl
theorem isN_qn (k : FloatKind) : isN k (qn k) = true := by cases k <;> decide +kernel
theorem isN_cn (k : FloatKind) (b : Nat) : isN k (cn k b) = isN k b := by
  unfold cn
  split
  · rw [isN_qn]; symm; assumption
  · rfl
theorem cn_cn (k : FloatKind) (b : Nat) : cn k (cn k b) = cn k b := by
  by_cases h : isN k b = true
  · have h2 : isN k (cn k b) = true := by rw [isN_cn]; exact h
    unfold cn
    rw [if_pos h, if_pos (isN_qn k)]
  · have : cn k b = b := by unfold cn; rw [if_neg h]
    rw [this, this]
theorem cn_lt {k : FloatKind} {b : Nat} (h : b < fw k) : cn k b < fw k := by
  unfold cn
  split
  · cases k <;> decide
  · exact h
theorem IsF.mk' {k : FloatKind} {b : Nat} (h : b < fw k) : IsF k b (cn k b) := ⟨h, rfl⟩
theorem IsF.xlt {k : FloatKind} {b x : Nat} (h : IsF k b x) : x < fw k := by rw [← h.eq]; exact cn_lt h.lt
theorem IsF.nan {k : FloatKind} {b x : Nat} (h : IsF k b x) : isN k b = isN k x := by rw [← h.eq, isN_cn]
theorem IsF.cnx {k : FloatKind} {b x : Nat} (h : IsF k b x) : cn k x = x := by rw [← h.eq, cn_cn]
theorem IsF.self {k : FloatKind} {b x : Nat} (h : IsF k b x) : IsF k x x := ⟨h.xlt, h.cnx⟩
theorem read_nan {k : FloatKind} {b : Nat} (h : isN k b = true) : ∃ s t, k.format.read b = .nan s t := by
  unfold isN at h
  cases hr : k.format.read b with
  | nan s t => exact ⟨s, t, rfl⟩
  | number s m e => rw [hr] at h; cases h
  | infinity s => rw [hr] at h; cases h
theorem read_cn {k : FloatKind} {b : Nat} (h : isN k b = false) : k.format.read (cn k b) = k.format.read b := by
  unfold cn
  rw [if_neg (by rw [h]; decide)]

/-! ### comparisons -/
def ford (k : FloatKind) (x y : Nat) : Option Ordering := k.format.order x y
theorem order_cn (k : FloatKind) (b c : Nat) : k.format.order (cn k b) (cn k c) = k.format.order b c := by
  unfold Ieee.Format.order
  by_cases hb : isN k b = true
  · obtain ⟨s, t, h⟩ := read_nan hb
    obtain ⟨s', t', h'⟩ := read_nan (b := cn k b) (by rw [isN_cn]; exact hb)
    rw [h, h']; simp [Ieee.Datum.order]
  · rw [read_cn (by simpa using hb)]
    by_cases hc : isN k c = true
    · obtain ⟨s, t, h⟩ := read_nan hc
      obtain ⟨s', t', h'⟩ := read_nan (b := cn k c) (by rw [isN_cn]; exact hc)
      rw [h, h']; cases k.format.read b <;> simp [Ieee.Datum.order]
    · rw [read_cn (by simpa using hc)]
theorem IsF.order {k : FloatKind} {b c x y : Nat} (hb : IsF k b x) (hc : IsF k c y) : k.format.order b c = ford k x y := by
  rw [← hb.eq, ← hc.eq]; exact (order_cn k b c).symm

/-! ### arithmetic -/
/-- '+', '-', '*', '/': the word that stands for what comes out -/
def fop (op : BinOp) (k : FloatKind) (x y : Nat) : Nat := cn k ((floatBits op k x y).getD (qn k))
def isArith : BinOp → Bool
  | .add | .sub | .mul | .quo => true
  | _ => false
theorem floatBits_cn (op : BinOp) (k : FloatKind) (b c : Nat) : floatBits op k (cn k b) (cn k c) = floatBits op k b c := by
  by_cases hb : isN k b = true
  · obtain ⟨s, t, h⟩ := read_nan hb
    obtain ⟨s', t', h'⟩ := read_nan (b := cn k b) (by rw [isN_cn]; exact hb)
    cases op <;> simp [floatBits, Ieee.Format.add, Ieee.Format.sub, Ieee.Format.mul, Ieee.Format.div, h, h', Ieee.Datum.sum, Ieee.Datum.product, Ieee.Datum.quotient]
  · have hb' := read_cn (k := k) (b := b) (by simpa using hb)
    by_cases hc : isN k c = true
    · obtain ⟨s, t, h⟩ := read_nan hc
      obtain ⟨s', t', h'⟩ := read_nan (b := cn k c) (by rw [isN_cn]; exact hc)
      cases op <;> simp [floatBits, Ieee.Format.add, Ieee.Format.sub, Ieee.Format.mul, Ieee.Format.div, hb', h, h'] <;> cases k.format.read b <;> simp [Ieee.Datum.sum, Ieee.Datum.product, Ieee.Datum.quotient, Ieee.Datum.opposite]
    · have hc' := read_cn (k := k) (b := c) (by simpa using hc)
      cases op <;> simp [floatBits, Ieee.Format.add, Ieee.Format.sub, Ieee.Format.mul, Ieee.Format.div, hb', hc']
theorem nan_drawn (k : FloatKind) (x y t : Nat) : isN k ((Question.nanBits k x y).cut t) = true ∧ (Question.nanBits k x y).cut t < fw k := by
  cases k
  · have e : (Question.nanBits .f32 x y).cut t = (t % 2) * 2 ^ 31 + 0x7f800000 + 1 + (t / 2) % (2 ^ 23 - 1) := rfl
    rw [e]
    refine ⟨?_, by simp only [fw]; omega⟩
    unfold isN Ieee.Format.read
    have hs : FloatKind.f32.format.signWeight = 2147483648 := rfl
    have hbi : FloatKind.f32.format.binade = 8388608 := rfl
    have hi : FloatKind.f32.format.infRung = 2139095040 := rfl
    simp only [hs, hbi, hi]
    have h2 : ((t % 2) * 2 ^ 31 + 0x7f800000 + 1 + (t / 2) % (2 ^ 23 - 1)) % 2147483648 = 0x7f800000 + 1 + (t / 2) % (2 ^ 23 - 1) := by omega
    rw [h2, if_neg (by omega), if_neg (by omega), if_neg (by omega)]
    rfl
  · have e : (Question.nanBits .f64 x y).cut t = (t % 2) * 2 ^ 63 + 0x7ff0000000000000 + 1 + (t / 2) % (2 ^ 52 - 1) := rfl
    rw [e]
    refine ⟨?_, by simp only [fw]; omega⟩
    unfold isN Ieee.Format.read
    have hs : FloatKind.f64.format.signWeight = 9223372036854775808 := rfl
    have hbi : FloatKind.f64.format.binade = 4503599627370496 := rfl
    have hi : FloatKind.f64.format.infRung = 9218868437227405312 := rfl
    simp only [hs, hbi, hi]
    have h2 : ((t % 2) * 2 ^ 63 + 0x7ff0000000000000 + 1 + (t / 2) % (2 ^ 52 - 1)) % 9223372036854775808 = 0x7ff0000000000000 + 1 + (t / 2) % (2 ^ 52 - 1) := by omega
    rw [h2, if_neg (by omega), if_neg (by omega), if_neg (by omega)]
    rfl
theorem IsF.of_nan {k : FloatKind} {b : Nat} (hn : isN k b = true) (hl : b < fw k) : IsF k b (qn k) := ⟨hl, by unfold cn; rw [if_pos hn]⟩
theorem floatBits_lt {op : BinOp} {k : FloatKind} {x y r : Nat} (h : floatBits op k x y = some r) : r < fw k := by
  rw [← fw_width]
  unfold floatBits at h
  split at h
  · exact k.format.add_lt h
  · exact k.format.sub_lt h
  · exact k.format.mul_lt h
  · exact k.format.div_lt h
  · cases h
theorem drewN_one (w : World) : { w with drawn := w.drawn + 1 } = w.drewN 1 := rfl
theorem drewN_zero (w : World) : w.drewN 0 = w := rfl
/-- What an operation on floats comes to: the word of 'fop', at the world with some draws. -/
theorem run_fop {P : Program} (w : World) (op : BinOp) (hop : isArith op = true) (t : TypeId) (k : FloatKind) (b c x y : Nat) (hb : IsF k b x) (hc : IsF k c y) :
    ∃ r n, (binOp op t (.float k b) (.float k c)).run P w = .ok (.float k r) (w.drewN n) ∧ IsF k r (fop op k x y) := by
  have hxy : floatBits op k x y = floatBits op k b c := by rw [← hb.eq, ← hc.eq]; exact floatBits_cn op k b c
  cases hf : floatBits op k b c with
  | some r =>
    refine ⟨r, 0, ?_, ?_⟩
    · rw [drewN_zero]; exact run_float_arith w op t k b c r hf
    · unfold fop; rw [hxy, hf]; exact ⟨floatBits_lt hf, rfl⟩
  | none =>
    obtain ⟨h1, h2⟩ := nan_drawn k b c (w.tape w.drawn (.nanBits k b c))
    refine ⟨(Question.nanBits k b c).cut (w.tape w.drawn (.nanBits k b c)), 1, ?_, ?_⟩
    · rw [← drewN_one]
      unfold floatBits at hf
      cases op <;> simp only [isArith] at hop <;> first | (cases hop; done) | skip
      all_goals
        simp only at hf
        simp [binOp, Op.floatArith, hf, choose, Sem.run, Question.forced]
    · have := IsF.of_nan h1 h2
      unfold fop
      rw [hxy, hf]
      show IsF k _ (cn k (qn k))
      have hq : cn k (qn k) = qn k := by unfold cn; rw [if_pos (isN_qn k)]
      rw [hq]; exact this

/-! ### a number and itself; widening; integers as floats; negation -/
theorem datum_order_self {d : Ieee.Datum} (h : d.isNaN = false) : d.order d = some .eq := by
  cases d with
  | nan s t => cases h
  | infinity s => cases s <;> decide
  | number s m i => simp [Ieee.Datum.order]
theorem order_self {k : FloatKind} {x : Nat} (h : isN k x = false) : k.format.order x x = some .eq := datum_order_self h
theorem order_nan {k : FloatKind} {x : Nat} (h : isN k x = true) (y : Nat) : k.format.order x y = none := by
  obtain ⟨s, t, h⟩ := read_nan h
  unfold Ieee.Format.order
  rw [h]; cases k.format.read y <;> rfl
theorem order_nan' {k : FloatKind} {x : Nat} (h : isN k x = true) (y : Nat) : k.format.order y x = none := by
  obtain ⟨s, t, h⟩ := read_nan h
  unfold Ieee.Format.order
  rw [h]; cases k.format.read y <;> rfl
theorem IsF.order_self {k : FloatKind} {b x : Nat} (h : IsF k b x) : k.format.order b b = if isN k x = true then none else some .eq := by
  rw [h.order h]
  unfold ford
  split
  · exact order_nan (by assumption) _
  · rename_i hn; exact Go.Proofs.Ythnjgcdajjodjaa.order_self (by simpa using hn)
theorem IsF.raw {k : FloatKind} {b x : Nat} (h : IsF k b x) (hn : isN k x = false) : b = x := by
  have hb : isN k b = false := by rw [h.nan]; exact hn
  rw [← h.eq]; unfold cn; rw [if_neg (by rw [hb]; decide)]
theorem IsF.qnan {k : FloatKind} {b x : Nat} (h : IsF k b x) (hn : isN k x = true) : x = qn k := by
  rw [← h.cnx]; unfold cn; rw [if_pos hn]
/-- float64(x) of a float32 -/
def wid (x : Nat) : Nat :=
  match FloatKind.f32.format.read x with
  | .nan _ _ => qn .f64
  | d => FloatKind.f64.format.write d

theorem read_f32 {x : Nat} : (∃ s t, FloatKind.f32.format.read x = .nan s t) ∨ (∃ s, FloatKind.f32.format.read x = .infinity s) ∨ (∃ s m e, FloatKind.f32.format.read x = .number s m e ∧ m < 16777216 ∧ -149 ≤ e ∧ e ≤ 104) := by
  unfold Ieee.Format.read
  have hs : FloatKind.f32.format.signWeight = 2147483648 := rfl
  have hbi : FloatKind.f32.format.binade = 8388608 := rfl
  have hi : FloatKind.f32.format.infRung = 2139095040 := rfl
  have hp : FloatKind.f32.format.leastPlace = -149 := rfl
  simp only [hs, hbi, hi, hp]
  split
  · exact .inr (.inr ⟨_, _, _, rfl, by omega, by omega, by omega⟩)
  · split
    · exact .inr (.inr ⟨_, _, _, rfl, by omega, by omega, by omega⟩)
    · split
      · exact .inr (.inl ⟨_, rfl⟩)
      · exact .inl ⟨_, _, rfl⟩
theorem cut_zero (neg : Bool) (n : Nat) : Ieee.Toward.even.cut neg n 0 = n := by
  unfold Ieee.Toward.cut
  simp [Nat.mod_one]
theorem read_word {k : FloatKind} {neg : Bool} {rung : Nat} (h : rung < k.format.infRung) : (k.format.read (k.format.word neg rung)).isNaN = false ∧ (k.format.read (k.format.word neg rung)).isInfinity = false := by
  have h1 := k.format.infRung_lt
  have hw : k.format.word neg rung % k.format.signWeight = rung := by
    unfold Ieee.Format.word
    split
    · rw [Nat.add_mod_left, Nat.mod_eq_of_lt (by omega)]
    · exact Nat.mod_eq_of_lt (by omega)
  unfold Ieee.Format.read
  simp only [hw]
  split
  · exact ⟨rfl, rfl⟩
  · exact ⟨rfl, rfl⟩
theorem wide_fits (s : Bool) (m : Nat) (e : Int) (hm : m < 16777216) (h1 : -149 ≤ e) (h2 : e ≤ 104) :
    ∃ rung, rung < FloatKind.f64.format.infRung ∧ FloatKind.f64.format.nearest s m e = FloatKind.f64.format.word s rung := by
  have hbi : FloatKind.f64.format.binade = 4503599627370496 := rfl
  have hi : FloatKind.f64.format.infRung = 9218868437227405312 := rfl
  have hp : FloatKind.f64.format.leastPlace = -1074 := rfl
  have hf : FloatKind.f64.format.fractionBits = 52 := rfl
  unfold Ieee.Format.nearest
  split
  · exact ⟨0, by rw [hi]; decide, rfl⟩
  · rename_i hm0
    have hlog : m.log2 ≤ 23 := by
      have := (Nat.log2_lt hm0 (k := 24)).2 (by omega)
      omega
    have hpow : m < 2 ^ (m.log2 + 1) := Nat.lt_log2_self
    simp only [hbi, hi, hp, hf]
    have hmax : max (e + (m.log2 : Int) - ((52 : Nat) : Int)) (-1074) = e + m.log2 - 52 := by omega
    rw [hmax]
    have ht : (e + (m.log2 : Int) - 52 - e).toNat = 0 := by omega
    have hu : (e - (e + (m.log2 : Int) - 52)).toNat = 52 - m.log2 := by omega
    rw [ht, hu, cut_zero]
    have hk : m <<< (52 - m.log2) < 9007199254740992 := by
      rw [Nat.shiftLeft_eq]
      calc m * 2 ^ (52 - m.log2) < 2 ^ (m.log2 + 1) * 2 ^ (52 - m.log2) := Nat.mul_lt_mul_of_pos_right hpow (Nat.two_pow_pos _)
        _ = 2 ^ 53 := by rw [← Nat.pow_add]; congr 1; omega
        _ = 9007199254740992 := by decide
    have hq : (e + (m.log2 : Int) - 52 - (-1074)).toNat ≤ 1149 := by omega
    refine ⟨_, ?_, rfl⟩
    generalize m <<< (52 - m.log2) = q at hk
    generalize (e + (m.log2 : Int) - 52 - (-1074)).toNat = p at hq
    clear ht hu hmax hpow hlog hm0 hbi hi hp hf hm h1 h2
    refine Nat.lt_of_le_of_lt (Nat.min_le_left _ _) ?_
    omega
theorem nan_drawn_conv (k : FloatKind) (b t : Nat) : isN k ((Question.nanConv k b).cut t) = true ∧ (Question.nanConv k b).cut t < fw k := by
  have h := nan_drawn k 0 0 t
  have e : (Question.nanConv k b).cut t = (Question.nanBits k 0 0).cut t := by cases k <;> simp only [Question.cut]
  rw [e]; exact h
theorem wid_cn (b : Nat) : wid (cn .f32 b) = wid b := by
  unfold wid
  by_cases h : isN .f32 b = true
  · obtain ⟨s, t, h1⟩ := read_nan h
    obtain ⟨s', t', h2⟩ := read_nan (b := cn .f32 b) (by rw [isN_cn]; exact h)
    rw [h1, h2]
  · rw [read_cn (by simpa using h)]
/-- float64(x) -/
theorem run_wid {P : Program} (w : World) (src dst : TypeId) (hs : P.underlying src = some (.float .f32)) (hd : P.underlying dst = some (.float .f64)) (b x : Nat) (hb : IsF .f32 b x) :
    ∃ r n, (convert src dst (.float .f32 b)).run P w = .ok (.float .f64 r) (w.drewN n) ∧ IsF .f64 r (wid x) := by
  have hx : wid x = wid b := by rw [← hb.eq]; exact wid_cn b
  rw [hx]
  rcases read_f32 (x := b) with ⟨s, t, h⟩ | ⟨s, h⟩ | ⟨s, m, e, h, h1, h2, h3⟩
  · obtain ⟨g1, g2⟩ := nan_drawn_conv .f64 b (w.tape w.drawn (.nanConv .f64 b))
    refine ⟨(Question.nanConv .f64 b).cut (w.tape w.drawn (.nanConv .f64 b)), 1, ?_, ?_⟩
    · rw [← drewN_one]
      have h' : FloatKind.f32.decode b = .nan s t := h
      simp [convert, run_underlying hs, run_underlying hd, Conv.floatToFloat, h', choose, Sem.run, Question.forced]
    · unfold wid; rw [h]; exact IsF.of_nan g1 g2
  · refine ⟨FloatKind.f64.format.write (.infinity s), 0, ?_, ?_⟩
    · rw [drewN_zero]
      have h' : FloatKind.f32.decode b = .infinity s := h
      simp [convert, run_underlying hs, run_underlying hd, Conv.floatToFloat, h', FloatKind.encode]
    · unfold wid; rw [h]; cases s <;> exact ⟨by decide, by decide +kernel⟩
  · obtain ⟨rung, hr, hw⟩ := wide_fits s m e h1 h2 h3
    obtain ⟨g1, g2⟩ := read_word (k := .f64) (neg := s) hr
    refine ⟨FloatKind.f64.format.write (.number s m e), 0, ?_, ?_⟩
    · rw [drewN_zero]
      have h' : FloatKind.f32.decode b = .number s m e := h
      have hi : (FloatKind.f64.decode (FloatKind.f64.format.write (.number s m e))).isInfinity = false := by
        show (FloatKind.f64.format.read (FloatKind.f64.format.nearest s m e)).isInfinity = false
        rw [hw]; exact g2
      simp [convert, run_underlying hs, run_underlying hd, Conv.floatToFloat, h', hi, FloatKind.encode]
    · unfold wid; rw [h]
      refine ⟨by rw [← fw_width]; exact FloatKind.f64.format.write_lt _, ?_⟩
      unfold cn
      rw [if_neg]
      unfold isN
      show ¬ (FloatKind.f64.format.read (FloatKind.f64.format.nearest s m e)).isNaN = true
      rw [hw, g1]; decide

/-! ### stores -/
theorem run_store_float (P : Program) (w : World) (a : Addr) (m : Mode) (k : FloatKind) (b : Nat) : (store a (.float k b) m).run P w = stored P w a (.float k b) m := run_store P w a _ m rfl
theorem run_store_complex (P : Program) (w : World) (a : Addr) (m : Mode) (k : FloatKind) (x y : Nat) : (store a (.complex k x y) m).run P w = stored P w a (.complex k x y) m := run_store P w a _ m rfl

theorem wrap_div {m n : Nat} (hm : m ≤ n) (hn : n < 4294967296) (k : Nat) : wrap64 ((m : Int) / (k : Int)) = ((m / k : Nat) : Int) := by
  have h1 : m / k ≤ m := Nat.div_le_self _ _
  have h2 : (m : Int) / (k : Int) = ((m / k : Nat) : Int) := by simp
  rw [h2]
  generalize m / k = q at h1
  unfold wrap64
  omega
theorem wrap_div_lt {m n : Nat} (hm : m ≤ n) (hn : n < 4294967296) (h : ¬ m < 128) : (wrap64 ((m : Int) / 128)).toNat < ((m : Int)).toNat := by
  have h0 : 0 < m := by omega
  have h1 := wrap_div hm hn 128
  have h2 : ((128 : Nat) : Int) = 128 := rfl
  rw [h2] at h1
  rw [h1, Int.toNat_natCast, Int.toNat_natCast]
  exact Nat.div_lt_self h0 (by decide)
theorem change_walk (x b : Nat) (hx : x < 4294967296) (hb : b < 4294967296) : (wrap64 (wrap64 ((x : Int) - (b : Int)) + 4294967296)).tmod 4294967296 = (((x + 4294967296 - b) % 4294967296 : Nat) : Int) := by
  have h1 : wrap64 ((x : Int) - (b : Int)) = (x : Int) - b := by unfold wrap64; omega
  have h2 : wrap64 ((x : Int) - (b : Int) + 4294967296) = ((x + 4294967296 - b : Nat) : Int) := by unfold wrap64; omega
  rw [h1, h2]
  rfl
/-! ### lists -/
theorem take_set_succ {α : Type} {xs ys : List α} {k : Nat} {x : α} (hk : k < xs.length) (hl : ys.length = xs.length) (ht : ys.take k = xs.take k) (hx : xs[k]? = some x) : (ys.set k x).take (k + 1) = xs.take (k + 1) := by
  have h1 : k < (ys.set k x).length := by rw [List.length_set]; omega
  rw [List.take_succ_eq_append_getElem h1, List.take_succ_eq_append_getElem hk, List.take_set_of_le (Nat.le_refl _), ht]
  rw [List.getElem?_eq_getElem hk] at hx
  simp only [Option.some.injEq] at hx
  simp [hx]
theorem getD_of {α : Type} {xs : List α} {k : Nat} (h : k < xs.length) (z : α) : xs[k]? = some (xs.getD k z) := by
  rw [List.getD_eq_getElem?_getD, List.getElem?_eq_getElem h]; rfl

/-! ### rows of floats -/
def fltK (k : FloatKind) : Kd Nat where
  sz := 1
  E := []
  K := fun _ x cs => ∃ b, cs = [.float k b] ∧ IsF k b x
  M := fun _ _ _ x cs => ∃ b, cs = [.float k b] ∧ IsF k b x
  K_len := by rintro w x cs ⟨b, rfl, _⟩; rfl
  K_one := by rintro w x cs ⟨b, rfl, _⟩ u hu; rw [List.mem_singleton.1 hu]; rfl
  K_below := fun _ h => h
  K_of_M := fun h => h
  M_mono := fun _ h => h
  M_bound := fun h => h
  M_move := fun _ h => h
  M_lower := fun _ h => h
abbrev F32 : Kd Nat := fltK .f32
theorem at_flt {k : FloatKind} {w : World} {A : Option Addr} {n : Nat} {xs : List Nat} (h : (fltK k).C w A n xs) (i : Nat) (hi : i < n) :
    ∃ ad b, A = some ad ∧ w.cell? (ad.add i) = some (.float k b) ∧ IsF k b (xs.getD i 0) := by
  obtain ⟨ad, c, e, _, ⟨b, rfl, hb⟩, hc⟩ := Kd.C_get h 0 (i : Int) (by omega) (by omega)
  refine ⟨ad, b, e, ?_, by simpa using hb⟩
  have := hc 0 _ rfl
  have hs : (fltK k).sz = 1 := rfl
  simpa [hs] using this
/-- an own row of floats: the cell of an element, and a store there -/
theorem flt_own {k : FloatKind} {e base n cap : Nat} {ok : Nat → Prop} {W : World} {g : Nat} {xs : List Nat} (h : (fltK k).R e W base ok (.slice (some ⟨g, 0, none⟩) n cap) xs) :
    n = xs.length ∧ ∃ cs : List Value, W.ownsRow base e 1 (.slice (some ⟨g, 0, none⟩) n cap) n (encs id cs) ∧ cs.length = xs.length ∧ ∀ j, j < xs.length → ∃ b, cs[j]? = some (.float k b) ∧ IsF k b (xs.getD j 0) := by
  obtain ⟨hn, _, _⟩ := Kd.R_reads' h
  obtain ⟨_, inner, ho, hr⟩ := h
  subst hn
  have he : encs id inner = inner := by simp [encs]
  refine ⟨rfl, inner, by rw [he]; exact ho, by have := hr.1; simpa [fltK] using this, fun j hj => ?_⟩
  obtain ⟨b, hb, hf⟩ := hr.2 j xs[j] (List.getElem?_eq_getElem hj)
  have hl : j < inner.length := by have := hr.1; simp [fltK] at this; omega
  refine ⟨b, ?_, by simpa [List.getD_eq_getElem?_getD, List.getElem?_eq_getElem hj] using hf⟩
  have h1 : (inner.drop (j * 1)).take 1 = [.float k b] := hb
  rw [Nat.mul_one, List.drop_eq_getElem_cons hl, List.take_succ_cons] at h1
  rw [List.getElem?_eq_getElem hl]
  exact congrArg some (List.cons.inj h1).1
theorem flt_of_own {k : FloatKind} {e base n : Nat} {ok : Nat → Prop} {W : World} {v : Value} {xs : List Nat} {cs : List Value} (ho : W.ownsRow base e 1 v n (encs id cs)) (hn : n = xs.length) (hok : ∀ q, v.ownBlock = some q → ok q)
    (hc : cs.length = xs.length) (hj : ∀ j, j < xs.length → ∃ b, cs[j]? = some (.float k b) ∧ IsF k b (xs.getD j 0)) : (fltK k).R e W base ok v xs := by
  subst hn
  have he : encs id cs = cs := by simp [encs]
  rw [he] at ho
  refine ⟨hok, cs, ho, by simp [fltK, hc], fun j p hp => ?_⟩
  obtain ⟨hjl, hpe⟩ := List.getElem?_eq_some_iff.1 hp
  obtain ⟨b, hb, hf⟩ := hj j hjl
  refine ⟨b, ?_, ?_⟩
  · have hl : j < cs.length := by omega
    show (cs.drop (j * 1)).take 1 = _
    rw [Nat.mul_one, List.drop_eq_getElem_cons hl]
    rw [List.getElem?_eq_getElem hl] at hb
    simp at hb
    simp [hb]
  · rw [List.getD_eq_getElem?_getD, hp] at hf
    exact hf
theorem flt_cell {k : FloatKind} {e base n cap : Nat} {ok : Nat → Prop} {W : World} {g : Nat} {xs : List Nat} (h : (fltK k).R e W base ok (.slice (some ⟨g, 0, none⟩) n cap) xs) (i : Nat) (hi : i < xs.length) :
    ∃ b, W.cell? ⟨g, i, none⟩ = some (.float k b) ∧ IsF k b (xs.getD i 0) ∧ W.frozen? ⟨g, i, none⟩ = false := by
  obtain ⟨hn, cs, ho, hl, hj⟩ := flt_own h
  obtain ⟨b, hb, hf⟩ := hj i hi
  obtain ⟨h1, h2⟩ := own_at_of (d := .bool false) ho (i : Int) (by omega) (by omega)
  refine ⟨b, ?_, hf, by simpa using h2⟩
  have : rdOf (Value.bool false) cs (i : Int) = .float k b := by simp [rdOf, List.getD_eq_getElem?_getD, hb]
  simpa [this] using h1
theorem flt_put {k : FloatKind} {e base n cap : Nat} {ok : Nat → Prop} {W : World} {g : Nat} {xs : List Nat} (h : (fltK k).R e W base ok (.slice (some ⟨g, 0, none⟩) n cap) xs) (i b x : Nat) (hb : IsF k b x) :
    (fltK k).R e (W.setCell ⟨g, i, none⟩ (.float k b)) base ok (.slice (some ⟨g, 0, none⟩) n cap) (xs.set i x) := by
  obtain ⟨hn, cs, ho, hl, hj⟩ := flt_own h
  obtain ⟨h1, h2⟩ := own_store_of ho (i : Int) (.float k b)
  simp only [Int.toNat_natCast] at h1
  refine flt_of_own (cs := cs.set i (.float k b)) (n := n) (v := .slice (some ⟨g, 0, none⟩) n cap) h1 (by simp [hn]) h.1 (by simp [hl]) (fun j hjl => ?_)
  rw [List.length_set] at hjl
  obtain ⟨c, hc, hf⟩ := hj j hjl
  by_cases e : i = j
  · subst e
    exact ⟨b, by rw [List.getElem?_set_self (by omega)], by simpa [List.getD_eq_getElem?_getD, List.getElem?_set_self hjl] using hb⟩
  · exact ⟨c, by rw [List.getElem?_set_ne e]; exact hc, by simpa [List.getD_eq_getElem?_getD, List.getElem?_set_ne e] using hf⟩
theorem flt_zero (k : FloatKind) : IsF k 0 0 := ⟨by cases k <;> decide, by cases k <;> decide +kernel⟩
theorem R_empty {α : Type} (d : Kd α) (e : Nat) (w : World) (ok : Nat → Prop) (hok : ok w.heap.size) : d.R e (w.alloc (.cells #[] e)) w.heap.size ok (.slice (some ⟨w.heap.size, 0, none⟩) 0 0) [] :=
  ⟨fun k hk => by have : w.heap.size = k := by simpa [Value.ownBlock] using hk
                  rw [← this]; exact hok, [], World.ownsRow_made w #[] 0 (Nat.le_refl _) (by simp [maxLen]) (by simp), Reps.none _ _⟩
theorem C_flt_lt {k : FloatKind} {w : World} {A : Option Addr} {n : Nat} {xs : List Nat} (h : (fltK k).C w A n xs) (i : Nat) (hi : i < n) : xs.getD i 0 < fw k := by
  obtain ⟨_, _, _, _, hb⟩ := at_flt h i hi
  exact hb.xlt
section
variable {P : Program} {ops : Array Oper} {rest : List Oper} {o : Oper} {a : Act} {Q : Exit → Act → World → Prop}
/-- At float64(x) of a float32. -/
theorem arm_wid {W : World} {b x : Nat} {X : Operand} {src dst : TypeId} (hgd : o.guard = none) (ho : o.op = .convert src dst X) (hs : P.underlying src = some (.float .f32)) (hd : P.underlying dst = some (.float .f64))
    (hx : a.eval X = .float .f32 b) (hb : IsF .f32 b x)
    (h : ∀ r n, IsF .f64 r (wid x) → wpList P ops Q rest (a.put o.dst (.float .f64 r)) (W.drewN n)) : wpList P ops Q (o :: rest) a W := by
  obtain ⟨r, n, hr, hf⟩ := run_wid (P := P) W src dst hs hd b x hb
  refine wpList_plain hgd fun K hK => ?_
  unfold Oper.wp execOp
  simp only [ho, hx, Sem.run_bind, hr, Result.andThen_ok, Sem.run_pure]
  exact hK _ _ (h r n hf)
/-- The same at a step of a region that draws its order. -/
theorem step_wid {W : World} {b x : Nat} {X : Operand} {src dst : TypeId} {K : Act → World → Prop} {E : Prop} (hgd : o.guard = none) (ho : o.op = .convert src dst X) (hs : P.underlying src = some (.float .f32)) (hd : P.underlying dst = some (.float .f64))
    (hx : a.eval X = .float .f32 b) (hb : IsF .f32 b x)
    (h : ∀ r n, IsF .f64 r (wid x) → K (a.put o.dst (.float .f64 r)) (W.drewN n)) : if Region.wanted o (yielded ops a.tmps) = true then Oper.wp P o a W K Q else E := by
  have hw : Region.wanted o (yielded ops a.tmps) = true := by simp [Region.wanted, hgd]
  rw [if_pos hw]
  obtain ⟨r, n, hr, hf⟩ := run_wid (P := P) W src dst hs hd b x hb
  unfold Oper.wp execOp
  simp only [ho, hx, Sem.run_bind, hr, Result.andThen_ok, Sem.run_pure]
  exact h r n hf
/-- A function of the tape: what float64(x) of a word comes to, at every world. -/
theorem wid_fun {src dst : TypeId} (hs : P.underlying src = some (.float .f32)) (hd : P.underlying dst = some (.float .f64)) {b x : Nat} (hb : IsF .f32 b x) :
    ∃ (R N : World → Nat), (∀ w : World, (convert src dst (.float .f32 b)).run P w = .ok (.float .f64 (R w)) (w.drewN (N w))) ∧ ∀ w, IsF .f64 (R w) (wid x) :=
  ⟨fun w => (run_wid (P := P) w src dst hs hd b x hb).choose, fun w => (run_wid (P := P) w src dst hs hd b x hb).choose_spec.choose,
   fun w => (run_wid (P := P) w src dst hs hd b x hb).choose_spec.choose_spec.1, fun w => (run_wid (P := P) w src dst hs hd b x hb).choose_spec.choose_spec.2⟩
theorem gate_make {W : World} {t : TypeId} {x y : Operand} (_ho : o.op = .makeSlice t x y) (h : wpList P ops Q (o :: rest) a W) : wpList P ops Q (o :: rest) a W := h
/-- At '+', '-', '*', '/' of floats. -/
theorem arm_fop {W : World} (op : BinOp) (k : FloatKind) {b c x y : Nat} {X Y : Operand} {t ty : TypeId} (hgd : o.guard = none) (ho : o.op = .binOp op t X Y ty) (hop : isArith op = true)
    (hx : a.eval X = .float k b) (hy : a.eval Y = .float k c) (hb : IsF k b x) (hc : IsF k c y)
    (h : ∀ r n, IsF k r (fop op k x y) → wpList P ops Q rest (a.put o.dst (.float k r)) (W.drewN n)) : wpList P ops Q (o :: rest) a W := by
  obtain ⟨r, n, hr, hf⟩ := run_fop (P := P) W op hop t k b c x y hb hc
  have hg : (eqGuard op t X Y (.float k b) (.float k c)).run P W = .ok () W := by
    cases op <;> simp only [isArith] at hop <;> first | (cases hop; done) | simp [eqGuard]
  refine wpList_plain hgd fun K hK => ?_
  unfold Oper.wp execOp
  simp only [ho, hx, hy, Sem.run_bind, hg, hr, Result.andThen_ok, Sem.run_pure]
  exact hK _ _ (h r n hf)
end
end Go.Proofs.Ythnjgcdajjodjaa
