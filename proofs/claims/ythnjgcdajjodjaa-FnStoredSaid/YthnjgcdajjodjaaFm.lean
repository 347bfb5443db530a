/- Floats' order and their words: equal numbers have equal words, but for the zeros; the sign is kept where a float32 is made wider. -/
import Derived.Test.YthnjgcdajjodjaaFl
import Derived.Test.YthnjgcdajjodjaaFp
set_option linter.unusedVariables false
set_option linter.unusedSimpArgs false
namespace Go.Proofs.Ythnjgcdajjodjaa
open Go.RowKit Go.Proofs.YthnjgcdajjodjaaW.PrintWords Go.Proofs.YthnjgcdajjodjaaW.PrintFl

theorem w64 {x : Int} (h0 : -9223372036854775808 ≤ x) (h1 : x ≤ 9223372036854775807) : wrap64 x = x := by
  unfold wrap64; omega
/-- what a finite word tells -/
theorem read_num {x : Nat} {s : Bool} {m : Nat} {e : Int} (hx : x < 4294967296) (h : FloatKind.f32.format.read x = .number s m e) :
    m < 16777216 ∧ -149 ≤ e ∧ e ≤ 104 ∧ s = decide (2147483648 ≤ x) ∧ ((m < 8388608 ∧ e = -149 ∧ x % 2147483648 = m) ∨ (8388608 ≤ m ∧ ((x % 2147483648 : Nat) : Int) = (e + 150) * 8388608 + ((m : Int) - 8388608))) := by
  unfold Ieee.Format.read at h
  have hs : FloatKind.f32.format.signWeight = 2147483648 := rfl
  have hbi : FloatKind.f32.format.binade = 8388608 := rfl
  have hi : FloatKind.f32.format.infRung = 2139095040 := rfl
  have hp : FloatKind.f32.format.leastPlace = -149 := rfl
  simp only [hs, hbi, hi, hp] at h
  have hsg : (x / 2147483648 % 2 == 1) = decide (2147483648 ≤ x) := by
    by_cases c : 2147483648 ≤ x
    · have : x / 2147483648 % 2 = 1 := by omega
      simp [c, this]
    · have : x / 2147483648 % 2 = 0 := by omega
      simp [c, this]
  rw [hsg] at h
  split at h
  · injection h with h1 h2 h3
    subst h2 h3
    exact ⟨by omega, by omega, by omega, h1.symm, .inl ⟨by omega, rfl, rfl⟩⟩
  · split at h
    · injection h with h1 h2 h3
      subst h2 h3
      generalize x % 2147483648 = r at *
      exact ⟨by omega, by omega, by omega, h1.symm, .inr ⟨by omega, by omega⟩⟩
    · split at h <;> cases h
theorem read_inf {x : Nat} {s : Bool} (hx : x < 4294967296) (h : FloatKind.f32.format.read x = .infinity s) : s = decide (2147483648 ≤ x) ∧ x % 2147483648 = 2139095040 := by
  unfold Ieee.Format.read at h
  have hs : FloatKind.f32.format.signWeight = 2147483648 := rfl
  have hbi : FloatKind.f32.format.binade = 8388608 := rfl
  have hi : FloatKind.f32.format.infRung = 2139095040 := rfl
  have hp : FloatKind.f32.format.leastPlace = -149 := rfl
  simp only [hs, hbi, hi, hp] at h
  have hsg : (x / 2147483648 % 2 == 1) = decide (2147483648 ≤ x) := by
    by_cases c : 2147483648 ≤ x
    · have : x / 2147483648 % 2 = 1 := by omega
      simp [c, this]
    · have : x / 2147483648 % 2 = 0 := by omega
      simp [c, this]
  rw [hsg] at h
  split at h
  · cases h
  · split at h
    · cases h
    · split at h
      · injection h with h1
        exact ⟨h1.symm, by assumption⟩
      · cases h
theorem signed_eq {s t : Bool} {m n : Nat} {i j : Nat} (h : Ieee.signed s m i = Ieee.signed t n j) : m <<< i = n <<< j ∧ (s = t ∨ m <<< i = 0) := by
  unfold Ieee.signed at h
  generalize m <<< i = a at *
  generalize n <<< j = b at *
  cases s <;> cases t <;> simp only [if_true, if_false, Bool.false_eq_true] at h ⊢
  · exact ⟨by omega, .inl trivial⟩
  · exact ⟨by omega, .inr (by omega)⟩
  · exact ⟨by omega, .inr (by omega)⟩
  · exact ⟨by omega, .inl trivial⟩
theorem cmp_eq {a b : Int} (h : compare a b = .eq) : a = b := by
  unfold compare instOrdInt at h
  simp only [compareOfLessAndEq] at h
  split at h
  · cases h
  · split at h
    · assumption
    · cases h
/-- Equal numbers have equal words, or are zeros. -/
theorem order_word {x y : Nat} (hx : x < 4294967296) (hy : y < 4294967296) (h : FloatKind.f32.format.order x y = some .eq) : x % 2147483648 = y % 2147483648 ∧ (decide (2147483648 ≤ x) = decide (2147483648 ≤ y) ∨ x % 2147483648 = 0) := by
  unfold Ieee.Format.order at h
  rcases hrx : FloatKind.f32.format.read x with ⟨s, m, i⟩ | ⟨s⟩ | ⟨s, t⟩
  · rcases hry : FloatKind.f32.format.read y with ⟨t, n, j⟩ | ⟨t⟩ | ⟨t, u⟩
    · rw [hrx, hry] at h
      obtain ⟨m1, i1, i2, sx, mx⟩ := read_num hx hrx
      obtain ⟨n1, j1, j2, sy, my⟩ := read_num hy hry
      unfold Ieee.Datum.order at h
      simp only [Option.some.injEq] at h
      have h1 := signed_eq (cmp_eq h)
      obtain ⟨h2, h3⟩ := h1
      have hmn : m = n ∧ (i = j ∨ m = 0) := by
        rcases Int.lt_trichotomy i j with c | c | c
        · have e1 : (i - min i j).toNat = 0 := by omega
          rw [e1] at h2
          obtain ⟨q, hq⟩ : ∃ q, (j - min i j).toNat = q + 1 := ⟨(j - min i j).toNat - 1, by omega⟩
          rw [hq, Nat.shiftLeft_zero, Nat.shiftLeft_eq, Nat.pow_succ] at h2
          have hp := Nat.one_le_two_pow (n := q)
          have : n ≤ n * 2 ^ q := by
            have := Nat.mul_le_mul_left n hp
            omega
          have e2 : n * (2 ^ q * 2) = 2 * (n * 2 ^ q) := by rw [← Nat.mul_assoc, Nat.mul_comm]
          omega
        · have e1 : (i - min i j).toNat = 0 := by omega
          have e2 : (j - min i j).toNat = 0 := by omega
          rw [e1, e2, Nat.shiftLeft_zero, Nat.shiftLeft_zero] at h2
          exact ⟨h2, .inl c⟩
        · have e1 : (j - min i j).toNat = 0 := by omega
          rw [e1] at h2
          obtain ⟨q, hq⟩ : ∃ q, (i - min i j).toNat = q + 1 := ⟨(i - min i j).toNat - 1, by omega⟩
          rw [hq, Nat.shiftLeft_zero, Nat.shiftLeft_eq, Nat.pow_succ] at h2
          have hp := Nat.one_le_two_pow (n := q)
          have : m ≤ m * 2 ^ q := by
            have := Nat.mul_le_mul_left m hp
            omega
          have e2 : m * (2 ^ q * 2) = 2 * (m * 2 ^ q) := by rw [← Nat.mul_assoc, Nat.mul_comm]
          omega
      obtain ⟨rfl, hij⟩ := hmn
      have hxy : x % 2147483648 = y % 2147483648 := by omega
      refine ⟨hxy, ?_⟩
      rcases h3 with h3 | h3
      · left; rw [← sx, ← sy, h3]
      · right
        rw [Nat.shiftLeft_eq] at h3
        have : m = 0 := by
          rcases Nat.mul_eq_zero.1 h3 with h4 | h4
          · exact h4
          · have := Nat.one_le_two_pow (n := (i - min i j).toNat); omega
        omega
    · rw [hrx, hry] at h; cases t <;> cases h
    · rw [hrx, hry] at h; cases h
  · rcases hry : FloatKind.f32.format.read y with ⟨t, n, j⟩ | ⟨t⟩ | ⟨t, u⟩
    · rw [hrx, hry] at h; cases s <;> cases h
    · rw [hrx, hry] at h
      obtain ⟨sx, mx⟩ := read_inf hx hrx
      obtain ⟨sy, my⟩ := read_inf hy hry
      refine ⟨by omega, .inl ?_⟩
      rw [← sx, ← sy]
      cases s <;> cases t <;> first | rfl | cases h
    · rw [hrx, hry] at h; cases h
  · rw [hrx] at h; cases h
theorem feq_nanW {x : Nat} (h : isN .f32 x = true) (y : Nat) : feq .f32 x y = false := by unfold feq; rw [order_nan h]; rfl
theorem feq_nan' {x : Nat} (h : isN .f32 x = true) (y : Nat) : feq .f32 y x = false := by unfold feq; rw [order_nan' h]; rfl
theorem feq_self {x : Nat} (h : isN .f32 x = false) : feq .f32 x x = true := by unfold feq; rw [order_self h]; rfl
theorem fne_self (x : Nat) : fne .f32 x x = isN .f32 x := by
  rw [fne_eq]
  rcases h : isN .f32 x
  · rw [feq_self h]; rfl
  · rw [feq_nanW h]; rfl
/-- A float32 that is no NaN, made wider: its sign. -/
theorem wide_sign {x : Nat} (hx : x < 4294967296) (h : isN .f32 x = false) : fconvOk .f32 x .f64 = true ∧ ∃ r, r < 9223372036854775808 ∧ fconv .f32 x .f64 = (if 2147483648 ≤ x then 9223372036854775808 else 0) + r := by
  have hw : ∀ (s : Bool) (r : Nat), FloatKind.f64.format.word s r = (if s then 9223372036854775808 else 0) + r := by intro s r; cases s <;> simp [Ieee.Format.word]; rfl
  unfold fconvOk fconv floatToFloatBits
  rw [if_neg (by decide)]
  rcases hrx : FloatKind.f32.format.read x with ⟨s, m, i⟩ | ⟨s⟩ | ⟨s, t⟩
  · obtain ⟨m1, i1, i2, sx, mx⟩ := read_num hx hrx
    obtain ⟨rung, hr, hn⟩ := wide_fits s m i m1 i1 i2
    obtain ⟨g1, g2⟩ := read_word (k := .f64) (neg := s) hr
    have h' : FloatKind.f32.decode x = .number s m i := hrx
    rw [h']
    have he : FloatKind.f64.encode (.number s m i) = FloatKind.f64.format.word s rung := hn
    have hd : (FloatKind.f64.decode (FloatKind.f64.format.word s rung)).isInfinity = false := g2
    simp only [he, hd]
    refine ⟨rfl, rung, ?_, ?_⟩
    · have : FloatKind.f64.format.infRung = 9218868437227405312 := rfl
      omega
    · show FloatKind.f64.format.word s rung = _
      rw [hw, sx]
      simp only [decide_eq_true_eq]
  · obtain ⟨sx, mx⟩ := read_inf hx hrx
    have h' : FloatKind.f32.decode x = .infinity s := hrx
    rw [h']
    refine ⟨rfl, 9218868437227405312, by decide, ?_⟩
    show FloatKind.f64.format.word s FloatKind.f64.format.infRung = _
    rw [hw, sx]
    simp only [decide_eq_true_eq]
    rfl
  · unfold isN at h; rw [hrx] at h; cases h
/-- equal words, by order and sign -/
theorem same_word {x y : Nat} (hx : x < 4294967296) (hy : y < 4294967296) (nx : isN .f32 x = false) (ny : isN .f32 y = false) :
    (feq .f32 x y && (decide (2147483648 ≤ x) == decide (2147483648 ≤ y))) = (x == y) := by
  by_cases e : x = y
  · subst e
    rw [feq_self nx]; simp
  · have : (x == y) = false := by simpa using e
    rw [this]
    rcases hf : feq .f32 x y
    · rfl
    · unfold feq at hf
      obtain ⟨h1, h2⟩ := order_word hx hy (by simpa using hf)
      rcases h2 with h2 | h2
      · exfalso
        apply e
        by_cases c : 2147483648 ≤ x <;> by_cases d : 2147483648 ≤ y <;> simp [c, d] at h2 <;> omega
      · by_cases c : 2147483648 ≤ x <;> by_cases d : 2147483648 ≤ y <;> simp [c, d] <;> omega
end Go.Proofs.Ythnjgcdajjodjaa
