/- Plain laws of packing: no program in sight. -/
set_option linter.unusedVariables false
namespace Go.Proofs.Ythnjgcdajjodjaa
/-- a number in seven binary digits a byte, the least ones first -/
def vb (n : Nat) : List Int := if h : n < 128 then [(n : Int)] else ((n % 128 + 128 : Nat) : Int) :: vb (n / 128)
termination_by n
decreasing_by omega
theorem vb_small {n : Nat} (h : n < 128) : vb n = [(n : Int)] := by rw [vb]; simp [h]
theorem vb_big {n : Nat} (h : ¬ n < 128) : vb n = ((n % 128 + 128 : Nat) : Int) :: vb (n / 128) := by rw [vb]; simp [h]
theorem vb_len (f : Nat) : ∀ n, n < 128 ^ (f + 1) → (vb n).length ≤ f + 1 := by
  induction f with
  | zero => intro n h; rw [vb_small (by simpa using h)]; simp
  | succ f ih =>
    intro n h
    by_cases hs : n < 128
    · rw [vb_small hs]; simp
    · rw [vb_big hs, List.length_cons]
      have := ih (n / 128) (by rw [Nat.div_lt_iff_lt_mul (by decide)]; rw [Nat.pow_succ] at h; exact h)
      omega
/-- the change of a number -/
def zig (before x : Nat) : Nat :=
  let d := (x + 4294967296 - before) % 4294967296
  if d ≥ 2147483648 then 2 * (4294967296 - d) - 1 else 2 * d
theorem zig_def (before x : Nat) : zig before x = if (x + 4294967296 - before) % 4294967296 ≥ 2147483648 then 2 * (4294967296 - (x + 4294967296 - before) % 4294967296) - 1 else 2 * ((x + 4294967296 - before) % 4294967296) := rfl
theorem zig_lt (b x : Nat) : zig b x < 4294967296 := by
  unfold zig
  dsimp only
  have h : (x + 4294967296 - b) % 4294967296 < 4294967296 := Nat.mod_lt _ (by decide)
  generalize (x + 4294967296 - b) % 4294967296 = d at h
  split <;> omega
theorem zig_lt5 (b x : Nat) : zig b x < 128 ^ (4 + 1) := Nat.lt_of_lt_of_le (zig_lt b x) (by decide)
theorem vb_len5 (n : Nat) (h : n < 128 ^ (4 + 1)) : (vb n).length ≤ 5 := vb_len 4 n h
attribute [irreducible] zig
theorem vb_len5' (n : Nat) (h : n < 4294967296) : (vb n).length ≤ 5 := vb_len5 n (Nat.lt_of_lt_of_le h (by decide))
theorem app_len {xs ys : List Int} {n m : Nat} (h : xs ++ vb n = ys ++ vb m) (hn : n < 4294967296) : ys.length ≤ xs.length + 5 := by
  have h1 := congrArg List.length h
  have h2 := vb_len5' n hn
  rw [List.length_append, List.length_append] at h1
  generalize (vb n).length = p at *
  generalize (vb m).length = q at *
  omega
theorem app_step {xs ys : List Int} {n m : Nat} (h : xs ++ vb n = ys ++ vb m) (hm : ¬ m < 128) : xs ++ vb n = (ys ++ [(m : Int) % 128 + 128]) ++ vb (m / 128) := by
  rw [h, vb_big hm, List.append_assoc]
  have : (((m % 128 + 128 : Nat)) : Int) = (m : Int) % 128 + 128 := by omega
  rw [this]; rfl
theorem zig_len (b x : Nat) : (vb (zig b x)).length ≤ 5 := vb_len5 _ (zig_lt5 b x)
def packFrom : Nat → List Nat → List Int
  | _, [] => []
  | b, x :: xs => vb (zig b x) ++ packFrom x xs
theorem packFrom_nil (b : Nat) : packFrom b [] = [] := rfl
theorem packFrom_cons (b x : Nat) (xs : List Nat) : packFrom b (x :: xs) = vb (zig b x) ++ packFrom x xs := rfl
def lastOf (b : Nat) : List Nat → Nat
  | [] => b
  | x :: xs => lastOf x xs
theorem lastOf_nil (b : Nat) : lastOf b [] = b := rfl
theorem lastOf_cons (b x : Nat) (xs : List Nat) : lastOf b (x :: xs) = lastOf x xs := rfl
theorem lastOf_snoc (xs : List Nat) (x : Nat) : ∀ b, lastOf b (xs ++ [x]) = x := by
  induction xs with
  | nil => intro b; rfl
  | cons y ys ih => intro b; exact ih y
theorem lastOf_take {xs : List Nat} {k : Nat} (h : k < xs.length) (b : Nat) : lastOf b (xs.take (k + 1)) = xs[k] := by
  rw [List.take_succ_eq_append_getElem h, lastOf_snoc]
theorem lastOf_lt (xs : List Nat) (N : Nat) : ∀ b, b < N → (∀ x ∈ xs, x < N) → lastOf b xs < N := by
  induction xs with
  | nil => intro b hb _; exact hb
  | cons y ys ih => intro b _ h; exact ih y (h y (by simp)) (fun x hx => h x (List.mem_cons_of_mem _ hx))
theorem packFrom_snoc (xs : List Nat) (x : Nat) : ∀ b, packFrom b (xs ++ [x]) = packFrom b xs ++ vb (zig (lastOf b xs) x) := by
  induction xs with
  | nil => intro b; rw [List.nil_append, packFrom_cons, packFrom_nil, packFrom_nil, lastOf_nil, List.append_nil, List.nil_append]
  | cons y ys ih => intro b; rw [List.cons_append, packFrom_cons, ih y, packFrom_cons, lastOf_cons, List.append_assoc]
theorem packFrom_take {xs : List Nat} {k : Nat} (h : k < xs.length) : packFrom 0 (xs.take (k + 1)) = packFrom 0 (xs.take k) ++ vb (zig (lastOf 0 (xs.take k)) xs[k]) := by
  rw [List.take_succ_eq_append_getElem h, packFrom_snoc]
theorem packFrom_len (xs : List Nat) : ∀ b, (packFrom b xs).length ≤ 5 * xs.length := by
  induction xs with
  | nil => intro b; rw [packFrom_nil]; exact Nat.zero_le _
  | cons y ys ih =>
    intro b
    rw [packFrom_cons, List.length_append, List.length_cons]
    have h1 := ih y
    have h2 := zig_len b y
    generalize (packFrom y ys).length = p at *
    generalize (vb (zig b y)).length = q at *
    omega
end Go.Proofs.Ythnjgcdajjodjaa
