/- Arguments of laws, laid open by their kinds. -/
import Derived.RowKit
import Derived.Test.YthnjgcdajjodjaaWWords
import Derived.ProofKit
import Derived.Deep.Slices
import Derived.ChangeOld
import Derived.SizedLaws
set_option linter.unusedVariables false
set_option linter.unusedSimpArgs false
namespace Go.Proofs.Ythnjgcdajjodjaa
open Go.RowKit Go.Proofs.YthnjgcdajjodjaaW.PrintWords Go.ChangeShapes Go.WideShapes Go.Deep

/-- Whatever reads as data of type t, within the weights' bound, reads by kind d, and meets p. -/
def Opens {α : Type} (P : Program) (t : TypeId) (d : Kd α) (p : α → Prop) : Prop :=
  ∀ (H : Type) (enc : TypeId × Value → H) (w : World) (base : Nat) (spare : Nat → Bool) (held : Bool) (fuel : Nat) (cs : List Value) (x : DataW H × List MemPlace),
    DataW.trod enc P w base spare held fuel t cs = some x → (∀ n ∈ DataW.weights P t x.1, n ≤ reachBytes) → ∃ y, d.K w y cs ∧ p y

section
variable {P : Program} {t : TypeId}
theorem opens_int {k : IntKind} (ht : P.underlying t = some (.int k)) : Opens P t (Kd.int k) (fun x => (Lit.int k x).wf = true) := by
  intro H enc w base spare held fuel cs x h _
  obtain ⟨n, rfl, _, hw⟩ := DataW.trod_int ht h
  exact ⟨n, rfl, hw⟩
theorem opens_bool (ht : P.underlying t = some .bool) : Opens P t Kd.bool (fun _ => True) := by
  intro H enc w base spare held fuel cs x h _
  obtain ⟨b, rfl, _⟩ := DataW.trod_bool ht h
  exact ⟨b, rfl, trivial⟩
theorem opens_str (ht : P.underlying t = some .string) : Opens P t Kd.string (fun s => s.size ≤ 140737488351232) := by
  intro H enc w base spare held fuel cs x h hs
  obtain ⟨s, rfl, rfl, _⟩ := DataW.trod_string ht h
  refine ⟨s, rfl, ?_⟩
  have := hs s.data.toList.length (by simp [DataW.weights])
  rw [Array.length_toList] at this
  exact this
theorem weights_all {H : Type} {e : TypeId} {n : Nat} : ∀ {l : List (DataW H)} {d : DataW H}, d ∈ l → n ∈ DataW.weights P e d → n ∈ DataW.weightsAll P e l
  | [], _, h, _ => by simp at h
  | c :: l, d, h, hn => by
    unfold DataW.weightsAll
    rcases List.mem_cons.1 h with rfl | h
    · exact List.mem_append_left _ hn
    · exact List.mem_append_right _ (weights_all h hn)
theorem weights_each {H : Type} {n : Nat} : ∀ {ts : List TypeId} {l : List (DataW H)} {i : Nat} {e : TypeId} {d : DataW H}, ts[i]? = some e → l[i]? = some d → n ∈ DataW.weights P e d → n ∈ DataW.weightsEach P ts l
  | [], _, _, _, _, h, _, _ => by simp at h
  | _ :: _, [], _, _, _, _, h, _ => by simp at h
  | t :: ts, c :: l, 0, e, d, h, h2, hn => by
    simp at h h2; subst h h2
    unfold DataW.weightsEach
    exact List.mem_append_left _ hn
  | t :: ts, c :: l, i + 1, e, d, h, h2, hn => by
    unfold DataW.weightsEach
    exact List.mem_append_right _ (weights_each (i := i) (by simpa using h) (by simpa using h2) hn)
theorem opens_slice {α : Type} {e : TypeId} {d : Kd α} {p : α → Prop} (e0 : Nat) {B : Nat} (ht : P.underlying t = some (.slice e)) (hc : P.cellsOf e = d.sz) (hB : P.bytesOf e = B) (he : Opens P e d p) :
    Opens P t (Kd.slice e0 d) (fun l => l.length ≤ 9223372036854775807 ∧ l.length * B ≤ 140737488351232 ∧ ∀ x ∈ l, p x) := by
  intro H enc w base spare held fuel cs x h hs
  rcases open_slice ht h with ⟨rfl, rfl⟩ | ⟨a, len, cap, m, n, D, Pl, rfl, hb, hl, hm, hmm, rfl, hx⟩
  · exact ⟨[], ⟨none, 0, rfl, by simp, ⟨rfl, by simp, fun h => absurd h (by simp)⟩⟩, by simp⟩
  · have hlm : len ≤ m := by rw [hmm]; split <;> omega
    have hw : ∀ i, i < len → ∃ y, (∃ cs', (∀ j u, cs'[j]? = some u → w.cell? ((a.add (i * d.sz)).add j) = some u) ∧ cs'.length = d.sz ∧ d.K w y cs') ∧ p y := by
      intro i hi
      obtain ⟨cs', h1, h2⟩ := hx i (by omega)
      obtain ⟨y, hk, hp⟩ := he H enc w base spare held n cs' _ h2 (fun q hq => hs q (by
        simp only [DataW.weights, ht]
        refine List.mem_cons_of_mem _ (List.mem_append_left _ (weights_all (d := D i) (List.mem_map.2 ⟨i, List.mem_range.2 hi, rfl⟩) hq))))
      obtain ⟨_, hlen, hcell⟩ := World.cells?_some h1
      rw [hc] at hcell hlen
      refine ⟨y, ⟨cs', fun j u hu => ?_, hlen, hk⟩, hp⟩
      have hj : j < cs'.length := (List.getElem?_eq_some_iff.1 hu).1
      rw [hcell j (by omega), hu]
    classical
    let f : Fin len → α := fun i => Classical.choose (hw i.1 i.2)
    have hf : ∀ i : Fin len, (∃ cs', (∀ j u, cs'[j]? = some u → w.cell? ((a.add (i.1 * d.sz)).add j) = some u) ∧ cs'.length = d.sz ∧ d.K w (f i) cs') ∧ p (f i) := fun i => Classical.choose_spec (hw i.1 i.2)
    refine ⟨List.ofFn f, ⟨some a, cap, by simp, by simpa using hl, ⟨by simp, ?_, fun _ => ⟨a, rfl, fun j q hj => ?_⟩⟩⟩, ?_, ?_, ?_⟩
    · simp; unfold maxLen at hm; omega
    · obtain ⟨hjl, hq⟩ := List.getElem?_eq_some_iff.1 hj
      rw [List.length_ofFn] at hjl
      obtain ⟨⟨cs', h1, h2, h3⟩, _⟩ := hf ⟨j, hjl⟩
      refine ⟨cs', h2, ?_, fun i u hu => ?_⟩
      · rw [← hq, List.getElem_ofFn]; exact h3
      · have := h1 i u hu
        rwa [Deep.add_add] at this
    · simp; unfold maxLen at hm; omega
    · have := hs ((((List.range len).map D).length + ((List.range (m - len)).map fun j => D (len + j)).length) * P.bytesOf e) (by simp [DataW.weights, ht])
      rw [hB] at this
      simp only [List.length_map, List.length_range, List.length_ofFn] at this ⊢
      exact Nat.le_trans (Nat.mul_le_mul_right _ (Nat.le_add_right _ _)) this
    · intro y hy
      obtain ⟨i, rfl⟩ := List.mem_ofFn.1 hy
      exact (hf i).2
/-- Fields from an offset on. -/
def OpensF {α : Type} (P : Program) (N off : Nat) (fs : List Field) (d : Kd α) (p : α → Prop) : Prop :=
  ∀ (H : Type) (enc : TypeId × Value → H) (w : World) (base : Nat) (spare : Nat → Bool) (held : Bool) (fuel : Nat) (cs : List Value) (xs : List (DataW H × List MemPlace)), cs.length = N → xs.length = fs.length →
    (∀ (i : Nat) (f : Field), fs[i]? = some f → DataW.trod enc P w base spare held fuel f.type ((cs.drop f.offset).take (P.cellsOf f.type)) = xs[i]?) →
    (∀ n ∈ DataW.weightsEach P (fs.map (·.type)) (xs.map (·.1)), n ≤ reachBytes) → ∃ y, d.K w y (cs.drop off) ∧ p y
theorem opensF_last {α : Type} {N off : Nat} {f : Field} {d : Kd α} {p : α → Prop} (ho : f.offset = off) (hc : off + P.cellsOf f.type = N) (h : Opens P f.type d p) : OpensF P N off [f] d p := by
  intro H enc w base spare held fuel cs xs hl hx ht hs
  match xs, hx with
  | [x], _ =>
    have h1 := ht 0 f rfl
    rw [ho, List.take_of_length_le (by rw [List.length_drop]; omega)] at h1
    exact h H enc w base spare held fuel _ x h1 (fun n hn => hs n (weights_each (i := 0) rfl rfl hn))
theorem opensF_cons {α β : Type} {N off off' : Nat} {f : Field} {fs : List Field} {d : Kd α} {d2 : Kd β} {p : α → Prop} {p2 : β → Prop} (ho : f.offset = off) (hc : off + P.cellsOf f.type = off') (h : Opens P f.type d p) (h2 : OpensF P N off' fs d2 p2) :
    OpensF P N off (f :: fs) (Kd.pair d d2) (fun x => p x.1 ∧ p2 x.2) := by
  intro H enc w base spare held fuel cs xs hl hx ht hs
  match xs, hx with
  | x :: xs, hx =>
    have h1 := ht 0 f rfl
    rw [ho] at h1
    obtain ⟨y, hk, hp⟩ := h H enc w base spare held fuel _ x h1 (fun n hn => hs n (weights_each (i := 0) rfl rfl hn))
    obtain ⟨z, hk2, hp2⟩ := h2 H enc w base spare held fuel cs xs hl (by simpa using hx) (fun i g hg => by simpa using ht (i + 1) g (by simpa using hg)) (fun n hn => hs n (by
      simp only [List.map_cons]
      unfold DataW.weightsEach
      exact List.mem_append_right _ hn))
    refine ⟨(y, z), ⟨_, _, ?_, hk, hk2⟩, hp, hp2⟩
    rw [← hc, ← List.drop_drop, List.take_append_drop]
theorem opens_struct {α β : Type} {fs : Array Field} {l : List Field} {N : Nat} {d : Kd α} {p : α → Prop} (f : β → α) (g : α → β) (hfg : ∀ x, f (g x) = x) (ht : P.underlying t = some (.struct fs)) (hl : fs.toList = l) (hN : P.cellsOf t = N) (h : OpensF P N 0 l d p) :
    Opens P t (Kd.iso d f) (fun x => p (f x)) := by
  subst hl
  intro H enc w base spare held fuel cs x hx hs
  obtain ⟨xs, n, rfl, rfl, hlen, hxl, hall⟩ := DataW.trod_struct ht hx
  obtain ⟨y, hk, hp⟩ := h H enc w base spare held n cs xs (by rw [hlen, hN]) (by rw [hxl, Array.length_toList]) (fun i f hf => hall i f (by simpa using hf)) (fun q hq => hs q (by
    simp only [DataW.weights, ht]
    exact hq))
  refine ⟨g y, ?_, by show p (f (g y)); rw [hfg]; exact hp⟩
  show d.K w (f (g y)) cs
  rw [hfg]
  simpa using hk
theorem opens_imp {α : Type} {d : Kd α} {p q : α → Prop} (h : Opens P t d p) (hpq : ∀ x, p x → q x) : Opens P t d q := by
  intro H enc w base spare held fuel cs x hx hs
  obtain ⟨y, hk, hp⟩ := h H enc w base spare held fuel cs x hx hs
  exact ⟨y, hk, hpq y hp⟩
/-- An argument of a row. -/
theorem Opens.arg {α : Type} {d : Kd α} {p : α → Prop} (h : Opens P t d p) {H : Type} {enc : TypeId × Value → H} {W : World} {base : Nat} {spare : Nat → Bool} {held : Bool} {v : Value} {x : DataW H} {ps : List MemPlace} {ts : List TypeId} {ds : List (DataW H)} {j : Nat}
    (hsz : (DataW.weightsEach P ts ds).all (· ≤ reachBytes) = true) (ht : ts[j]? = some t) (hd : ds[j]? = some x) (hx : DataW.Trod enc P W base spare held t v x ps) : ∃ y, d.K W y v.cells.toList ∧ p y := by
  obtain ⟨fuel, hf⟩ := hx
  exact h H enc W base spare held fuel _ _ hf (fun n hn => by
    have := List.all_eq_true.1 hsz n (weights_each ht hd hn)
    simpa using this)
end
end Go.Proofs.Ythnjgcdajjodjaa
