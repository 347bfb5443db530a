import Derived.Test.YtoiaojdkgagblaaLoLaw2
set_option linter.unusedVariables false
set_option linter.unusedSimpArgs false
namespace Go.Proofs.Ytoiaojdkgagblaa
open Go.RowKit Go.Proofs.YtoiaojdkgagblaaW.PrintWords Go.Proofs.YtoiaojdkgagblaaW.PrintFl Go.Proofs.Ytoiaojdkgagblaa.PFnExactLengthsOf Go.ChangeShapes Go.WideShapes
theorem opens_soundS_lo : Opens Try.prog 135 k135 LoPure.okS :=
  opens_imp (opens_struct (P := Try.prog) (fun x : S135 => (x.f0, x.f1, x.f2, x.f3, x.f4, x.f5)) (fun x => ⟨x.1, x.2.1, x.2.2.1, x.2.2.2.1, x.2.2.2.2.1, x.2.2.2.2.2⟩) (fun _ => rfl) Try.underlying135 rfl (N := 6) (by kernel_rfl)
    (opensF_cons rfl (off' := 1) (by kernel_rfl) (opens_str Try.underlying9) (opensF_cons rfl (off' := 2) (by kernel_rfl) (opens_slice (B := 4) _ Try.underlying26 (by kernel_rfl) (by kernel_rfl) (opens_raw Try.underlying36))
      (opensF_cons rfl (off' := 3) (by kernel_rfl) (opens_raw Try.underlying36) (opensF_cons rfl (off' := 4) (by kernel_rfl) (opens_raw Try.underlying36) (opensF_cons rfl (off' := 5) (by kernel_rfl) (opens_raw Try.underlying36) (opensF_last rfl (by kernel_rfl) (opens_raw Try.underlying36))))))))
    (fun x h => ⟨h.1, ⟨h.2.1.1, h.2.1.2.2⟩, h.2.2.1, h.2.2.2.1, h.2.2.2.2.1, h.2.2.2.2.2⟩)
theorem opens_sounds_lo : Opens Try.prog 62 (Kd.slice 135 k135) (fun l => l.length ≤ 9223372036854775807 ∧ l.length * 56 ≤ 140737488351232 ∧ ∀ x ∈ l, LoPure.okS x) :=
  opens_slice _ Try.underlying62 (by kernel_rfl) (by kernel_rfl) opens_soundS_lo
theorem opens_strings_lo : Opens Try.prog 95 (Kd.slice 9 Kd.string) (fun l => l.length ≤ 9223372036854775807 ∧ l.length * 16 ≤ 140737488351232 ∧ ∀ x ∈ l, x.size ≤ 140737488351232) :=
  opens_slice _ Try.underlying95 (by kernel_rfl) (by kernel_rfl) (opens_str Try.underlying9)
theorem opens_bools_lo : Opens Try.prog 96 (Kd.slice 4 Kd.bool) (fun l => l.length ≤ 9223372036854775807 ∧ l.length * 1 ≤ 140737488351232 ∧ ∀ x ∈ l, True) :=
  opens_slice _ Try.underlying96 (by kernel_rfl) (by kernel_rfl) (opens_bool Try.underlying4)
theorem lengthsOf_w (A0 : Option Addr) (c0 : Nat) (l : List S135) (A1 : Option Addr) (c1 : Nat) (ns : List ByteArray) (A2 : Option Addr) (c2 : Nat) (st : List Bool) (w : World)
    (hr0 : Kd.C k135 w A0 l.length l) (hc0 : l.length ≤ c0) (z0 : l.length ≤ 9223372036854775807 ∧ l.length * 56 ≤ 140737488351232 ∧ ∀ x ∈ l, LoPure.okS x)
    (hr1 : Kd.C Kd.string w A1 ns.length ns) (hc1 : ns.length ≤ c1) (z1 : ns.length ≤ 9223372036854775807 ∧ ns.length * 16 ≤ 140737488351232 ∧ ∀ x ∈ ns, x.size ≤ 140737488351232)
    (hr2 : Kd.C Kd.bool w A2 st.length st) (hc2 : st.length ≤ c2) (z2 : st.length ≤ 9223372036854775807 ∧ st.length * 1 ≤ 140737488351232 ∧ ∀ x ∈ st, True) :
    Calls Try.prog 12 #[.slice A0 l.length c0, .slice A1 ns.length c1, .slice A2 st.length c2] w fun e w' => e = .returned (.bool true) ∧ Below w.heap.size w w' := by
  by_cases hs : (st.length : Int) > 1048576
  · exact Lol.law_far A0 c0 l A1 c1 ns A2 c2 st w hs
  · obtain ⟨y1, y2, hA, hM⟩ := LoPure.all_some l ns st z0.1 z0.2.2 z1.1 z1.2.2 (by omega)
    by_cases q1 : y1 < 0
    · exact Lol.law_far1 6000000 A0 c0 l A1 c1 ns A2 c2 st w hr0 hc0 hs y1 hA.hz1 q1
    · by_cases q2 : y2 < 0
      · exact Lol.law_far2 6000000 A0 c0 l A1 c1 ns A2 c2 st w hr0 hc0 hr1 hc1 hs y1 y2 hA.hz1 q1 (hA.hz2 q1) q2
      · obtain ⟨hl, r, b, a1, a2, a3, zs, zn, zb, m⟩ := hM q1 q2
        exact Lol.law_calls 6000000 A0 c0 l A1 c1 ns A2 c2 st w ⟨hr0, hr1, hr2, hc0, hc1, hc2⟩ hs y1 y2 hA.hz1 q1 (hA.hz2 q1) q2 _ (by rw [List.length_map]; exact hl) r b a1 a2 a3 _ zs zn zb _ m.t1 m.t2 m.t3 m.s1 m.s2 m.q1 m.q2 m.q3 m.q4 m.m1 m.m2 m.m3 m.m4 m.h4
end Go.Proofs.Ytoiaojdkgagblaa
