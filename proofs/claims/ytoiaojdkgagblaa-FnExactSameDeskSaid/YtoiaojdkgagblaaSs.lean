import Derived.Test.YtoiaojdkgagblaaPFnExactSameDeskx0
import Derived.Lib.Hide
import Derived.Deep.RegionLaw
set_option linter.unusedVariables false
set_option linter.unusedSimpArgs false
namespace Go.Proofs.Ytoiaojdkgagblaa.PFnExactSameDesk
open Go.RowKit Go.Proofs.YtoiaojdkgagblaaW.PrintWords Go.Proofs.YtoiaojdkgagblaaW.PrintLast Go.Proofs.YtoiaojdkgagblaaW.PrintMore Go.Proofs.YtoiaojdkgagblaaW.PrintFl Go.Proofs.Ytoiaojdkgagblaa
theorem dtrans {w w1 w2 : World} (h1 : Drawn0 w w1) (h2 : Drawn0 w1 w2) : Drawn0 w w2 := by
  obtain ⟨n, rfl⟩ := h2
  exact h1.step n
abbrev SaysD (f : FuncId) (args : Array Value) (t : Bool) (w : World) : Prop := ∀ W, Drawn0 w W → Calls Try.prog f args W fun e w' => e = .returned (.bool t) ∧ Drawn0 W w'
abbrev sdCells (W : World) (ad : Addr) (x : S138) (B : Option Addr) (bc : Nat) : Prop := W.cell? ad = some (.string x.f0) ∧ W.cell? ⟨ad.block, ad.off + 1, none⟩ = some (.slice B x.f1.length bc) ∧ W.cell? ⟨ad.block, ad.off + 2, none⟩ = some (.float .f32 x.f2) ∧ W.cell? ⟨ad.block, ad.off + 3, none⟩ = some (.float .f32 x.f3) ∧ W.cell? ⟨ad.block, ad.off + 4, none⟩ = some (.float .f32 x.f4) ∧ W.cell? ⟨ad.block, ad.off + 5, none⟩ = some (.float .f32 x.f5)
set_option maxHeartbeats 16000000 in
set_option maxRecDepth 100000 in
theorem ss_walk (ad bd : Addr) (x y : S138) (B C : Option Addr) (bc cc : Nat) (t0 t1 t2 t3 t4 t5 : Bool) (w : World) (hx : ∀ W, Drawn0 w W → sdCells W ad x B bc) (hy : ∀ W, Drawn0 w W → sdCells W bd y C cc) (h0 : (x.f0.toList == y.f0.toList) = t0)
    (h1 : t0 = true → SaysD 176 #[.slice B x.f1.length bc, .slice C y.f1.length cc] t1 w) (h2 : SaysD 163 #[.float .f32 x.f2, .float .f32 y.f2] t2 w) (h3 : SaysD 163 #[.float .f32 x.f3, .float .f32 y.f3] t3 w) (h4 : SaysD 163 #[.float .f32 x.f4, .float .f32 y.f4] t4 w) (h5 : SaysD 163 #[.float .f32 x.f5, .float .f32 y.f5] t5 w) :
    Calls Try.prog 177 #[.pointer (some ad), .pointer (some bd)] w fun e w' => e = .returned (.bool (t0 && (t1 && (t2 && (t3 && (t4 && t5)))))) ∧ Drawn0 w w' := by
  have HX := Lib.hid hx
  have HY := Lib.hid hy
  have q0 : (x.f0.toList != y.f0.toList) = !t0 := by rw [bne, h0]
  obtain ⟨x00, x01, x02, x03, x04, x05⟩ := hx w (Drawn0.refl _)
  obtain ⟨y00, y01, y02, y03, y04, y05⟩ := hy w (Drawn0.refl _)
  have H2 := Lib.hid h2
  have H3 := Lib.hid h3
  have H4 := Lib.hid h4
  have H5 := Lib.hid h5
  have H0 := Lib.hid h1
  clear hx hy h1 h2 h3 h4 h5
  go_enter Try.func177, Try.ntmps177
  cases t0
  · go_wp2
    go_quiet (fail)
    go_wp2
    go_ret
    exact ⟨rfl, by repeat (first | exact Drawn0.refl _ | apply Drawn0.step)⟩
  have q1 : (x.f0.toList != y.f0.toList) = false := q0
  clear q0
  have H1 := Lib.hid (H0.out rfl)
  clear H0
  cases t1
  · go_wp2
    go_quiet ((go_at_call 176; (with_reducible refine (H1.out _ (by repeat (first | exact Drawn0.refl _ | apply Drawn0.step))).mono ?_); rintro e_ w_ ⟨rfl, ⟨nd, rfl⟩⟩; (first | exact ⟨rfl, _, World.drewN_drewN _ _ _⟩ | exact ⟨rfl, _, Eq.trans (World.drewN_drewN _ _ _) (congrArg (World.drewN _) (Nat.add_assoc _ _ _))⟩)))
    go_wp2
    go_ret
    exact ⟨rfl, by repeat (first | exact Drawn0.refl _ | apply Drawn0.step)⟩
  go_wp2
  go_quiet ((go_at_call 176; (with_reducible refine (H1.out _ (by repeat (first | exact Drawn0.refl _ | apply Drawn0.step))).mono ?_); rintro e_ w_ ⟨rfl, ⟨nd, rfl⟩⟩; (first | exact ⟨rfl, _, World.drewN_drewN _ _ _⟩ | exact ⟨rfl, _, Eq.trans (World.drewN_drewN _ _ _) (congrArg (World.drewN _) (Nat.add_assoc _ _ _))⟩)))
  cases t2
  · go_wp2
    go_quiet (first | (go_at_call 163; (with_reducible refine (H2.out _ (by repeat (first | exact Drawn0.refl _ | apply Drawn0.step))).mono ?_); rintro e_ w_ ⟨rfl, ⟨nd, rfl⟩⟩; (first | exact ⟨rfl, _, World.drewN_drewN _ _ _⟩ | exact ⟨rfl, _, Eq.trans (World.drewN_drewN _ _ _) (congrArg (World.drewN _) (Nat.add_assoc _ _ _))⟩)))
    go_wp2
    go_ret
    exact ⟨rfl, by repeat (first | exact Drawn0.refl _ | apply Drawn0.step)⟩
  cases t3
  · go_wp2
    go_quiet (first | (go_at_call 163; (with_reducible refine (H2.out _ (by repeat (first | exact Drawn0.refl _ | apply Drawn0.step))).mono ?_); rintro e_ w_ ⟨rfl, ⟨nd, rfl⟩⟩; (first | exact ⟨rfl, _, World.drewN_drewN _ _ _⟩ | exact ⟨rfl, _, Eq.trans (World.drewN_drewN _ _ _) (congrArg (World.drewN _) (Nat.add_assoc _ _ _))⟩)) | (go_at_call 163; (with_reducible refine (H3.out _ (by repeat (first | exact Drawn0.refl _ | apply Drawn0.step))).mono ?_); rintro e_ w_ ⟨rfl, ⟨nd, rfl⟩⟩; (first | exact ⟨rfl, _, World.drewN_drewN _ _ _⟩ | exact ⟨rfl, _, Eq.trans (World.drewN_drewN _ _ _) (congrArg (World.drewN _) (Nat.add_assoc _ _ _))⟩)))
    go_wp2
    go_ret
    exact ⟨rfl, by repeat (first | exact Drawn0.refl _ | apply Drawn0.step)⟩
  cases t4
  · go_wp2
    go_quiet (first | (go_at_call 163; (with_reducible refine (H2.out _ (by repeat (first | exact Drawn0.refl _ | apply Drawn0.step))).mono ?_); rintro e_ w_ ⟨rfl, ⟨nd, rfl⟩⟩; (first | exact ⟨rfl, _, World.drewN_drewN _ _ _⟩ | exact ⟨rfl, _, Eq.trans (World.drewN_drewN _ _ _) (congrArg (World.drewN _) (Nat.add_assoc _ _ _))⟩)) | (go_at_call 163; (with_reducible refine (H3.out _ (by repeat (first | exact Drawn0.refl _ | apply Drawn0.step))).mono ?_); rintro e_ w_ ⟨rfl, ⟨nd, rfl⟩⟩; (first | exact ⟨rfl, _, World.drewN_drewN _ _ _⟩ | exact ⟨rfl, _, Eq.trans (World.drewN_drewN _ _ _) (congrArg (World.drewN _) (Nat.add_assoc _ _ _))⟩)) | (go_at_call 163; (with_reducible refine (H4.out _ (by repeat (first | exact Drawn0.refl _ | apply Drawn0.step))).mono ?_); rintro e_ w_ ⟨rfl, ⟨nd, rfl⟩⟩; (first | exact ⟨rfl, _, World.drewN_drewN _ _ _⟩ | exact ⟨rfl, _, Eq.trans (World.drewN_drewN _ _ _) (congrArg (World.drewN _) (Nat.add_assoc _ _ _))⟩)))
    go_wp2
    go_ret
    exact ⟨rfl, by repeat (first | exact Drawn0.refl _ | apply Drawn0.step)⟩
  cases t5
  · go_wp2
    go_quiet (first | (go_at_call 163; (with_reducible refine (H2.out _ (by repeat (first | exact Drawn0.refl _ | apply Drawn0.step))).mono ?_); rintro e_ w_ ⟨rfl, ⟨nd, rfl⟩⟩; (first | exact ⟨rfl, _, World.drewN_drewN _ _ _⟩ | exact ⟨rfl, _, Eq.trans (World.drewN_drewN _ _ _) (congrArg (World.drewN _) (Nat.add_assoc _ _ _))⟩)) | (go_at_call 163; (with_reducible refine (H3.out _ (by repeat (first | exact Drawn0.refl _ | apply Drawn0.step))).mono ?_); rintro e_ w_ ⟨rfl, ⟨nd, rfl⟩⟩; (first | exact ⟨rfl, _, World.drewN_drewN _ _ _⟩ | exact ⟨rfl, _, Eq.trans (World.drewN_drewN _ _ _) (congrArg (World.drewN _) (Nat.add_assoc _ _ _))⟩)) | (go_at_call 163; (with_reducible refine (H4.out _ (by repeat (first | exact Drawn0.refl _ | apply Drawn0.step))).mono ?_); rintro e_ w_ ⟨rfl, ⟨nd, rfl⟩⟩; (first | exact ⟨rfl, _, World.drewN_drewN _ _ _⟩ | exact ⟨rfl, _, Eq.trans (World.drewN_drewN _ _ _) (congrArg (World.drewN _) (Nat.add_assoc _ _ _))⟩)) | (go_at_call 163; (with_reducible refine (H5.out _ (by repeat (first | exact Drawn0.refl _ | apply Drawn0.step))).mono ?_); rintro e_ w_ ⟨rfl, ⟨nd, rfl⟩⟩; (first | exact ⟨rfl, _, World.drewN_drewN _ _ _⟩ | exact ⟨rfl, _, Eq.trans (World.drewN_drewN _ _ _) (congrArg (World.drewN _) (Nat.add_assoc _ _ _))⟩)))
    go_wp2
    go_ret
    exact ⟨rfl, by repeat (first | exact Drawn0.refl _ | apply Drawn0.step)⟩
  go_wp2
  go_quiet (first | (go_at_call 163; (with_reducible refine (H2.out _ (by repeat (first | exact Drawn0.refl _ | apply Drawn0.step))).mono ?_); rintro e_ w_ ⟨rfl, ⟨nd, rfl⟩⟩; (first | exact ⟨rfl, _, World.drewN_drewN _ _ _⟩ | exact ⟨rfl, _, Eq.trans (World.drewN_drewN _ _ _) (congrArg (World.drewN _) (Nat.add_assoc _ _ _))⟩)) | (go_at_call 163; (with_reducible refine (H3.out _ (by repeat (first | exact Drawn0.refl _ | apply Drawn0.step))).mono ?_); rintro e_ w_ ⟨rfl, ⟨nd, rfl⟩⟩; (first | exact ⟨rfl, _, World.drewN_drewN _ _ _⟩ | exact ⟨rfl, _, Eq.trans (World.drewN_drewN _ _ _) (congrArg (World.drewN _) (Nat.add_assoc _ _ _))⟩)) | (go_at_call 163; (with_reducible refine (H4.out _ (by repeat (first | exact Drawn0.refl _ | apply Drawn0.step))).mono ?_); rintro e_ w_ ⟨rfl, ⟨nd, rfl⟩⟩; (first | exact ⟨rfl, _, World.drewN_drewN _ _ _⟩ | exact ⟨rfl, _, Eq.trans (World.drewN_drewN _ _ _) (congrArg (World.drewN _) (Nat.add_assoc _ _ _))⟩)) | (go_at_call 163; (with_reducible refine (H5.out _ (by repeat (first | exact Drawn0.refl _ | apply Drawn0.step))).mono ?_); rintro e_ w_ ⟨rfl, ⟨nd, rfl⟩⟩; (first | exact ⟨rfl, _, World.drewN_drewN _ _ _⟩ | exact ⟨rfl, _, Eq.trans (World.drewN_drewN _ _ _) (congrArg (World.drewN _) (Nat.add_assoc _ _ _))⟩)))
  go_wp2
  go_ret
  exact ⟨rfl, by repeat (first | exact Drawn0.refl _ | apply Drawn0.step)⟩
end Go.Proofs.Ytoiaojdkgagblaa.PFnExactSameDesk
