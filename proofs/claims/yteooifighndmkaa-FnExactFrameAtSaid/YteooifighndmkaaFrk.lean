import Derived.Test.YteooifighndmkaaSdmFra
import Derived.Test.YteooifighndmkaaFri
set_option linter.unusedVariables false
set_option linter.unusedSimpArgs false
namespace Go.Proofs.Yteooifighndmkaa.Frl
open Go.RowKit Go.Proofs.YteooifighndmkaaW.PrintWords Go.Proofs.YteooifighndmkaaW.PrintLast Go.Proofs.YteooifighndmkaaW.PrintMore Go.Proofs.YteooifighndmkaaW.PrintFl Go.Proofs.Yteooifighndmkaa Go.Proofs.Yteooifighndmkaa.PFnExactFrameAt Go.Proofs.Yteooifighndmkaa.Sdm
open Go.Proofs.Yteooifighndmkaa.Fra (Bx fcs zf bx4 fz4 bl2 OutF row_new)
attribute [local go_sem] run_stf
abbrev LS := S45
abbrev RF (W : World) (b : Nat) (ok : Nat → Prop) (v : Value) (xs : List Nat) : Prop := Kd.R (Kd.float .f32) 25 W b ok v xs
abbrev RS (W : World) (b : Nat) (ok : Nat → Prop) (v : Value) (xs : List ByteArray) : Prop := Kd.R Kd.string 9 W b ok v xs
abbrev SS (W : World) (b : Nat) (ok : Nat → Prop) (v : Value) (xs : List SD) : Prop := Kd.S k49 49 W b ok v xs
theorem bel {B : Nat} {w w1 w2 : World} (h1 : Below B w w1) (h2 : Below w1.heap.size w1 w2) (hB : B ≤ w1.heap.size) : Below B w w2 := h1.trans (h2.mono hB)
theorem bl {w w1 w2 : World} (h1 : Below w.heap.size w w1) (h2 : Below w1.heap.size w1 w2) : Below w.heap.size w w2 := bel h1 h2 h1.size
theorem bn {w w1 : World} (h1 : Below w.heap.size w w1) (n : Nat) : Below w.heap.size w (w1.drewN n) := pw_below_drewN h1 n
theorem S_C {α : Type} {d : Kd α} {e : Nat} {w : World} {base : Nat} {ok : Nat → Prop} {A : Option Addr} {n c : Nat} {xs : List α} (h : Kd.S d e w base ok (.slice A n c) xs) : Kd.C d w A n xs ∧ n ≤ c ∧ n = xs.length := by
  obtain ⟨h1, h2, h3⟩ := Kd.S_reads' h
  subst h1
  exact ⟨h3, h2, rfl⟩
theorem R_C {α : Type} {d : Kd α} {e : Nat} {w : World} {base : Nat} {ok : Nat → Prop} {A : Option Addr} {n c : Nat} {xs : List α} (h : d.R e w base ok (.slice A n c) xs) : Kd.C d w A n xs ∧ n ≤ c ∧ n = xs.length := by
  obtain ⟨h1, h2, h3⟩ := Kd.R_reads' h
  subst h1
  exact ⟨h3, h2, rfl⟩
theorem toS_at (k : Nat) (A0 : Option Addr) (c0 : Nat) (l : List LS) (L : List SD) (w : World) (hr : Kd.C k45 w A0 l.length l) (hc : l.length ≤ c0) (h : laws_toSoundS.f k l = some L) :
    Calls Try.prog 9 #[.slice A0 l.length c0] w fun e w' => ∃ (A : Option Addr) (c : Nat), e = .returned (.slice A L.length c) ∧ Kd.S k49 49 w' w.heap.size (fun _ => True) (.slice A L.length c) L ∧ Below w.heap.size w w' := by
  refine (laws_toSoundS.calls k A0 c0 l L w hr hc h).mono ?_
  rintro e w' ⟨v, rfl, hs, hb⟩
  obtain ⟨A, c, rfl⟩ := Kd.S_slice hs
  exact ⟨A, c, rfl, hs, hb⟩
theorem toT_at (k : Nat) (A0 : Option Addr) (c0 : Nat) (l L : List ByteArray) (w : World) (hr : Kd.C Kd.string w A0 l.length l) (hc : l.length ≤ c0) (h : laws_toStringS.f k l = some L) :
    Calls Try.prog 10 #[.slice A0 l.length c0] w fun e w' => ∃ (A : Option Addr) (c : Nat), e = .returned (.slice A L.length c) ∧ Kd.R Kd.string 9 w' w.heap.size (fun _ => True) (.slice A L.length c) L ∧ Below w.heap.size w w' := by
  refine (laws_toStringS.calls k A0 c0 l L w hr hc h).mono ?_
  rintro e w' ⟨v, rfl, hs, hb⟩
  obtain ⟨A, c, rfl⟩ := Kd.R_slice hs
  exact ⟨A, c, rfl, hs, hb⟩
theorem toF_at (k : Nat) (A0 : Option Addr) (c0 : Nat) (l L : List Nat) (w : World) (hr : Kd.C (Kd.float .f32) w A0 l.length l) (hc : l.length ≤ c0) (h : laws_toFloat32S.f k l = some L) :
    Calls Try.prog 11 #[.slice A0 l.length c0] w fun e w' => ∃ (A : Option Addr) (c : Nat), e = .returned (.slice A L.length c) ∧ Kd.R (Kd.float .f32) 25 w' w.heap.size (fun _ => True) (.slice A L.length c) L ∧ Below w.heap.size w w' := by
  refine (laws_toFloat32S.calls k A0 c0 l L w hr hc h).mono ?_
  rintro e w' ⟨v, rfl, hs, hb⟩
  obtain ⟨A, c, rfl⟩ := Kd.R_slice hs
  exact ⟨A, c, rfl, hs, hb⟩
theorem drB {w w1 : World} (h : Drawn0 w w1) : Below w.heap.size w w1 := by
  obtain ⟨n, rfl⟩ := h
  exact pw_below_drewN (Below.refl _ _) n
theorem sz2_at (k : Nat) (A1 : Option Addr) (c1 : Nat) (ns : List ByteArray) (a z : Int) (w : World) (hr : Kd.C Kd.string w A1 ns.length ns) (hc : ns.length ≤ c1) (h : laws_szStringS.f k ns a = some z) :
    Calls Try.prog 7 #[.slice A1 ns.length c1, .int .i64 a] w fun e w' => e = .returned (.int .i64 z) ∧ Below w.heap.size w w' :=
  (laws_szStringS.calls k A1 c1 ns a z w hr hc h).mono (fun e w' ⟨h1, h2⟩ => ⟨h1, drB h2⟩)
theorem eqF_at (A0 : Option Addr) (c0 : Nat) (A1 : Option Addr) (c1 : Nat) (l : List Nat) (w : World) {b0 b1 : Nat} {o0 o1 : Nat → Prop} (h0 : RF w b0 o0 (.slice A0 l.length c0) l) (h1 : RF w b1 o1 (.slice A1 l.length c1) l) (h : laws_eqFloat32S.f l l = some true) :
    Calls Try.prog 16 #[.slice A0 l.length c0, .slice A1 l.length c1] w fun e w' => e = .returned (.bool true) ∧ Below w.heap.size w w' :=
  (laws_eqFloat32S.calls A0 c0 l A1 c1 l true w (R_C h0).1 (R_C h0).2.1 (R_C h1).1 (R_C h1).2.1 h).mono (fun e w' ⟨h1, h2⟩ => ⟨h1, drB h2⟩)
theorem eqT_at (k : Nat) (A0 : Option Addr) (c0 : Nat) (A1 : Option Addr) (c1 : Nat) (l : List ByteArray) (w : World) {b0 b1 : Nat} {o0 o1 : Nat → Prop} (h0 : RS w b0 o0 (.slice A0 l.length c0) l) (h1 : RS w b1 o1 (.slice A1 l.length c1) l) (h : laws_eqStringS.f k l l = some true) :
    Calls Try.prog 15 #[.slice A0 l.length c0, .slice A1 l.length c1] w fun e w' => e = .returned (.bool true) ∧ Below w.heap.size w w' :=
  (laws_eqStringS.calls k A0 c0 l A1 c1 l true w (R_C h0).1 (R_C h0).2.1 (R_C h1).1 (R_C h1).2.1 h).mono (fun e w' ⟨h1, h2⟩ => ⟨h1, drB h2⟩)
theorem eqS_at (k : Nat) (A0 : Option Addr) (c0 : Nat) (A1 : Option Addr) (c1 : Nat) (l : List SD) (w : World) {b0 b1 : Nat} {o0 o1 : Nat → Prop} (h0 : SS w b0 o0 (.slice A0 l.length c0) l) (h1 : SS w b1 o1 (.slice A1 l.length c1) l) (h : laws_eqSoundS.f k l l = some true) :
    Calls Try.prog 14 #[.slice A0 l.length c0, .slice A1 l.length c1] w fun e w' => e = .returned (.bool true) ∧ Below w.heap.size w w' :=
  laws_eqSoundS.calls k A0 c0 l A1 c1 l true w (S_C h0).1 (S_C h0).2.1 (S_C h1).1 (S_C h1).2.1 h
structure Sv (w : World) (gw : Nat) (AV : Option Addr) (cV : Nat) (p v u : Nat) (r : List Nat) (W : World) : Prop where
  below : Below w.heap.size w W
  bw : Bx 29 W gw (fcs AV r.length cV p v u)
  row : RF W w.heap.size (fun k => k < gw) (.slice AV r.length cV) r
theorem Sv.to {w W W' : World} {gw : Nat} {AV : Option Addr} {cV p v u : Nat} {r : List Nat} (h : Sv w gw AV cV p v u r W) (hb : Below W.heap.size W W') : Sv w gw AV cV p v u r W' := ⟨bl h.below hb, blk_below h.bw hb, Kd.R_below h.row hb⟩
theorem Sv.kept {w W W' : World} {gw : Nat} {AV : Option Addr} {cV p v u : Nat} {r : List Nat} (h : Sv w gw AV cV p v u r W) (hb : Below w.heap.size w W') {P : Nat → Prop} (hk : Kept W W' P) (hP : ∀ k, P k → gw < k) : Sv w gw AV cV p v u r W' :=
  ⟨hb, blk_kept h.bw hk (fun h_ => Nat.lt_irrefl _ (hP _ h_)), Kd.R_kept h.row hk (fun k h1 h2 => by have := hP k h2; omega)⟩
structure Sx (w : World) (p1 p2 p3 p4 : Nat) (X0 X1 X2 : Value) (L : List SD) (ns : List ByteArray) (ls : List Nat) (W : World) : Prop where
  x0 : SS W w.heap.size (fun k => p1 ≤ k ∧ k < p2) X0 L
  x1 : RS W w.heap.size (fun k => p2 ≤ k ∧ k < p3) X1 ns
  x2 : RF W w.heap.size (fun k => p3 ≤ k ∧ k < p4) X2 ls
  q1 : p1 ≤ p2
  q2 : p2 ≤ p3
  q3 : p3 ≤ p4
theorem Sx.to {w W W' : World} {p1 p2 p3 p4 : Nat} {X0 X1 X2 : Value} {L : List SD} {ns : List ByteArray} {ls : List Nat} (h : Sx w p1 p2 p3 p4 X0 X1 X2 L ns ls W) (hb : Below W.heap.size W W') : Sx w p1 p2 p3 p4 X0 X1 X2 L ns ls W' := ⟨Kd.S_below h.x0 hb, Kd.R_below h.x1 hb, Kd.R_below h.x2 hb, h.q1, h.q2, h.q3⟩
structure Sg (w : World) (p gg : Nat) (AG : Option Addr) (cG n : Nat) (a b c : Nat) (g : List Nat) (W : World) : Prop where
  bg : Bx 29 W gg (fcs AG n cG a b c)
  row : RF W w.heap.size (fun k => p ≤ k ∧ k < gg) (.slice AG n cG) g
  q : p ≤ gg
theorem Sg.to {w W W' : World} {p gg : Nat} {AG : Option Addr} {cG n a b c : Nat} {g : List Nat} (h : Sg w p gg AG cG n a b c g W) (hb : Below W.heap.size W W') : Sg w p gg AG cG n a b c g W' := ⟨blk_below h.bg hb, Kd.R_below h.row hb, h.q⟩
theorem Sg.kept {w W W' : World} {p gg : Nat} {AG : Option Addr} {cG n a b c : Nat} {g : List Nat} (h : Sg w p gg AG cG n a b c g W) {P : Nat → Prop} (hk : Kept W W' P) (hP : ∀ k, P k → k < p) : Sg w p gg AG cG n a b c g W' :=
  ⟨blk_kept h.bg hk (fun h_ => by have := hP _ h_; have := h.q; omega), Kd.R_kept h.row hk (fun k h1 h2 => by have := hP k h2; omega), h.q⟩
structure Sa (w : World) (gw p1 p2 p3 p4 gg : Nat) (AV AG : Option Addr) (cV cG p v u : Nat) (X0 X1 X2 : Value) (r : List Nat) (L : List SD) (ns : List ByteArray) (ls : List Nat) (W : World) : Prop where
  sv : Sv w gw AV cV p v u r W
  sx : Sx w p1 p2 p3 p4 X0 X1 X2 L ns ls W
  sg : Sg w p4 gg AG cG r.length p v u r W
  q : gw < p1
theorem Sa.to {w W W' : World} {gw p1 p2 p3 p4 gg : Nat} {AV AG : Option Addr} {cV cG p v u : Nat} {X0 X1 X2 : Value} {r : List Nat} {L : List SD} {ns : List ByteArray} {ls : List Nat} (h : Sa w gw p1 p2 p3 p4 gg AV AG cV cG p v u X0 X1 X2 r L ns ls W) (hb : Below W.heap.size W W') : Sa w gw p1 p2 p3 p4 gg AV AG cV cG p v u X0 X1 X2 r L ns ls W' := ⟨h.sv.to hb, h.sx.to hb, h.sg.to hb, h.q⟩
section
variable {w W : World} {gw p1 p2 p3 p4 gg : Nat} {AV AG : Option Addr} {cV cG p v u : Nat} {X0 X1 X2 : Value} {r : List Nat} {L zs : List SD} {ns zn : List ByteArray} {ls zl : List Nat}
theorem mark0_at (k : Nat) (a1 : Int) (h : Sa w gw p1 p2 p3 p4 gg AV AG cV cG p v u X0 X1 X2 r L ns ls W) (hl : L.length ≤ 1048576) (hm : sd0 k L 1 0 = some (a1, zs)) :
    Calls Try.prog 17 #[X0, .int .i64 1] W fun e w' => e = .returned (.int .i64 a1) ∧ Sa w gw p1 p2 p3 p4 gg AV AG cV cG p v u X0 X1 X2 r zs ns ls w' := by
  refine (sd_mark k _ X0 L 1 a1 zs w W h.sv.below h.sx.x0 (by omega) hm).mono ?_
  rintro e w' ⟨he, hs, hb, hk⟩
  have q0 := h.q
  have q1 := h.sx.q1
  have q2 := h.sx.q2
  have q3 := h.sx.q3
  exact ⟨he, h.sv.kept hb hk (fun k hk => by omega), ⟨hs, Kd.R_kept h.sx.x1 hk (fun k h1 h2 => by omega), Kd.R_kept h.sx.x2 hk (fun k h1 h2 => by omega), h.sx.q1, h.sx.q2, h.sx.q3⟩, h.sg.kept hk (fun k hk => by omega), h.q⟩
theorem mark1_at (k : Nat) (a1 a2 : Int) (h : Sa w gw p1 p2 p3 p4 gg AV AG cV cG p v u X0 X1 X2 r L ns ls W) (hm : laws_markStringS.f k ns a1 = some (a2, zn)) :
    Calls Try.prog 18 #[X1, .int .i64 a1] W fun e w' => e = .returned (.int .i64 a2) ∧ gw < p3 ∧ p3 ≤ p4 ∧ Sv w gw AV cV p v u r w' ∧ RF w' w.heap.size (fun k => p3 ≤ k ∧ k < p4) X2 ls ∧ Sg w p4 gg AG cG r.length p v u r w' := by
  refine (laws_markStringS.calls k _ X1 ns a1 a2 zn w W h.sv.below h.sx.x1 hm).mono ?_
  rintro e w' ⟨he, hs, hb, hk⟩
  have q0 := h.q
  have q1 := h.sx.q1
  have q2 := h.sx.q2
  have q3 := h.sx.q3
  exact ⟨he, by omega, q3, h.sv.kept hb hk (fun k hk => by omega), Kd.R_kept h.sx.x2 hk (fun k h1 h2 => by omega), h.sg.kept hk (fun k hk => by omega)⟩
theorem mark2_at (k : Nat) (a2 a3 : Int) (h : gw < p3 ∧ p3 ≤ p4 ∧ Sv w gw AV cV p v u r W ∧ RF W w.heap.size (fun k => p3 ≤ k ∧ k < p4) X2 ls ∧ Sg w p4 gg AG cG r.length p v u r W) (hm : laws_markFloat32S.f k ls a2 = some (a3, zl)) :
    Calls Try.prog 19 #[X2, .int .i64 a2] W fun e w' => e = .returned (.int .i64 a3) ∧ gw < p4 ∧ Sv w gw AV cV p v u r w' ∧ Sg w p4 gg AG cG r.length p v u r w' := by
  obtain ⟨q0, q1, hv, hx, hg⟩ := h
  refine (laws_markFloat32S.calls k _ X2 ls a2 a3 zl w W hv.below hx hm).mono ?_
  rintro e w' ⟨he, hs, hb, hk⟩
  exact ⟨he, by omega, hv.kept hb hk (fun k hk => by omega), hg.kept hk (fun k hk => by omega)⟩
structure Sm (w : World) (gw gg : Nat) (AV AG : Option Addr) (cV cG n p v u : Nat) (r ms : List Nat) (W : World) : Prop where
  sv : Sv w gw AV cV p v u r W
  bg : Bx 29 W gg (fcs AG n cG p v u)
  row : RF W w.heap.size (fun _ => True) (.slice AG n cG) ms
theorem mark3_at (k : Nat) (m : Int) {ms : List Nat} (h : gw < p4 ∧ Sv w gw AV cV p v u r W ∧ Sg w p4 gg AG cG r.length p v u r W) (hm : laws_markFrame.f k r p v u 1 = some (m, ms)) :
    Calls Try.prog 20 #[.agg #[.slice AG r.length cG, .float .f32 p, .float .f32 v, .float .f32 u], .int .i64 1] W fun e w' => e = .returned (.int .i64 m) ∧ Sm w gw gg AV AG cV cG r.length p v u r ms w' := by
  obtain ⟨q0, hv, hg⟩ := h
  refine (laws_markFrame.calls k _ (.slice AG r.length cG) r p v u 1 m ms w W hv.below hg.row hm).mono ?_
  rintro e w' ⟨he, hs, hb, hk⟩
  exact ⟨he, hv.kept hb hk (fun k hk => by omega), blk_kept hg.bg hk (fun h_ => Nat.lt_irrefl _ h_.2), Kd.R_mono hs (fun _ _ => trivial)⟩
end
theorem Sm.to {w W W' : World} {gw gg : Nat} {AV AG : Option Addr} {cV cG n p v u : Nat} {r ms : List Nat} (h : Sm w gw gg AV AG cV cG n p v u r ms W) (hb : Below W.heap.size W W') : Sm w gw gg AV AG cV cG n p v u r ms W' := ⟨h.sv.to hb, blk_below h.bg hb, Kd.R_below h.row hb⟩
theorem eqFr_at (A0 A1 : Option Addr) (c0 c1 p v u : Nat) (l : List Nat) (w : World) {b0 b1 : Nat} {o0 o1 : Nat → Prop} (h0 : RF w b0 o0 (.slice A0 l.length c0) l) (h1 : RF w b1 o1 (.slice A1 l.length c1) l) (h : laws_eqFrame.f l p v u l p v u = some true) :
    Calls Try.prog 13 #[.agg #[.slice A0 l.length c0, .float .f32 p, .float .f32 v, .float .f32 u], .agg #[.slice A1 l.length c1, .float .f32 p, .float .f32 v, .float .f32 u]] w fun e w' => e = .returned (.bool true) ∧ Below w.heap.size w w' :=
  laws_eqFrame.calls A0 c0 l p v u A1 c1 l p v u true w (R_C h0).1 (R_C h0).2.1 (R_C h1).1 (R_C h1).2.1 h
theorem heldFr_at (k : Nat) (A : Option Addr) (c n p v u : Nat) (ms : List Nat) (m : Int) (W : World) {b0 : Nat} {o0 : Nat → Prop} (h0 : RF W b0 o0 (.slice A n c) ms) (h : laws_heldFrame.f k ms p v u 1 = some m) :
    Calls Try.prog 21 #[.agg #[.slice A n c, .float .f32 p, .float .f32 v, .float .f32 u], .int .i64 1] W fun e w' => e = .returned (.int .i64 m) ∧ Below W.heap.size W w' := by
  obtain ⟨hC, hc, rfl⟩ := R_C h0
  exact laws_heldFrame.calls k A c ms p v u 1 m W hC hc h
theorem al_sz (W : World) (o : Obj) : (W.alloc o).heap.size = W.heap.size + 1 := Array.size_push _
structure Cs (w : World) (A0 : Option Addr) (c0 : Nat) (l : List LS) (A1 : Option Addr) (c1 : Nat) (ns : List ByteArray) (A2 : Option Addr) (c2 : Nat) (ls : List Nat) : Prop where
  r0 : Kd.C k45 w A0 l.length l
  r1 : Kd.C Kd.string w A1 ns.length ns
  r2 : Kd.C (Kd.float .f32) w A2 ls.length ls
  c0 : l.length ≤ c0
  c1 : ns.length ≤ c1
  c2 : ls.length ≤ c2
theorem Cs.to {w w1 : World} {A0 A1 A2 : Option Addr} {c0 c1 c2 : Nat} {l : List LS} {ns : List ByteArray} {ls : List Nat} (h : Cs w A0 c0 l A1 c1 ns A2 c2 ls) (hb : Below w.heap.size w w1) : Cs w1 A0 c0 l A1 c1 ns A2 c2 ls := ⟨Kd.C_below h.r0 hb, Kd.C_below h.r1 hb, Kd.C_below h.r2 hb, h.c0, h.c1, h.c2⟩
abbrev Fsays (f : FuncId) (L : List SD) (ns : List ByteArray) (ls : List Nat) (t : Nat) (r : List Nat) (p v u : Nat) (b : Bool) : Prop := ∀ (X0 X1 X2 : Option Addr) (d0 d1 d2 : Nat) (W : World), Kd.C k49 W X0 L.length L → L.length ≤ d0 → Kd.C Kd.string W X1 ns.length ns → ns.length ≤ d1 → Kd.C (Kd.float .f32) W X2 ls.length ls → ls.length ≤ d2 → Calls Try.prog f #[.slice X0 L.length d0, .slice X1 ns.length d1, .slice X2 ls.length d2, .float .f32 t] W (OutF W r p v u b)
theorem f_at {f : FuncId} {L : List SD} {ns : List ByteArray} {ls : List Nat} {t : Nat} {r : List Nat} {p v u : Nat} {b : Bool} (h : Fsays f L ns ls t r p v u b) {X0 X1 X2 : Option Addr} {d0 d1 d2 : Nat} {W : World} {b0 b1 b2 : Nat} {o0 o1 o2 : Nat → Prop} (h0 : SS W b0 o0 (.slice X0 L.length d0) L) (h1 : RS W b1 o1 (.slice X1 ns.length d1) ns) (h2 : RF W b2 o2 (.slice X2 ls.length d2) ls) :
    Calls Try.prog f #[.slice X0 L.length d0, .slice X1 ns.length d1, .slice X2 ls.length d2, .float .f32 t] W fun e w' => ∃ (A : Option Addr) (c : Nat), e = .returned (.tuple #[.agg #[.slice A r.length c, .float .f32 p, .float .f32 v, .float .f32 u], .bool b]) ∧ RF w' W.heap.size (fun _ => True) (.slice A r.length c) r ∧ Below W.heap.size W w' := by
  refine (h X0 X1 X2 d0 d1 d2 W (S_C h0).1 (S_C h0).2.1 (R_C h1).1 (R_C h1).2.1 (R_C h2).1 (R_C h2).2.1).mono ?_
  rintro e w' ⟨v0, rfl, hr, hb⟩
  obtain ⟨A, c, rfl⟩ := Kd.R_slice hr
  exact ⟨A, c, rfl, hr, hb⟩
set_option maxHeartbeats 16000000 in
set_option maxRecDepth 100000 in
theorem law_calls (k : Nat) (A0 : Option Addr) (c0 : Nat) (l : List LS) (A1 : Option Addr) (c1 : Nat) (ns : List ByteArray) (A2 : Option Addr) (c2 : Nat) (ls : List Nat) (t : Nat) (w : World) (hC : Cs w A0 c0 l A1 c1 ns A2 c2 ls) (hs : ¬ (ls.length : Int) > 1048576)
    (z1 z2 : Int) (h1 : laws_szSoundS.f k l 1048576 = some z1) (hz : ¬ z1 < 0) (h2 : laws_szStringS.f k ns z1 = some z2) (hz2 : ¬ z2 < 0) (L : List SD) (hll : L.length ≤ 1048576) (r : List Nat) (p v u : Nat) (b : Bool) (a1 a2 a3 m : Nat) (zs : List SD) (zn : List ByteArray) (zl ms : List Nat) (hml : ms.length = r.length)
    (t1 : laws_toSoundS.f k l = some L) (t2 : laws_toStringS.f k ns = some ns) (t3 : laws_toFloat32S.f k ls = some ls)
    (s1 : Fsays 8 L ns ls t r p v u b) (s2 : Fsays 12 L ns ls t r p v u b)
    (e1 : laws_eqSoundS.f k L L = some true) (e2 : laws_eqStringS.f k ns ns = some true) (e3 : laws_eqFloat32S.f ls ls = some true) (e4 : laws_eqFrame.f r p v u r p v u = some true)
    (m1 : sd0 k L 1 0 = some ((a1 : Int), zs)) (m2 : laws_markStringS.f k ns (a1 : Int) = some ((a2 : Int), zn)) (m3 : laws_markFloat32S.f k ls (a2 : Int) = some ((a3 : Int), zl)) (m4 : laws_markFrame.f k r p v u 1 = some ((m : Int), ms)) (h4 : laws_heldFrame.f k ms p v u 1 = some (m : Int)) :
    Calls Try.prog 3 #[.slice A0 l.length c0, .slice A1 ns.length c1, .slice A2 ls.length c2, .float .f32 t] w fun e w' => e = .returned (.bool true) ∧ Below w.heap.size w w' := by
  have q0 : decide (1048576 < (ls.length : Int)) = false := decide_eq_false hs
  have q1 : decide (z1 < 0) = false := decide_eq_false hz
  have q2 : decide (z2 < 0) = false := decide_eq_false hz2
  have q3 : decide ((a3 : Int) < 0) = false := decide_eq_false (by omega)
  have q4 : decide ((m : Int) < 0) = false := decide_eq_false (by omega)
  have q5 : ((m : Int) != m) = false := bne_self_eq_false _
  have q6 : (b != b) = false := bne_self_eq_false _
  have HC := Lib.hid hC
  have H1 := Lib.hid h1
  have H2 := Lib.hid h2
  have HL := Lib.hid hll
  have T1 := Lib.hid t1
  have T2 := Lib.hid t2
  have T3 := Lib.hid t3
  have S1 := Lib.hid s1
  have S2 := Lib.hid s2
  have E1 := Lib.hid e1
  have E2 := Lib.hid e2
  have E3 := Lib.hid e3
  have E4 := Lib.hid e4
  have N1 := Lib.hid m1
  have N2 := Lib.hid m2
  have N3 := Lib.hid m3
  have N4 := Lib.hid m4
  have H4 := Lib.hid h4
  clear hs hz hz2 hC h1 h2 hll t1 t2 t3 s1 s2 e1 e2 e3 e4 m1 m2 m3 m4 h4
  have M1 : True := trivial
  have M2 : True := trivial
  have M3 : True := trivial
  have M4 : True := trivial
  have M5 : True := trivial
  have M6 : True := trivial
  have M7 : True := trivial
  have M8 : True := trivial
  have M9 : True := trivial
  have M10 : True := trivial
  have M11 : True := trivial
  have M12 : True := trivial
  have M13 : True := trivial
  go_enter Try.func3, Try.ntmps3
  go_wp2_with (first
    | (go_at_call 6; (with_reducible refine (laws_szSoundS.calls k A0 c0 l 1048576 z1 _ HC.out.r0 HC.out.c0 H1.out).mono ?_); rintro e w1 ⟨rfl, hb⟩; have HB1 := Lib.hid hb; clear hb)
    | (go_at_call 7; (with_reducible refine (sz2_at k A1 c1 ns z1 z2 _ (HC.out.to HB1.out).r1 HC.out.c1 H2.out).mono ?_); rintro e w2 ⟨rfl, hb⟩; have HB2 := Lib.hid (bl HB1.out hb); clear hb)
    | (go_at_call 9; clear M1; (with_reducible refine (toS_at k A0 c0 l L _ (HC.out.to HB2.out).r0 HC.out.c0 T1.out).mono ?_); rintro e w3 ⟨B0, f0, rfl, hx, hb⟩; have HB3 := Lib.hid (bl HB2.out hb); have HU0 := Lib.hid hx; clear hb hx)
    | (go_at_call 10; clear M2; (with_reducible refine (toT_at k A1 c1 ns ns _ (HC.out.to HB3.out).r1 HC.out.c1 T2.out).mono ?_); rintro e w4 ⟨B1, f1, rfl, hx, hb⟩; have HB4 := Lib.hid (bl HB3.out hb); have HV0 := Lib.hid (Kd.S_below HU0.out hb); have HV1 := Lib.hid hx; clear hb hx)
    | (go_at_call 11; clear M3; (with_reducible refine (toF_at k A2 c2 ls ls _ (HC.out.to HB4.out).r2 HC.out.c2 T3.out).mono ?_); rintro e w5 ⟨B2, f2, rfl, hx, hb⟩; have HB5 := Lib.hid (bl HB4.out hb); have HZ0 := Lib.hid (Kd.S_below HV0.out hb); have HZ1 := Lib.hid (Kd.R_below HV1.out hb); have HZ2 := Lib.hid hx; clear hb hx)
    | (go_at_call 8; (with_reducible refine (f_at S1.out HZ0.out HZ1.out HZ2.out).mono ?_); rintro e w6 ⟨AV, cV, rfl, hx, hb⟩
       have HS6 := Lib.hid (show Sv w w6.heap.size AV cV p v u r (w6.alloc (.cells (fcs AV r.length cV p v u) 29)) from ⟨below_alloc (bl HB5.out hb) _, heap_alloc_new w6 _, Kd.R_alloc (Kd.R_lower (Kd.R_mono (Kd.R_bound hx) (fun _ hk => hk.2.2.1)) HB5.out.size) _⟩)
       clear hb hx)
    | (go_at_call 9; clear M4; (with_reducible refine (toS_at k A0 c0 l L _ (HC.out.to HS6.out.below).r0 HC.out.c0 T1.out).mono ?_); rintro e w7 ⟨X0, d0, rfl, hx, hb⟩; have HS7 := Lib.hid (HS6.out.to hb)
       have HX0 := Lib.hid (show SS w7 w.heap.size (fun k => w6.heap.size + 1 ≤ k ∧ k < w7.heap.size) (.slice X0 L.length d0) L from Kd.S_lower (Kd.S_mono (Kd.S_bound hx) (fun k hk => ⟨by rw [← al_sz w6 (.cells (fcs AV r.length cV p v u) 29)]; exact hk.2.1, hk.2.2.1⟩)) HS6.out.below.size)
       have Z1 := Lib.hid (show w6.heap.size + 1 ≤ w7.heap.size from by rw [← al_sz w6 (.cells (fcs AV r.length cV p v u) 29)]; exact hb.size)
       clear hb hx)
    | (go_at_call 10; clear M5; (with_reducible refine (toT_at k A1 c1 ns ns _ (HC.out.to HS7.out.below).r1 HC.out.c1 T2.out).mono ?_); rintro e w8 ⟨X1, d1, rfl, hx, hb⟩; have HS8 := Lib.hid (HS7.out.to hb); have HX08 := Lib.hid (Kd.S_below HX0.out hb)
       have HX1 := Lib.hid (show RS w8 w.heap.size (fun k => w7.heap.size ≤ k ∧ k < w8.heap.size) (.slice X1 ns.length d1) ns from Kd.R_lower (Kd.R_mono (Kd.R_bound hx) (fun _ hk => ⟨hk.2.1, hk.2.2.1⟩)) HS7.out.below.size)
       have Z2 := Lib.hid hb.size
       clear hb hx)
    | (go_at_call 11; clear M6; (with_reducible refine (toF_at k A2 c2 ls ls _ (HC.out.to HS8.out.below).r2 HC.out.c2 T3.out).mono ?_); rintro e w9 ⟨X2, d2, rfl, hx, hb⟩; have HS9 := Lib.hid (HS8.out.to hb)
       have HX9 := Lib.hid (show Sx w (w6.heap.size + 1) w7.heap.size w8.heap.size w9.heap.size (.slice X0 L.length d0) (.slice X1 ns.length d1) (.slice X2 ls.length d2) L ns ls w9 from ⟨Kd.S_below HX08.out hb, Kd.R_below HX1.out hb, Kd.R_lower (Kd.R_mono (Kd.R_bound hx) (fun _ hk => ⟨hk.2.1, hk.2.2.1⟩)) HS8.out.below.size, Z1.out, Z2.out, hb.size⟩)
       clear hb hx)
    | (go_at_call 12; clear M7; (with_reducible refine (f_at S2.out HX9.out.x0 HX9.out.x1 HX9.out.x2).mono ?_); rintro e w10 ⟨AG, cG, rfl, hx, hb⟩
       have HA10 := Lib.hid (show Sa w w6.heap.size (w6.heap.size + 1) w7.heap.size w8.heap.size w9.heap.size w10.heap.size AV AG cV cG p v u (.slice X0 L.length d0) (.slice X1 ns.length d1) (.slice X2 ls.length d2) r L ns ls (w10.alloc (.cells (fcs AG r.length cG p v u) 29)) from ⟨(HS9.out.to hb).to (below_alloc (Below.refl _ _) _), (HX9.out.to hb).to (below_alloc (Below.refl _ _) _), ⟨heap_alloc_new w10 _, Kd.R_alloc (Kd.R_lower (Kd.R_mono (Kd.R_bound hx) (fun _ hk => ⟨hk.2.1, hk.2.2.1⟩)) HS9.out.below.size) _, hb.size⟩, Nat.lt_succ_self _⟩)
       obtain ⟨cw0, cw1, cw2, cw3⟩ := bx4 HA10.out.sv.bw; obtain ⟨cg0, cg1, cg2, cg3⟩ := bx4 HA10.out.sg.bg
       clear hb hx)
    | (go_at_call 13; clear M8; clear cw0 cw1 cw2 cw3 cg0 cg1 cg2 cg3; (with_reducible refine (eqFr_at AG AV cG cV p v u r _ HA10.out.sg.row HA10.out.sv.row E4.out).mono ?_); rintro e w11 ⟨rfl, hb⟩; have HA11 := Lib.hid (HA10.out.to hb); clear hb)
    | (go_at_call 9; clear M9; (with_reducible refine (toS_at k A0 c0 l L _ (HC.out.to HA11.out.sv.below).r0 HC.out.c0 T1.out).mono ?_); rintro e w12 ⟨C0, g0, rfl, hx, hb⟩; have HA12 := Lib.hid (HA11.out.to hb); have HU12 := Lib.hid hx; clear hb hx)
    | (go_at_call 14; (with_reducible refine (eqS_at k X0 d0 C0 g0 L _ HA12.out.sx.x0 HU12.out E1.out).mono ?_); rintro e w13 ⟨rfl, hb⟩; have HA13 := Lib.hid (HA12.out.to hb); clear hb)
    | (go_at_call 10; clear M10; (with_reducible refine (toT_at k A1 c1 ns ns _ (HC.out.to HA13.out.sv.below).r1 HC.out.c1 T2.out).mono ?_); rintro e w14 ⟨C1, g1, rfl, hx, hb⟩; have HA14 := Lib.hid (HA13.out.to hb); have HU14 := Lib.hid hx; clear hb hx)
    | (go_at_call 15; (with_reducible refine (eqT_at k X1 d1 C1 g1 ns _ HA14.out.sx.x1 HU14.out E2.out).mono ?_); rintro e w15 ⟨rfl, hb⟩; have HA15 := Lib.hid (HA14.out.to hb); clear hb)
    | (go_at_call 11; clear M11; (with_reducible refine (toF_at k A2 c2 ls ls _ (HC.out.to HA15.out.sv.below).r2 HC.out.c2 T3.out).mono ?_); rintro e w16 ⟨C2, g2, rfl, hx, hb⟩; have HA16 := Lib.hid (HA15.out.to hb); have HU16 := Lib.hid hx; clear hb hx)
    | (go_at_call 16; (with_reducible refine (eqF_at X2 d2 C2 g2 ls _ HA16.out.sx.x2 HU16.out E3.out).mono ?_); rintro e w17 ⟨rfl, hb⟩; have HA17 := Lib.hid (HA16.out.to hb); clear hb)
    | (go_at_call 17; (with_reducible refine (mark0_at k (a1 : Int) HA17.out HL.out N1.out).mono ?_); rintro e w18 ⟨rfl, hx⟩; have HA18 := Lib.hid hx; clear hx)
    | (go_at_call 18; (with_reducible refine (mark1_at k (a1 : Int) (a2 : Int) HA18.out N2.out).mono ?_); rintro e w19 ⟨rfl, hx⟩; have HA19 := Lib.hid hx; clear hx)
    | (go_at_call 19; (with_reducible refine (mark2_at k (a2 : Int) (a3 : Int) HA19.out N3.out).mono ?_); rintro e w20 ⟨rfl, hq, hv, hg⟩; have HV20 := Lib.hid hv; have HG20 := Lib.hid hg; have HQ := Lib.hid hq; obtain ⟨cw0, cw1, cw2, cw3⟩ := bx4 hv.bw; obtain ⟨cg0, cg1, cg2, cg3⟩ := bx4 hg.bg; clear hq hv hg)
    | (go_at_call 13; clear M12; clear cw0 cw1 cw2 cw3 cg0 cg1 cg2 cg3; (with_reducible refine (eqFr_at AG AV cG cV p v u r _ HG20.out.row HV20.out.row E4.out).mono ?_); rintro e w21 ⟨rfl, hb⟩; have HV21 := Lib.hid (HV20.out.to hb); have HG21 := Lib.hid (HG20.out.to hb); obtain ⟨cg0, cg1, cg2, cg3⟩ := bx4 HG21.out.bg; clear hb)
    | (go_at_call 20; clear cg0 cg1 cg2 cg3; (with_reducible refine (mark3_at k (m : Int) ⟨HQ.out, HV21.out, HG21.out⟩ N4.out).mono ?_); rintro e w22 ⟨rfl, hx⟩; have HM22 := Lib.hid hx; obtain ⟨cg0, cg1, cg2, cg3⟩ := bx4 hx.bg; clear hx)
    | (go_at_call 21; clear M13; clear cg0 cg1 cg2 cg3; (with_reducible refine (heldFr_at k AG cG r.length p v u ms (m : Int) _ HM22.out.row H4.out).mono ?_); rintro e w23 ⟨rfl, hb⟩; have HM23 := Lib.hid (HM22.out.to hb); clear hb)
    | (go_at_call 9; (with_reducible refine (toS_at k A0 c0 l L _ (HC.out.to HM23.out.sv.below).r0 HC.out.c0 T1.out).mono ?_); rintro e w24 ⟨D0, i0, rfl, hx, hb⟩; have HM24 := Lib.hid (HM23.out.to hb); have HD0 := Lib.hid hx; clear hb hx)
    | (go_at_call 10; (with_reducible refine (toT_at k A1 c1 ns ns _ (HC.out.to HM24.out.sv.below).r1 HC.out.c1 T2.out).mono ?_); rintro e w25 ⟨D1, i1, rfl, hx, hb⟩; have HM25 := Lib.hid (HM24.out.to hb); have HD05 := Lib.hid (Kd.S_below HD0.out hb); have HD1 := Lib.hid hx; clear hb hx)
    | (go_at_call 11; (with_reducible refine (toF_at k A2 c2 ls ls _ (HC.out.to HM25.out.sv.below).r2 HC.out.c2 T3.out).mono ?_); rintro e w26 ⟨D2, i2, rfl, hx, hb⟩; have HM26 := Lib.hid (HM25.out.to hb); have HD06 := Lib.hid (Kd.S_below HD05.out hb); have HD16 := Lib.hid (Kd.R_below HD1.out hb); have HD26 := Lib.hid hx; clear hb hx)
    | (go_at_call 12; (with_reducible refine (f_at S2.out HD06.out HD16.out HD26.out).mono ?_); rintro e w27 ⟨AH, cH, rfl, hx, hb⟩
       have HM27 := Lib.hid ((HM26.out.to hb).to (below_alloc (Below.refl _ _) (.cells (fcs AH r.length cH p v u) 29)))
       have HH27 := Lib.hid (Kd.R_alloc hx (.cells (fcs AH r.length cH p v u) 29))
       obtain ⟨cw0, cw1, cw2, cw3⟩ := bx4 HM27.out.sv.bw
       obtain ⟨cg0, cg1, cg2, cg3⟩ := bx4 (heap_alloc_new w27 (.cells (fcs AH r.length cH p v u) 29))
       clear hb hx)
    | (go_at_call 13; clear cw0 cw1 cw2 cw3 cg0 cg1 cg2 cg3; (with_reducible refine (eqFr_at AH AV cH cV p v u r _ HH27.out HM27.out.sv.row E4.out).mono ?_); rintro e w28 ⟨rfl, hb⟩; have HM28 := Lib.hid (HM27.out.to hb); obtain ⟨cg0, cg1, cg2, cg3⟩ := bx4 HM28.out.bg; clear hb)
    | (go_at_call 21; clear cg0 cg1 cg2 cg3; (with_reducible refine (heldFr_at k AG cG r.length p v u ms (m : Int) _ HM28.out.row H4.out).mono ?_); rintro e w29 ⟨rfl, hb⟩; have HM29 := Lib.hid (HM28.out.to hb); clear hb))
  go_ret
  exact ⟨rfl, HM29.out.sv.below⟩
end Go.Proofs.Yteooifighndmkaa.Frl
