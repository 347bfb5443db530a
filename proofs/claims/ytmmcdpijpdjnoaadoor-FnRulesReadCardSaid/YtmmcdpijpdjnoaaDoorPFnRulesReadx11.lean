import Derived.Test.YtmmcdpijpdjnoaaDoorPFnRulesReadx0
import Derived.Test.YtmmcdpijpdjnoaaDoorPFnRulesReadx2
import Derived.Test.YtmmcdpijpdjnoaaDoorPFnRulesReadx4
import Derived.Test.YtmmcdpijpdjnoaaDoorPFnRulesReadx5
import Derived.Test.YtmmcdpijpdjnoaaDoorPFnRulesReadx6
import Derived.Test.YtmmcdpijpdjnoaaDoorPFnRulesReadx8
import Derived.Test.YtmmcdpijpdjnoaaDoorPFnRulesReadx9
import Derived.Test.YtmmcdpijpdjnoaaDoorPFnRulesReadx10
namespace Go.Proofs.YtmmcdpijpdjnoaaDoor.PFnRulesRead
open Go.RowKit Go.Proofs.YtmmcdpijpdjnoaaDoorW.PrintWords Go.Proofs.YtmmcdpijpdjnoaaDoorW.PrintLast Go.Proofs.YtmmcdpijpdjnoaaDoorW.PrintMore
open Go.Proofs.YtmmcdpijpdjnoaaDoorW.PrintFl
attribute [local go_sem high] binOp_feq binOp_fne binOp_fls binOp_fle binOp_fgr binOp_fge binOp_sle binOp_sgt
attribute [local go_sem] run_fopr run_fconv run_fint run_stf run_stc
attribute [local go_sem] max2_int min2_int max_two min_two max_three min_three max_four min_four
set_option linter.unusedVariables false
set_option linter.unusedSimpArgs false
mutual
def laws_FnRulesRead.l0 : Nat → List (S30) → ByteArray → List (S30) → Int → Int → Option (Bool)
 | 0, _, _, _, _, _ => none
 | k + 1, x5, x6, x7, x42, x43 => if x43 < x42 then (if 0 ≤ x43 then (if x43 < (x5.length : Int) then ((impl_RuleText.f k ((rd_T30 x5 x43).f0) ((rd_T30 x5 x43).f1) ((rd_T30 x5 x43).f2) ((rd_T30 x5 x43).f3)).bind fun bt421 => ((impl_ReadRule.f k bt421.1).bind fun bt423 => (if bt421.2 = true then (if bt423.2.2.2.2 = true then ((impl_ValidRule.f k bt423.1 bt423.2.1 bt423.2.2.1 bt423.2.2.2.1).bind fun t429 => (if t429 = true then (if x7.length < 2199023255552 then (laws_FnRulesRead.l0 k x5 x6 (x7 ++ [(⟨bt423.1, bt423.2.1, bt423.2.2.1, bt423.2.2.2.1⟩ : S30)]) x42 (wrap64 (x43 + 1))) else (none)) else (some false))) else (some false)) else (some false)))) else (none)) else (none)) else ((impl_RulesFor.f k x5 x6).bind fun bt433 => ((impl_SoundsOf.f k x5 x6).bind fun bt437 => ((impl_DeadRules.f k x5).bind fun bt441 => ((impl_SameRules.f k x7 x5).bind fun t445 => (if t445 = true then (if bt433.2 = true then (if bt437.2 = true then (laws_FnRulesRead.j1 k x5 x6 bt433.1 bt437.1 bt441.1 (!bt441.2)) else (laws_FnRulesRead.j1 k x5 x6 bt433.1 bt437.1 bt441.1 true)) else (laws_FnRulesRead.j1 k x5 x6 bt433.1 bt437.1 bt441.1 true)) else (laws_FnRulesRead.j1 k x5 x6 bt433.1 bt437.1 bt441.1 true))))))
def laws_FnRulesRead.j1 : Nat → List (S30) → ByteArray → List Int → List ByteArray → List Int → Bool → Option (Bool)
 | 0, _, _, _, _, _, _ => none
 | k + 1, x5, x6, x13, x15, x17, x107 => if x107 = true then (some false) else (laws_FnRulesRead.l1 k x5 x6 x13 x15 x17 0 (x13.length : Int) 0)
def laws_FnRulesRead.l1 : Nat → List (S30) → ByteArray → List Int → List ByteArray → List Int → Int → Int → Int → Option (Bool)
 | 0, _, _, _, _, _, _, _, _ => none
 | k + 1, x5, x6, x13, x15, x17, x19, x109, x110 => if x110 < x109 then (if 0 ≤ x110 then (if x110 < (x13.length : Int) then (if (rd x13 x110) < 0 then (laws_FnRulesRead.j3 k x5 x6 x13 x15 x17 x19 (rd x13 x110) x109 x110 true) else (if (rd x13 x110) ≥ (x5.length : Int) then (laws_FnRulesRead.j3 k x5 x6 x13 x15 x17 x19 (rd x13 x110) x109 x110 true) else (if 0 ≤ (rd x13 x110) then (if (rd x13 x110) < (x5.length : Int) then ((impl_MatchesAt.f k ((rd_T30 x5 (rd x13 x110)).f0) ((rd_T30 x5 (rd x13 x110)).f1) ((rd_T30 x5 (rd x13 x110)).f2) ((rd_T30 x5 (rd x13 x110)).f3) x6 x19).bind fun t448 => (laws_FnRulesRead.j3 k x5 x6 x13 x15 x17 x19 (rd x13 x110) x109 x110 (!t448))) else (none)) else (none)))) else (none)) else (none)) else ((impl_PlainRules.f k).bind fun t453 => ((impl_SoundsOf.f k t453 x6).bind fun bt456 => (if x6.size + 1 ≤ 9223372036854775807 then (if (x6 ++ (⟨#[32]⟩ : ByteArray)).size + x6.size ≤ 9223372036854775807 then ((impl_SpellText.f k x5 ((x6 ++ (⟨#[32]⟩ : ByteArray)) ++ x6)).bind fun bt460 => ((impl_SyllablesIn.f k x6).bind fun bt464 => (if x19 = (x6.size : Int) then (if bt456.2 = true then (if bt460.2 = true then (if bt464.2 = true then (if (bt456.1.length : Int) = (x6.size : Int) then (if (bt460.1.length : Int) = (wrap64 ((wrap64 (2 * (x15.length : Int))) + 1)) then (if 0 ≤ (x15.length : Int) then (if (x15.length : Int) < (bt460.1.length : Int) then (if (rdOf ByteArray.empty bt460.1 (x15.length : Int)).toList = ([114, 101, 115, 116] : List UInt8) then (if bt464.1 < 0 then (laws_FnRulesRead.j6 k x6 x15 bt456.1 bt460.1 bt464.1 true) else (laws_FnRulesRead.j6 k x6 x15 bt456.1 bt460.1 bt464.1 (decide (bt464.1 > x19)))) else (laws_FnRulesRead.j6 k x6 x15 bt456.1 bt460.1 bt464.1 true)) else (none)) else (none)) else (laws_FnRulesRead.j6 k x6 x15 bt456.1 bt460.1 bt464.1 true)) else (laws_FnRulesRead.j6 k x6 x15 bt456.1 bt460.1 bt464.1 true)) else (laws_FnRulesRead.j6 k x6 x15 bt456.1 bt460.1 bt464.1 true)) else (laws_FnRulesRead.j6 k x6 x15 bt456.1 bt460.1 bt464.1 true)) else (laws_FnRulesRead.j6 k x6 x15 bt456.1 bt460.1 bt464.1 true)) else (laws_FnRulesRead.j6 k x6 x15 bt456.1 bt460.1 bt464.1 true)))) else (none)) else (none))))
def laws_FnRulesRead.j3 : Nat → List (S30) → ByteArray → List Int → List ByteArray → List Int → Int → Int → Int → Int → Bool → Option (Bool)
 | 0, _, _, _, _, _, _, _, _, _, _ => none
 | k + 1, x5, x6, x13, x15, x17, x19, x21, x109, x110, x134 => if x134 = true then (some false) else (laws_FnRulesRead.l2 k x5 x6 x13 x15 x17 x19 x21 0 x109 x110)
def laws_FnRulesRead.l2 : Nat → List (S30) → ByteArray → List Int → List ByteArray → List Int → Int → Int → Int → Int → Int → Option (Bool)
 | 0, _, _, _, _, _, _, _, _, _, _ => none
 | k + 1, x5, x6, x13, x15, x17, x19, x21, x22, x109, x110 => if x22 < x21 then (if 0 ≤ x22 then (if x22 < (x5.length : Int) then ((impl_MatchesAt.f k ((rd_T30 x5 x22).f0) ((rd_T30 x5 x22).f1) ((rd_T30 x5 x22).f2) ((rd_T30 x5 x22).f3) x6 x19).bind fun t450 => (if t450 = true then (some false) else (laws_FnRulesRead.l2 k x5 x6 x13 x15 x17 x19 x21 (wrap64 (x22 + 1)) x109 x110))) else (none)) else (none)) else (laws_FnRulesRead.l3 k x5 x6 x13 x15 x17 x19 x21 x109 x110 (x17.length : Int) 0)
def laws_FnRulesRead.l3 : Nat → List (S30) → ByteArray → List Int → List ByteArray → List Int → Int → Int → Int → Int → Int → Int → Option (Bool)
 | 0, _, _, _, _, _, _, _, _, _, _, _ => none
 | k + 1, x5, x6, x13, x15, x17, x19, x21, x109, x110, x148, x149 => if x149 < x148 then (if 0 ≤ x149 then (if x149 < (x17.length : Int) then (if (rd x17 x149) = x21 then (some false) else (laws_FnRulesRead.l3 k x5 x6 x13 x15 x17 x19 x21 x109 x110 x148 (wrap64 (x149 + 1)))) else (none)) else (none)) else (if 0 ≤ x21 then (if x21 < (x5.length : Int) then (laws_FnRulesRead.l1 k x5 x6 x13 x15 x17 (wrap64 (x19 + (((rd_T30 x5 x21).f1).size : Int))) x109 (wrap64 (x110 + 1))) else (none)) else (none))
def laws_FnRulesRead.j6 : Nat → ByteArray → List ByteArray → List ByteArray → List ByteArray → Int → Bool → Option (Bool)
 | 0, _, _, _, _, _, _ => none
 | k + 1, x6, x15, x24, x26, x28, x236 => if x236 = true then (some false) else (laws_FnRulesRead.l4 k x6 x15 x24 x26 x28 false (x24.length : Int) 0)
def laws_FnRulesRead.l4 : Nat → ByteArray → List ByteArray → List ByteArray → List ByteArray → Int → Bool → Int → Int → Option (Bool)
 | 0, _, _, _, _, _, _, _, _ => none
 | k + 1, x6, x15, x24, x26, x28, x30, x238, x239 => if x239 < x238 then (if 0 ≤ x239 then (if x239 < (x24.length : Int) then (if x239 ≤ (wrap64 (x239 + 1)) then (if (wrap64 (x239 + 1)) ≤ (x6.size : Int) then (if (rdOf ByteArray.empty x24 x239).toList = (x6.extract (x239 : Int).toNat ((wrap64 (x239 + 1)) : Int).toNat).toList then (if x30 = true then (laws_FnRulesRead.l4 k x6 x15 x24 x26 x28 true x238 (wrap64 (x239 + 1))) else ((impl_IsVowel.f (rdOf ByteArray.empty x24 x239)).bind fun t469 => (laws_FnRulesRead.l4 k x6 x15 x24 x26 x28 t469 x238 (wrap64 (x239 + 1))))) else (some false)) else (none)) else (none)) else (none)) else (none)) else (laws_FnRulesRead.l5 k x15 x26 x28 x30 (x15.length : Int) 0)
def laws_FnRulesRead.l5 : Nat → List ByteArray → List ByteArray → Int → Bool → Int → Int → Option (Bool)
 | 0, _, _, _, _, _, _ => none
 | k + 1, x15, x26, x28, x30, x262, x263 => if x263 < x262 then (if 0 ≤ x263 then (if x263 < (x26.length : Int) then (if x263 < (x15.length : Int) then (if (rdOf ByteArray.empty x26 x263).toList = (rdOf ByteArray.empty x15 x263).toList then (laws_FnRulesRead.l5 k x15 x26 x28 x30 x262 (wrap64 (x263 + 1))) else (some false)) else (none)) else (none)) else (none)) else (some (x30 == (decide (x28 > 0))))
end
def laws_FnRulesRead.f (k : Nat) (l0 : List Int) (l1 : List Int) : Option (Bool) := (laws_b10Long.f l0 l1).bind fun t412 => (if t412 = true then (some true) else ((spec_B10Rules.f k l0).bind fun t413 => ((spec_B10Word.f k l1).bind fun t416 => (laws_FnRulesRead.l0 k t413 t416 (([] : List (S30))) (t413.length : Int) 0))))
theorem laws_FnRulesRead.mono_l : ∀ k, (∀ y0 y1 y2 y3 y4, LeO (laws_FnRulesRead.l0 k y0 y1 y2 y3 y4) (laws_FnRulesRead.l0 (k + 1) y0 y1 y2 y3 y4)) ∧ (∀ y0 y1 y2 y3 y4 y5, LeO (laws_FnRulesRead.j1 k y0 y1 y2 y3 y4 y5) (laws_FnRulesRead.j1 (k + 1) y0 y1 y2 y3 y4 y5)) ∧ (∀ y0 y1 y2 y3 y4 y5 y6 y7, LeO (laws_FnRulesRead.l1 k y0 y1 y2 y3 y4 y5 y6 y7) (laws_FnRulesRead.l1 (k + 1) y0 y1 y2 y3 y4 y5 y6 y7)) ∧ (∀ y0 y1 y2 y3 y4 y5 y6 y7 y8 y9, LeO (laws_FnRulesRead.j3 k y0 y1 y2 y3 y4 y5 y6 y7 y8 y9) (laws_FnRulesRead.j3 (k + 1) y0 y1 y2 y3 y4 y5 y6 y7 y8 y9)) ∧ (∀ y0 y1 y2 y3 y4 y5 y6 y7 y8 y9, LeO (laws_FnRulesRead.l2 k y0 y1 y2 y3 y4 y5 y6 y7 y8 y9) (laws_FnRulesRead.l2 (k + 1) y0 y1 y2 y3 y4 y5 y6 y7 y8 y9)) ∧ (∀ y0 y1 y2 y3 y4 y5 y6 y7 y8 y9 y10, LeO (laws_FnRulesRead.l3 k y0 y1 y2 y3 y4 y5 y6 y7 y8 y9 y10) (laws_FnRulesRead.l3 (k + 1) y0 y1 y2 y3 y4 y5 y6 y7 y8 y9 y10)) ∧ (∀ y0 y1 y2 y3 y4 y5, LeO (laws_FnRulesRead.j6 k y0 y1 y2 y3 y4 y5) (laws_FnRulesRead.j6 (k + 1) y0 y1 y2 y3 y4 y5)) ∧ (∀ y0 y1 y2 y3 y4 y5 y6 y7, LeO (laws_FnRulesRead.l4 k y0 y1 y2 y3 y4 y5 y6 y7) (laws_FnRulesRead.l4 (k + 1) y0 y1 y2 y3 y4 y5 y6 y7)) ∧ (∀ y0 y1 y2 y3 y4 y5, LeO (laws_FnRulesRead.l5 k y0 y1 y2 y3 y4 y5) (laws_FnRulesRead.l5 (k + 1) y0 y1 y2 y3 y4 y5))
 | 0 => ⟨fun _ _ _ _ _ r h => by simp [laws_FnRulesRead.l0] at h, fun _ _ _ _ _ _ r h => by simp [laws_FnRulesRead.j1] at h, fun _ _ _ _ _ _ _ _ r h => by simp [laws_FnRulesRead.l1] at h, fun _ _ _ _ _ _ _ _ _ _ r h => by simp [laws_FnRulesRead.j3] at h, fun _ _ _ _ _ _ _ _ _ _ r h => by simp [laws_FnRulesRead.l2] at h, fun _ _ _ _ _ _ _ _ _ _ _ r h => by simp [laws_FnRulesRead.l3] at h, fun _ _ _ _ _ _ r h => by simp [laws_FnRulesRead.j6] at h, fun _ _ _ _ _ _ _ _ r h => by simp [laws_FnRulesRead.l4] at h, fun _ _ _ _ _ _ r h => by simp [laws_FnRulesRead.l5] at h⟩
 | k + 1 => by
  obtain ⟨ih0, ih1, ih2, ih3, ih4, ih5, ih6, ih7, ih8⟩ := laws_FnRulesRead.mono_l k
  refine ⟨?_, ?_, ?_, ?_, ?_, ?_, ?_, ?_, ?_⟩
  ·intro y0 y1 y2 y3 y4
   unfold laws_FnRulesRead.l0
   repeat' first
   | (with_reducible exact ih0 _ _ _ _ _)
   | (with_reducible exact ih1 _ _ _ _ _ _)
   | (with_reducible exact ih2 _ _ _ _ _ _ _ _)
   | (with_reducible exact ih3 _ _ _ _ _ _ _ _ _ _)
   | (with_reducible exact ih4 _ _ _ _ _ _ _ _ _ _)
   | (with_reducible exact ih5 _ _ _ _ _ _ _ _ _ _ _)
   | (with_reducible exact ih6 _ _ _ _ _ _)
   | (with_reducible exact ih7 _ _ _ _ _ _ _ _)
   | (with_reducible exact ih8 _ _ _ _ _ _)
   | (with_reducible exact impl_DeadRules.mono _ _)
   | (with_reducible exact impl_MatchesAt.mono _ _ _ _ _ _ _)
   | (with_reducible exact impl_PlainRules.mono _)
   | (with_reducible exact impl_ReadRule.mono _ _)
   | (with_reducible exact impl_RuleText.mono _ _ _ _ _)
   | (with_reducible exact impl_RulesFor.mono _ _ _)
   | (with_reducible exact impl_SameRules.mono _ _ _)
   | (with_reducible exact impl_SoundsOf.mono _ _ _)
   | (with_reducible exact impl_SpellText.mono _ _ _)
   | (with_reducible exact impl_SyllablesIn.mono _ _)
   | (with_reducible exact impl_ValidRule.mono _ _ _ _ _)
   | (with_reducible exact spec_B10Rules.mono _ _)
   | (with_reducible exact spec_B10Word.mono _ _)
   | (with_reducible exact LeO.refl _)
   | (with_reducible exact LeO.none _)
   | (with_reducible refine LeO.ite ?_ ?_)
   | (with_reducible refine LeO.bind ?_ (fun _ => ?_))
   | exact ih0 _ _ _ _ _
   | exact ih1 _ _ _ _ _ _
   | exact ih2 _ _ _ _ _ _ _ _
   | exact ih3 _ _ _ _ _ _ _ _ _ _
   | exact ih4 _ _ _ _ _ _ _ _ _ _
   | exact ih5 _ _ _ _ _ _ _ _ _ _ _
   | exact ih6 _ _ _ _ _ _
   | exact ih7 _ _ _ _ _ _ _ _
   | exact ih8 _ _ _ _ _ _
   | exact impl_DeadRules.mono _ _
   | exact impl_MatchesAt.mono _ _ _ _ _ _ _
   | exact impl_PlainRules.mono _
   | exact impl_ReadRule.mono _ _
   | exact impl_RuleText.mono _ _ _ _ _
   | exact impl_RulesFor.mono _ _ _
   | exact impl_SameRules.mono _ _ _
   | exact impl_SoundsOf.mono _ _ _
   | exact impl_SpellText.mono _ _ _
   | exact impl_SyllablesIn.mono _ _
   | exact impl_ValidRule.mono _ _ _ _ _
   | exact spec_B10Rules.mono _ _
   | exact spec_B10Word.mono _ _
   | exact LeO.none _
   | refine LeO.ite ?_ ?_
   | refine LeO.bind ?_ (fun _ => ?_)
  ·intro y0 y1 y2 y3 y4 y5
   unfold laws_FnRulesRead.j1
   repeat' first
   | (with_reducible exact ih0 _ _ _ _ _)
   | (with_reducible exact ih1 _ _ _ _ _ _)
   | (with_reducible exact ih2 _ _ _ _ _ _ _ _)
   | (with_reducible exact ih3 _ _ _ _ _ _ _ _ _ _)
   | (with_reducible exact ih4 _ _ _ _ _ _ _ _ _ _)
   | (with_reducible exact ih5 _ _ _ _ _ _ _ _ _ _ _)
   | (with_reducible exact ih6 _ _ _ _ _ _)
   | (with_reducible exact ih7 _ _ _ _ _ _ _ _)
   | (with_reducible exact ih8 _ _ _ _ _ _)
   | (with_reducible exact impl_DeadRules.mono _ _)
   | (with_reducible exact impl_MatchesAt.mono _ _ _ _ _ _ _)
   | (with_reducible exact impl_PlainRules.mono _)
   | (with_reducible exact impl_ReadRule.mono _ _)
   | (with_reducible exact impl_RuleText.mono _ _ _ _ _)
   | (with_reducible exact impl_RulesFor.mono _ _ _)
   | (with_reducible exact impl_SameRules.mono _ _ _)
   | (with_reducible exact impl_SoundsOf.mono _ _ _)
   | (with_reducible exact impl_SpellText.mono _ _ _)
   | (with_reducible exact impl_SyllablesIn.mono _ _)
   | (with_reducible exact impl_ValidRule.mono _ _ _ _ _)
   | (with_reducible exact spec_B10Rules.mono _ _)
   | (with_reducible exact spec_B10Word.mono _ _)
   | (with_reducible exact LeO.refl _)
   | (with_reducible exact LeO.none _)
   | (with_reducible refine LeO.ite ?_ ?_)
   | (with_reducible refine LeO.bind ?_ (fun _ => ?_))
   | exact ih0 _ _ _ _ _
   | exact ih1 _ _ _ _ _ _
   | exact ih2 _ _ _ _ _ _ _ _
   | exact ih3 _ _ _ _ _ _ _ _ _ _
   | exact ih4 _ _ _ _ _ _ _ _ _ _
   | exact ih5 _ _ _ _ _ _ _ _ _ _ _
   | exact ih6 _ _ _ _ _ _
   | exact ih7 _ _ _ _ _ _ _ _
   | exact ih8 _ _ _ _ _ _
   | exact impl_DeadRules.mono _ _
   | exact impl_MatchesAt.mono _ _ _ _ _ _ _
   | exact impl_PlainRules.mono _
   | exact impl_ReadRule.mono _ _
   | exact impl_RuleText.mono _ _ _ _ _
   | exact impl_RulesFor.mono _ _ _
   | exact impl_SameRules.mono _ _ _
   | exact impl_SoundsOf.mono _ _ _
   | exact impl_SpellText.mono _ _ _
   | exact impl_SyllablesIn.mono _ _
   | exact impl_ValidRule.mono _ _ _ _ _
   | exact spec_B10Rules.mono _ _
   | exact spec_B10Word.mono _ _
   | exact LeO.none _
   | refine LeO.ite ?_ ?_
   | refine LeO.bind ?_ (fun _ => ?_)
  ·intro y0 y1 y2 y3 y4 y5 y6 y7
   unfold laws_FnRulesRead.l1
   repeat' first
   | (with_reducible exact ih0 _ _ _ _ _)
   | (with_reducible exact ih1 _ _ _ _ _ _)
   | (with_reducible exact ih2 _ _ _ _ _ _ _ _)
   | (with_reducible exact ih3 _ _ _ _ _ _ _ _ _ _)
   | (with_reducible exact ih4 _ _ _ _ _ _ _ _ _ _)
   | (with_reducible exact ih5 _ _ _ _ _ _ _ _ _ _ _)
   | (with_reducible exact ih6 _ _ _ _ _ _)
   | (with_reducible exact ih7 _ _ _ _ _ _ _ _)
   | (with_reducible exact ih8 _ _ _ _ _ _)
   | (with_reducible exact impl_DeadRules.mono _ _)
   | (with_reducible exact impl_MatchesAt.mono _ _ _ _ _ _ _)
   | (with_reducible exact impl_PlainRules.mono _)
   | (with_reducible exact impl_ReadRule.mono _ _)
   | (with_reducible exact impl_RuleText.mono _ _ _ _ _)
   | (with_reducible exact impl_RulesFor.mono _ _ _)
   | (with_reducible exact impl_SameRules.mono _ _ _)
   | (with_reducible exact impl_SoundsOf.mono _ _ _)
   | (with_reducible exact impl_SpellText.mono _ _ _)
   | (with_reducible exact impl_SyllablesIn.mono _ _)
   | (with_reducible exact impl_ValidRule.mono _ _ _ _ _)
   | (with_reducible exact spec_B10Rules.mono _ _)
   | (with_reducible exact spec_B10Word.mono _ _)
   | (with_reducible exact LeO.refl _)
   | (with_reducible exact LeO.none _)
   | (with_reducible refine LeO.ite ?_ ?_)
   | (with_reducible refine LeO.bind ?_ (fun _ => ?_))
   | exact ih0 _ _ _ _ _
   | exact ih1 _ _ _ _ _ _
   | exact ih2 _ _ _ _ _ _ _ _
   | exact ih3 _ _ _ _ _ _ _ _ _ _
   | exact ih4 _ _ _ _ _ _ _ _ _ _
   | exact ih5 _ _ _ _ _ _ _ _ _ _ _
   | exact ih6 _ _ _ _ _ _
   | exact ih7 _ _ _ _ _ _ _ _
   | exact ih8 _ _ _ _ _ _
   | exact impl_DeadRules.mono _ _
   | exact impl_MatchesAt.mono _ _ _ _ _ _ _
   | exact impl_PlainRules.mono _
   | exact impl_ReadRule.mono _ _
   | exact impl_RuleText.mono _ _ _ _ _
   | exact impl_RulesFor.mono _ _ _
   | exact impl_SameRules.mono _ _ _
   | exact impl_SoundsOf.mono _ _ _
   | exact impl_SpellText.mono _ _ _
   | exact impl_SyllablesIn.mono _ _
   | exact impl_ValidRule.mono _ _ _ _ _
   | exact spec_B10Rules.mono _ _
   | exact spec_B10Word.mono _ _
   | exact LeO.none _
   | refine LeO.ite ?_ ?_
   | refine LeO.bind ?_ (fun _ => ?_)
  ·intro y0 y1 y2 y3 y4 y5 y6 y7 y8 y9
   unfold laws_FnRulesRead.j3
   repeat' first
   | (with_reducible exact ih0 _ _ _ _ _)
   | (with_reducible exact ih1 _ _ _ _ _ _)
   | (with_reducible exact ih2 _ _ _ _ _ _ _ _)
   | (with_reducible exact ih3 _ _ _ _ _ _ _ _ _ _)
   | (with_reducible exact ih4 _ _ _ _ _ _ _ _ _ _)
   | (with_reducible exact ih5 _ _ _ _ _ _ _ _ _ _ _)
   | (with_reducible exact ih6 _ _ _ _ _ _)
   | (with_reducible exact ih7 _ _ _ _ _ _ _ _)
   | (with_reducible exact ih8 _ _ _ _ _ _)
   | (with_reducible exact impl_DeadRules.mono _ _)
   | (with_reducible exact impl_MatchesAt.mono _ _ _ _ _ _ _)
   | (with_reducible exact impl_PlainRules.mono _)
   | (with_reducible exact impl_ReadRule.mono _ _)
   | (with_reducible exact impl_RuleText.mono _ _ _ _ _)
   | (with_reducible exact impl_RulesFor.mono _ _ _)
   | (with_reducible exact impl_SameRules.mono _ _ _)
   | (with_reducible exact impl_SoundsOf.mono _ _ _)
   | (with_reducible exact impl_SpellText.mono _ _ _)
   | (with_reducible exact impl_SyllablesIn.mono _ _)
   | (with_reducible exact impl_ValidRule.mono _ _ _ _ _)
   | (with_reducible exact spec_B10Rules.mono _ _)
   | (with_reducible exact spec_B10Word.mono _ _)
   | (with_reducible exact LeO.refl _)
   | (with_reducible exact LeO.none _)
   | (with_reducible refine LeO.ite ?_ ?_)
   | (with_reducible refine LeO.bind ?_ (fun _ => ?_))
   | exact ih0 _ _ _ _ _
   | exact ih1 _ _ _ _ _ _
   | exact ih2 _ _ _ _ _ _ _ _
   | exact ih3 _ _ _ _ _ _ _ _ _ _
   | exact ih4 _ _ _ _ _ _ _ _ _ _
   | exact ih5 _ _ _ _ _ _ _ _ _ _ _
   | exact ih6 _ _ _ _ _ _
   | exact ih7 _ _ _ _ _ _ _ _
   | exact ih8 _ _ _ _ _ _
   | exact impl_DeadRules.mono _ _
   | exact impl_MatchesAt.mono _ _ _ _ _ _ _
   | exact impl_PlainRules.mono _
   | exact impl_ReadRule.mono _ _
   | exact impl_RuleText.mono _ _ _ _ _
   | exact impl_RulesFor.mono _ _ _
   | exact impl_SameRules.mono _ _ _
   | exact impl_SoundsOf.mono _ _ _
   | exact impl_SpellText.mono _ _ _
   | exact impl_SyllablesIn.mono _ _
   | exact impl_ValidRule.mono _ _ _ _ _
   | exact spec_B10Rules.mono _ _
   | exact spec_B10Word.mono _ _
   | exact LeO.none _
   | refine LeO.ite ?_ ?_
   | refine LeO.bind ?_ (fun _ => ?_)
  ·intro y0 y1 y2 y3 y4 y5 y6 y7 y8 y9
   unfold laws_FnRulesRead.l2
   repeat' first
   | (with_reducible exact ih0 _ _ _ _ _)
   | (with_reducible exact ih1 _ _ _ _ _ _)
   | (with_reducible exact ih2 _ _ _ _ _ _ _ _)
   | (with_reducible exact ih3 _ _ _ _ _ _ _ _ _ _)
   | (with_reducible exact ih4 _ _ _ _ _ _ _ _ _ _)
   | (with_reducible exact ih5 _ _ _ _ _ _ _ _ _ _ _)
   | (with_reducible exact ih6 _ _ _ _ _ _)
   | (with_reducible exact ih7 _ _ _ _ _ _ _ _)
   | (with_reducible exact ih8 _ _ _ _ _ _)
   | (with_reducible exact impl_DeadRules.mono _ _)
   | (with_reducible exact impl_MatchesAt.mono _ _ _ _ _ _ _)
   | (with_reducible exact impl_PlainRules.mono _)
   | (with_reducible exact impl_ReadRule.mono _ _)
   | (with_reducible exact impl_RuleText.mono _ _ _ _ _)
   | (with_reducible exact impl_RulesFor.mono _ _ _)
   | (with_reducible exact impl_SameRules.mono _ _ _)
   | (with_reducible exact impl_SoundsOf.mono _ _ _)
   | (with_reducible exact impl_SpellText.mono _ _ _)
   | (with_reducible exact impl_SyllablesIn.mono _ _)
   | (with_reducible exact impl_ValidRule.mono _ _ _ _ _)
   | (with_reducible exact spec_B10Rules.mono _ _)
   | (with_reducible exact spec_B10Word.mono _ _)
   | (with_reducible exact LeO.refl _)
   | (with_reducible exact LeO.none _)
   | (with_reducible refine LeO.ite ?_ ?_)
   | (with_reducible refine LeO.bind ?_ (fun _ => ?_))
   | exact ih0 _ _ _ _ _
   | exact ih1 _ _ _ _ _ _
   | exact ih2 _ _ _ _ _ _ _ _
   | exact ih3 _ _ _ _ _ _ _ _ _ _
   | exact ih4 _ _ _ _ _ _ _ _ _ _
   | exact ih5 _ _ _ _ _ _ _ _ _ _ _
   | exact ih6 _ _ _ _ _ _
   | exact ih7 _ _ _ _ _ _ _ _
   | exact ih8 _ _ _ _ _ _
   | exact impl_DeadRules.mono _ _
   | exact impl_MatchesAt.mono _ _ _ _ _ _ _
   | exact impl_PlainRules.mono _
   | exact impl_ReadRule.mono _ _
   | exact impl_RuleText.mono _ _ _ _ _
   | exact impl_RulesFor.mono _ _ _
   | exact impl_SameRules.mono _ _ _
   | exact impl_SoundsOf.mono _ _ _
   | exact impl_SpellText.mono _ _ _
   | exact impl_SyllablesIn.mono _ _
   | exact impl_ValidRule.mono _ _ _ _ _
   | exact spec_B10Rules.mono _ _
   | exact spec_B10Word.mono _ _
   | exact LeO.none _
   | refine LeO.ite ?_ ?_
   | refine LeO.bind ?_ (fun _ => ?_)
  ·intro y0 y1 y2 y3 y4 y5 y6 y7 y8 y9 y10
   unfold laws_FnRulesRead.l3
   repeat' first
   | (with_reducible exact ih0 _ _ _ _ _)
   | (with_reducible exact ih1 _ _ _ _ _ _)
   | (with_reducible exact ih2 _ _ _ _ _ _ _ _)
   | (with_reducible exact ih3 _ _ _ _ _ _ _ _ _ _)
   | (with_reducible exact ih4 _ _ _ _ _ _ _ _ _ _)
   | (with_reducible exact ih5 _ _ _ _ _ _ _ _ _ _ _)
   | (with_reducible exact ih6 _ _ _ _ _ _)
   | (with_reducible exact ih7 _ _ _ _ _ _ _ _)
   | (with_reducible exact ih8 _ _ _ _ _ _)
   | (with_reducible exact impl_DeadRules.mono _ _)
   | (with_reducible exact impl_MatchesAt.mono _ _ _ _ _ _ _)
   | (with_reducible exact impl_PlainRules.mono _)
   | (with_reducible exact impl_ReadRule.mono _ _)
   | (with_reducible exact impl_RuleText.mono _ _ _ _ _)
   | (with_reducible exact impl_RulesFor.mono _ _ _)
   | (with_reducible exact impl_SameRules.mono _ _ _)
   | (with_reducible exact impl_SoundsOf.mono _ _ _)
   | (with_reducible exact impl_SpellText.mono _ _ _)
   | (with_reducible exact impl_SyllablesIn.mono _ _)
   | (with_reducible exact impl_ValidRule.mono _ _ _ _ _)
   | (with_reducible exact spec_B10Rules.mono _ _)
   | (with_reducible exact spec_B10Word.mono _ _)
   | (with_reducible exact LeO.refl _)
   | (with_reducible exact LeO.none _)
   | (with_reducible refine LeO.ite ?_ ?_)
   | (with_reducible refine LeO.bind ?_ (fun _ => ?_))
   | exact ih0 _ _ _ _ _
   | exact ih1 _ _ _ _ _ _
   | exact ih2 _ _ _ _ _ _ _ _
   | exact ih3 _ _ _ _ _ _ _ _ _ _
   | exact ih4 _ _ _ _ _ _ _ _ _ _
   | exact ih5 _ _ _ _ _ _ _ _ _ _ _
   | exact ih6 _ _ _ _ _ _
   | exact ih7 _ _ _ _ _ _ _ _
   | exact ih8 _ _ _ _ _ _
   | exact impl_DeadRules.mono _ _
   | exact impl_MatchesAt.mono _ _ _ _ _ _ _
   | exact impl_PlainRules.mono _
   | exact impl_ReadRule.mono _ _
   | exact impl_RuleText.mono _ _ _ _ _
   | exact impl_RulesFor.mono _ _ _
   | exact impl_SameRules.mono _ _ _
   | exact impl_SoundsOf.mono _ _ _
   | exact impl_SpellText.mono _ _ _
   | exact impl_SyllablesIn.mono _ _
   | exact impl_ValidRule.mono _ _ _ _ _
   | exact spec_B10Rules.mono _ _
   | exact spec_B10Word.mono _ _
   | exact LeO.none _
   | refine LeO.ite ?_ ?_
   | refine LeO.bind ?_ (fun _ => ?_)
  ·intro y0 y1 y2 y3 y4 y5
   unfold laws_FnRulesRead.j6
   repeat' first
   | (with_reducible exact ih0 _ _ _ _ _)
   | (with_reducible exact ih1 _ _ _ _ _ _)
   | (with_reducible exact ih2 _ _ _ _ _ _ _ _)
   | (with_reducible exact ih3 _ _ _ _ _ _ _ _ _ _)
   | (with_reducible exact ih4 _ _ _ _ _ _ _ _ _ _)
   | (with_reducible exact ih5 _ _ _ _ _ _ _ _ _ _ _)
   | (with_reducible exact ih6 _ _ _ _ _ _)
   | (with_reducible exact ih7 _ _ _ _ _ _ _ _)
   | (with_reducible exact ih8 _ _ _ _ _ _)
   | (with_reducible exact impl_DeadRules.mono _ _)
   | (with_reducible exact impl_MatchesAt.mono _ _ _ _ _ _ _)
   | (with_reducible exact impl_PlainRules.mono _)
   | (with_reducible exact impl_ReadRule.mono _ _)
   | (with_reducible exact impl_RuleText.mono _ _ _ _ _)
   | (with_reducible exact impl_RulesFor.mono _ _ _)
   | (with_reducible exact impl_SameRules.mono _ _ _)
   | (with_reducible exact impl_SoundsOf.mono _ _ _)
   | (with_reducible exact impl_SpellText.mono _ _ _)
   | (with_reducible exact impl_SyllablesIn.mono _ _)
   | (with_reducible exact impl_ValidRule.mono _ _ _ _ _)
   | (with_reducible exact spec_B10Rules.mono _ _)
   | (with_reducible exact spec_B10Word.mono _ _)
   | (with_reducible exact LeO.refl _)
   | (with_reducible exact LeO.none _)
   | (with_reducible refine LeO.ite ?_ ?_)
   | (with_reducible refine LeO.bind ?_ (fun _ => ?_))
   | exact ih0 _ _ _ _ _
   | exact ih1 _ _ _ _ _ _
   | exact ih2 _ _ _ _ _ _ _ _
   | exact ih3 _ _ _ _ _ _ _ _ _ _
   | exact ih4 _ _ _ _ _ _ _ _ _ _
   | exact ih5 _ _ _ _ _ _ _ _ _ _ _
   | exact ih6 _ _ _ _ _ _
   | exact ih7 _ _ _ _ _ _ _ _
   | exact ih8 _ _ _ _ _ _
   | exact impl_DeadRules.mono _ _
   | exact impl_MatchesAt.mono _ _ _ _ _ _ _
   | exact impl_PlainRules.mono _
   | exact impl_ReadRule.mono _ _
   | exact impl_RuleText.mono _ _ _ _ _
   | exact impl_RulesFor.mono _ _ _
   | exact impl_SameRules.mono _ _ _
   | exact impl_SoundsOf.mono _ _ _
   | exact impl_SpellText.mono _ _ _
   | exact impl_SyllablesIn.mono _ _
   | exact impl_ValidRule.mono _ _ _ _ _
   | exact spec_B10Rules.mono _ _
   | exact spec_B10Word.mono _ _
   | exact LeO.none _
   | refine LeO.ite ?_ ?_
   | refine LeO.bind ?_ (fun _ => ?_)
  ·intro y0 y1 y2 y3 y4 y5 y6 y7
   unfold laws_FnRulesRead.l4
   repeat' first
   | (with_reducible exact ih0 _ _ _ _ _)
   | (with_reducible exact ih1 _ _ _ _ _ _)
   | (with_reducible exact ih2 _ _ _ _ _ _ _ _)
   | (with_reducible exact ih3 _ _ _ _ _ _ _ _ _ _)
   | (with_reducible exact ih4 _ _ _ _ _ _ _ _ _ _)
   | (with_reducible exact ih5 _ _ _ _ _ _ _ _ _ _ _)
   | (with_reducible exact ih6 _ _ _ _ _ _)
   | (with_reducible exact ih7 _ _ _ _ _ _ _ _)
   | (with_reducible exact ih8 _ _ _ _ _ _)
   | (with_reducible exact impl_DeadRules.mono _ _)
   | (with_reducible exact impl_MatchesAt.mono _ _ _ _ _ _ _)
   | (with_reducible exact impl_PlainRules.mono _)
   | (with_reducible exact impl_ReadRule.mono _ _)
   | (with_reducible exact impl_RuleText.mono _ _ _ _ _)
   | (with_reducible exact impl_RulesFor.mono _ _ _)
   | (with_reducible exact impl_SameRules.mono _ _ _)
   | (with_reducible exact impl_SoundsOf.mono _ _ _)
   | (with_reducible exact impl_SpellText.mono _ _ _)
   | (with_reducible exact impl_SyllablesIn.mono _ _)
   | (with_reducible exact impl_ValidRule.mono _ _ _ _ _)
   | (with_reducible exact spec_B10Rules.mono _ _)
   | (with_reducible exact spec_B10Word.mono _ _)
   | (with_reducible exact LeO.refl _)
   | (with_reducible exact LeO.none _)
   | (with_reducible refine LeO.ite ?_ ?_)
   | (with_reducible refine LeO.bind ?_ (fun _ => ?_))
   | exact ih0 _ _ _ _ _
   | exact ih1 _ _ _ _ _ _
   | exact ih2 _ _ _ _ _ _ _ _
   | exact ih3 _ _ _ _ _ _ _ _ _ _
   | exact ih4 _ _ _ _ _ _ _ _ _ _
   | exact ih5 _ _ _ _ _ _ _ _ _ _ _
   | exact ih6 _ _ _ _ _ _
   | exact ih7 _ _ _ _ _ _ _ _
   | exact ih8 _ _ _ _ _ _
   | exact impl_DeadRules.mono _ _
   | exact impl_MatchesAt.mono _ _ _ _ _ _ _
   | exact impl_PlainRules.mono _
   | exact impl_ReadRule.mono _ _
   | exact impl_RuleText.mono _ _ _ _ _
   | exact impl_RulesFor.mono _ _ _
   | exact impl_SameRules.mono _ _ _
   | exact impl_SoundsOf.mono _ _ _
   | exact impl_SpellText.mono _ _ _
   | exact impl_SyllablesIn.mono _ _
   | exact impl_ValidRule.mono _ _ _ _ _
   | exact spec_B10Rules.mono _ _
   | exact spec_B10Word.mono _ _
   | exact LeO.none _
   | refine LeO.ite ?_ ?_
   | refine LeO.bind ?_ (fun _ => ?_)
  ·intro y0 y1 y2 y3 y4 y5
   unfold laws_FnRulesRead.l5
   repeat' first
   | (with_reducible exact ih0 _ _ _ _ _)
   | (with_reducible exact ih1 _ _ _ _ _ _)
   | (with_reducible exact ih2 _ _ _ _ _ _ _ _)
   | (with_reducible exact ih3 _ _ _ _ _ _ _ _ _ _)
   | (with_reducible exact ih4 _ _ _ _ _ _ _ _ _ _)
   | (with_reducible exact ih5 _ _ _ _ _ _ _ _ _ _ _)
   | (with_reducible exact ih6 _ _ _ _ _ _)
   | (with_reducible exact ih7 _ _ _ _ _ _ _ _)
   | (with_reducible exact ih8 _ _ _ _ _ _)
   | (with_reducible exact impl_DeadRules.mono _ _)
   | (with_reducible exact impl_MatchesAt.mono _ _ _ _ _ _ _)
   | (with_reducible exact impl_PlainRules.mono _)
   | (with_reducible exact impl_ReadRule.mono _ _)
   | (with_reducible exact impl_RuleText.mono _ _ _ _ _)
   | (with_reducible exact impl_RulesFor.mono _ _ _)
   | (with_reducible exact impl_SameRules.mono _ _ _)
   | (with_reducible exact impl_SoundsOf.mono _ _ _)
   | (with_reducible exact impl_SpellText.mono _ _ _)
   | (with_reducible exact impl_SyllablesIn.mono _ _)
   | (with_reducible exact impl_ValidRule.mono _ _ _ _ _)
   | (with_reducible exact spec_B10Rules.mono _ _)
   | (with_reducible exact spec_B10Word.mono _ _)
   | (with_reducible exact LeO.refl _)
   | (with_reducible exact LeO.none _)
   | (with_reducible refine LeO.ite ?_ ?_)
   | (with_reducible refine LeO.bind ?_ (fun _ => ?_))
   | exact ih0 _ _ _ _ _
   | exact ih1 _ _ _ _ _ _
   | exact ih2 _ _ _ _ _ _ _ _
   | exact ih3 _ _ _ _ _ _ _ _ _ _
   | exact ih4 _ _ _ _ _ _ _ _ _ _
   | exact ih5 _ _ _ _ _ _ _ _ _ _ _
   | exact ih6 _ _ _ _ _ _
   | exact ih7 _ _ _ _ _ _ _ _
   | exact ih8 _ _ _ _ _ _
   | exact impl_DeadRules.mono _ _
   | exact impl_MatchesAt.mono _ _ _ _ _ _ _
   | exact impl_PlainRules.mono _
   | exact impl_ReadRule.mono _ _
   | exact impl_RuleText.mono _ _ _ _ _
   | exact impl_RulesFor.mono _ _ _
   | exact impl_SameRules.mono _ _ _
   | exact impl_SoundsOf.mono _ _ _
   | exact impl_SpellText.mono _ _ _
   | exact impl_SyllablesIn.mono _ _
   | exact impl_ValidRule.mono _ _ _ _ _
   | exact spec_B10Rules.mono _ _
   | exact spec_B10Word.mono _ _
   | exact LeO.none _
   | refine LeO.ite ?_ ?_
   | refine LeO.bind ?_ (fun _ => ?_)
theorem laws_FnRulesRead.mono : ∀ a0 a1 k, LeO (laws_FnRulesRead.f k a0 a1) (laws_FnRulesRead.f (k + 1) a0 a1) := by
 intro a0 a1 k
 obtain ⟨ih0, ih1, ih2, ih3, ih4, ih5, ih6, ih7, ih8⟩ := laws_FnRulesRead.mono_l k
 unfold laws_FnRulesRead.f
 repeat' first
   | (with_reducible exact ih0 _ _ _ _ _)
   | (with_reducible exact ih1 _ _ _ _ _ _)
   | (with_reducible exact ih2 _ _ _ _ _ _ _ _)
   | (with_reducible exact ih3 _ _ _ _ _ _ _ _ _ _)
   | (with_reducible exact ih4 _ _ _ _ _ _ _ _ _ _)
   | (with_reducible exact ih5 _ _ _ _ _ _ _ _ _ _ _)
   | (with_reducible exact ih6 _ _ _ _ _ _)
   | (with_reducible exact ih7 _ _ _ _ _ _ _ _)
   | (with_reducible exact ih8 _ _ _ _ _ _)
   | (with_reducible exact impl_DeadRules.mono _ _)
   | (with_reducible exact impl_MatchesAt.mono _ _ _ _ _ _ _)
   | (with_reducible exact impl_PlainRules.mono _)
   | (with_reducible exact impl_ReadRule.mono _ _)
   | (with_reducible exact impl_RuleText.mono _ _ _ _ _)
   | (with_reducible exact impl_RulesFor.mono _ _ _)
   | (with_reducible exact impl_SameRules.mono _ _ _)
   | (with_reducible exact impl_SoundsOf.mono _ _ _)
   | (with_reducible exact impl_SpellText.mono _ _ _)
   | (with_reducible exact impl_SyllablesIn.mono _ _)
   | (with_reducible exact impl_ValidRule.mono _ _ _ _ _)
   | (with_reducible exact spec_B10Rules.mono _ _)
   | (with_reducible exact spec_B10Word.mono _ _)
   | (with_reducible exact LeO.refl _)
   | (with_reducible exact LeO.none _)
   | (with_reducible refine LeO.ite ?_ ?_)
   | (with_reducible refine LeO.bind ?_ (fun _ => ?_))
   | exact ih0 _ _ _ _ _
   | exact ih1 _ _ _ _ _ _
   | exact ih2 _ _ _ _ _ _ _ _
   | exact ih3 _ _ _ _ _ _ _ _ _ _
   | exact ih4 _ _ _ _ _ _ _ _ _ _
   | exact ih5 _ _ _ _ _ _ _ _ _ _ _
   | exact ih6 _ _ _ _ _ _
   | exact ih7 _ _ _ _ _ _ _ _
   | exact ih8 _ _ _ _ _ _
   | exact impl_DeadRules.mono _ _
   | exact impl_MatchesAt.mono _ _ _ _ _ _ _
   | exact impl_PlainRules.mono _
   | exact impl_ReadRule.mono _ _
   | exact impl_RuleText.mono _ _ _ _ _
   | exact impl_RulesFor.mono _ _ _
   | exact impl_SameRules.mono _ _ _
   | exact impl_SoundsOf.mono _ _ _
   | exact impl_SpellText.mono _ _ _
   | exact impl_SyllablesIn.mono _ _
   | exact impl_ValidRule.mono _ _ _ _ _
   | exact spec_B10Rules.mono _ _
   | exact spec_B10Word.mono _ _
   | exact LeO.none _
   | refine LeO.ite ?_ ?_
   | refine LeO.bind ?_ (fun _ => ?_)
set_option maxHeartbeats 8000000 in
set_option maxRecDepth 100000 in
theorem laws_FnRulesRead.calls (k : Nat) (A0 : Option Addr) (c0 : Nat) (l0 : List Int) (A1 : Option Addr) (c1 : Nat) (l1 : List Int) (r : Bool) (w : World) (hr0 : Kd.C (Kd.int .u8) w A0 l0.length l0) (hc0 : l0.length ≤ c0) (hr1 : Kd.C (Kd.int .u8) w A1 l1.length l1) (hc1 : l1.length ≤ c1) (h : laws_FnRulesRead.f k l0 l1 = some r) (hr_ : r = true) :
  Calls Tryd.prog 3 #[.slice A0 l0.length c0, .slice A1 l1.length c1] w fun e w' => e = .returned (.bool r) ∧ Below w.heap.size w w' := by
 have HRT_ := Aside0.mk hr_
 clear hr_
 have hu30 := Tryd.underlying30
 have hu2 := Tryd.underlying2
 have hu9 := Tryd.underlying9
 have HR0 := Aside0.mk hr0
 have HC0 := Aside0.mk hc0
 clear hr0 hc0
 have HR1 := Aside0.mk hr1
 have HC1 := Aside0.mk hc1
 clear hr1 hc1
 have HB := Aside0.mk (Below.refl w.heap.size w)
 have H : ((laws_b10Long.f l0 l1).bind fun t412 => (if t412 = true then (some true) else ((spec_B10Rules.f k l0).bind fun t413 => ((spec_B10Word.f k l1).bind fun t416 => (laws_FnRulesRead.l0 k t413 t416 (([] : List (S30))) (t413.length : Int) 0))))) = some r := h
 clear h
 replace H := Option.bind_eq_some_iff.mp H
 obtain ⟨t412, A30, H⟩ := H
 replace H : (if t412 = true then (some true) else ((spec_B10Rules.f k l0).bind fun t413 => ((spec_B10Word.f k l1).bind fun t416 => (laws_FnRulesRead.l0 k t413 t416 (([] : List (S30))) (t413.length : Int) 0)))) = some r := H
 have A3 := Aside0.mk A30
 clear A30
 by_cases c4 : t412 = true
 ·subst c4
  have H1 : (some true) = some r := by rw [if_pos rfl] at H; exact H
  clear H
  have H := H1
  clear H1
  obtain rfl := Option.some.inj H
  go_enter Tryd.func3, Tryd.ntmps3
  go_wp2_with (first | (go_at_call 4; (with_reducible refine (laws_b10Long.calls _ _ l0 _ _ l1 true _ ?side1 ?side2 ?side3 ?side4 A3.out).mono ?_); (case side1 => repeat (first | exact HR0.out | (with_reducible refine Kd.C_alloc ?_ _) | (with_reducible refine Kd.C_drewN ?_ _) | (with_reducible refine Kd.C_drew ?_))); (case side2 => exact HC0.out); (case side3 => repeat (first | exact HR1.out | (with_reducible refine Kd.C_alloc ?_ _) | (with_reducible refine Kd.C_drewN ?_ _) | (with_reducible refine Kd.C_drew ?_))); (case side4 => exact HC1.out); rintro e w' ⟨rfl, ⟨nd, rfl⟩⟩; (try first | exact ⟨rfl, _, World.drewN_drewN _ _ _⟩ | exact ⟨rfl, _, Eq.trans (World.drewN_drewN _ _ _) (congrArg (World.drewN _) (Nat.add_assoc _ _ _))⟩)))
  repeat (go_quiet (first | (go_at_call 4; (with_reducible refine (laws_b10Long.calls _ _ l0 _ _ l1 true _ ?side1 ?side2 ?side3 ?side4 A3.out).mono ?_); (case side1 => repeat (first | exact HR0.out | (with_reducible refine Kd.C_alloc ?_ _) | (with_reducible refine Kd.C_drewN ?_ _) | (with_reducible refine Kd.C_drew ?_))); (case side2 => exact HC0.out); (case side3 => repeat (first | exact HR1.out | (with_reducible refine Kd.C_alloc ?_ _) | (with_reducible refine Kd.C_drewN ?_ _) | (with_reducible refine Kd.C_drew ?_))); (case side4 => exact HC1.out); rintro e w' ⟨rfl, ⟨nd, rfl⟩⟩; (try first | exact ⟨rfl, _, World.drewN_drewN _ _ _⟩ | exact ⟨rfl, _, Eq.trans (World.drewN_drewN _ _ _) (congrArg (World.drewN _) (Nat.add_assoc _ _ _))⟩))); try go_wp2_with (first | (go_at_call 4; (with_reducible refine (laws_b10Long.calls _ _ l0 _ _ l1 true _ ?side1 ?side2 ?side3 ?side4 A3.out).mono ?_); (case side1 => repeat (first | exact HR0.out | (with_reducible refine Kd.C_alloc ?_ _) | (with_reducible refine Kd.C_drewN ?_ _) | (with_reducible refine Kd.C_drew ?_))); (case side2 => exact HC0.out); (case side3 => repeat (first | exact HR1.out | (with_reducible refine Kd.C_alloc ?_ _) | (with_reducible refine Kd.C_drewN ?_ _) | (with_reducible refine Kd.C_drew ?_))); (case side4 => exact HC1.out); rintro e w' ⟨rfl, ⟨nd, rfl⟩⟩; (try first | exact ⟨rfl, _, World.drewN_drewN _ _ _⟩ | exact ⟨rfl, _, Eq.trans (World.drewN_drewN _ _ _) (congrArg (World.drewN _) (Nat.add_assoc _ _ _))⟩))))
  go_ret
  exact ⟨by first | rfl | (simp [errW_none, errW_some] <;> rfl) | (simp [*, errW_none, errW_some] <;> rfl), by repeat (first | (with_reducible first | exact HB.out | apply below_alloc | apply pw_below_drewN | apply below_drew1) | exact HB.out)⟩
 ·replace c4 := Bool.eq_false_iff.mpr c4
  subst c4
  have H1 : ((spec_B10Rules.f k l0).bind fun t413 => ((spec_B10Word.f k l1).bind fun t416 => (laws_FnRulesRead.l0 k t413 t416 (([] : List (S30))) (t413.length : Int) 0))) = some r := by rw [if_neg (show ¬ (false = true) by decide)] at H; exact H
  clear H
  have H := H1
  clear H1
  replace H := Option.bind_eq_some_iff.mp H
  obtain ⟨t413, A50, H⟩ := H
  replace H : ((spec_B10Word.f k l1).bind fun t416 => (laws_FnRulesRead.l0 k t413 t416 (([] : List (S30))) (t413.length : Int) 0)) = some r := H
  have A5 := Aside0.mk A50
  clear A50
  replace H := Option.bind_eq_some_iff.mp H
  obtain ⟨t416, A60, H⟩ := H
  replace H : (laws_FnRulesRead.l0 k t413 t416 (([] : List (S30))) (t413.length : Int) 0) = some r := H
  have A6 := Aside0.mk A60
  clear A60
  obtain ⟨y417, hy417⟩ : ∃ y_ : List (S30), y_ = (([] : List (S30))) := ⟨_, rfl⟩
  replace H : (laws_FnRulesRead.l0 k t413 t416 y417 (t413.length : Int) 0) = some r := by first | (rw [hy417]; with_reducible exact H) | (have H2_ := (Option.bind_some _ _).symm.trans H; rw [hy417]; with_reducible exact H2_) | (have H2_ := (Option.bind_some _ _).symm.trans H; with_reducible exact H2_) | with_reducible exact H | (rw [hy417]; exact H) | exact H
  have Ny417 := Aside0.mk hy417
  clear hy417
  have H' := Aside0.mk H
  clear H
  go_enter Tryd.func3, Tryd.ntmps3
  go_wp2_with (first | (go_at_call 4; (with_reducible refine (laws_b10Long.calls _ _ l0 _ _ l1 false _ ?side1 ?side2 ?side3 ?side4 A3.out).mono ?_); (case side1 => repeat (first | exact HR0.out | (with_reducible refine Kd.C_alloc ?_ _) | (with_reducible refine Kd.C_drewN ?_ _) | (with_reducible refine Kd.C_drew ?_))); (case side2 => exact HC0.out); (case side3 => repeat (first | exact HR1.out | (with_reducible refine Kd.C_alloc ?_ _) | (with_reducible refine Kd.C_drewN ?_ _) | (with_reducible refine Kd.C_drew ?_))); (case side4 => exact HC1.out); rintro e w' ⟨rfl, ⟨nd, rfl⟩⟩; (try first | exact ⟨rfl, _, World.drewN_drewN _ _ _⟩ | exact ⟨rfl, _, Eq.trans (World.drewN_drewN _ _ _) (congrArg (World.drewN _) (Nat.add_assoc _ _ _))⟩)) | (go_at_call 5; (with_reducible refine (spec_B10Rules.calls k _ _ l0 t413 _ ?side1 ?side2 A5.out).mono ?_); (case side1 => repeat (first | exact HR0.out | (with_reducible refine Kd.C_alloc ?_ _) | (with_reducible refine Kd.C_drewN ?_ _) | (with_reducible refine Kd.C_drew ?_))); (case side2 => exact HC0.out); rintro e w7 ⟨v414, rfl, ho0, hb⟩; have n0_ := Aside0.mk (Kd.R_lower ho0 (below_size (by repeat (first | (with_reducible first | exact HB.out | apply below_alloc | apply pw_below_drewN | apply below_drew1) | exact HB.out)))); have n1_ := Aside0.mk (below_step (by repeat (first | (with_reducible first | exact HB.out | apply below_alloc | apply pw_below_drewN | apply below_drew1) | exact HB.out)) hb); clear HB; have HO415 := n0_; have HB := n1_; clear n0_ n1_; (try clear hb); (try clear hb2); (try clear hk); (try clear hi); (try clear ho0)) | (go_at_call 6; (with_reducible refine (spec_B10Word.calls k _ _ l1 t416 _ ?side1 ?side2 A6.out).mono ?_); (case side1 => repeat (first | exact (Kd.C_below HR1.out HB.out) | (with_reducible refine Kd.C_alloc ?_ _) | (with_reducible refine Kd.C_drewN ?_ _) | (with_reducible refine Kd.C_drew ?_))); (case side2 => exact HC1.out); rintro e w8 ⟨rfl, hb⟩; have n0_ := Aside0.mk (Kd.R_below (by (with_reducible repeat (first | apply Kd.R_alloc | apply Kd.R_drewN | apply Kd.R_drew)); exact HO415.out) hb); have n1_ := Aside0.mk (below_step (by repeat (first | (with_reducible first | exact HB.out | apply below_alloc | apply pw_below_drewN | apply below_drew1) | exact HB.out)) hb); clear HO415; clear HB; have HO415 := n0_; have HB := n1_; clear n0_ n1_; (try clear hb); (try clear hb2); (try clear hk); (try clear hi)) | ((with_reducible refine gate_dst (N := 40) rfl ?_); (try (refine gate_guard (by rfl) ?_; dsimp only)); refine Kd.R_lit k30 _ 30 ?hg (N := 40) ?hd (xs := ([] : List (S30))) (inner := []) (ok := fun _ => True) (okp := fun _ => True) ?hr ?hp (fun _ hk => hk) trivial (Below.refl _ _) (Nat.le_refl _) (by simp) ?_; (case hd => rfl); (case hg => rfl); (case hr => first | (go_simp; done) | (go_simp; rfl) | (simp (disch := omega) only [w64_id]; go_simp; done) | (go_simp; simp (disch := omega) only [w64_id]; done)); (case hp => exact (Reps.none _ _)); intro v418 w9 ho10 hb hg_ hnew_; clear hg_ hnew_; (first | rw [← Ny417.out] at ho10 | (simp only [Int.reduceToNat] at ho10; rw [← Ny417.out] at ho10)); have n0_ := Aside0.mk (Kd.R_elder' (by (with_reducible repeat (first | apply Kd.R_alloc | apply Kd.R_drewN | apply Kd.R_drew)); exact HO415.out) (Kd.R_base ho10) hb); have n1_ := Aside0.mk (Kd.R_lower (Kd.R_new' ho10 (Kd.R_lt (by (with_reducible repeat (first | apply Kd.R_alloc | apply Kd.R_drewN | apply Kd.R_drew)); exact HO415.out))) (below_size (by repeat (first | (with_reducible first | exact HB.out | apply below_alloc | apply pw_below_drewN | apply below_drew1) | exact HB.out)))); have n2_ := Aside0.mk (below_step (by repeat (first | (with_reducible first | exact HB.out | apply below_alloc | apply pw_below_drewN | apply below_drew1) | exact HB.out)) hb); clear HO415; clear HB; have HO415 := n0_; have HO419 := n1_; have HB := n2_; clear n0_ n1_ n2_; clear hb ho10; obtain ⟨Ao11, co11, eo11⟩ := Kd.R_slice HO415.out; subst eo11))
  repeat (go_quiet (first | (go_at_call 4; (with_reducible refine (laws_b10Long.calls _ _ l0 _ _ l1 false _ ?side1 ?side2 ?side3 ?side4 A3.out).mono ?_); (case side1 => repeat (first | exact HR0.out | (with_reducible refine Kd.C_alloc ?_ _) | (with_reducible refine Kd.C_drewN ?_ _) | (with_reducible refine Kd.C_drew ?_))); (case side2 => exact HC0.out); (case side3 => repeat (first | exact HR1.out | (with_reducible refine Kd.C_alloc ?_ _) | (with_reducible refine Kd.C_drewN ?_ _) | (with_reducible refine Kd.C_drew ?_))); (case side4 => exact HC1.out); rintro e w' ⟨rfl, ⟨nd, rfl⟩⟩; (try first | exact ⟨rfl, _, World.drewN_drewN _ _ _⟩ | exact ⟨rfl, _, Eq.trans (World.drewN_drewN _ _ _) (congrArg (World.drewN _) (Nat.add_assoc _ _ _))⟩)) | (go_at_call 5; (with_reducible refine (spec_B10Rules.calls k _ _ l0 t413 _ ?side1 ?side2 A5.out).mono ?_); (case side1 => repeat (first | exact HR0.out | (with_reducible refine Kd.C_alloc ?_ _) | (with_reducible refine Kd.C_drewN ?_ _) | (with_reducible refine Kd.C_drew ?_))); (case side2 => exact HC0.out); rintro e w7 ⟨v414, rfl, ho0, hb⟩; have n0_ := Aside0.mk (Kd.R_lower ho0 (below_size (by repeat (first | (with_reducible first | exact HB.out | apply below_alloc | apply pw_below_drewN | apply below_drew1) | exact HB.out)))); have n1_ := Aside0.mk (below_step (by repeat (first | (with_reducible first | exact HB.out | apply below_alloc | apply pw_below_drewN | apply below_drew1) | exact HB.out)) hb); clear HB; have HO415 := n0_; have HB := n1_; clear n0_ n1_; (try clear hb); (try clear hb2); (try clear hk); (try clear hi); (try clear ho0)) | (go_at_call 6; (with_reducible refine (spec_B10Word.calls k _ _ l1 t416 _ ?side1 ?side2 A6.out).mono ?_); (case side1 => repeat (first | exact (Kd.C_below HR1.out HB.out) | (with_reducible refine Kd.C_alloc ?_ _) | (with_reducible refine Kd.C_drewN ?_ _) | (with_reducible refine Kd.C_drew ?_))); (case side2 => exact HC1.out); rintro e w8 ⟨rfl, hb⟩; have n0_ := Aside0.mk (Kd.R_below (by (with_reducible repeat (first | apply Kd.R_alloc | apply Kd.R_drewN | apply Kd.R_drew)); exact HO415.out) hb); have n1_ := Aside0.mk (below_step (by repeat (first | (with_reducible first | exact HB.out | apply below_alloc | apply pw_below_drewN | apply below_drew1) | exact HB.out)) hb); clear HO415; clear HB; have HO415 := n0_; have HB := n1_; clear n0_ n1_; (try clear hb); (try clear hb2); (try clear hk); (try clear hi)) | ((with_reducible refine gate_dst (N := 40) rfl ?_); (try (refine gate_guard (by rfl) ?_; dsimp only)); refine Kd.R_lit k30 _ 30 ?hg (N := 40) ?hd (xs := ([] : List (S30))) (inner := []) (ok := fun _ => True) (okp := fun _ => True) ?hr ?hp (fun _ hk => hk) trivial (Below.refl _ _) (Nat.le_refl _) (by simp) ?_; (case hd => rfl); (case hg => rfl); (case hr => first | (go_simp; done) | (go_simp; rfl) | (simp (disch := omega) only [w64_id]; go_simp; done) | (go_simp; simp (disch := omega) only [w64_id]; done)); (case hp => exact (Reps.none _ _)); intro v418 w9 ho10 hb hg_ hnew_; clear hg_ hnew_; (first | rw [← Ny417.out] at ho10 | (simp only [Int.reduceToNat] at ho10; rw [← Ny417.out] at ho10)); have n0_ := Aside0.mk (Kd.R_elder' (by (with_reducible repeat (first | apply Kd.R_alloc | apply Kd.R_drewN | apply Kd.R_drew)); exact HO415.out) (Kd.R_base ho10) hb); have n1_ := Aside0.mk (Kd.R_lower (Kd.R_new' ho10 (Kd.R_lt (by (with_reducible repeat (first | apply Kd.R_alloc | apply Kd.R_drewN | apply Kd.R_drew)); exact HO415.out))) (below_size (by repeat (first | (with_reducible first | exact HB.out | apply below_alloc | apply pw_below_drewN | apply below_drew1) | exact HB.out)))); have n2_ := Aside0.mk (below_step (by repeat (first | (with_reducible first | exact HB.out | apply below_alloc | apply pw_below_drewN | apply below_drew1) | exact HB.out)) hb); clear HO415; clear HB; have HO415 := n0_; have HO419 := n1_; have HB := n2_; clear n0_ n1_ n2_; clear hb ho10; obtain ⟨Ao11, co11, eo11⟩ := Kd.R_slice HO415.out; subst eo11)); try go_wp2_with (first | (go_at_call 4; (with_reducible refine (laws_b10Long.calls _ _ l0 _ _ l1 false _ ?side1 ?side2 ?side3 ?side4 A3.out).mono ?_); (case side1 => repeat (first | exact HR0.out | (with_reducible refine Kd.C_alloc ?_ _) | (with_reducible refine Kd.C_drewN ?_ _) | (with_reducible refine Kd.C_drew ?_))); (case side2 => exact HC0.out); (case side3 => repeat (first | exact HR1.out | (with_reducible refine Kd.C_alloc ?_ _) | (with_reducible refine Kd.C_drewN ?_ _) | (with_reducible refine Kd.C_drew ?_))); (case side4 => exact HC1.out); rintro e w' ⟨rfl, ⟨nd, rfl⟩⟩; (try first | exact ⟨rfl, _, World.drewN_drewN _ _ _⟩ | exact ⟨rfl, _, Eq.trans (World.drewN_drewN _ _ _) (congrArg (World.drewN _) (Nat.add_assoc _ _ _))⟩)) | (go_at_call 5; (with_reducible refine (spec_B10Rules.calls k _ _ l0 t413 _ ?side1 ?side2 A5.out).mono ?_); (case side1 => repeat (first | exact HR0.out | (with_reducible refine Kd.C_alloc ?_ _) | (with_reducible refine Kd.C_drewN ?_ _) | (with_reducible refine Kd.C_drew ?_))); (case side2 => exact HC0.out); rintro e w7 ⟨v414, rfl, ho0, hb⟩; have n0_ := Aside0.mk (Kd.R_lower ho0 (below_size (by repeat (first | (with_reducible first | exact HB.out | apply below_alloc | apply pw_below_drewN | apply below_drew1) | exact HB.out)))); have n1_ := Aside0.mk (below_step (by repeat (first | (with_reducible first | exact HB.out | apply below_alloc | apply pw_below_drewN | apply below_drew1) | exact HB.out)) hb); clear HB; have HO415 := n0_; have HB := n1_; clear n0_ n1_; (try clear hb); (try clear hb2); (try clear hk); (try clear hi); (try clear ho0)) | (go_at_call 6; (with_reducible refine (spec_B10Word.calls k _ _ l1 t416 _ ?side1 ?side2 A6.out).mono ?_); (case side1 => repeat (first | exact (Kd.C_below HR1.out HB.out) | (with_reducible refine Kd.C_alloc ?_ _) | (with_reducible refine Kd.C_drewN ?_ _) | (with_reducible refine Kd.C_drew ?_))); (case side2 => exact HC1.out); rintro e w8 ⟨rfl, hb⟩; have n0_ := Aside0.mk (Kd.R_below (by (with_reducible repeat (first | apply Kd.R_alloc | apply Kd.R_drewN | apply Kd.R_drew)); exact HO415.out) hb); have n1_ := Aside0.mk (below_step (by repeat (first | (with_reducible first | exact HB.out | apply below_alloc | apply pw_below_drewN | apply below_drew1) | exact HB.out)) hb); clear HO415; clear HB; have HO415 := n0_; have HB := n1_; clear n0_ n1_; (try clear hb); (try clear hb2); (try clear hk); (try clear hi)) | ((with_reducible refine gate_dst (N := 40) rfl ?_); (try (refine gate_guard (by rfl) ?_; dsimp only)); refine Kd.R_lit k30 _ 30 ?hg (N := 40) ?hd (xs := ([] : List (S30))) (inner := []) (ok := fun _ => True) (okp := fun _ => True) ?hr ?hp (fun _ hk => hk) trivial (Below.refl _ _) (Nat.le_refl _) (by simp) ?_; (case hd => rfl); (case hg => rfl); (case hr => first | (go_simp; done) | (go_simp; rfl) | (simp (disch := omega) only [w64_id]; go_simp; done) | (go_simp; simp (disch := omega) only [w64_id]; done)); (case hp => exact (Reps.none _ _)); intro v418 w9 ho10 hb hg_ hnew_; clear hg_ hnew_; (first | rw [← Ny417.out] at ho10 | (simp only [Int.reduceToNat] at ho10; rw [← Ny417.out] at ho10)); have n0_ := Aside0.mk (Kd.R_elder' (by (with_reducible repeat (first | apply Kd.R_alloc | apply Kd.R_drewN | apply Kd.R_drew)); exact HO415.out) (Kd.R_base ho10) hb); have n1_ := Aside0.mk (Kd.R_lower (Kd.R_new' ho10 (Kd.R_lt (by (with_reducible repeat (first | apply Kd.R_alloc | apply Kd.R_drewN | apply Kd.R_drew)); exact HO415.out))) (below_size (by repeat (first | (with_reducible first | exact HB.out | apply below_alloc | apply pw_below_drewN | apply below_drew1) | exact HB.out)))); have n2_ := Aside0.mk (below_step (by repeat (first | (with_reducible first | exact HB.out | apply below_alloc | apply pw_below_drewN | apply below_drew1) | exact HB.out)) hb); clear HO415; clear HB; have HO415 := n0_; have HO419 := n1_; have HB := n2_; clear n0_ n1_ n2_; clear hb ho10; obtain ⟨Ao11, co11, eo11⟩ := Kd.R_slice HO415.out; subst eo11)))
  go_loopg [7, 43] k (fun kq v7 v43 w' => ∃ (x7_1 : List (S30)) (x43_1 : Int), v43 = .int .i64 x43_1 ∧ Aside0 (laws_FnRulesRead.l0 kq t413 t416 x7_1 (t413.length : Int) x43_1 = some r) ∧ Aside0 (kq ≤ k) ∧ Aside0 (Kd.R k30 30 w' w.heap.size (fun k_ => some k_ ≠ (v7 : Value).ownBlock) (.slice Ao11 t413.length co11) t413) ∧ Aside0 (Kd.R k30 30 w' w.heap.size (fun k_ => some k_ ≠ ((.slice Ao11 t413.length co11) : Value).ownBlock) v7 x7_1) ∧ Aside0 (Below w.heap.size w w'))
  case atStart => exact ⟨(y417), (0), (by first | rfl | (simp; done) | (simp [*]; done)), H', ⟨Nat.le_refl _⟩, ⟨by (with_reducible repeat (first | apply Kd.R_alloc | apply Kd.R_drewN | apply Kd.R_drew)); exact Kd.R_mono HO415.out (fun _ hk => hk.2)⟩, ⟨by (with_reducible repeat (first | apply Kd.R_alloc | apply Kd.R_drewN | apply Kd.R_drew)); exact Kd.R_mono HO419.out (fun _ hk => hk.2)⟩, ⟨by repeat (first | (with_reducible first | exact HB.out | apply below_alloc | apply pw_below_drewN | apply below_drew1) | exact HB.out)⟩⟩
  case round =>
   as_aux_lemma =>
   clear H'
   (try clear c1);(try clear p2);(try clear c3);(try clear c4)
   obtain ⟨x7_1, x43_1, rfl, HA, HK1, HO_5, HO_7, HB⟩ := hrel
   cases gk with
   | zero => exact absurd HA.out (by simp [laws_FnRulesRead.l0])
   | succ k1 =>
    have H := HA.out
    clear HA
    simp only [laws_FnRulesRead.l0] at H
    by_cases c12 : x43_1 < (t413.length : Int)
    ·rw [if_pos c12] at H
     have c12b0 : decide (x43_1 < (t413.length : Int)) = true := decide_eq_true c12
     clear c12
     by_cases c13 : 0 ≤ x43_1
     ·rw [if_pos c13] at H
      have c13b0 : decide (0 ≤ x43_1) = true := decide_eq_true c13
      clear c13
      by_cases c14 : x43_1 < (t413.length : Int)
      ·rw [if_pos c14] at H
       have c14b0 : decide (x43_1 < (t413.length : Int)) = true := decide_eq_true c14
       clear c14
       replace H := Option.bind_eq_some_iff.mp H
       obtain ⟨⟨t421, t422⟩, A150, H⟩ := H
       replace H : ((impl_ReadRule.f k1 t421).bind fun bt423 => (if t422 = true then (if bt423.2.2.2.2 = true then ((impl_ValidRule.f k1 bt423.1 bt423.2.1 bt423.2.2.1 bt423.2.2.2.1).bind fun t429 => (if t429 = true then (if x7_1.length < 2199023255552 then (laws_FnRulesRead.l0 k1 t413 t416 (x7_1 ++ [(⟨bt423.1, bt423.2.1, bt423.2.2.1, bt423.2.2.2.1⟩ : S30)]) (t413.length : Int) (wrap64 (x43_1 + 1))) else (none)) else (some false))) else (some false)) else (some false))) = some r := H
       have A15 := Aside0.mk A150
       clear A150
       replace H := Option.bind_eq_some_iff.mp H
       obtain ⟨⟨t423, t424, t425, t426, t427⟩, A160, H⟩ := H
       replace H : (if t422 = true then (if t427 = true then ((impl_ValidRule.f k1 t423 t424 t425 t426).bind fun t429 => (if t429 = true then (if x7_1.length < 2199023255552 then (laws_FnRulesRead.l0 k1 t413 t416 (x7_1 ++ [(⟨t423, t424, t425, t426⟩ : S30)]) (t413.length : Int) (wrap64 (x43_1 + 1))) else (none)) else (some false))) else (some false)) else (some false)) = some r := H
       have A16 := Aside0.mk A160
       clear A160
       by_cases c17 : t422 = true
       ·subst c17
        have H1 : (if t427 = true then ((impl_ValidRule.f k1 t423 t424 t425 t426).bind fun t429 => (if t429 = true then (if x7_1.length < 2199023255552 then (laws_FnRulesRead.l0 k1 t413 t416 (x7_1 ++ [(⟨t423, t424, t425, t426⟩ : S30)]) (t413.length : Int) (wrap64 (x43_1 + 1))) else (none)) else (some false))) else (some false)) = some r := by rw [if_pos rfl] at H; exact H
        clear H
        have H := H1
        clear H1
        by_cases c18 : t427 = true
        ·subst c18
         have H1 : ((impl_ValidRule.f k1 t423 t424 t425 t426).bind fun t429 => (if t429 = true then (if x7_1.length < 2199023255552 then (laws_FnRulesRead.l0 k1 t413 t416 (x7_1 ++ [(⟨t423, t424, t425, t426⟩ : S30)]) (t413.length : Int) (wrap64 (x43_1 + 1))) else (none)) else (some false))) = some r := by rw [if_pos rfl] at H; exact H
         clear H
         have H := H1
         clear H1
         replace H := Option.bind_eq_some_iff.mp H
         obtain ⟨t429, A190, H⟩ := H
         replace H : (if t429 = true then (if x7_1.length < 2199023255552 then (laws_FnRulesRead.l0 k1 t413 t416 (x7_1 ++ [(⟨t423, t424, t425, t426⟩ : S30)]) (t413.length : Int) (wrap64 (x43_1 + 1))) else (none)) else (some false)) = some r := H
         have A19 := Aside0.mk A190
         clear A190
         by_cases c20 : t429 = true
         ·subst c20
          have H1 : (if x7_1.length < 2199023255552 then (laws_FnRulesRead.l0 k1 t413 t416 (x7_1 ++ [(⟨t423, t424, t425, t426⟩ : S30)]) (t413.length : Int) (wrap64 (x43_1 + 1))) else (none)) = some r := by rw [if_pos rfl] at H; exact H
          clear H
          have H := H1
          clear H1
          by_cases c21 : x7_1.length < 2199023255552
          ·rw [if_pos c21] at H
           have LMc21 := Aside0.mk c21
           clear c21
           obtain ⟨y430, hy430⟩ : ∃ y_ : List (S30), y_ = (x7_1 ++ [(⟨t423, t424, t425, t426⟩ : S30)]) := ⟨_, rfl⟩
           replace H : (laws_FnRulesRead.l0 k1 t413 t416 y430 (t413.length : Int) (wrap64 (x43_1 + 1))) = some r := by first | (rw [hy430]; with_reducible exact H) | (have H2_ := (Option.bind_some _ _).symm.trans H; rw [hy430]; with_reducible exact H2_) | (have H2_ := (Option.bind_some _ _).symm.trans H; with_reducible exact H2_) | with_reducible exact H | (rw [hy430]; exact H) | exact H
           have Ny430 := Aside0.mk hy430
           clear hy430
           have H' := Aside0.mk H
           clear H
           have p420 : 0 ≤ (x43_1 : Int) := of_decide_eq_true (by first | (with_reducible assumption) | assumption)
           have q420 : x43_1 < (t413.length : Int) := of_decide_eq_true (by first | (with_reducible assumption) | assumption)
           obtain ⟨ad420, e420, hx420_0, hx420_1, hx420_2, hx420_3⟩ := at_T30 (Kd.R_reads' HO_5.out).2.2 x43_1 p420 q420
           cases e420
           replace p420 := eq_true p420
           replace q420 := eq_true q420
           go_wp2_with (first | (go_at_call 7; (with_reducible refine (impl_RuleText.calls k1 ((rd_T30 t413 x43_1).f0) ((rd_T30 t413 x43_1).f1) ((rd_T30 t413 x43_1).f2) ((rd_T30 t413 x43_1).f3) t421 true _ A15.out).mono ?_); rintro e w22 ⟨rfl, hb⟩; have n0_ := Aside0.mk (Kd.R_below (by (with_reducible repeat (first | apply Kd.R_alloc | apply Kd.R_drewN | apply Kd.R_drew)); exact HO_5.out) hb); have n1_ := Aside0.mk (Kd.R_below (by (with_reducible repeat (first | apply Kd.R_alloc | apply Kd.R_drewN | apply Kd.R_drew)); exact HO_7.out) hb); have n2_ := Aside0.mk (below_step (by repeat (first | (with_reducible first | exact HB.out | apply below_alloc | apply pw_below_drewN | apply below_drew1) | exact HB.out)) hb); clear HO_5; clear HO_7; clear HB; have HO_5 := n0_; have HO_7 := n1_; have HB := n2_; clear n0_ n1_ n2_; (try clear hb); (try clear hb2); (try clear hk); (try clear hi)) | (go_at_call 8; (with_reducible refine (impl_ReadRule.calls k1 t421 t423 t424 t425 t426 true _ A16.out).mono ?_); rintro e w23 ⟨rfl, hb⟩; have n0_ := Aside0.mk (Kd.R_below (by (with_reducible repeat (first | apply Kd.R_alloc | apply Kd.R_drewN | apply Kd.R_drew)); exact HO_5.out) hb); have n1_ := Aside0.mk (Kd.R_below (by (with_reducible repeat (first | apply Kd.R_alloc | apply Kd.R_drewN | apply Kd.R_drew)); exact HO_7.out) hb); have n2_ := Aside0.mk (below_step (by repeat (first | (with_reducible first | exact HB.out | apply below_alloc | apply pw_below_drewN | apply below_drew1) | exact HB.out)) hb); clear HO_5; clear HO_7; clear HB; have HO_5 := n0_; have HO_7 := n1_; have HB := n2_; clear n0_ n1_ n2_; (try clear hb); (try clear hb2); (try clear hk); (try clear hi)) | ((with_reducible refine gate_dst (N := 11) rfl ?_); (try (refine gate_guard (by rfl) ?_; dsimp only)); refine box_event ?hg (N := 11) ?hd (cs := #[.string (⟨#[]⟩ : ByteArray), .string (⟨#[]⟩ : ByteArray), .string (⟨#[]⟩ : ByteArray), .string (⟨#[]⟩ : ByteArray)]) (t := 30) ?hr ?_; (case hd => rfl); (case hg => rfl); (case hr => first | (go_simp; done) | (go_simp; rfl) | (simp (disch := omega) only [w64_id]; go_simp; done) | (go_simp; simp (disch := omega) only [w64_id]; done)); intro gb428 hg w24 hbox hb; have n0_ := Aside0.mk (Kd.R_below (Kd.R_elderB (by (with_reducible repeat (first | apply Kd.R_alloc | apply Kd.R_drewN | apply Kd.R_drew)); exact HO_5.out) gb428 (Nat.le_of_eq hg.symm)) hb); have n1_ := Aside0.mk (Kd.R_below (Kd.R_elderB (by (with_reducible repeat (first | apply Kd.R_alloc | apply Kd.R_drewN | apply Kd.R_drew)); exact HO_7.out) gb428 (Nat.le_of_eq hg.symm)) hb); have n2_ := Aside0.mk (below_step (by repeat (first | (with_reducible first | exact HB.out | apply below_alloc | apply pw_below_drewN | apply below_drew1) | exact HB.out)) hb); have n3_ := Aside0.mk (hbox); have n4_ := Aside0.mk ((by rw [hg]; exact (below_size (by repeat (first | (with_reducible first | exact HB.out | apply below_alloc | apply pw_below_drewN | apply below_drew1) | exact HB.out))) : w.heap.size ≤ gb428)); have n5_ := Aside0.mk ((by rw [hg]; exact (below_size (by repeat (first | (with_reducible first | exact HB.out | apply below_alloc | apply pw_below_drewN | apply below_drew1) | exact HB.out))) : w.heap.size ≤ gb428)); clear HO_5; clear HO_7; clear HB; have HO_5 := n0_; have HO_7 := n1_; have HB := n2_; have BK428 := n3_; have GW428 := n4_; have GE428 := n5_; clear n0_ n1_ n2_ n3_ n4_ n5_; clear hb hbox hg; have hcz25_0 : w24.cell? ⟨gb428, 0, none⟩ = some (.string (⟨#[]⟩ : ByteArray)) := (blk_cell BK428.out 0).trans rfl; have hcz25_1 : w24.cell? ⟨gb428, 1, none⟩ = some (.string (⟨#[]⟩ : ByteArray)) := (blk_cell BK428.out 1).trans rfl; have hcz25_2 : w24.cell? ⟨gb428, 2, none⟩ = some (.string (⟨#[]⟩ : ByteArray)) := (blk_cell BK428.out 2).trans rfl; have hcz25_3 : w24.cell? ⟨gb428, 3, none⟩ = some (.string (⟨#[]⟩ : ByteArray)) := (blk_cell BK428.out 3).trans rfl; have hfz25_0 := blk_frozen BK428.out 0; have hfz25_1 := blk_frozen BK428.out 1; have hfz25_2 := blk_frozen BK428.out 2; have hfz25_3 := blk_frozen BK428.out 3) | (go_at_call 9; (with_reducible refine (impl_ValidRule.calls k1 t423 t424 t425 t426 true _ A19.out).mono ?_); rintro e w26 ⟨rfl, hb⟩; have n0_ := Aside0.mk (Kd.R_below (by (with_reducible repeat (first | apply Kd.R_alloc | apply Kd.R_drewN | apply Kd.R_drew)); exact (Kd.R_mono (Kd.R_far (p := ⟨gb428, 3, none⟩) (Kd.R_far (p := ⟨gb428, 2, none⟩) (Kd.R_far (p := ⟨gb428, 1, none⟩) (Kd.R_far (p := ⟨gb428, 0, none⟩) (Kd.R_mono HO_5.out (fun k_ hk => (⟨hk, hk.2⟩ : _ ∧ k_ ≠ gb428))) (fun _ hk => hk.2) (.string t423)) (fun _ hk => hk.2) (.string t424)) (fun _ hk => hk.2) (.string t425)) (fun _ hk => hk.2) (.string t426)) (fun _ h_ => h_.1))) hb); have n1_ := Aside0.mk (Kd.R_below (by (with_reducible repeat (first | apply Kd.R_alloc | apply Kd.R_drewN | apply Kd.R_drew)); exact (Kd.R_mono (Kd.R_far (p := ⟨gb428, 3, none⟩) (Kd.R_far (p := ⟨gb428, 2, none⟩) (Kd.R_far (p := ⟨gb428, 1, none⟩) (Kd.R_far (p := ⟨gb428, 0, none⟩) (Kd.R_mono HO_7.out (fun k_ hk => (⟨hk, hk.2⟩ : _ ∧ k_ ≠ gb428))) (fun _ hk => hk.2) (.string t423)) (fun _ hk => hk.2) (.string t424)) (fun _ hk => hk.2) (.string t425)) (fun _ hk => hk.2) (.string t426)) (fun _ h_ => h_.1))) hb); have n2_ := Aside0.mk (blk_below (g := gb428) (o := .cells #[.string t423, .string t424, .string t425, .string t426] 30 (0, 0)) (by (with_reducible repeat (first | refine blk_drewN ?_ _ | refine blk_drew ?_ | refine blk_alloc ?_ _)); refine blk_put (cs := #[.string t423, .string t424, .string t425, .string (⟨#[]⟩ : ByteArray)]) ?_ 3 _ rfl; (with_reducible repeat (first | refine blk_drewN ?_ _ | refine blk_drew ?_ | refine blk_alloc ?_ _)); refine blk_put (cs := #[.string t423, .string t424, .string (⟨#[]⟩ : ByteArray), .string (⟨#[]⟩ : ByteArray)]) ?_ 2 _ rfl; (with_reducible repeat (first | refine blk_drewN ?_ _ | refine blk_drew ?_ | refine blk_alloc ?_ _)); refine blk_put (cs := #[.string t423, .string (⟨#[]⟩ : ByteArray), .string (⟨#[]⟩ : ByteArray), .string (⟨#[]⟩ : ByteArray)]) ?_ 1 _ rfl; (with_reducible repeat (first | refine blk_drewN ?_ _ | refine blk_drew ?_ | refine blk_alloc ?_ _)); refine blk_put (cs := #[.string (⟨#[]⟩ : ByteArray), .string (⟨#[]⟩ : ByteArray), .string (⟨#[]⟩ : ByteArray), .string (⟨#[]⟩ : ByteArray)]) ?_ 0 _ rfl; (with_reducible repeat (first | refine blk_drewN ?_ _ | refine blk_drew ?_ | refine blk_alloc ?_ _)); exact BK428.out) hb); have n3_ := Aside0.mk (below_step (by repeat (first | (with_reducible first | exact HB.out | apply below_alloc | apply pw_below_drewN | apply below_drew1 | refine below_set ?_ GE428.out) | exact HB.out)) hb); clear HO_5; clear HO_7; clear BK428; clear HB; have HO_5 := n0_; have HO_7 := n1_; have BK428 := n2_; have HB := n3_; clear n0_ n1_ n2_ n3_; (try clear hb); (try clear hb2); (try clear hk); (try clear hi); have hcz27_0 : w26.cell? ⟨gb428, 0, none⟩ = some (.string t423) := (blk_cell BK428.out 0).trans rfl; have hcz27_1 : w26.cell? ⟨gb428, 1, none⟩ = some (.string t424) := (blk_cell BK428.out 1).trans rfl; have hcz27_2 : w26.cell? ⟨gb428, 2, none⟩ = some (.string t425) := (blk_cell BK428.out 2).trans rfl; have hcz27_3 : w26.cell? ⟨gb428, 3, none⟩ = some (.string t426) := (blk_cell BK428.out 3).trans rfl; have hfz27_0 := blk_frozen BK428.out 0; have hfz27_1 := blk_frozen BK428.out 1; have hfz27_2 := blk_frozen BK428.out 2; have hfz27_3 := blk_frozen BK428.out 3) | ((with_reducible refine gate_builtin (b := .append) (xs := #[.tmp 70, .tmp 72]) rfl ?_); (try (refine gate_guard (by rfl) ?_; dsimp only)); at_builtin; refine Kd.R_append k30 (w0 := w) w.heap.size rfl (.tmp 70) (.tmp 72) 24 30 (.agg #[(.string ⟨#[]⟩), (.string ⟨#[]⟩), (.string ⟨#[]⟩), (.string ⟨#[]⟩)]) 64 rfl Tryd.underlying24 info30 rfl (by decide) (by omega) u7 x7_1 (⟨t423, t424, t425, t426⟩ : S30) [.string t423, .string t424, .string t425, .string t426] (fun k_ => some k_ ≠ (.slice (some ad420) t413.length co11 : Value).ownBlock ∧ k_ ≠ gb428) (fun _ => False) rfl rfl ?aP (fun _ hk => hk.elim) ?aF ?aO ?aB ?aS ?aL ?_; (case aP => exact k30_mkM _ _ _ (⟨t423, t424, t425, t426⟩ : S30)); (case aB => exact (by repeat (first | (with_reducible first | exact HB.out | apply below_alloc | apply pw_below_drewN | apply below_drew1 | refine below_set ?_ GE428.out) | exact HB.out))); (case aF => exact (fun k_ hk => ⟨Kd.fresh' (Kd.R_lt (by (with_reducible repeat (first | apply Kd.R_alloc | apply Kd.R_drewN | apply Kd.R_drew)); exact HO_5.out)) k_ hk, Kd.freshB (g := gb428) (o := .cells #[.string t423, .string t424, .string t425, .string t426] 30 (0, 0)) (by (with_reducible repeat (first | refine blk_drewN ?_ _ | refine blk_drew ?_ | refine blk_alloc ?_ _)); exact BK428.out) k_ hk⟩)); (case aO => exact (by (with_reducible repeat (first | apply Kd.R_alloc | apply Kd.R_drewN | apply Kd.R_drew)); exact HO_7.out)); (case aS => exact (below_size (by repeat (first | (with_reducible first | exact HB.out | apply below_alloc | apply pw_below_drewN | apply below_drew1 | refine below_set ?_ GE428.out) | exact HB.out)))); (case aL => have := LMc21.out; omega); intro v431 w28 ho hb hg hat; rw [← Ny430.out] at ho; have n0_ := Aside0.mk (Kd.R_after (ok := (fun k_ => k_ ≠ gb428)) (by (with_reducible repeat (first | apply Kd.R_alloc | apply Kd.R_drewN | apply Kd.R_drew)); exact Kd.R_mono HO_5.out (fun _ hk => ⟨hk.2, hk.1⟩)) hg hat); have n1_ := Aside0.mk (blk_grown (g := gb428) (o := .cells #[.string t423, .string t424, .string t425, .string t426] 30 (0, 0)) (by (with_reducible repeat (first | refine blk_drewN ?_ _ | refine blk_drew ?_ | refine blk_alloc ?_ _)); exact BK428.out) hg (Kd.R_away HO_7.out (fun _ hk => hk.2))); have n2_ := Aside0.mk (hb); have n3_ := Aside0.mk (ho); clear HO_5; clear BK428; clear HB; clear HO_7; have HO_5 := n0_; have BK428 := n1_; have HB := n2_; have HO432 := n3_; clear n0_ n1_ n2_ n3_; clear ho hb hg hat))
           repeat (go_quiet (first | (go_at_call 7; (with_reducible refine (impl_RuleText.calls k1 ((rd_T30 t413 x43_1).f0) ((rd_T30 t413 x43_1).f1) ((rd_T30 t413 x43_1).f2) ((rd_T30 t413 x43_1).f3) t421 true _ A15.out).mono ?_); rintro e w22 ⟨rfl, hb⟩; have n0_ := Aside0.mk (Kd.R_below (by (with_reducible repeat (first | apply Kd.R_alloc | apply Kd.R_drewN | apply Kd.R_drew)); exact HO_5.out) hb); have n1_ := Aside0.mk (Kd.R_below (by (with_reducible repeat (first | apply Kd.R_alloc | apply Kd.R_drewN | apply Kd.R_drew)); exact HO_7.out) hb); have n2_ := Aside0.mk (below_step (by repeat (first | (with_reducible first | exact HB.out | apply below_alloc | apply pw_below_drewN | apply below_drew1) | exact HB.out)) hb); clear HO_5; clear HO_7; clear HB; have HO_5 := n0_; have HO_7 := n1_; have HB := n2_; clear n0_ n1_ n2_; (try clear hb); (try clear hb2); (try clear hk); (try clear hi)) | (go_at_call 8; (with_reducible refine (impl_ReadRule.calls k1 t421 t423 t424 t425 t426 true _ A16.out).mono ?_); rintro e w23 ⟨rfl, hb⟩; have n0_ := Aside0.mk (Kd.R_below (by (with_reducible repeat (first | apply Kd.R_alloc | apply Kd.R_drewN | apply Kd.R_drew)); exact HO_5.out) hb); have n1_ := Aside0.mk (Kd.R_below (by (with_reducible repeat (first | apply Kd.R_alloc | apply Kd.R_drewN | apply Kd.R_drew)); exact HO_7.out) hb); have n2_ := Aside0.mk (below_step (by repeat (first | (with_reducible first | exact HB.out | apply below_alloc | apply pw_below_drewN | apply below_drew1) | exact HB.out)) hb); clear HO_5; clear HO_7; clear HB; have HO_5 := n0_; have HO_7 := n1_; have HB := n2_; clear n0_ n1_ n2_; (try clear hb); (try clear hb2); (try clear hk); (try clear hi)) | ((with_reducible refine gate_dst (N := 11) rfl ?_); (try (refine gate_guard (by rfl) ?_; dsimp only)); refine box_event ?hg (N := 11) ?hd (cs := #[.string (⟨#[]⟩ : ByteArray), .string (⟨#[]⟩ : ByteArray), .string (⟨#[]⟩ : ByteArray), .string (⟨#[]⟩ : ByteArray)]) (t := 30) ?hr ?_; (case hd => rfl); (case hg => rfl); (case hr => first | (go_simp; done) | (go_simp; rfl) | (simp (disch := omega) only [w64_id]; go_simp; done) | (go_simp; simp (disch := omega) only [w64_id]; done)); intro gb428 hg w24 hbox hb; have n0_ := Aside0.mk (Kd.R_below (Kd.R_elderB (by (with_reducible repeat (first | apply Kd.R_alloc | apply Kd.R_drewN | apply Kd.R_drew)); exact HO_5.out) gb428 (Nat.le_of_eq hg.symm)) hb); have n1_ := Aside0.mk (Kd.R_below (Kd.R_elderB (by (with_reducible repeat (first | apply Kd.R_alloc | apply Kd.R_drewN | apply Kd.R_drew)); exact HO_7.out) gb428 (Nat.le_of_eq hg.symm)) hb); have n2_ := Aside0.mk (below_step (by repeat (first | (with_reducible first | exact HB.out | apply below_alloc | apply pw_below_drewN | apply below_drew1) | exact HB.out)) hb); have n3_ := Aside0.mk (hbox); have n4_ := Aside0.mk ((by rw [hg]; exact (below_size (by repeat (first | (with_reducible first | exact HB.out | apply below_alloc | apply pw_below_drewN | apply below_drew1) | exact HB.out))) : w.heap.size ≤ gb428)); have n5_ := Aside0.mk ((by rw [hg]; exact (below_size (by repeat (first | (with_reducible first | exact HB.out | apply below_alloc | apply pw_below_drewN | apply below_drew1) | exact HB.out))) : w.heap.size ≤ gb428)); clear HO_5; clear HO_7; clear HB; have HO_5 := n0_; have HO_7 := n1_; have HB := n2_; have BK428 := n3_; have GW428 := n4_; have GE428 := n5_; clear n0_ n1_ n2_ n3_ n4_ n5_; clear hb hbox hg; have hcz25_0 : w24.cell? ⟨gb428, 0, none⟩ = some (.string (⟨#[]⟩ : ByteArray)) := (blk_cell BK428.out 0).trans rfl; have hcz25_1 : w24.cell? ⟨gb428, 1, none⟩ = some (.string (⟨#[]⟩ : ByteArray)) := (blk_cell BK428.out 1).trans rfl; have hcz25_2 : w24.cell? ⟨gb428, 2, none⟩ = some (.string (⟨#[]⟩ : ByteArray)) := (blk_cell BK428.out 2).trans rfl; have hcz25_3 : w24.cell? ⟨gb428, 3, none⟩ = some (.string (⟨#[]⟩ : ByteArray)) := (blk_cell BK428.out 3).trans rfl; have hfz25_0 := blk_frozen BK428.out 0; have hfz25_1 := blk_frozen BK428.out 1; have hfz25_2 := blk_frozen BK428.out 2; have hfz25_3 := blk_frozen BK428.out 3) | (go_at_call 9; (with_reducible refine (impl_ValidRule.calls k1 t423 t424 t425 t426 true _ A19.out).mono ?_); rintro e w26 ⟨rfl, hb⟩; have n0_ := Aside0.mk (Kd.R_below (by (with_reducible repeat (first | apply Kd.R_alloc | apply Kd.R_drewN | apply Kd.R_drew)); exact (Kd.R_mono (Kd.R_far (p := ⟨gb428, 3, none⟩) (Kd.R_far (p := ⟨gb428, 2, none⟩) (Kd.R_far (p := ⟨gb428, 1, none⟩) (Kd.R_far (p := ⟨gb428, 0, none⟩) (Kd.R_mono HO_5.out (fun k_ hk => (⟨hk, hk.2⟩ : _ ∧ k_ ≠ gb428))) (fun _ hk => hk.2) (.string t423)) (fun _ hk => hk.2) (.string t424)) (fun _ hk => hk.2) (.string t425)) (fun _ hk => hk.2) (.string t426)) (fun _ h_ => h_.1))) hb); have n1_ := Aside0.mk (Kd.R_below (by (with_reducible repeat (first | apply Kd.R_alloc | apply Kd.R_drewN | apply Kd.R_drew)); exact (Kd.R_mono (Kd.R_far (p := ⟨gb428, 3, none⟩) (Kd.R_far (p := ⟨gb428, 2, none⟩) (Kd.R_far (p := ⟨gb428, 1, none⟩) (Kd.R_far (p := ⟨gb428, 0, none⟩) (Kd.R_mono HO_7.out (fun k_ hk => (⟨hk, hk.2⟩ : _ ∧ k_ ≠ gb428))) (fun _ hk => hk.2) (.string t423)) (fun _ hk => hk.2) (.string t424)) (fun _ hk => hk.2) (.string t425)) (fun _ hk => hk.2) (.string t426)) (fun _ h_ => h_.1))) hb); have n2_ := Aside0.mk (blk_below (g := gb428) (o := .cells #[.string t423, .string t424, .string t425, .string t426] 30 (0, 0)) (by (with_reducible repeat (first | refine blk_drewN ?_ _ | refine blk_drew ?_ | refine blk_alloc ?_ _)); refine blk_put (cs := #[.string t423, .string t424, .string t425, .string (⟨#[]⟩ : ByteArray)]) ?_ 3 _ rfl; (with_reducible repeat (first | refine blk_drewN ?_ _ | refine blk_drew ?_ | refine blk_alloc ?_ _)); refine blk_put (cs := #[.string t423, .string t424, .string (⟨#[]⟩ : ByteArray), .string (⟨#[]⟩ : ByteArray)]) ?_ 2 _ rfl; (with_reducible repeat (first | refine blk_drewN ?_ _ | refine blk_drew ?_ | refine blk_alloc ?_ _)); refine blk_put (cs := #[.string t423, .string (⟨#[]⟩ : ByteArray), .string (⟨#[]⟩ : ByteArray), .string (⟨#[]⟩ : ByteArray)]) ?_ 1 _ rfl; (with_reducible repeat (first | refine blk_drewN ?_ _ | refine blk_drew ?_ | refine blk_alloc ?_ _)); refine blk_put (cs := #[.string (⟨#[]⟩ : ByteArray), .string (⟨#[]⟩ : ByteArray), .string (⟨#[]⟩ : ByteArray), .string (⟨#[]⟩ : ByteArray)]) ?_ 0 _ rfl; (with_reducible repeat (first | refine blk_drewN ?_ _ | refine blk_drew ?_ | refine blk_alloc ?_ _)); exact BK428.out) hb); have n3_ := Aside0.mk (below_step (by repeat (first | (with_reducible first | exact HB.out | apply below_alloc | apply pw_below_drewN | apply below_drew1 | refine below_set ?_ GE428.out) | exact HB.out)) hb); clear HO_5; clear HO_7; clear BK428; clear HB; have HO_5 := n0_; have HO_7 := n1_; have BK428 := n2_; have HB := n3_; clear n0_ n1_ n2_ n3_; (try clear hb); (try clear hb2); (try clear hk); (try clear hi); have hcz27_0 : w26.cell? ⟨gb428, 0, none⟩ = some (.string t423) := (blk_cell BK428.out 0).trans rfl; have hcz27_1 : w26.cell? ⟨gb428, 1, none⟩ = some (.string t424) := (blk_cell BK428.out 1).trans rfl; have hcz27_2 : w26.cell? ⟨gb428, 2, none⟩ = some (.string t425) := (blk_cell BK428.out 2).trans rfl; have hcz27_3 : w26.cell? ⟨gb428, 3, none⟩ = some (.string t426) := (blk_cell BK428.out 3).trans rfl; have hfz27_0 := blk_frozen BK428.out 0; have hfz27_1 := blk_frozen BK428.out 1; have hfz27_2 := blk_frozen BK428.out 2; have hfz27_3 := blk_frozen BK428.out 3) | ((with_reducible refine gate_builtin (b := .append) (xs := #[.tmp 70, .tmp 72]) rfl ?_); (try (refine gate_guard (by rfl) ?_; dsimp only)); at_builtin; refine Kd.R_append k30 (w0 := w) w.heap.size rfl (.tmp 70) (.tmp 72) 24 30 (.agg #[(.string ⟨#[]⟩), (.string ⟨#[]⟩), (.string ⟨#[]⟩), (.string ⟨#[]⟩)]) 64 rfl Tryd.underlying24 info30 rfl (by decide) (by omega) u7 x7_1 (⟨t423, t424, t425, t426⟩ : S30) [.string t423, .string t424, .string t425, .string t426] (fun k_ => some k_ ≠ (.slice (some ad420) t413.length co11 : Value).ownBlock ∧ k_ ≠ gb428) (fun _ => False) rfl rfl ?aP (fun _ hk => hk.elim) ?aF ?aO ?aB ?aS ?aL ?_; (case aP => exact k30_mkM _ _ _ (⟨t423, t424, t425, t426⟩ : S30)); (case aB => exact (by repeat (first | (with_reducible first | exact HB.out | apply below_alloc | apply pw_below_drewN | apply below_drew1 | refine below_set ?_ GE428.out) | exact HB.out))); (case aF => exact (fun k_ hk => ⟨Kd.fresh' (Kd.R_lt (by (with_reducible repeat (first | apply Kd.R_alloc | apply Kd.R_drewN | apply Kd.R_drew)); exact HO_5.out)) k_ hk, Kd.freshB (g := gb428) (o := .cells #[.string t423, .string t424, .string t425, .string t426] 30 (0, 0)) (by (with_reducible repeat (first | refine blk_drewN ?_ _ | refine blk_drew ?_ | refine blk_alloc ?_ _)); exact BK428.out) k_ hk⟩)); (case aO => exact (by (with_reducible repeat (first | apply Kd.R_alloc | apply Kd.R_drewN | apply Kd.R_drew)); exact HO_7.out)); (case aS => exact (below_size (by repeat (first | (with_reducible first | exact HB.out | apply below_alloc | apply pw_below_drewN | apply below_drew1 | refine below_set ?_ GE428.out) | exact HB.out)))); (case aL => have := LMc21.out; omega); intro v431 w28 ho hb hg hat; rw [← Ny430.out] at ho; have n0_ := Aside0.mk (Kd.R_after (ok := (fun k_ => k_ ≠ gb428)) (by (with_reducible repeat (first | apply Kd.R_alloc | apply Kd.R_drewN | apply Kd.R_drew)); exact Kd.R_mono HO_5.out (fun _ hk => ⟨hk.2, hk.1⟩)) hg hat); have n1_ := Aside0.mk (blk_grown (g := gb428) (o := .cells #[.string t423, .string t424, .string t425, .string t426] 30 (0, 0)) (by (with_reducible repeat (first | refine blk_drewN ?_ _ | refine blk_drew ?_ | refine blk_alloc ?_ _)); exact BK428.out) hg (Kd.R_away HO_7.out (fun _ hk => hk.2))); have n2_ := Aside0.mk (hb); have n3_ := Aside0.mk (ho); clear HO_5; clear BK428; clear HB; clear HO_7; have HO_5 := n0_; have BK428 := n1_; have HB := n2_; have HO432 := n3_; clear n0_ n1_ n2_ n3_; clear ho hb hg hat)); try go_wp2_with (first | (go_at_call 7; (with_reducible refine (impl_RuleText.calls k1 ((rd_T30 t413 x43_1).f0) ((rd_T30 t413 x43_1).f1) ((rd_T30 t413 x43_1).f2) ((rd_T30 t413 x43_1).f3) t421 true _ A15.out).mono ?_); rintro e w22 ⟨rfl, hb⟩; have n0_ := Aside0.mk (Kd.R_below (by (with_reducible repeat (first | apply Kd.R_alloc | apply Kd.R_drewN | apply Kd.R_drew)); exact HO_5.out) hb); have n1_ := Aside0.mk (Kd.R_below (by (with_reducible repeat (first | apply Kd.R_alloc | apply Kd.R_drewN | apply Kd.R_drew)); exact HO_7.out) hb); have n2_ := Aside0.mk (below_step (by repeat (first | (with_reducible first | exact HB.out | apply below_alloc | apply pw_below_drewN | apply below_drew1) | exact HB.out)) hb); clear HO_5; clear HO_7; clear HB; have HO_5 := n0_; have HO_7 := n1_; have HB := n2_; clear n0_ n1_ n2_; (try clear hb); (try clear hb2); (try clear hk); (try clear hi)) | (go_at_call 8; (with_reducible refine (impl_ReadRule.calls k1 t421 t423 t424 t425 t426 true _ A16.out).mono ?_); rintro e w23 ⟨rfl, hb⟩; have n0_ := Aside0.mk (Kd.R_below (by (with_reducible repeat (first | apply Kd.R_alloc | apply Kd.R_drewN | apply Kd.R_drew)); exact HO_5.out) hb); have n1_ := Aside0.mk (Kd.R_below (by (with_reducible repeat (first | apply Kd.R_alloc | apply Kd.R_drewN | apply Kd.R_drew)); exact HO_7.out) hb); have n2_ := Aside0.mk (below_step (by repeat (first | (with_reducible first | exact HB.out | apply below_alloc | apply pw_below_drewN | apply below_drew1) | exact HB.out)) hb); clear HO_5; clear HO_7; clear HB; have HO_5 := n0_; have HO_7 := n1_; have HB := n2_; clear n0_ n1_ n2_; (try clear hb); (try clear hb2); (try clear hk); (try clear hi)) | ((with_reducible refine gate_dst (N := 11) rfl ?_); (try (refine gate_guard (by rfl) ?_; dsimp only)); refine box_event ?hg (N := 11) ?hd (cs := #[.string (⟨#[]⟩ : ByteArray), .string (⟨#[]⟩ : ByteArray), .string (⟨#[]⟩ : ByteArray), .string (⟨#[]⟩ : ByteArray)]) (t := 30) ?hr ?_; (case hd => rfl); (case hg => rfl); (case hr => first | (go_simp; done) | (go_simp; rfl) | (simp (disch := omega) only [w64_id]; go_simp; done) | (go_simp; simp (disch := omega) only [w64_id]; done)); intro gb428 hg w24 hbox hb; have n0_ := Aside0.mk (Kd.R_below (Kd.R_elderB (by (with_reducible repeat (first | apply Kd.R_alloc | apply Kd.R_drewN | apply Kd.R_drew)); exact HO_5.out) gb428 (Nat.le_of_eq hg.symm)) hb); have n1_ := Aside0.mk (Kd.R_below (Kd.R_elderB (by (with_reducible repeat (first | apply Kd.R_alloc | apply Kd.R_drewN | apply Kd.R_drew)); exact HO_7.out) gb428 (Nat.le_of_eq hg.symm)) hb); have n2_ := Aside0.mk (below_step (by repeat (first | (with_reducible first | exact HB.out | apply below_alloc | apply pw_below_drewN | apply below_drew1) | exact HB.out)) hb); have n3_ := Aside0.mk (hbox); have n4_ := Aside0.mk ((by rw [hg]; exact (below_size (by repeat (first | (with_reducible first | exact HB.out | apply below_alloc | apply pw_below_drewN | apply below_drew1) | exact HB.out))) : w.heap.size ≤ gb428)); have n5_ := Aside0.mk ((by rw [hg]; exact (below_size (by repeat (first | (with_reducible first | exact HB.out | apply below_alloc | apply pw_below_drewN | apply below_drew1) | exact HB.out))) : w.heap.size ≤ gb428)); clear HO_5; clear HO_7; clear HB; have HO_5 := n0_; have HO_7 := n1_; have HB := n2_; have BK428 := n3_; have GW428 := n4_; have GE428 := n5_; clear n0_ n1_ n2_ n3_ n4_ n5_; clear hb hbox hg; have hcz25_0 : w24.cell? ⟨gb428, 0, none⟩ = some (.string (⟨#[]⟩ : ByteArray)) := (blk_cell BK428.out 0).trans rfl; have hcz25_1 : w24.cell? ⟨gb428, 1, none⟩ = some (.string (⟨#[]⟩ : ByteArray)) := (blk_cell BK428.out 1).trans rfl; have hcz25_2 : w24.cell? ⟨gb428, 2, none⟩ = some (.string (⟨#[]⟩ : ByteArray)) := (blk_cell BK428.out 2).trans rfl; have hcz25_3 : w24.cell? ⟨gb428, 3, none⟩ = some (.string (⟨#[]⟩ : ByteArray)) := (blk_cell BK428.out 3).trans rfl; have hfz25_0 := blk_frozen BK428.out 0; have hfz25_1 := blk_frozen BK428.out 1; have hfz25_2 := blk_frozen BK428.out 2; have hfz25_3 := blk_frozen BK428.out 3) | (go_at_call 9; (with_reducible refine (impl_ValidRule.calls k1 t423 t424 t425 t426 true _ A19.out).mono ?_); rintro e w26 ⟨rfl, hb⟩; have n0_ := Aside0.mk (Kd.R_below (by (with_reducible repeat (first | apply Kd.R_alloc | apply Kd.R_drewN | apply Kd.R_drew)); exact (Kd.R_mono (Kd.R_far (p := ⟨gb428, 3, none⟩) (Kd.R_far (p := ⟨gb428, 2, none⟩) (Kd.R_far (p := ⟨gb428, 1, none⟩) (Kd.R_far (p := ⟨gb428, 0, none⟩) (Kd.R_mono HO_5.out (fun k_ hk => (⟨hk, hk.2⟩ : _ ∧ k_ ≠ gb428))) (fun _ hk => hk.2) (.string t423)) (fun _ hk => hk.2) (.string t424)) (fun _ hk => hk.2) (.string t425)) (fun _ hk => hk.2) (.string t426)) (fun _ h_ => h_.1))) hb); have n1_ := Aside0.mk (Kd.R_below (by (with_reducible repeat (first | apply Kd.R_alloc | apply Kd.R_drewN | apply Kd.R_drew)); exact (Kd.R_mono (Kd.R_far (p := ⟨gb428, 3, none⟩) (Kd.R_far (p := ⟨gb428, 2, none⟩) (Kd.R_far (p := ⟨gb428, 1, none⟩) (Kd.R_far (p := ⟨gb428, 0, none⟩) (Kd.R_mono HO_7.out (fun k_ hk => (⟨hk, hk.2⟩ : _ ∧ k_ ≠ gb428))) (fun _ hk => hk.2) (.string t423)) (fun _ hk => hk.2) (.string t424)) (fun _ hk => hk.2) (.string t425)) (fun _ hk => hk.2) (.string t426)) (fun _ h_ => h_.1))) hb); have n2_ := Aside0.mk (blk_below (g := gb428) (o := .cells #[.string t423, .string t424, .string t425, .string t426] 30 (0, 0)) (by (with_reducible repeat (first | refine blk_drewN ?_ _ | refine blk_drew ?_ | refine blk_alloc ?_ _)); refine blk_put (cs := #[.string t423, .string t424, .string t425, .string (⟨#[]⟩ : ByteArray)]) ?_ 3 _ rfl; (with_reducible repeat (first | refine blk_drewN ?_ _ | refine blk_drew ?_ | refine blk_alloc ?_ _)); refine blk_put (cs := #[.string t423, .string t424, .string (⟨#[]⟩ : ByteArray), .string (⟨#[]⟩ : ByteArray)]) ?_ 2 _ rfl; (with_reducible repeat (first | refine blk_drewN ?_ _ | refine blk_drew ?_ | refine blk_alloc ?_ _)); refine blk_put (cs := #[.string t423, .string (⟨#[]⟩ : ByteArray), .string (⟨#[]⟩ : ByteArray), .string (⟨#[]⟩ : ByteArray)]) ?_ 1 _ rfl; (with_reducible repeat (first | refine blk_drewN ?_ _ | refine blk_drew ?_ | refine blk_alloc ?_ _)); refine blk_put (cs := #[.string (⟨#[]⟩ : ByteArray), .string (⟨#[]⟩ : ByteArray), .string (⟨#[]⟩ : ByteArray), .string (⟨#[]⟩ : ByteArray)]) ?_ 0 _ rfl; (with_reducible repeat (first | refine blk_drewN ?_ _ | refine blk_drew ?_ | refine blk_alloc ?_ _)); exact BK428.out) hb); have n3_ := Aside0.mk (below_step (by repeat (first | (with_reducible first | exact HB.out | apply below_alloc | apply pw_below_drewN | apply below_drew1 | refine below_set ?_ GE428.out) | exact HB.out)) hb); clear HO_5; clear HO_7; clear BK428; clear HB; have HO_5 := n0_; have HO_7 := n1_; have BK428 := n2_; have HB := n3_; clear n0_ n1_ n2_ n3_; (try clear hb); (try clear hb2); (try clear hk); (try clear hi); have hcz27_0 : w26.cell? ⟨gb428, 0, none⟩ = some (.string t423) := (blk_cell BK428.out 0).trans rfl; have hcz27_1 : w26.cell? ⟨gb428, 1, none⟩ = some (.string t424) := (blk_cell BK428.out 1).trans rfl; have hcz27_2 : w26.cell? ⟨gb428, 2, none⟩ = some (.string t425) := (blk_cell BK428.out 2).trans rfl; have hcz27_3 : w26.cell? ⟨gb428, 3, none⟩ = some (.string t426) := (blk_cell BK428.out 3).trans rfl; have hfz27_0 := blk_frozen BK428.out 0; have hfz27_1 := blk_frozen BK428.out 1; have hfz27_2 := blk_frozen BK428.out 2; have hfz27_3 := blk_frozen BK428.out 3) | ((with_reducible refine gate_builtin (b := .append) (xs := #[.tmp 70, .tmp 72]) rfl ?_); (try (refine gate_guard (by rfl) ?_; dsimp only)); at_builtin; refine Kd.R_append k30 (w0 := w) w.heap.size rfl (.tmp 70) (.tmp 72) 24 30 (.agg #[(.string ⟨#[]⟩), (.string ⟨#[]⟩), (.string ⟨#[]⟩), (.string ⟨#[]⟩)]) 64 rfl Tryd.underlying24 info30 rfl (by decide) (by omega) u7 x7_1 (⟨t423, t424, t425, t426⟩ : S30) [.string t423, .string t424, .string t425, .string t426] (fun k_ => some k_ ≠ (.slice (some ad420) t413.length co11 : Value).ownBlock ∧ k_ ≠ gb428) (fun _ => False) rfl rfl ?aP (fun _ hk => hk.elim) ?aF ?aO ?aB ?aS ?aL ?_; (case aP => exact k30_mkM _ _ _ (⟨t423, t424, t425, t426⟩ : S30)); (case aB => exact (by repeat (first | (with_reducible first | exact HB.out | apply below_alloc | apply pw_below_drewN | apply below_drew1 | refine below_set ?_ GE428.out) | exact HB.out))); (case aF => exact (fun k_ hk => ⟨Kd.fresh' (Kd.R_lt (by (with_reducible repeat (first | apply Kd.R_alloc | apply Kd.R_drewN | apply Kd.R_drew)); exact HO_5.out)) k_ hk, Kd.freshB (g := gb428) (o := .cells #[.string t423, .string t424, .string t425, .string t426] 30 (0, 0)) (by (with_reducible repeat (first | refine blk_drewN ?_ _ | refine blk_drew ?_ | refine blk_alloc ?_ _)); exact BK428.out) k_ hk⟩)); (case aO => exact (by (with_reducible repeat (first | apply Kd.R_alloc | apply Kd.R_drewN | apply Kd.R_drew)); exact HO_7.out)); (case aS => exact (below_size (by repeat (first | (with_reducible first | exact HB.out | apply below_alloc | apply pw_below_drewN | apply below_drew1 | refine below_set ?_ GE428.out) | exact HB.out)))); (case aL => have := LMc21.out; omega); intro v431 w28 ho hb hg hat; rw [← Ny430.out] at ho; have n0_ := Aside0.mk (Kd.R_after (ok := (fun k_ => k_ ≠ gb428)) (by (with_reducible repeat (first | apply Kd.R_alloc | apply Kd.R_drewN | apply Kd.R_drew)); exact Kd.R_mono HO_5.out (fun _ hk => ⟨hk.2, hk.1⟩)) hg hat); have n1_ := Aside0.mk (blk_grown (g := gb428) (o := .cells #[.string t423, .string t424, .string t425, .string t426] 30 (0, 0)) (by (with_reducible repeat (first | refine blk_drewN ?_ _ | refine blk_drew ?_ | refine blk_alloc ?_ _)); exact BK428.out) hg (Kd.R_away HO_7.out (fun _ hk => hk.2))); have n2_ := Aside0.mk (hb); have n3_ := Aside0.mk (ho); clear HO_5; clear BK428; clear HB; clear HO_7; have HO_5 := n0_; have BK428 := n1_; have HB := n2_; have HO432 := n3_; clear n0_ n1_ n2_ n3_; clear ho hb hg hat)))
           go_roundg k1
           case measure => have := HK1.out; omega
           case rel => exact ⟨(y430), (wrap64 (x43_1 + 1)), (by first | rfl | (simp; done) | (simp [*]; done)), H', ⟨by have := HK1.out; omega⟩, ⟨by (with_reducible repeat (first | apply Kd.R_alloc | apply Kd.R_drewN | apply Kd.R_drew)); exact Kd.R_mono HO_5.out (fun _ hk => hk.2)⟩, ⟨by (with_reducible repeat (first | apply Kd.R_alloc | apply Kd.R_drewN | apply Kd.R_drew)); exact Kd.R_mono HO432.out (fun _ hk => hk.1)⟩, ⟨by repeat (first | (with_reducible first | exact HB.out | apply below_alloc | apply pw_below_drewN | apply below_drew1 | refine below_set ?_ GE428.out) | exact HB.out)⟩⟩
          ·rw [if_neg c21] at H
           exact absurd H (by simp)
         ·replace c20 := Bool.eq_false_iff.mpr c20
          subst c20
          have H1 : (some false) = some r := by rw [if_neg (show ¬ (false = true) by decide)] at H; exact H
          exact absurd ((Option.some.inj H1).trans HRT_.out) (by decide)
        ·replace c18 := Bool.eq_false_iff.mpr c18
         subst c18
         have H1 : (some false) = some r := by rw [if_neg (show ¬ (false = true) by decide)] at H; exact H
         exact absurd ((Option.some.inj H1).trans HRT_.out) (by decide)
       ·replace c17 := Bool.eq_false_iff.mpr c17
        subst c17
        have H1 : (some false) = some r := by rw [if_neg (show ¬ (false = true) by decide)] at H; exact H
        exact absurd ((Option.some.inj H1).trans HRT_.out) (by decide)
      ·rw [if_neg c14] at H
       exact absurd H (by simp)
     ·rw [if_neg c13] at H
      exact absurd H (by simp)
    ·rw [if_neg c12] at H
     have c12b0 : decide (x43_1 < (t413.length : Int)) = false := decide_eq_false c12
     clear c12
     replace H := Option.bind_eq_some_iff.mp H
     obtain ⟨⟨t433, t434⟩, A420, H⟩ := H
     replace H : ((impl_SoundsOf.f k1 t413 t416).bind fun bt437 => ((impl_DeadRules.f k1 t413).bind fun bt441 => ((impl_SameRules.f k1 x7_1 t413).bind fun t445 => (if t445 = true then (if t434 = true then (if bt437.2 = true then (laws_FnRulesRead.j1 k1 t413 t416 t433 bt437.1 bt441.1 (!bt441.2)) else (laws_FnRulesRead.j1 k1 t413 t416 t433 bt437.1 bt441.1 true)) else (laws_FnRulesRead.j1 k1 t413 t416 t433 bt437.1 bt441.1 true)) else (laws_FnRulesRead.j1 k1 t413 t416 t433 bt437.1 bt441.1 true))))) = some r := H
     have A42 := Aside0.mk A420
     clear A420
     replace H := Option.bind_eq_some_iff.mp H
     obtain ⟨⟨t437, t438⟩, A430, H⟩ := H
     replace H : ((impl_DeadRules.f k1 t413).bind fun bt441 => ((impl_SameRules.f k1 x7_1 t413).bind fun t445 => (if t445 = true then (if t434 = true then (if t438 = true then (laws_FnRulesRead.j1 k1 t413 t416 t433 t437 bt441.1 (!bt441.2)) else (laws_FnRulesRead.j1 k1 t413 t416 t433 t437 bt441.1 true)) else (laws_FnRulesRead.j1 k1 t413 t416 t433 t437 bt441.1 true)) else (laws_FnRulesRead.j1 k1 t413 t416 t433 t437 bt441.1 true)))) = some r := H
     have A43 := Aside0.mk A430
     clear A430
     replace H := Option.bind_eq_some_iff.mp H
     obtain ⟨⟨t441, t442⟩, A440, H⟩ := H
     replace H : ((impl_SameRules.f k1 x7_1 t413).bind fun t445 => (if t445 = true then (if t434 = true then (if t438 = true then (laws_FnRulesRead.j1 k1 t413 t416 t433 t437 t441 (!t442)) else (laws_FnRulesRead.j1 k1 t413 t416 t433 t437 t441 true)) else (laws_FnRulesRead.j1 k1 t413 t416 t433 t437 t441 true)) else (laws_FnRulesRead.j1 k1 t413 t416 t433 t437 t441 true))) = some r := H
     have A44 := Aside0.mk A440
     clear A440
     have HC45 := Aside0.mk H
     clear H
     go_upto_region 18 with (first | (go_at_call 10; (with_reducible refine (impl_RulesFor.calls k1 _ _ t413 t416 t433 t434 _ ?side1 ?side2 A42.out).mono ?_); (case side1 => repeat (first | exact (Kd.R_reads' HO_5.out).2.2 | (with_reducible refine Kd.C_alloc ?_ _) | (with_reducible refine Kd.C_drewN ?_ _) | (with_reducible refine Kd.C_drew ?_))); (case side2 => exact (Kd.R_reads' HO_5.out).2.1); rintro e w46 ⟨v435, rfl, ho0, hb⟩; have n0_ := Aside0.mk (Kd.R_below (by (with_reducible repeat (first | apply Kd.R_alloc | apply Kd.R_drewN | apply Kd.R_drew)); exact HO_5.out) hb); have n1_ := Aside0.mk (Kd.R_below (by (with_reducible repeat (first | apply Kd.R_alloc | apply Kd.R_drewN | apply Kd.R_drew)); exact HO_7.out) hb); have n2_ := Aside0.mk (Kd.R_lower ho0 (below_size (by repeat (first | (with_reducible first | exact HB.out | apply below_alloc | apply pw_below_drewN | apply below_drew1) | exact HB.out)))); have n3_ := Aside0.mk (below_step (by repeat (first | (with_reducible first | exact HB.out | apply below_alloc | apply pw_below_drewN | apply below_drew1) | exact HB.out)) hb); clear HO_5; clear HO_7; clear HB; have HO_5 := n0_; have HO_7 := n1_; have HO436 := n2_; have HB := n3_; clear n0_ n1_ n2_ n3_; (try clear hb); (try clear hb2); (try clear hk); (try clear hi); (try clear ho0)) | (go_at_call 11; (with_reducible refine (impl_SoundsOf.calls k1 _ _ t413 t416 t437 t438 _ ?side1 ?side2 A43.out).mono ?_); (case side1 => repeat (first | exact (Kd.R_reads' HO_5.out).2.2 | (with_reducible refine Kd.C_alloc ?_ _) | (with_reducible refine Kd.C_drewN ?_ _) | (with_reducible refine Kd.C_drew ?_))); (case side2 => exact (Kd.R_reads' HO_5.out).2.1); rintro e w47 ⟨v439, rfl, ho0, hb⟩; have n0_ := Aside0.mk (Kd.R_below (by (with_reducible repeat (first | apply Kd.R_alloc | apply Kd.R_drewN | apply Kd.R_drew)); exact HO_5.out) hb); have n1_ := Aside0.mk (Kd.R_below (by (with_reducible repeat (first | apply Kd.R_alloc | apply Kd.R_drewN | apply Kd.R_drew)); exact HO_7.out) hb); have n2_ := Aside0.mk (Kd.R_below (by (with_reducible repeat (first | apply Kd.R_alloc | apply Kd.R_drewN | apply Kd.R_drew)); exact HO436.out) hb); have n3_ := Aside0.mk (Kd.R_lower ho0 (below_size (by repeat (first | (with_reducible first | exact HB.out | apply below_alloc | apply pw_below_drewN | apply below_drew1) | exact HB.out)))); have n4_ := Aside0.mk (below_step (by repeat (first | (with_reducible first | exact HB.out | apply below_alloc | apply pw_below_drewN | apply below_drew1) | exact HB.out)) hb); clear HO_5; clear HO_7; clear HO436; clear HB; have HO_5 := n0_; have HO_7 := n1_; have HO436 := n2_; have HO440 := n3_; have HB := n4_; clear n0_ n1_ n2_ n3_ n4_; (try clear hb); (try clear hb2); (try clear hk); (try clear hi); (try clear ho0)) | (go_at_call 12; (with_reducible refine (impl_DeadRules.calls k1 _ _ t413 t441 t442 _ ?side1 ?side2 A44.out).mono ?_); (case side1 => repeat (first | exact (Kd.R_reads' HO_5.out).2.2 | (with_reducible refine Kd.C_alloc ?_ _) | (with_reducible refine Kd.C_drewN ?_ _) | (with_reducible refine Kd.C_drew ?_))); (case side2 => exact (Kd.R_reads' HO_5.out).2.1); rintro e w48 ⟨v443, rfl, ho0, hb⟩; have n0_ := Aside0.mk (Kd.R_below (by (with_reducible repeat (first | apply Kd.R_alloc | apply Kd.R_drewN | apply Kd.R_drew)); exact HO_5.out) hb); have n1_ := Aside0.mk (Kd.R_below (by (with_reducible repeat (first | apply Kd.R_alloc | apply Kd.R_drewN | apply Kd.R_drew)); exact HO_7.out) hb); have n2_ := Aside0.mk (Kd.R_elder' (by (with_reducible repeat (first | apply Kd.R_alloc | apply Kd.R_drewN | apply Kd.R_drew)); exact HO436.out) (Kd.R_base ho0) hb); have n3_ := Aside0.mk (Kd.R_below (by (with_reducible repeat (first | apply Kd.R_alloc | apply Kd.R_drewN | apply Kd.R_drew)); exact HO440.out) hb); have n4_ := Aside0.mk (Kd.R_lower (Kd.R_new' ho0 (Kd.R_lt (by (with_reducible repeat (first | apply Kd.R_alloc | apply Kd.R_drewN | apply Kd.R_drew)); exact HO436.out))) (below_size (by repeat (first | (with_reducible first | exact HB.out | apply below_alloc | apply pw_below_drewN | apply below_drew1) | exact HB.out)))); have n5_ := Aside0.mk (below_step (by repeat (first | (with_reducible first | exact HB.out | apply below_alloc | apply pw_below_drewN | apply below_drew1) | exact HB.out)) hb); clear HO_5; clear HO_7; clear HO436; clear HO440; clear HB; have HO_5 := n0_; have HO_7 := n1_; have HO436 := n2_; have HO440 := n3_; have HO444 := n4_; have HB := n5_; clear n0_ n1_ n2_ n3_ n4_ n5_; (try clear hb); (try clear hb2); (try clear hk); (try clear hi); (try clear ho0)))
     repeat (go_quiet (first | (go_at_call 10; (with_reducible refine (impl_RulesFor.calls k1 _ _ t413 t416 t433 t434 _ ?side1 ?side2 A42.out).mono ?_); (case side1 => repeat (first | exact (Kd.R_reads' HO_5.out).2.2 | (with_reducible refine Kd.C_alloc ?_ _) | (with_reducible refine Kd.C_drewN ?_ _) | (with_reducible refine Kd.C_drew ?_))); (case side2 => exact (Kd.R_reads' HO_5.out).2.1); rintro e w46 ⟨v435, rfl, ho0, hb⟩; have n0_ := Aside0.mk (Kd.R_below (by (with_reducible repeat (first | apply Kd.R_alloc | apply Kd.R_drewN | apply Kd.R_drew)); exact HO_5.out) hb); have n1_ := Aside0.mk (Kd.R_below (by (with_reducible repeat (first | apply Kd.R_alloc | apply Kd.R_drewN | apply Kd.R_drew)); exact HO_7.out) hb); have n2_ := Aside0.mk (Kd.R_lower ho0 (below_size (by repeat (first | (with_reducible first | exact HB.out | apply below_alloc | apply pw_below_drewN | apply below_drew1) | exact HB.out)))); have n3_ := Aside0.mk (below_step (by repeat (first | (with_reducible first | exact HB.out | apply below_alloc | apply pw_below_drewN | apply below_drew1) | exact HB.out)) hb); clear HO_5; clear HO_7; clear HB; have HO_5 := n0_; have HO_7 := n1_; have HO436 := n2_; have HB := n3_; clear n0_ n1_ n2_ n3_; (try clear hb); (try clear hb2); (try clear hk); (try clear hi); (try clear ho0)) | (go_at_call 11; (with_reducible refine (impl_SoundsOf.calls k1 _ _ t413 t416 t437 t438 _ ?side1 ?side2 A43.out).mono ?_); (case side1 => repeat (first | exact (Kd.R_reads' HO_5.out).2.2 | (with_reducible refine Kd.C_alloc ?_ _) | (with_reducible refine Kd.C_drewN ?_ _) | (with_reducible refine Kd.C_drew ?_))); (case side2 => exact (Kd.R_reads' HO_5.out).2.1); rintro e w47 ⟨v439, rfl, ho0, hb⟩; have n0_ := Aside0.mk (Kd.R_below (by (with_reducible repeat (first | apply Kd.R_alloc | apply Kd.R_drewN | apply Kd.R_drew)); exact HO_5.out) hb); have n1_ := Aside0.mk (Kd.R_below (by (with_reducible repeat (first | apply Kd.R_alloc | apply Kd.R_drewN | apply Kd.R_drew)); exact HO_7.out) hb); have n2_ := Aside0.mk (Kd.R_below (by (with_reducible repeat (first | apply Kd.R_alloc | apply Kd.R_drewN | apply Kd.R_drew)); exact HO436.out) hb); have n3_ := Aside0.mk (Kd.R_lower ho0 (below_size (by repeat (first | (with_reducible first | exact HB.out | apply below_alloc | apply pw_below_drewN | apply below_drew1) | exact HB.out)))); have n4_ := Aside0.mk (below_step (by repeat (first | (with_reducible first | exact HB.out | apply below_alloc | apply pw_below_drewN | apply below_drew1) | exact HB.out)) hb); clear HO_5; clear HO_7; clear HO436; clear HB; have HO_5 := n0_; have HO_7 := n1_; have HO436 := n2_; have HO440 := n3_; have HB := n4_; clear n0_ n1_ n2_ n3_ n4_; (try clear hb); (try clear hb2); (try clear hk); (try clear hi); (try clear ho0)) | (go_at_call 12; (with_reducible refine (impl_DeadRules.calls k1 _ _ t413 t441 t442 _ ?side1 ?side2 A44.out).mono ?_); (case side1 => repeat (first | exact (Kd.R_reads' HO_5.out).2.2 | (with_reducible refine Kd.C_alloc ?_ _) | (with_reducible refine Kd.C_drewN ?_ _) | (with_reducible refine Kd.C_drew ?_))); (case side2 => exact (Kd.R_reads' HO_5.out).2.1); rintro e w48 ⟨v443, rfl, ho0, hb⟩; have n0_ := Aside0.mk (Kd.R_below (by (with_reducible repeat (first | apply Kd.R_alloc | apply Kd.R_drewN | apply Kd.R_drew)); exact HO_5.out) hb); have n1_ := Aside0.mk (Kd.R_below (by (with_reducible repeat (first | apply Kd.R_alloc | apply Kd.R_drewN | apply Kd.R_drew)); exact HO_7.out) hb); have n2_ := Aside0.mk (Kd.R_elder' (by (with_reducible repeat (first | apply Kd.R_alloc | apply Kd.R_drewN | apply Kd.R_drew)); exact HO436.out) (Kd.R_base ho0) hb); have n3_ := Aside0.mk (Kd.R_below (by (with_reducible repeat (first | apply Kd.R_alloc | apply Kd.R_drewN | apply Kd.R_drew)); exact HO440.out) hb); have n4_ := Aside0.mk (Kd.R_lower (Kd.R_new' ho0 (Kd.R_lt (by (with_reducible repeat (first | apply Kd.R_alloc | apply Kd.R_drewN | apply Kd.R_drew)); exact HO436.out))) (below_size (by repeat (first | (with_reducible first | exact HB.out | apply below_alloc | apply pw_below_drewN | apply below_drew1) | exact HB.out)))); have n5_ := Aside0.mk (below_step (by repeat (first | (with_reducible first | exact HB.out | apply below_alloc | apply pw_below_drewN | apply below_drew1) | exact HB.out)) hb); clear HO_5; clear HO_7; clear HO436; clear HO440; clear HB; have HO_5 := n0_; have HO_7 := n1_; have HO436 := n2_; have HO440 := n3_; have HO444 := n4_; have HB := n5_; clear n0_ n1_ n2_ n3_ n4_ n5_; (try clear hb); (try clear hb2); (try clear hk); (try clear hi); (try clear ho0))); go_upto_region 18 with (first | (go_at_call 10; (with_reducible refine (impl_RulesFor.calls k1 _ _ t413 t416 t433 t434 _ ?side1 ?side2 A42.out).mono ?_); (case side1 => repeat (first | exact (Kd.R_reads' HO_5.out).2.2 | (with_reducible refine Kd.C_alloc ?_ _) | (with_reducible refine Kd.C_drewN ?_ _) | (with_reducible refine Kd.C_drew ?_))); (case side2 => exact (Kd.R_reads' HO_5.out).2.1); rintro e w46 ⟨v435, rfl, ho0, hb⟩; have n0_ := Aside0.mk (Kd.R_below (by (with_reducible repeat (first | apply Kd.R_alloc | apply Kd.R_drewN | apply Kd.R_drew)); exact HO_5.out) hb); have n1_ := Aside0.mk (Kd.R_below (by (with_reducible repeat (first | apply Kd.R_alloc | apply Kd.R_drewN | apply Kd.R_drew)); exact HO_7.out) hb); have n2_ := Aside0.mk (Kd.R_lower ho0 (below_size (by repeat (first | (with_reducible first | exact HB.out | apply below_alloc | apply pw_below_drewN | apply below_drew1) | exact HB.out)))); have n3_ := Aside0.mk (below_step (by repeat (first | (with_reducible first | exact HB.out | apply below_alloc | apply pw_below_drewN | apply below_drew1) | exact HB.out)) hb); clear HO_5; clear HO_7; clear HB; have HO_5 := n0_; have HO_7 := n1_; have HO436 := n2_; have HB := n3_; clear n0_ n1_ n2_ n3_; (try clear hb); (try clear hb2); (try clear hk); (try clear hi); (try clear ho0)) | (go_at_call 11; (with_reducible refine (impl_SoundsOf.calls k1 _ _ t413 t416 t437 t438 _ ?side1 ?side2 A43.out).mono ?_); (case side1 => repeat (first | exact (Kd.R_reads' HO_5.out).2.2 | (with_reducible refine Kd.C_alloc ?_ _) | (with_reducible refine Kd.C_drewN ?_ _) | (with_reducible refine Kd.C_drew ?_))); (case side2 => exact (Kd.R_reads' HO_5.out).2.1); rintro e w47 ⟨v439, rfl, ho0, hb⟩; have n0_ := Aside0.mk (Kd.R_below (by (with_reducible repeat (first | apply Kd.R_alloc | apply Kd.R_drewN | apply Kd.R_drew)); exact HO_5.out) hb); have n1_ := Aside0.mk (Kd.R_below (by (with_reducible repeat (first | apply Kd.R_alloc | apply Kd.R_drewN | apply Kd.R_drew)); exact HO_7.out) hb); have n2_ := Aside0.mk (Kd.R_below (by (with_reducible repeat (first | apply Kd.R_alloc | apply Kd.R_drewN | apply Kd.R_drew)); exact HO436.out) hb); have n3_ := Aside0.mk (Kd.R_lower ho0 (below_size (by repeat (first | (with_reducible first | exact HB.out | apply below_alloc | apply pw_below_drewN | apply below_drew1) | exact HB.out)))); have n4_ := Aside0.mk (below_step (by repeat (first | (with_reducible first | exact HB.out | apply below_alloc | apply pw_below_drewN | apply below_drew1) | exact HB.out)) hb); clear HO_5; clear HO_7; clear HO436; clear HB; have HO_5 := n0_; have HO_7 := n1_; have HO436 := n2_; have HO440 := n3_; have HB := n4_; clear n0_ n1_ n2_ n3_ n4_; (try clear hb); (try clear hb2); (try clear hk); (try clear hi); (try clear ho0)) | (go_at_call 12; (with_reducible refine (impl_DeadRules.calls k1 _ _ t413 t441 t442 _ ?side1 ?side2 A44.out).mono ?_); (case side1 => repeat (first | exact (Kd.R_reads' HO_5.out).2.2 | (with_reducible refine Kd.C_alloc ?_ _) | (with_reducible refine Kd.C_drewN ?_ _) | (with_reducible refine Kd.C_drew ?_))); (case side2 => exact (Kd.R_reads' HO_5.out).2.1); rintro e w48 ⟨v443, rfl, ho0, hb⟩; have n0_ := Aside0.mk (Kd.R_below (by (with_reducible repeat (first | apply Kd.R_alloc | apply Kd.R_drewN | apply Kd.R_drew)); exact HO_5.out) hb); have n1_ := Aside0.mk (Kd.R_below (by (with_reducible repeat (first | apply Kd.R_alloc | apply Kd.R_drewN | apply Kd.R_drew)); exact HO_7.out) hb); have n2_ := Aside0.mk (Kd.R_elder' (by (with_reducible repeat (first | apply Kd.R_alloc | apply Kd.R_drewN | apply Kd.R_drew)); exact HO436.out) (Kd.R_base ho0) hb); have n3_ := Aside0.mk (Kd.R_below (by (with_reducible repeat (first | apply Kd.R_alloc | apply Kd.R_drewN | apply Kd.R_drew)); exact HO440.out) hb); have n4_ := Aside0.mk (Kd.R_lower (Kd.R_new' ho0 (Kd.R_lt (by (with_reducible repeat (first | apply Kd.R_alloc | apply Kd.R_drewN | apply Kd.R_drew)); exact HO436.out))) (below_size (by repeat (first | (with_reducible first | exact HB.out | apply below_alloc | apply pw_below_drewN | apply below_drew1) | exact HB.out)))); have n5_ := Aside0.mk (below_step (by repeat (first | (with_reducible first | exact HB.out | apply below_alloc | apply pw_below_drewN | apply below_drew1) | exact HB.out)) hb); clear HO_5; clear HO_7; clear HO436; clear HO440; clear HB; have HO_5 := n0_; have HO_7 := n1_; have HO436 := n2_; have HO440 := n3_; have HO444 := n4_; have HB := n5_; clear n0_ n1_ n2_ n3_ n4_ n5_; (try clear hb); (try clear hb2); (try clear hk); (try clear hi); (try clear ho0))))
     (try simp only [Act.put, List.setIfInBounds_toArray, List.set_cons_zero, List.set_cons_succ])
     go_cut [107] (fun v107 wc => ∃ (kq : Nat) (x107_44 : Bool), v107 = .bool x107_44 ∧ Aside0 (laws_FnRulesRead.j1 kq t413 t416 t433 t437 t441 x107_44 = some r) ∧ Aside0 (kq ≤ k1) ∧ Aside0 (Kd.R k30 30 wc w.heap.size (fun _ => True) (.slice Ao11 t413.length co11) t413) ∧ Aside0 (Kd.R (Kd.int .i64) 2 wc w.heap.size (fun k_ => some k_ ≠ (v443 : Value).ownBlock) v435 t433) ∧ Aside0 (Kd.R Kd.string 9 wc w.heap.size (fun _ => True) v439 t437) ∧ Aside0 (Kd.R (Kd.int .i64) 2 wc w.heap.size (fun k_ => some k_ ≠ (v435 : Value).ownBlock) v443 t441) ∧ Aside0 (Below w.heap.size w wc))
     case first =>
      as_aux_lemma =>
      have H := HC45.out
      clear HC45
      replace H := Option.bind_eq_some_iff.mp H
      obtain ⟨t445, A490, H⟩ := H
      replace H : (if t445 = true then (if t434 = true then (if t438 = true then (laws_FnRulesRead.j1 k1 t413 t416 t433 t437 t441 (!t442)) else (laws_FnRulesRead.j1 k1 t413 t416 t433 t437 t441 true)) else (laws_FnRulesRead.j1 k1 t413 t416 t433 t437 t441 true)) else (laws_FnRulesRead.j1 k1 t413 t416 t433 t437 t441 true)) = some r := H
      have A49 := Aside0.mk A490
      clear A490
      by_cases c50 : t445 = true
      ·subst c50
       have H1 : (if t434 = true then (if t438 = true then (laws_FnRulesRead.j1 k1 t413 t416 t433 t437 t441 (!t442)) else (laws_FnRulesRead.j1 k1 t413 t416 t433 t437 t441 true)) else (laws_FnRulesRead.j1 k1 t413 t416 t433 t437 t441 true)) = some r := by rw [if_pos rfl] at H; exact H
       clear H
       have H := H1
       clear H1
       by_cases c51 : t434 = true
       ·subst c51
        have H1 : (if t438 = true then (laws_FnRulesRead.j1 k1 t413 t416 t433 t437 t441 (!t442)) else (laws_FnRulesRead.j1 k1 t413 t416 t433 t437 t441 true)) = some r := by rw [if_pos rfl] at H; exact H
        clear H
        have H := H1
        clear H1
        by_cases c52 : t438 = true
        ·subst c52
         have H1 : (laws_FnRulesRead.j1 k1 t413 t416 t433 t437 t441 (!t442)) = some r := by rw [if_pos rfl] at H; exact H
         clear H
         have H := H1
         clear H1
         have H' := Aside0.mk H
         clear H
         obtain ⟨Ao53, co53, eo53⟩ := Kd.R_slice HO_7.out
         subst eo53
         go_wp2_with (first | (go_at_call 13; (with_reducible refine (impl_SameRules.calls k1 _ _ x7_1 _ _ t413 true _ ?side1 ?side2 ?side3 ?side4 A49.out).mono ?_); (case side1 => repeat (first | exact (Kd.R_reads' HO_7.out).2.2 | (with_reducible refine Kd.C_alloc ?_ _) | (with_reducible refine Kd.C_drewN ?_ _) | (with_reducible refine Kd.C_drew ?_))); (case side2 => exact (Kd.R_reads' HO_7.out).2.1); (case side3 => repeat (first | exact (Kd.R_reads' HO_5.out).2.2 | (with_reducible refine Kd.C_alloc ?_ _) | (with_reducible refine Kd.C_drewN ?_ _) | (with_reducible refine Kd.C_drew ?_))); (case side4 => exact (Kd.R_reads' HO_5.out).2.1); rintro e w' ⟨rfl, ⟨nd, rfl⟩⟩; (try first | exact ⟨rfl, _, World.drewN_drewN _ _ _⟩ | exact ⟨rfl, _, Eq.trans (World.drewN_drewN _ _ _) (congrArg (World.drewN _) (Nat.add_assoc _ _ _))⟩)))
         repeat (go_quiet (first | (go_at_call 13; (with_reducible refine (impl_SameRules.calls k1 _ _ x7_1 _ _ t413 true _ ?side1 ?side2 ?side3 ?side4 A49.out).mono ?_); (case side1 => repeat (first | exact (Kd.R_reads' HO_7.out).2.2 | (with_reducible refine Kd.C_alloc ?_ _) | (with_reducible refine Kd.C_drewN ?_ _) | (with_reducible refine Kd.C_drew ?_))); (case side2 => exact (Kd.R_reads' HO_7.out).2.1); (case side3 => repeat (first | exact (Kd.R_reads' HO_5.out).2.2 | (with_reducible refine Kd.C_alloc ?_ _) | (with_reducible refine Kd.C_drewN ?_ _) | (with_reducible refine Kd.C_drew ?_))); (case side4 => exact (Kd.R_reads' HO_5.out).2.1); rintro e w' ⟨rfl, ⟨nd, rfl⟩⟩; (try first | exact ⟨rfl, _, World.drewN_drewN _ _ _⟩ | exact ⟨rfl, _, Eq.trans (World.drewN_drewN _ _ _) (congrArg (World.drewN _) (Nat.add_assoc _ _ _))⟩))); try go_wp2_with (first | (go_at_call 13; (with_reducible refine (impl_SameRules.calls k1 _ _ x7_1 _ _ t413 true _ ?side1 ?side2 ?side3 ?side4 A49.out).mono ?_); (case side1 => repeat (first | exact (Kd.R_reads' HO_7.out).2.2 | (with_reducible refine Kd.C_alloc ?_ _) | (with_reducible refine Kd.C_drewN ?_ _) | (with_reducible refine Kd.C_drew ?_))); (case side2 => exact (Kd.R_reads' HO_7.out).2.1); (case side3 => repeat (first | exact (Kd.R_reads' HO_5.out).2.2 | (with_reducible refine Kd.C_alloc ?_ _) | (with_reducible refine Kd.C_drewN ?_ _) | (with_reducible refine Kd.C_drew ?_))); (case side4 => exact (Kd.R_reads' HO_5.out).2.1); rintro e w' ⟨rfl, ⟨nd, rfl⟩⟩; (try first | exact ⟨rfl, _, World.drewN_drewN _ _ _⟩ | exact ⟨rfl, _, Eq.trans (World.drewN_drewN _ _ _) (congrArg (World.drewN _) (Nat.add_assoc _ _ _))⟩))))
         go_meet
         case rel => exact ⟨_, (!t442), (by first | rfl | (simp; done) | (simp [*]; done)), H', ⟨by have := HK1.out; first | omega | exact Nat.le_refl _⟩, ⟨by (with_reducible repeat (first | apply Kd.R_alloc | apply Kd.R_drewN | apply Kd.R_drew)); exact Kd.R_mono HO_5.out (fun _ hk => trivial)⟩, ⟨by (with_reducible repeat (first | apply Kd.R_alloc | apply Kd.R_drewN | apply Kd.R_drew)); exact Kd.R_mono HO436.out (fun _ hk => hk.2)⟩, ⟨by (with_reducible repeat (first | apply Kd.R_alloc | apply Kd.R_drewN | apply Kd.R_drew)); exact HO440.out⟩, ⟨by (with_reducible repeat (first | apply Kd.R_alloc | apply Kd.R_drewN | apply Kd.R_drew)); exact Kd.R_mono HO444.out (fun _ hk => hk.2)⟩, ⟨by repeat (first | (with_reducible first | exact HB.out | apply below_alloc | apply pw_below_drewN | apply below_drew1) | exact HB.out)⟩⟩
        ·replace c52 := Bool.eq_false_iff.mpr c52
         subst c52
         have H1 : (laws_FnRulesRead.j1 k1 t413 t416 t433 t437 t441 true) = some r := by rw [if_neg (show ¬ (false = true) by decide)] at H; exact H
         clear H
         have H := H1
         clear H1
         have H' := Aside0.mk H
         clear H
         obtain ⟨Ao54, co54, eo54⟩ := Kd.R_slice HO_7.out
         subst eo54
         go_wp2_with (first | (go_at_call 13; (with_reducible refine (impl_SameRules.calls k1 _ _ x7_1 _ _ t413 true _ ?side1 ?side2 ?side3 ?side4 A49.out).mono ?_); (case side1 => repeat (first | exact (Kd.R_reads' HO_7.out).2.2 | (with_reducible refine Kd.C_alloc ?_ _) | (with_reducible refine Kd.C_drewN ?_ _) | (with_reducible refine Kd.C_drew ?_))); (case side2 => exact (Kd.R_reads' HO_7.out).2.1); (case side3 => repeat (first | exact (Kd.R_reads' HO_5.out).2.2 | (with_reducible refine Kd.C_alloc ?_ _) | (with_reducible refine Kd.C_drewN ?_ _) | (with_reducible refine Kd.C_drew ?_))); (case side4 => exact (Kd.R_reads' HO_5.out).2.1); rintro e w' ⟨rfl, ⟨nd, rfl⟩⟩; (try first | exact ⟨rfl, _, World.drewN_drewN _ _ _⟩ | exact ⟨rfl, _, Eq.trans (World.drewN_drewN _ _ _) (congrArg (World.drewN _) (Nat.add_assoc _ _ _))⟩)))
         repeat (go_quiet (first | (go_at_call 13; (with_reducible refine (impl_SameRules.calls k1 _ _ x7_1 _ _ t413 true _ ?side1 ?side2 ?side3 ?side4 A49.out).mono ?_); (case side1 => repeat (first | exact (Kd.R_reads' HO_7.out).2.2 | (with_reducible refine Kd.C_alloc ?_ _) | (with_reducible refine Kd.C_drewN ?_ _) | (with_reducible refine Kd.C_drew ?_))); (case side2 => exact (Kd.R_reads' HO_7.out).2.1); (case side3 => repeat (first | exact (Kd.R_reads' HO_5.out).2.2 | (with_reducible refine Kd.C_alloc ?_ _) | (with_reducible refine Kd.C_drewN ?_ _) | (with_reducible refine Kd.C_drew ?_))); (case side4 => exact (Kd.R_reads' HO_5.out).2.1); rintro e w' ⟨rfl, ⟨nd, rfl⟩⟩; (try first | exact ⟨rfl, _, World.drewN_drewN _ _ _⟩ | exact ⟨rfl, _, Eq.trans (World.drewN_drewN _ _ _) (congrArg (World.drewN _) (Nat.add_assoc _ _ _))⟩))); try go_wp2_with (first | (go_at_call 13; (with_reducible refine (impl_SameRules.calls k1 _ _ x7_1 _ _ t413 true _ ?side1 ?side2 ?side3 ?side4 A49.out).mono ?_); (case side1 => repeat (first | exact (Kd.R_reads' HO_7.out).2.2 | (with_reducible refine Kd.C_alloc ?_ _) | (with_reducible refine Kd.C_drewN ?_ _) | (with_reducible refine Kd.C_drew ?_))); (case side2 => exact (Kd.R_reads' HO_7.out).2.1); (case side3 => repeat (first | exact (Kd.R_reads' HO_5.out).2.2 | (with_reducible refine Kd.C_alloc ?_ _) | (with_reducible refine Kd.C_drewN ?_ _) | (with_reducible refine Kd.C_drew ?_))); (case side4 => exact (Kd.R_reads' HO_5.out).2.1); rintro e w' ⟨rfl, ⟨nd, rfl⟩⟩; (try first | exact ⟨rfl, _, World.drewN_drewN _ _ _⟩ | exact ⟨rfl, _, Eq.trans (World.drewN_drewN _ _ _) (congrArg (World.drewN _) (Nat.add_assoc _ _ _))⟩))))
         go_meet
         case rel => exact ⟨_, (true), (by first | rfl | (simp; done) | (simp [*]; done)), H', ⟨by have := HK1.out; first | omega | exact Nat.le_refl _⟩, ⟨by (with_reducible repeat (first | apply Kd.R_alloc | apply Kd.R_drewN | apply Kd.R_drew)); exact Kd.R_mono HO_5.out (fun _ hk => trivial)⟩, ⟨by (with_reducible repeat (first | apply Kd.R_alloc | apply Kd.R_drewN | apply Kd.R_drew)); exact Kd.R_mono HO436.out (fun _ hk => hk.2)⟩, ⟨by (with_reducible repeat (first | apply Kd.R_alloc | apply Kd.R_drewN | apply Kd.R_drew)); exact HO440.out⟩, ⟨by (with_reducible repeat (first | apply Kd.R_alloc | apply Kd.R_drewN | apply Kd.R_drew)); exact Kd.R_mono HO444.out (fun _ hk => hk.2)⟩, ⟨by repeat (first | (with_reducible first | exact HB.out | apply below_alloc | apply pw_below_drewN | apply below_drew1) | exact HB.out)⟩⟩
       ·replace c51 := Bool.eq_false_iff.mpr c51
        subst c51
        have H1 : (laws_FnRulesRead.j1 k1 t413 t416 t433 t437 t441 true) = some r := by rw [if_neg (show ¬ (false = true) by decide)] at H; exact H
        clear H
        have H := H1
        clear H1
        have H' := Aside0.mk H
        clear H
        obtain ⟨Ao55, co55, eo55⟩ := Kd.R_slice HO_7.out
        subst eo55
        go_wp2_with (first | (go_at_call 13; (with_reducible refine (impl_SameRules.calls k1 _ _ x7_1 _ _ t413 true _ ?side1 ?side2 ?side3 ?side4 A49.out).mono ?_); (case side1 => repeat (first | exact (Kd.R_reads' HO_7.out).2.2 | (with_reducible refine Kd.C_alloc ?_ _) | (with_reducible refine Kd.C_drewN ?_ _) | (with_reducible refine Kd.C_drew ?_))); (case side2 => exact (Kd.R_reads' HO_7.out).2.1); (case side3 => repeat (first | exact (Kd.R_reads' HO_5.out).2.2 | (with_reducible refine Kd.C_alloc ?_ _) | (with_reducible refine Kd.C_drewN ?_ _) | (with_reducible refine Kd.C_drew ?_))); (case side4 => exact (Kd.R_reads' HO_5.out).2.1); rintro e w' ⟨rfl, ⟨nd, rfl⟩⟩; (try first | exact ⟨rfl, _, World.drewN_drewN _ _ _⟩ | exact ⟨rfl, _, Eq.trans (World.drewN_drewN _ _ _) (congrArg (World.drewN _) (Nat.add_assoc _ _ _))⟩)))
        repeat (go_quiet (first | (go_at_call 13; (with_reducible refine (impl_SameRules.calls k1 _ _ x7_1 _ _ t413 true _ ?side1 ?side2 ?side3 ?side4 A49.out).mono ?_); (case side1 => repeat (first | exact (Kd.R_reads' HO_7.out).2.2 | (with_reducible refine Kd.C_alloc ?_ _) | (with_reducible refine Kd.C_drewN ?_ _) | (with_reducible refine Kd.C_drew ?_))); (case side2 => exact (Kd.R_reads' HO_7.out).2.1); (case side3 => repeat (first | exact (Kd.R_reads' HO_5.out).2.2 | (with_reducible refine Kd.C_alloc ?_ _) | (with_reducible refine Kd.C_drewN ?_ _) | (with_reducible refine Kd.C_drew ?_))); (case side4 => exact (Kd.R_reads' HO_5.out).2.1); rintro e w' ⟨rfl, ⟨nd, rfl⟩⟩; (try first | exact ⟨rfl, _, World.drewN_drewN _ _ _⟩ | exact ⟨rfl, _, Eq.trans (World.drewN_drewN _ _ _) (congrArg (World.drewN _) (Nat.add_assoc _ _ _))⟩))); try go_wp2_with (first | (go_at_call 13; (with_reducible refine (impl_SameRules.calls k1 _ _ x7_1 _ _ t413 true _ ?side1 ?side2 ?side3 ?side4 A49.out).mono ?_); (case side1 => repeat (first | exact (Kd.R_reads' HO_7.out).2.2 | (with_reducible refine Kd.C_alloc ?_ _) | (with_reducible refine Kd.C_drewN ?_ _) | (with_reducible refine Kd.C_drew ?_))); (case side2 => exact (Kd.R_reads' HO_7.out).2.1); (case side3 => repeat (first | exact (Kd.R_reads' HO_5.out).2.2 | (with_reducible refine Kd.C_alloc ?_ _) | (with_reducible refine Kd.C_drewN ?_ _) | (with_reducible refine Kd.C_drew ?_))); (case side4 => exact (Kd.R_reads' HO_5.out).2.1); rintro e w' ⟨rfl, ⟨nd, rfl⟩⟩; (try first | exact ⟨rfl, _, World.drewN_drewN _ _ _⟩ | exact ⟨rfl, _, Eq.trans (World.drewN_drewN _ _ _) (congrArg (World.drewN _) (Nat.add_assoc _ _ _))⟩))))
        go_meet
        case rel => exact ⟨_, (true), (by first | rfl | (simp; done) | (simp [*]; done)), H', ⟨by have := HK1.out; first | omega | exact Nat.le_refl _⟩, ⟨by (with_reducible repeat (first | apply Kd.R_alloc | apply Kd.R_drewN | apply Kd.R_drew)); exact Kd.R_mono HO_5.out (fun _ hk => trivial)⟩, ⟨by (with_reducible repeat (first | apply Kd.R_alloc | apply Kd.R_drewN | apply Kd.R_drew)); exact Kd.R_mono HO436.out (fun _ hk => hk.2)⟩, ⟨by (with_reducible repeat (first | apply Kd.R_alloc | apply Kd.R_drewN | apply Kd.R_drew)); exact HO440.out⟩, ⟨by (with_reducible repeat (first | apply Kd.R_alloc | apply Kd.R_drewN | apply Kd.R_drew)); exact Kd.R_mono HO444.out (fun _ hk => hk.2)⟩, ⟨by repeat (first | (with_reducible first | exact HB.out | apply below_alloc | apply pw_below_drewN | apply below_drew1) | exact HB.out)⟩⟩
      ·replace c50 := Bool.eq_false_iff.mpr c50
       subst c50
       have H1 : (laws_FnRulesRead.j1 k1 t413 t416 t433 t437 t441 true) = some r := by rw [if_neg (show ¬ (false = true) by decide)] at H; exact H
       clear H
       have H := H1
       clear H1
       have H' := Aside0.mk H
       clear H
       obtain ⟨Ao56, co56, eo56⟩ := Kd.R_slice HO_7.out
       subst eo56
       go_wp2_with (first | (go_at_call 13; (with_reducible refine (impl_SameRules.calls k1 _ _ x7_1 _ _ t413 false _ ?side1 ?side2 ?side3 ?side4 A49.out).mono ?_); (case side1 => repeat (first | exact (Kd.R_reads' HO_7.out).2.2 | (with_reducible refine Kd.C_alloc ?_ _) | (with_reducible refine Kd.C_drewN ?_ _) | (with_reducible refine Kd.C_drew ?_))); (case side2 => exact (Kd.R_reads' HO_7.out).2.1); (case side3 => repeat (first | exact (Kd.R_reads' HO_5.out).2.2 | (with_reducible refine Kd.C_alloc ?_ _) | (with_reducible refine Kd.C_drewN ?_ _) | (with_reducible refine Kd.C_drew ?_))); (case side4 => exact (Kd.R_reads' HO_5.out).2.1); rintro e w' ⟨rfl, ⟨nd, rfl⟩⟩; (try first | exact ⟨rfl, _, World.drewN_drewN _ _ _⟩ | exact ⟨rfl, _, Eq.trans (World.drewN_drewN _ _ _) (congrArg (World.drewN _) (Nat.add_assoc _ _ _))⟩)))
       repeat (go_quiet (first | (go_at_call 13; (with_reducible refine (impl_SameRules.calls k1 _ _ x7_1 _ _ t413 false _ ?side1 ?side2 ?side3 ?side4 A49.out).mono ?_); (case side1 => repeat (first | exact (Kd.R_reads' HO_7.out).2.2 | (with_reducible refine Kd.C_alloc ?_ _) | (with_reducible refine Kd.C_drewN ?_ _) | (with_reducible refine Kd.C_drew ?_))); (case side2 => exact (Kd.R_reads' HO_7.out).2.1); (case side3 => repeat (first | exact (Kd.R_reads' HO_5.out).2.2 | (with_reducible refine Kd.C_alloc ?_ _) | (with_reducible refine Kd.C_drewN ?_ _) | (with_reducible refine Kd.C_drew ?_))); (case side4 => exact (Kd.R_reads' HO_5.out).2.1); rintro e w' ⟨rfl, ⟨nd, rfl⟩⟩; (try first | exact ⟨rfl, _, World.drewN_drewN _ _ _⟩ | exact ⟨rfl, _, Eq.trans (World.drewN_drewN _ _ _) (congrArg (World.drewN _) (Nat.add_assoc _ _ _))⟩))); try go_wp2_with (first | (go_at_call 13; (with_reducible refine (impl_SameRules.calls k1 _ _ x7_1 _ _ t413 false _ ?side1 ?side2 ?side3 ?side4 A49.out).mono ?_); (case side1 => repeat (first | exact (Kd.R_reads' HO_7.out).2.2 | (with_reducible refine Kd.C_alloc ?_ _) | (with_reducible refine Kd.C_drewN ?_ _) | (with_reducible refine Kd.C_drew ?_))); (case side2 => exact (Kd.R_reads' HO_7.out).2.1); (case side3 => repeat (first | exact (Kd.R_reads' HO_5.out).2.2 | (with_reducible refine Kd.C_alloc ?_ _) | (with_reducible refine Kd.C_drewN ?_ _) | (with_reducible refine Kd.C_drew ?_))); (case side4 => exact (Kd.R_reads' HO_5.out).2.1); rintro e w' ⟨rfl, ⟨nd, rfl⟩⟩; (try first | exact ⟨rfl, _, World.drewN_drewN _ _ _⟩ | exact ⟨rfl, _, Eq.trans (World.drewN_drewN _ _ _) (congrArg (World.drewN _) (Nat.add_assoc _ _ _))⟩))))
       go_meet
       case rel => exact ⟨_, (true), (by first | rfl | (simp; done) | (simp [*]; done)), H', ⟨by have := HK1.out; first | omega | exact Nat.le_refl _⟩, ⟨by (with_reducible repeat (first | apply Kd.R_alloc | apply Kd.R_drewN | apply Kd.R_drew)); exact Kd.R_mono HO_5.out (fun _ hk => trivial)⟩, ⟨by (with_reducible repeat (first | apply Kd.R_alloc | apply Kd.R_drewN | apply Kd.R_drew)); exact Kd.R_mono HO436.out (fun _ hk => hk.2)⟩, ⟨by (with_reducible repeat (first | apply Kd.R_alloc | apply Kd.R_drewN | apply Kd.R_drew)); exact HO440.out⟩, ⟨by (with_reducible repeat (first | apply Kd.R_alloc | apply Kd.R_drewN | apply Kd.R_drew)); exact Kd.R_mono HO444.out (fun _ hk => hk.2)⟩, ⟨by repeat (first | (with_reducible first | exact HB.out | apply below_alloc | apply pw_below_drewN | apply below_drew1) | exact HB.out)⟩⟩
     case rest =>
      as_aux_lemma =>
      clear HC45
      (try clear c1);(try clear c2);(try clear p2);(try clear c3);(try clear c4);(try clear p4);(try clear q4);(try clear hx4);(try clear c5);(try clear p6);(try clear c12);(try clear c12b0);(try clear c13);(try clear c13b0);(try clear c14);(try clear c14b0);(try clear c17);(try clear c18);(try clear c20);(try clear c21);(try clear p42);(try clear q42);(try clear hx42);(try clear c50);(try clear c51);(try clear c52);(try clear hcz25_0);(try clear hcz25_1);(try clear hcz25_2);(try clear hcz25_3);(try clear hcz27_0);(try clear hcz27_1);(try clear hcz27_2);(try clear hcz27_3);(try clear hcz32_0);(try clear hcz32_1);(try clear hcz32_2);(try clear hcz32_3);(try clear hcz37_0);(try clear hcz37_1);(try clear hcz37_2);(try clear hcz37_3);(try clear hcz41_0);(try clear hcz41_1);(try clear hcz41_2);(try clear hcz41_3);(try clear hfz25_0);(try clear hfz25_1);(try clear hfz25_2);(try clear hfz25_3);(try clear hfz27_0);(try clear hfz27_1);(try clear hfz27_2);(try clear hfz27_3);(try clear hfz32_0);(try clear hfz32_1);(try clear hfz32_2);(try clear hfz32_3);(try clear hfz37_0);(try clear hfz37_1);(try clear hfz37_2);(try clear hfz37_3);(try clear hfz41_0);(try clear hfz41_1);(try clear hfz41_2);(try clear hfz41_3);(try clear hx420_0);(try clear hx420_1);(try clear hx420_2);(try clear hx420_3);(try clear p2);(try clear p420);(try clear q420)
      obtain ⟨kq, x107_44, rfl, HA, HJ44, HO_5, HO_13, HO_15, HO_17, HB⟩ := hcut
      cases kq with
      | zero => exact absurd HA.out (by simp [laws_FnRulesRead.j1])
      | succ kj44 =>
       have H := HA.out
       clear HA
       simp only [laws_FnRulesRead.j1] at H
       by_cases c57 : x107_44 = true
       ·subst c57
        have H1 : (some false) = some r := by rw [if_pos rfl] at H; exact H
        exact absurd ((Option.some.inj H1).trans HRT_.out) (by decide)
       ·replace c57 := Bool.eq_false_iff.mpr c57
        subst c57
        have H1 : (laws_FnRulesRead.l1 kj44 t413 t416 t433 t437 t441 0 (t433.length : Int) 0) = some r := by rw [if_neg (show ¬ (false = true) by decide)] at H; exact H
        clear H
        have H := H1
        clear H1
        have H' := Aside0.mk H
        clear H
        obtain ⟨Ao58, co58, eo58⟩ := Kd.R_slice HO_13.out
        subst eo58
        go_wp2
        repeat (go_quiet (fail); try go_wp2)
        go_loopg [19, 110] kj44 (fun kq v19 v110 w' => ∃ (x19_3 : Int) (x110_3 : Int), v19 = .int .i64 x19_3 ∧ v110 = .int .i64 x110_3 ∧ Aside0 (laws_FnRulesRead.l1 kq t413 t416 t433 t437 t441 x19_3 (t433.length : Int) x110_3 = some r) ∧ Aside0 (kq ≤ kj44) ∧ Aside0 (Kd.R k30 30 w' w.heap.size (fun _ => True) (.slice Ao11 t413.length co11) t413) ∧ Aside0 (Kd.R (Kd.int .i64) 2 w' w.heap.size (fun k_ => some k_ ≠ (v443 : Value).ownBlock) (.slice Ao58 t433.length co58) t433) ∧ Aside0 (Kd.R Kd.string 9 w' w.heap.size (fun _ => True) v439 t437) ∧ Aside0 (Kd.R (Kd.int .i64) 2 w' w.heap.size (fun k_ => some k_ ≠ ((.slice Ao58 t433.length co58) : Value).ownBlock) v443 t441) ∧ Aside0 (Below w.heap.size w w'))
        case atStart => exact ⟨(0), (0), (by first | rfl | (simp; done) | (simp [*]; done)), (by first | rfl | (simp; done) | (simp [*]; done)), H', ⟨Nat.le_refl _⟩, ⟨by (with_reducible repeat (first | apply Kd.R_alloc | apply Kd.R_drewN | apply Kd.R_drew)); exact HO_5.out⟩, ⟨by (with_reducible repeat (first | apply Kd.R_alloc | apply Kd.R_drewN | apply Kd.R_drew)); exact HO_13.out⟩, ⟨by (with_reducible repeat (first | apply Kd.R_alloc | apply Kd.R_drewN | apply Kd.R_drew)); exact HO_15.out⟩, ⟨by (with_reducible repeat (first | apply Kd.R_alloc | apply Kd.R_drewN | apply Kd.R_drew)); exact HO_17.out⟩, ⟨by repeat (first | (with_reducible first | exact HB.out | apply below_alloc | apply pw_below_drewN | apply below_drew1) | exact HB.out)⟩⟩
        case round =>
         as_aux_lemma =>
         clear H'
         (try clear c1);(try clear c2);(try clear p2);(try clear c3);(try clear c4);(try clear p4);(try clear q4);(try clear hx4);(try clear c5);(try clear p6);(try clear c12);(try clear c12b0);(try clear c13);(try clear c13b0);(try clear c14);(try clear c14b0);(try clear c17);(try clear c18);(try clear c20);(try clear c21);(try clear p42);(try clear q42);(try clear hx42);(try clear c50);(try clear c51);(try clear c52);(try clear c57);(try clear hcz25_0);(try clear hcz25_1);(try clear hcz25_2);(try clear hcz25_3);(try clear hcz27_0);(try clear hcz27_1);(try clear hcz27_2);(try clear hcz27_3);(try clear hcz32_0);(try clear hcz32_1);(try clear hcz32_2);(try clear hcz32_3);(try clear hcz37_0);(try clear hcz37_1);(try clear hcz37_2);(try clear hcz37_3);(try clear hcz41_0);(try clear hcz41_1);(try clear hcz41_2);(try clear hcz41_3);(try clear hfz25_0);(try clear hfz25_1);(try clear hfz25_2);(try clear hfz25_3);(try clear hfz27_0);(try clear hfz27_1);(try clear hfz27_2);(try clear hfz27_3);(try clear hfz32_0);(try clear hfz32_1);(try clear hfz32_2);(try clear hfz32_3);(try clear hfz37_0);(try clear hfz37_1);(try clear hfz37_2);(try clear hfz37_3);(try clear hfz41_0);(try clear hfz41_1);(try clear hfz41_2);(try clear hfz41_3);(try clear hx420_0);(try clear hx420_1);(try clear hx420_2);(try clear hx420_3);(try clear p2);(try clear p4);(try clear p42);(try clear p420);(try clear p6);(try clear q4);(try clear q42);(try clear q420)
         obtain ⟨x19_3, x110_3, rfl, rfl, HA, HK3, HO_5, HO_13, HO_15, HO_17, HB⟩ := hrel
         cases gk with
         | zero => exact absurd HA.out (by simp [laws_FnRulesRead.l1])
         | succ k3 =>
          have H := HA.out
          clear HA
          simp only [laws_FnRulesRead.l1] at H
          by_cases c59 : x110_3 < (t433.length : Int)
          ·rw [if_pos c59] at H
           have c59b0 : decide (x110_3 < (t433.length : Int)) = true := decide_eq_true c59
           clear c59
           by_cases c60 : 0 ≤ x110_3
           ·rw [if_pos c60] at H
            have c60b0 : decide (0 ≤ x110_3) = true := decide_eq_true c60
            clear c60
            by_cases c61 : x110_3 < (t433.length : Int)
            ·rw [if_pos c61] at H
             have c61b0 : decide (x110_3 < (t433.length : Int)) = true := decide_eq_true c61
             clear c61
             have HC62 := Aside0.mk H
             clear H
             have p446 : 0 ≤ (x110_3 : Int) := of_decide_eq_true (by first | (with_reducible assumption) | assumption)
             have q446 : x110_3 < (t433.length : Int) := of_decide_eq_true (by first | (with_reducible assumption) | assumption)
             obtain ⟨ad446, e446, hx446_0⟩ := Kd.at_int (Kd.R_reads' HO_13.out).2.2 x110_3 p446 q446
             cases e446
             replace p446 := eq_true p446
             replace q446 := eq_true q446
             go_upto_region 25 with (fail)
             repeat (go_quiet (fail); go_upto_region 25 with (fail))
             go_cut [134] (fun v134 wc => ∃ (kq : Nat) (x134_61 : Bool), v134 = .bool x134_61 ∧ Aside0 (laws_FnRulesRead.j3 kq t413 t416 t433 t437 t441 x19_3 (rd t433 x110_3) (t433.length : Int) x110_3 x134_61 = some r) ∧ Aside0 (kq ≤ k3) ∧ Aside0 (Kd.R k30 30 wc w.heap.size (fun _ => True) (.slice Ao11 t413.length co11) t413) ∧ Aside0 (Kd.R (Kd.int .i64) 2 wc w.heap.size (fun k_ => some k_ ≠ (v443 : Value).ownBlock) (.slice (some ad446) t433.length co58) t433) ∧ Aside0 (Kd.R Kd.string 9 wc w.heap.size (fun _ => True) v439 t437) ∧ Aside0 (Kd.R (Kd.int .i64) 2 wc w.heap.size (fun k_ => some k_ ≠ ((.slice (some ad446) t433.length co58) : Value).ownBlock) v443 t441) ∧ Aside0 (Below w.heap.size w wc))
             case first =>
              as_aux_lemma =>
              have H := HC62.out
              clear HC62
              by_cases c63 : (rd t433 x110_3) < 0
              ·rw [if_pos c63] at H
               have c63b0 : decide ((rd t433 x110_3) < 0) = true := decide_eq_true c63
               clear c63
               (first | rw [c63b0] | (simp only [i64_w, i32_w]; rw [c63b0]) | skip)
               have H' := Aside0.mk H
               clear H
               go_wp2
               repeat (go_quiet (fail); try go_wp2)
               go_meet
               case rel => exact ⟨_, (true), (by first | rfl | (simp; done) | (simp [*]; done)), H', ⟨by have := HK1.out; have := HJ44.out; have := HK3.out; first | omega | exact Nat.le_refl _⟩, ⟨by (with_reducible repeat (first | apply Kd.R_alloc | apply Kd.R_drewN | apply Kd.R_drew)); exact HO_5.out⟩, ⟨by (with_reducible repeat (first | apply Kd.R_alloc | apply Kd.R_drewN | apply Kd.R_drew)); exact HO_13.out⟩, ⟨by (with_reducible repeat (first | apply Kd.R_alloc | apply Kd.R_drewN | apply Kd.R_drew)); exact HO_15.out⟩, ⟨by (with_reducible repeat (first | apply Kd.R_alloc | apply Kd.R_drewN | apply Kd.R_drew)); exact HO_17.out⟩, ⟨by repeat (first | (with_reducible first | exact HB.out | apply below_alloc | apply pw_below_drewN | apply below_drew1) | exact HB.out)⟩⟩
              ·rw [if_neg c63] at H
               have c63b0 : decide ((rd t433 x110_3) < 0) = false := decide_eq_false c63
               clear c63
               (first | rw [c63b0] | (simp only [i64_w, i32_w]; rw [c63b0]) | skip)
               by_cases c64 : (rd t433 x110_3) ≥ (t413.length : Int)
               ·rw [if_pos c64] at H
                have c64b0 : decide ((t413.length : Int) ≤ (rd t433 x110_3)) = true := decide_eq_true c64
                clear c64
                have H' := Aside0.mk H
                clear H
                go_wp2
                repeat (go_quiet (fail); try go_wp2)
                go_meet
                case rel => exact ⟨_, (true), (by first | rfl | (simp; done) | (simp [*]; done)), H', ⟨by have := HK1.out; have := HJ44.out; have := HK3.out; first | omega | exact Nat.le_refl _⟩, ⟨by (with_reducible repeat (first | apply Kd.R_alloc | apply Kd.R_drewN | apply Kd.R_drew)); exact HO_5.out⟩, ⟨by (with_reducible repeat (first | apply Kd.R_alloc | apply Kd.R_drewN | apply Kd.R_drew)); exact HO_13.out⟩, ⟨by (with_reducible repeat (first | apply Kd.R_alloc | apply Kd.R_drewN | apply Kd.R_drew)); exact HO_15.out⟩, ⟨by (with_reducible repeat (first | apply Kd.R_alloc | apply Kd.R_drewN | apply Kd.R_drew)); exact HO_17.out⟩, ⟨by repeat (first | (with_reducible first | exact HB.out | apply below_alloc | apply pw_below_drewN | apply below_drew1) | exact HB.out)⟩⟩
               ·rw [if_neg c64] at H
                have c64b0 : decide ((t413.length : Int) ≤ (rd t433 x110_3)) = false := decide_eq_false c64
                clear c64
                by_cases c65 : 0 ≤ (rd t433 x110_3)
                ·rw [if_pos c65] at H
                 have c65b0 : decide (0 ≤ (rd t433 x110_3)) = true := decide_eq_true c65
                 clear c65
                 by_cases c66 : (rd t433 x110_3) < (t413.length : Int)
                 ·rw [if_pos c66] at H
                  have c66b0 : decide ((rd t433 x110_3) < (t413.length : Int)) = true := decide_eq_true c66
                  clear c66
                  replace H := Option.bind_eq_some_iff.mp H
                  obtain ⟨t448, A670, H⟩ := H
                  replace H : (laws_FnRulesRead.j3 k3 t413 t416 t433 t437 t441 x19_3 (rd t433 x110_3) (t433.length : Int) x110_3 (!t448)) = some r := H
                  have A67 := Aside0.mk A670
                  clear A670
                  have H' := Aside0.mk H
                  clear H
                  have p447 : 0 ≤ ((rd t433 x110_3) : Int) := of_decide_eq_true (by first | (with_reducible assumption) | assumption)
                  have q447 : (rd t433 x110_3) < (t413.length : Int) := of_decide_eq_true (by first | (with_reducible assumption) | assumption)
                  obtain ⟨ad447, e447, hx447_0, hx447_1, hx447_2, hx447_3⟩ := at_T30 (Kd.R_reads' HO_5.out).2.2 (rd t433 x110_3) p447 q447
                  cases e447
                  replace p447 := eq_true p447
                  replace q447 := eq_true q447
                  go_wp2_with (first | (go_at_call 14; (with_reducible refine (impl_MatchesAt.calls k3 ((rd_T30 t413 (rd t433 x110_3)).f0) ((rd_T30 t413 (rd t433 x110_3)).f1) ((rd_T30 t413 (rd t433 x110_3)).f2) ((rd_T30 t413 (rd t433 x110_3)).f3) t416 x19_3 t448 _ A67.out).mono ?_); rintro e w68 ⟨rfl, hb⟩; have n0_ := Aside0.mk (Kd.R_below (by (with_reducible repeat (first | apply Kd.R_alloc | apply Kd.R_drewN | apply Kd.R_drew)); exact HO_5.out) hb); have n1_ := Aside0.mk (Kd.R_below (by (with_reducible repeat (first | apply Kd.R_alloc | apply Kd.R_drewN | apply Kd.R_drew)); exact HO_13.out) hb); have n2_ := Aside0.mk (Kd.R_below (by (with_reducible repeat (first | apply Kd.R_alloc | apply Kd.R_drewN | apply Kd.R_drew)); exact HO_15.out) hb); have n3_ := Aside0.mk (Kd.R_below (by (with_reducible repeat (first | apply Kd.R_alloc | apply Kd.R_drewN | apply Kd.R_drew)); exact HO_17.out) hb); have n4_ := Aside0.mk (below_step (by repeat (first | (with_reducible first | exact HB.out | apply below_alloc | apply pw_below_drewN | apply below_drew1) | exact HB.out)) hb); clear HO_5; clear HO_13; clear HO_15; clear HO_17; clear HB; have HO_5 := n0_; have HO_13 := n1_; have HO_15 := n2_; have HO_17 := n3_; have HB := n4_; clear n0_ n1_ n2_ n3_ n4_; (try clear hb); (try clear hb2); (try clear hk); (try clear hi)))
                  repeat (go_quiet (first | (go_at_call 14; (with_reducible refine (impl_MatchesAt.calls k3 ((rd_T30 t413 (rd t433 x110_3)).f0) ((rd_T30 t413 (rd t433 x110_3)).f1) ((rd_T30 t413 (rd t433 x110_3)).f2) ((rd_T30 t413 (rd t433 x110_3)).f3) t416 x19_3 t448 _ A67.out).mono ?_); rintro e w68 ⟨rfl, hb⟩; have n0_ := Aside0.mk (Kd.R_below (by (with_reducible repeat (first | apply Kd.R_alloc | apply Kd.R_drewN | apply Kd.R_drew)); exact HO_5.out) hb); have n1_ := Aside0.mk (Kd.R_below (by (with_reducible repeat (first | apply Kd.R_alloc | apply Kd.R_drewN | apply Kd.R_drew)); exact HO_13.out) hb); have n2_ := Aside0.mk (Kd.R_below (by (with_reducible repeat (first | apply Kd.R_alloc | apply Kd.R_drewN | apply Kd.R_drew)); exact HO_15.out) hb); have n3_ := Aside0.mk (Kd.R_below (by (with_reducible repeat (first | apply Kd.R_alloc | apply Kd.R_drewN | apply Kd.R_drew)); exact HO_17.out) hb); have n4_ := Aside0.mk (below_step (by repeat (first | (with_reducible first | exact HB.out | apply below_alloc | apply pw_below_drewN | apply below_drew1) | exact HB.out)) hb); clear HO_5; clear HO_13; clear HO_15; clear HO_17; clear HB; have HO_5 := n0_; have HO_13 := n1_; have HO_15 := n2_; have HO_17 := n3_; have HB := n4_; clear n0_ n1_ n2_ n3_ n4_; (try clear hb); (try clear hb2); (try clear hk); (try clear hi))); try go_wp2_with (first | (go_at_call 14; (with_reducible refine (impl_MatchesAt.calls k3 ((rd_T30 t413 (rd t433 x110_3)).f0) ((rd_T30 t413 (rd t433 x110_3)).f1) ((rd_T30 t413 (rd t433 x110_3)).f2) ((rd_T30 t413 (rd t433 x110_3)).f3) t416 x19_3 t448 _ A67.out).mono ?_); rintro e w68 ⟨rfl, hb⟩; have n0_ := Aside0.mk (Kd.R_below (by (with_reducible repeat (first | apply Kd.R_alloc | apply Kd.R_drewN | apply Kd.R_drew)); exact HO_5.out) hb); have n1_ := Aside0.mk (Kd.R_below (by (with_reducible repeat (first | apply Kd.R_alloc | apply Kd.R_drewN | apply Kd.R_drew)); exact HO_13.out) hb); have n2_ := Aside0.mk (Kd.R_below (by (with_reducible repeat (first | apply Kd.R_alloc | apply Kd.R_drewN | apply Kd.R_drew)); exact HO_15.out) hb); have n3_ := Aside0.mk (Kd.R_below (by (with_reducible repeat (first | apply Kd.R_alloc | apply Kd.R_drewN | apply Kd.R_drew)); exact HO_17.out) hb); have n4_ := Aside0.mk (below_step (by repeat (first | (with_reducible first | exact HB.out | apply below_alloc | apply pw_below_drewN | apply below_drew1) | exact HB.out)) hb); clear HO_5; clear HO_13; clear HO_15; clear HO_17; clear HB; have HO_5 := n0_; have HO_13 := n1_; have HO_15 := n2_; have HO_17 := n3_; have HB := n4_; clear n0_ n1_ n2_ n3_ n4_; (try clear hb); (try clear hb2); (try clear hk); (try clear hi))))
                  go_meet
                  case rel => exact ⟨_, (!t448), (by first | rfl | (simp; done) | (simp [*]; done)), H', ⟨by have := HK1.out; have := HJ44.out; have := HK3.out; first | omega | exact Nat.le_refl _⟩, ⟨by (with_reducible repeat (first | apply Kd.R_alloc | apply Kd.R_drewN | apply Kd.R_drew)); exact HO_5.out⟩, ⟨by (with_reducible repeat (first | apply Kd.R_alloc | apply Kd.R_drewN | apply Kd.R_drew)); exact HO_13.out⟩, ⟨by (with_reducible repeat (first | apply Kd.R_alloc | apply Kd.R_drewN | apply Kd.R_drew)); exact HO_15.out⟩, ⟨by (with_reducible repeat (first | apply Kd.R_alloc | apply Kd.R_drewN | apply Kd.R_drew)); exact HO_17.out⟩, ⟨by repeat (first | (with_reducible first | exact HB.out | apply below_alloc | apply pw_below_drewN | apply below_drew1) | exact HB.out)⟩⟩
                 ·rw [if_neg c66] at H
                  exact absurd H (by simp)
                ·rw [if_neg c65] at H
                 exact absurd H (by simp)
             case rest =>
              as_aux_lemma =>
              clear HC62
              (try clear c1);(try clear c2);(try clear p2);(try clear c3);(try clear c4);(try clear p4);(try clear q4);(try clear hx4);(try clear c5);(try clear c6);(try clear p6);(try clear c12);(try clear c12b0);(try clear c13);(try clear c13b0);(try clear c14);(try clear c14b0);(try clear c17);(try clear c18);(try clear c20);(try clear c21);(try clear p42);(try clear q42);(try clear hx42);(try clear p44);(try clear q44);(try clear hx44);(try clear c50);(try clear c51);(try clear c52);(try clear c57);(try clear c59);(try clear c59b0);(try clear c60);(try clear c60b0);(try clear c61);(try clear c61b0);(try clear c63);(try clear c63b0);(try clear c64);(try clear c64b0);(try clear p64);(try clear c65);(try clear c65b0);(try clear c66);(try clear c66b0);(try clear hcz25_0);(try clear hcz25_1);(try clear hcz25_2);(try clear hcz25_3);(try clear hcz27_0);(try clear hcz27_1);(try clear hcz27_2);(try clear hcz27_3);(try clear hcz32_0);(try clear hcz32_1);(try clear hcz32_2);(try clear hcz32_3);(try clear hcz37_0);(try clear hcz37_1);(try clear hcz37_2);(try clear hcz37_3);(try clear hcz41_0);(try clear hcz41_1);(try clear hcz41_2);(try clear hcz41_3);(try clear hfz25_0);(try clear hfz25_1);(try clear hfz25_2);(try clear hfz25_3);(try clear hfz27_0);(try clear hfz27_1);(try clear hfz27_2);(try clear hfz27_3);(try clear hfz32_0);(try clear hfz32_1);(try clear hfz32_2);(try clear hfz32_3);(try clear hfz37_0);(try clear hfz37_1);(try clear hfz37_2);(try clear hfz37_3);(try clear hfz41_0);(try clear hfz41_1);(try clear hfz41_2);(try clear hfz41_3);(try clear hx420_0);(try clear hx420_1);(try clear hx420_2);(try clear hx420_3);(try clear hx446_0);(try clear hx447_0);(try clear hx447_1);(try clear hx447_2);(try clear hx447_3);(try clear p2);(try clear p4);(try clear p42);(try clear p420);(try clear p446);(try clear p447);(try clear p6);(try clear q4);(try clear q42);(try clear q420);(try clear q446);(try clear q447)
              obtain ⟨kq, x134_61, rfl, HA, HJ61, HO_5, HO_13, HO_15, HO_17, HB⟩ := hcut
              cases kq with
              | zero => exact absurd HA.out (by simp [laws_FnRulesRead.j3])
              | succ kj61 =>
               have H := HA.out
               clear HA
               simp only [laws_FnRulesRead.j3] at H
               by_cases c69 : x134_61 = true
               ·subst c69
                have H1 : (some false) = some r := by rw [if_pos rfl] at H; exact H
                exact absurd ((Option.some.inj H1).trans HRT_.out) (by decide)
               ·replace c69 := Bool.eq_false_iff.mpr c69
                subst c69
                have H1 : (laws_FnRulesRead.l2 kj61 t413 t416 t433 t437 t441 x19_3 (rd t433 x110_3) 0 (t433.length : Int) x110_3) = some r := by rw [if_neg (show ¬ (false = true) by decide)] at H; exact H
                clear H
                have H := H1
                clear H1
                have H' := Aside0.mk H
                clear H
                go_wp2
                repeat (go_quiet (fail); try go_wp2)
                go_loopg [22] kj61 (fun kq v22 w' => ∃ (x22_5 : Int), v22 = .int .i64 x22_5 ∧ Aside0 (laws_FnRulesRead.l2 kq t413 t416 t433 t437 t441 x19_3 (rd t433 x110_3) x22_5 (t433.length : Int) x110_3 = some r) ∧ Aside0 (kq ≤ kj61) ∧ Aside0 (Kd.R k30 30 w' w.heap.size (fun _ => True) (.slice Ao11 t413.length co11) t413) ∧ Aside0 (Kd.R (Kd.int .i64) 2 w' w.heap.size (fun k_ => some k_ ≠ (v443 : Value).ownBlock) (.slice (some ad446) t433.length co58) t433) ∧ Aside0 (Kd.R Kd.string 9 w' w.heap.size (fun _ => True) v439 t437) ∧ Aside0 (Kd.R (Kd.int .i64) 2 w' w.heap.size (fun k_ => some k_ ≠ ((.slice (some ad446) t433.length co58) : Value).ownBlock) v443 t441) ∧ Aside0 (Below w.heap.size w w'))
                case atStart => exact ⟨(0), (by first | rfl | (simp; done) | (simp [*]; done)), H', ⟨Nat.le_refl _⟩, ⟨by (with_reducible repeat (first | apply Kd.R_alloc | apply Kd.R_drewN | apply Kd.R_drew)); exact HO_5.out⟩, ⟨by (with_reducible repeat (first | apply Kd.R_alloc | apply Kd.R_drewN | apply Kd.R_drew)); exact HO_13.out⟩, ⟨by (with_reducible repeat (first | apply Kd.R_alloc | apply Kd.R_drewN | apply Kd.R_drew)); exact HO_15.out⟩, ⟨by (with_reducible repeat (first | apply Kd.R_alloc | apply Kd.R_drewN | apply Kd.R_drew)); exact HO_17.out⟩, ⟨by repeat (first | (with_reducible first | exact HB.out | apply below_alloc | apply pw_below_drewN | apply below_drew1) | exact HB.out)⟩⟩
                case round =>
                 as_aux_lemma =>
                 clear H'
                 (try clear c1);(try clear c2);(try clear p2);(try clear c3);(try clear c4);(try clear p4);(try clear q4);(try clear hx4);(try clear c5);(try clear c6);(try clear p6);(try clear c12);(try clear c12b0);(try clear c13);(try clear c13b0);(try clear c14);(try clear c14b0);(try clear c17);(try clear c18);(try clear c20);(try clear c21);(try clear p42);(try clear q42);(try clear hx42);(try clear p44);(try clear q44);(try clear hx44);(try clear c50);(try clear c51);(try clear c52);(try clear c57);(try clear c59);(try clear c59b0);(try clear c60);(try clear c60b0);(try clear c61);(try clear c61b0);(try clear c63);(try clear c63b0);(try clear c64);(try clear c64b0);(try clear p64);(try clear c65);(try clear c65b0);(try clear c66);(try clear c66b0);(try clear c69);(try clear hcz25_0);(try clear hcz25_1);(try clear hcz25_2);(try clear hcz25_3);(try clear hcz27_0);(try clear hcz27_1);(try clear hcz27_2);(try clear hcz27_3);(try clear hcz32_0);(try clear hcz32_1);(try clear hcz32_2);(try clear hcz32_3);(try clear hcz37_0);(try clear hcz37_1);(try clear hcz37_2);(try clear hcz37_3);(try clear hcz41_0);(try clear hcz41_1);(try clear hcz41_2);(try clear hcz41_3);(try clear hfz25_0);(try clear hfz25_1);(try clear hfz25_2);(try clear hfz25_3);(try clear hfz27_0);(try clear hfz27_1);(try clear hfz27_2);(try clear hfz27_3);(try clear hfz32_0);(try clear hfz32_1);(try clear hfz32_2);(try clear hfz32_3);(try clear hfz37_0);(try clear hfz37_1);(try clear hfz37_2);(try clear hfz37_3);(try clear hfz41_0);(try clear hfz41_1);(try clear hfz41_2);(try clear hfz41_3);(try clear hx420_0);(try clear hx420_1);(try clear hx420_2);(try clear hx420_3);(try clear hx446_0);(try clear hx447_0);(try clear hx447_1);(try clear hx447_2);(try clear hx447_3);(try clear p2);(try clear p4);(try clear p42);(try clear p420);(try clear p44);(try clear p446);(try clear p447);(try clear p6);(try clear p64);(try clear q4);(try clear q42);(try clear q420);(try clear q44);(try clear q446);(try clear q447)
                 obtain ⟨x22_5, rfl, HA, HK5, HO_5, HO_13, HO_15, HO_17, HB⟩ := hrel
                 cases gk with
                 | zero => exact absurd HA.out (by simp [laws_FnRulesRead.l2])
                 | succ k5 =>
                  have H := HA.out
                  clear HA
                  simp only [laws_FnRulesRead.l2] at H
                  by_cases c70 : x22_5 < (rd t433 x110_3)
                  ·rw [if_pos c70] at H
                   have c70b0 : decide (x22_5 < (rd t433 x110_3)) = true := decide_eq_true c70
                   clear c70
                   by_cases c71 : 0 ≤ x22_5
                   ·rw [if_pos c71] at H
                    have c71b0 : decide (0 ≤ x22_5) = true := decide_eq_true c71
                    clear c71
                    by_cases c72 : x22_5 < (t413.length : Int)
                    ·rw [if_pos c72] at H
                     have c72b0 : decide (x22_5 < (t413.length : Int)) = true := decide_eq_true c72
                     clear c72
                     replace H := Option.bind_eq_some_iff.mp H
                     obtain ⟨t450, A730, H⟩ := H
                     replace H : (if t450 = true then (some false) else (laws_FnRulesRead.l2 k5 t413 t416 t433 t437 t441 x19_3 (rd t433 x110_3) (wrap64 (x22_5 + 1)) (t433.length : Int) x110_3)) = some r := H
                     have A73 := Aside0.mk A730
                     clear A730
                     by_cases c74 : t450 = true
                     ·subst c74
                      have H1 : (some false) = some r := by rw [if_pos rfl] at H; exact H
                      exact absurd ((Option.some.inj H1).trans HRT_.out) (by decide)
                     ·replace c74 := Bool.eq_false_iff.mpr c74
                      subst c74
                      have H1 : (laws_FnRulesRead.l2 k5 t413 t416 t433 t437 t441 x19_3 (rd t433 x110_3) (wrap64 (x22_5 + 1)) (t433.length : Int) x110_3) = some r := by rw [if_neg (show ¬ (false = true) by decide)] at H; exact H
                      clear H
                      have H := H1
                      clear H1
                      have H' := Aside0.mk H
                      clear H
                      have p449 : 0 ≤ (x22_5 : Int) := of_decide_eq_true (by first | (with_reducible assumption) | assumption)
                      have q449 : x22_5 < (t413.length : Int) := of_decide_eq_true (by first | (with_reducible assumption) | assumption)
                      obtain ⟨ad449, e449, hx449_0, hx449_1, hx449_2, hx449_3⟩ := at_T30 (Kd.R_reads' HO_5.out).2.2 x22_5 p449 q449
                      cases e449
                      replace p449 := eq_true p449
                      replace q449 := eq_true q449
                      go_wp2_with (first | (go_at_call 14; (with_reducible refine (impl_MatchesAt.calls k5 ((rd_T30 t413 x22_5).f0) ((rd_T30 t413 x22_5).f1) ((rd_T30 t413 x22_5).f2) ((rd_T30 t413 x22_5).f3) t416 x19_3 false _ A73.out).mono ?_); rintro e w76 ⟨rfl, hb⟩; have n0_ := Aside0.mk (Kd.R_below (by (with_reducible repeat (first | apply Kd.R_alloc | apply Kd.R_drewN | apply Kd.R_drew)); exact HO_5.out) hb); have n1_ := Aside0.mk (Kd.R_below (by (with_reducible repeat (first | apply Kd.R_alloc | apply Kd.R_drewN | apply Kd.R_drew)); exact HO_13.out) hb); have n2_ := Aside0.mk (Kd.R_below (by (with_reducible repeat (first | apply Kd.R_alloc | apply Kd.R_drewN | apply Kd.R_drew)); exact HO_15.out) hb); have n3_ := Aside0.mk (Kd.R_below (by (with_reducible repeat (first | apply Kd.R_alloc | apply Kd.R_drewN | apply Kd.R_drew)); exact HO_17.out) hb); have n4_ := Aside0.mk (below_step (by repeat (first | (with_reducible first | exact HB.out | apply below_alloc | apply pw_below_drewN | apply below_drew1) | exact HB.out)) hb); clear HO_5; clear HO_13; clear HO_15; clear HO_17; clear HB; have HO_5 := n0_; have HO_13 := n1_; have HO_15 := n2_; have HO_17 := n3_; have HB := n4_; clear n0_ n1_ n2_ n3_ n4_; (try clear hb); (try clear hb2); (try clear hk); (try clear hi)))
                      repeat (go_quiet (first | (go_at_call 14; (with_reducible refine (impl_MatchesAt.calls k5 ((rd_T30 t413 x22_5).f0) ((rd_T30 t413 x22_5).f1) ((rd_T30 t413 x22_5).f2) ((rd_T30 t413 x22_5).f3) t416 x19_3 false _ A73.out).mono ?_); rintro e w76 ⟨rfl, hb⟩; have n0_ := Aside0.mk (Kd.R_below (by (with_reducible repeat (first | apply Kd.R_alloc | apply Kd.R_drewN | apply Kd.R_drew)); exact HO_5.out) hb); have n1_ := Aside0.mk (Kd.R_below (by (with_reducible repeat (first | apply Kd.R_alloc | apply Kd.R_drewN | apply Kd.R_drew)); exact HO_13.out) hb); have n2_ := Aside0.mk (Kd.R_below (by (with_reducible repeat (first | apply Kd.R_alloc | apply Kd.R_drewN | apply Kd.R_drew)); exact HO_15.out) hb); have n3_ := Aside0.mk (Kd.R_below (by (with_reducible repeat (first | apply Kd.R_alloc | apply Kd.R_drewN | apply Kd.R_drew)); exact HO_17.out) hb); have n4_ := Aside0.mk (below_step (by repeat (first | (with_reducible first | exact HB.out | apply below_alloc | apply pw_below_drewN | apply below_drew1) | exact HB.out)) hb); clear HO_5; clear HO_13; clear HO_15; clear HO_17; clear HB; have HO_5 := n0_; have HO_13 := n1_; have HO_15 := n2_; have HO_17 := n3_; have HB := n4_; clear n0_ n1_ n2_ n3_ n4_; (try clear hb); (try clear hb2); (try clear hk); (try clear hi))); try go_wp2_with (first | (go_at_call 14; (with_reducible refine (impl_MatchesAt.calls k5 ((rd_T30 t413 x22_5).f0) ((rd_T30 t413 x22_5).f1) ((rd_T30 t413 x22_5).f2) ((rd_T30 t413 x22_5).f3) t416 x19_3 false _ A73.out).mono ?_); rintro e w76 ⟨rfl, hb⟩; have n0_ := Aside0.mk (Kd.R_below (by (with_reducible repeat (first | apply Kd.R_alloc | apply Kd.R_drewN | apply Kd.R_drew)); exact HO_5.out) hb); have n1_ := Aside0.mk (Kd.R_below (by (with_reducible repeat (first | apply Kd.R_alloc | apply Kd.R_drewN | apply Kd.R_drew)); exact HO_13.out) hb); have n2_ := Aside0.mk (Kd.R_below (by (with_reducible repeat (first | apply Kd.R_alloc | apply Kd.R_drewN | apply Kd.R_drew)); exact HO_15.out) hb); have n3_ := Aside0.mk (Kd.R_below (by (with_reducible repeat (first | apply Kd.R_alloc | apply Kd.R_drewN | apply Kd.R_drew)); exact HO_17.out) hb); have n4_ := Aside0.mk (below_step (by repeat (first | (with_reducible first | exact HB.out | apply below_alloc | apply pw_below_drewN | apply below_drew1) | exact HB.out)) hb); clear HO_5; clear HO_13; clear HO_15; clear HO_17; clear HB; have HO_5 := n0_; have HO_13 := n1_; have HO_15 := n2_; have HO_17 := n3_; have HB := n4_; clear n0_ n1_ n2_ n3_ n4_; (try clear hb); (try clear hb2); (try clear hk); (try clear hi))))
                      go_roundg k5
                      case measure => have := HK1.out; have := HJ44.out; have := HK3.out; have := HJ61.out; have := HK5.out; omega
                      case rel => exact ⟨(wrap64 (x22_5 + 1)), (by first | rfl | (simp; done) | (simp [*]; done)), H', ⟨by have := HK1.out; have := HJ44.out; have := HK3.out; have := HJ61.out; have := HK5.out; omega⟩, ⟨by (with_reducible repeat (first | apply Kd.R_alloc | apply Kd.R_drewN | apply Kd.R_drew)); exact HO_5.out⟩, ⟨by (with_reducible repeat (first | apply Kd.R_alloc | apply Kd.R_drewN | apply Kd.R_drew)); exact HO_13.out⟩, ⟨by (with_reducible repeat (first | apply Kd.R_alloc | apply Kd.R_drewN | apply Kd.R_drew)); exact HO_15.out⟩, ⟨by (with_reducible repeat (first | apply Kd.R_alloc | apply Kd.R_drewN | apply Kd.R_drew)); exact HO_17.out⟩, ⟨by repeat (first | (with_reducible first | exact HB.out | apply below_alloc | apply pw_below_drewN | apply below_drew1) | exact HB.out)⟩⟩
                    ·rw [if_neg c72] at H
                     exact absurd H (by simp)
                   ·rw [if_neg c71] at H
                    exact absurd H (by simp)
                  ·rw [if_neg c70] at H
                   have c70b0 : decide (x22_5 < (rd t433 x110_3)) = false := decide_eq_false c70
                   clear c70
                   have H' := Aside0.mk H
                   clear H
                   obtain ⟨Ao77, co77, eo77⟩ := Kd.R_slice HO_17.out
                   subst eo77
                   go_wp2
                   repeat (go_quiet (fail); try go_wp2)
                   go_loopg [149] k5 (fun kq v149 w' => ∃ (x149_6 : Int), v149 = .int .i64 x149_6 ∧ Aside0 (laws_FnRulesRead.l3 kq t413 t416 t433 t437 t441 x19_3 (rd t433 x110_3) (t433.length : Int) x110_3 (t441.length : Int) x149_6 = some r) ∧ Aside0 (kq ≤ k5) ∧ Aside0 (Kd.R k30 30 w' w.heap.size (fun _ => True) (.slice Ao11 t413.length co11) t413) ∧ Aside0 (Kd.R (Kd.int .i64) 2 w' w.heap.size (fun k_ => some k_ ≠ ((.slice Ao77 t441.length co77) : Value).ownBlock) (.slice (some ad446) t433.length co58) t433) ∧ Aside0 (Kd.R Kd.string 9 w' w.heap.size (fun _ => True) v439 t437) ∧ Aside0 (Kd.R (Kd.int .i64) 2 w' w.heap.size (fun k_ => some k_ ≠ ((.slice (some ad446) t433.length co58) : Value).ownBlock) (.slice Ao77 t441.length co77) t441) ∧ Aside0 (Below w.heap.size w w'))
                   case atStart => exact ⟨(0), (by first | rfl | (simp; done) | (simp [*]; done)), H', ⟨Nat.le_refl _⟩, ⟨by (with_reducible repeat (first | apply Kd.R_alloc | apply Kd.R_drewN | apply Kd.R_drew)); exact HO_5.out⟩, ⟨by (with_reducible repeat (first | apply Kd.R_alloc | apply Kd.R_drewN | apply Kd.R_drew)); exact HO_13.out⟩, ⟨by (with_reducible repeat (first | apply Kd.R_alloc | apply Kd.R_drewN | apply Kd.R_drew)); exact HO_15.out⟩, ⟨by (with_reducible repeat (first | apply Kd.R_alloc | apply Kd.R_drewN | apply Kd.R_drew)); exact HO_17.out⟩, ⟨by repeat (first | (with_reducible first | exact HB.out | apply below_alloc | apply pw_below_drewN | apply below_drew1) | exact HB.out)⟩⟩
                   case round =>
                    as_aux_lemma =>
                    clear H'
                    (try clear c1);(try clear c2);(try clear p2);(try clear c3);(try clear c4);(try clear p4);(try clear q4);(try clear hx4);(try clear c5);(try clear c6);(try clear p6);(try clear c7);(try clear c12);(try clear c12b0);(try clear c13);(try clear c13b0);(try clear c14);(try clear c14b0);(try clear c17);(try clear c18);(try clear c20);(try clear c21);(try clear p42);(try clear q42);(try clear hx42);(try clear p44);(try clear q44);(try clear hx44);(try clear c50);(try clear c51);(try clear c52);(try clear c57);(try clear c59);(try clear c59b0);(try clear c60);(try clear c60b0);(try clear c61);(try clear c61b0);(try clear c63);(try clear c63b0);(try clear c64);(try clear c64b0);(try clear p64);(try clear c65);(try clear c65b0);(try clear c66);(try clear c66b0);(try clear c69);(try clear c70);(try clear c70b0);(try clear c71);(try clear c71b0);(try clear c72);(try clear c72b0);(try clear c74);(try clear hcz25_0);(try clear hcz25_1);(try clear hcz25_2);(try clear hcz25_3);(try clear hcz27_0);(try clear hcz27_1);(try clear hcz27_2);(try clear hcz27_3);(try clear hcz32_0);(try clear hcz32_1);(try clear hcz32_2);(try clear hcz32_3);(try clear hcz37_0);(try clear hcz37_1);(try clear hcz37_2);(try clear hcz37_3);(try clear hcz41_0);(try clear hcz41_1);(try clear hcz41_2);(try clear hcz41_3);(try clear hfz25_0);(try clear hfz25_1);(try clear hfz25_2);(try clear hfz25_3);(try clear hfz27_0);(try clear hfz27_1);(try clear hfz27_2);(try clear hfz27_3);(try clear hfz32_0);(try clear hfz32_1);(try clear hfz32_2);(try clear hfz32_3);(try clear hfz37_0);(try clear hfz37_1);(try clear hfz37_2);(try clear hfz37_3);(try clear hfz41_0);(try clear hfz41_1);(try clear hfz41_2);(try clear hfz41_3);(try clear hx420_0);(try clear hx420_1);(try clear hx420_2);(try clear hx420_3);(try clear hx446_0);(try clear hx447_0);(try clear hx447_1);(try clear hx447_2);(try clear hx447_3);(try clear hx449_0);(try clear hx449_1);(try clear hx449_2);(try clear hx449_3);(try clear p2);(try clear p4);(try clear p42);(try clear p420);(try clear p44);(try clear p446);(try clear p447);(try clear p449);(try clear p6);(try clear p64);(try clear q4);(try clear q42);(try clear q420);(try clear q44);(try clear q446);(try clear q447);(try clear q449)
                    obtain ⟨x149_6, rfl, HA, HK6, HO_5, HO_13, HO_15, HO_17, HB⟩ := hrel
                    cases gk with
                    | zero => exact absurd HA.out (by simp [laws_FnRulesRead.l3])
                    | succ k6 =>
                     have H := HA.out
                     clear HA
                     simp only [laws_FnRulesRead.l3] at H
                     by_cases c78 : x149_6 < (t441.length : Int)
                     ·rw [if_pos c78] at H
                      have c78b0 : decide (x149_6 < (t441.length : Int)) = true := decide_eq_true c78
                      clear c78
                      by_cases c79 : 0 ≤ x149_6
                      ·rw [if_pos c79] at H
                       have c79b0 : decide (0 ≤ x149_6) = true := decide_eq_true c79
                       clear c79
                       by_cases c80 : x149_6 < (t441.length : Int)
                       ·rw [if_pos c80] at H
                        have c80b0 : decide (x149_6 < (t441.length : Int)) = true := decide_eq_true c80
                        clear c80
                        by_cases c81 : (rd t441 x149_6) = (rd t433 x110_3)
                        ·rw [if_pos c81] at H
                         have c81b0 : ((rd t441 x149_6) == (rd t433 x110_3)) = true := beq_iff_eq.mpr c81
                         have c81b1 : ((rd t441 x149_6) != (rd t433 x110_3)) = false := bne_eq_false_iff_eq.mpr c81
                         clear c81
                         obtain rfl := Option.some.inj H
                         have p451 : 0 ≤ (x149_6 : Int) := of_decide_eq_true (by first | (with_reducible assumption) | assumption)
                         have q451 : x149_6 < (t441.length : Int) := of_decide_eq_true (by first | (with_reducible assumption) | assumption)
                         obtain ⟨ad451, e451, hx451_0⟩ := Kd.at_int (Kd.R_reads' HO_17.out).2.2 x149_6 p451 q451
                         cases e451
                         replace p451 := eq_true p451
                         replace q451 := eq_true q451
                         go_wp2
                         repeat (go_quiet (fail); try go_wp2)
                         go_ret
                         exact ⟨by first | rfl | (simp [errW_none, errW_some] <;> rfl) | (simp [*, errW_none, errW_some] <;> rfl), by repeat (first | (with_reducible first | exact HB.out | apply below_alloc | apply pw_below_drewN | apply below_drew1) | exact HB.out)⟩
                        ·rw [if_neg c81] at H
                         have c81b0 : ((rd t441 x149_6) == (rd t433 x110_3)) = false := beq_eq_false_iff_ne.mpr c81
                         have c81b1 : ((rd t441 x149_6) != (rd t433 x110_3)) = true := bne_iff_ne.mpr c81
                         have H' := Aside0.mk H
                         clear H
                         have p451 : 0 ≤ (x149_6 : Int) := of_decide_eq_true (by first | (with_reducible assumption) | assumption)
                         have q451 : x149_6 < (t441.length : Int) := of_decide_eq_true (by first | (with_reducible assumption) | assumption)
                         obtain ⟨ad451, e451, hx451_0⟩ := Kd.at_int (Kd.R_reads' HO_17.out).2.2 x149_6 p451 q451
                         cases e451
                         replace p451 := eq_true p451
                         replace q451 := eq_true q451
                         go_wp2
                         repeat (go_quiet (fail); try go_wp2)
                         go_roundg k6
                         case measure => have := HK1.out; have := HJ44.out; have := HK3.out; have := HJ61.out; have := HK5.out; have := HK6.out; omega
                         case rel => exact ⟨(wrap64 (x149_6 + 1)), (by first | rfl | (simp; done) | (simp [*]; done)), H', ⟨by have := HK1.out; have := HJ44.out; have := HK3.out; have := HJ61.out; have := HK5.out; have := HK6.out; omega⟩, ⟨by (with_reducible repeat (first | apply Kd.R_alloc | apply Kd.R_drewN | apply Kd.R_drew)); exact HO_5.out⟩, ⟨by (with_reducible repeat (first | apply Kd.R_alloc | apply Kd.R_drewN | apply Kd.R_drew)); exact HO_13.out⟩, ⟨by (with_reducible repeat (first | apply Kd.R_alloc | apply Kd.R_drewN | apply Kd.R_drew)); exact HO_15.out⟩, ⟨by (with_reducible repeat (first | apply Kd.R_alloc | apply Kd.R_drewN | apply Kd.R_drew)); exact HO_17.out⟩, ⟨by repeat (first | (with_reducible first | exact HB.out | apply below_alloc | apply pw_below_drewN | apply below_drew1) | exact HB.out)⟩⟩
                       ·rw [if_neg c80] at H
                        exact absurd H (by simp)
                      ·rw [if_neg c79] at H
                       exact absurd H (by simp)
                     ·rw [if_neg c78] at H
                      have c78b0 : decide (x149_6 < (t441.length : Int)) = false := decide_eq_false c78
                      clear c78
                      by_cases c82 : 0 ≤ (rd t433 x110_3)
                      ·rw [if_pos c82] at H
                       have c82b0 : decide (0 ≤ (rd t433 x110_3)) = true := decide_eq_true c82
                       clear c82
                       by_cases c83 : (rd t433 x110_3) < (t413.length : Int)
                       ·rw [if_pos c83] at H
                        have c83b0 : decide ((rd t433 x110_3) < (t413.length : Int)) = true := decide_eq_true c83
                        clear c83
                        have H' := Aside0.mk H
                        clear H
                        have p452 : 0 ≤ ((rd t433 x110_3) : Int) := of_decide_eq_true (by first | (with_reducible assumption) | assumption)
                        have q452 : (rd t433 x110_3) < (t413.length : Int) := of_decide_eq_true (by first | (with_reducible assumption) | assumption)
                        obtain ⟨ad452, e452, hx452_0, hx452_1, hx452_2, hx452_3⟩ := at_T30 (Kd.R_reads' HO_5.out).2.2 (rd t433 x110_3) p452 q452
                        cases e452
                        replace p452 := eq_true p452
                        replace q452 := eq_true q452
                        go_wp2
                        repeat (go_quiet (fail); try go_wp2)
                        go_roundg k6
                        case measure => have := HK1.out; have := HJ44.out; have := HK3.out; have := HJ61.out; have := HK5.out; have := HK6.out; omega
                        case rel => exact ⟨(wrap64 (x19_3 + (((rd_T30 t413 (rd t433 x110_3)).f1).size : Int))), (wrap64 (x110_3 + 1)), (by first | rfl | (simp; done) | (simp [*]; done)), (by first | rfl | (simp; done) | (simp [*]; done)), H', ⟨by have := HK1.out; have := HJ44.out; have := HK3.out; have := HJ61.out; have := HK5.out; have := HK6.out; omega⟩, ⟨by (with_reducible repeat (first | apply Kd.R_alloc | apply Kd.R_drewN | apply Kd.R_drew)); exact HO_5.out⟩, ⟨by (with_reducible repeat (first | apply Kd.R_alloc | apply Kd.R_drewN | apply Kd.R_drew)); exact HO_13.out⟩, ⟨by (with_reducible repeat (first | apply Kd.R_alloc | apply Kd.R_drewN | apply Kd.R_drew)); exact HO_15.out⟩, ⟨by (with_reducible repeat (first | apply Kd.R_alloc | apply Kd.R_drewN | apply Kd.R_drew)); exact HO_17.out⟩, ⟨by repeat (first | (with_reducible first | exact HB.out | apply below_alloc | apply pw_below_drewN | apply below_drew1) | exact HB.out)⟩⟩
                       ·rw [if_neg c83] at H
                        exact absurd H (by simp)
                      ·rw [if_neg c82] at H
                       exact absurd H (by simp)
            ·rw [if_neg c61] at H
             exact absurd H (by simp)
           ·rw [if_neg c60] at H
            exact absurd H (by simp)
          ·rw [if_neg c59] at H
           have c59b0 : decide (x110_3 < (t433.length : Int)) = false := decide_eq_false c59
           clear c59
           replace H := Option.bind_eq_some_iff.mp H
           obtain ⟨t453, A840, H⟩ := H
           replace H : ((impl_SoundsOf.f k3 t453 t416).bind fun bt456 => (if t416.size + 1 ≤ 9223372036854775807 then (if (t416 ++ (⟨#[32]⟩ : ByteArray)).size + t416.size ≤ 9223372036854775807 then ((impl_SpellText.f k3 t413 ((t416 ++ (⟨#[32]⟩ : ByteArray)) ++ t416)).bind fun bt460 => ((impl_SyllablesIn.f k3 t416).bind fun bt464 => (if x19_3 = (t416.size : Int) then (if bt456.2 = true then (if bt460.2 = true then (if bt464.2 = true then (if (bt456.1.length : Int) = (t416.size : Int) then (if (bt460.1.length : Int) = (wrap64 ((wrap64 (2 * (t437.length : Int))) + 1)) then (if 0 ≤ (t437.length : Int) then (if (t437.length : Int) < (bt460.1.length : Int) then (if (rdOf ByteArray.empty bt460.1 (t437.length : Int)).toList = ([114, 101, 115, 116] : List UInt8) then (if bt464.1 < 0 then (laws_FnRulesRead.j6 k3 t416 t437 bt456.1 bt460.1 bt464.1 true) else (laws_FnRulesRead.j6 k3 t416 t437 bt456.1 bt460.1 bt464.1 (decide (bt464.1 > x19_3)))) else (laws_FnRulesRead.j6 k3 t416 t437 bt456.1 bt460.1 bt464.1 true)) else (none)) else (none)) else (laws_FnRulesRead.j6 k3 t416 t437 bt456.1 bt460.1 bt464.1 true)) else (laws_FnRulesRead.j6 k3 t416 t437 bt456.1 bt460.1 bt464.1 true)) else (laws_FnRulesRead.j6 k3 t416 t437 bt456.1 bt460.1 bt464.1 true)) else (laws_FnRulesRead.j6 k3 t416 t437 bt456.1 bt460.1 bt464.1 true)) else (laws_FnRulesRead.j6 k3 t416 t437 bt456.1 bt460.1 bt464.1 true)) else (laws_FnRulesRead.j6 k3 t416 t437 bt456.1 bt460.1 bt464.1 true)))) else (none)) else (none))) = some r := H
           have A84 := Aside0.mk A840
           clear A840
           replace H := Option.bind_eq_some_iff.mp H
           obtain ⟨⟨t456, t457⟩, A850, H⟩ := H
           replace H : (if t416.size + 1 ≤ 9223372036854775807 then (if (t416 ++ (⟨#[32]⟩ : ByteArray)).size + t416.size ≤ 9223372036854775807 then ((impl_SpellText.f k3 t413 ((t416 ++ (⟨#[32]⟩ : ByteArray)) ++ t416)).bind fun bt460 => ((impl_SyllablesIn.f k3 t416).bind fun bt464 => (if x19_3 = (t416.size : Int) then (if t457 = true then (if bt460.2 = true then (if bt464.2 = true then (if (t456.length : Int) = (t416.size : Int) then (if (bt460.1.length : Int) = (wrap64 ((wrap64 (2 * (t437.length : Int))) + 1)) then (if 0 ≤ (t437.length : Int) then (if (t437.length : Int) < (bt460.1.length : Int) then (if (rdOf ByteArray.empty bt460.1 (t437.length : Int)).toList = ([114, 101, 115, 116] : List UInt8) then (if bt464.1 < 0 then (laws_FnRulesRead.j6 k3 t416 t437 t456 bt460.1 bt464.1 true) else (laws_FnRulesRead.j6 k3 t416 t437 t456 bt460.1 bt464.1 (decide (bt464.1 > x19_3)))) else (laws_FnRulesRead.j6 k3 t416 t437 t456 bt460.1 bt464.1 true)) else (none)) else (none)) else (laws_FnRulesRead.j6 k3 t416 t437 t456 bt460.1 bt464.1 true)) else (laws_FnRulesRead.j6 k3 t416 t437 t456 bt460.1 bt464.1 true)) else (laws_FnRulesRead.j6 k3 t416 t437 t456 bt460.1 bt464.1 true)) else (laws_FnRulesRead.j6 k3 t416 t437 t456 bt460.1 bt464.1 true)) else (laws_FnRulesRead.j6 k3 t416 t437 t456 bt460.1 bt464.1 true)) else (laws_FnRulesRead.j6 k3 t416 t437 t456 bt460.1 bt464.1 true)))) else (none)) else (none)) = some r := H
           have A85 := Aside0.mk A850
           clear A850
           by_cases c86 : t416.size + 1 ≤ 9223372036854775807
           ·rw [if_pos c86] at H
            have c86b0 := eq_true c86
            have c86b1 : decide (t416.size + 1 ≤ 9223372036854775807) = true := decide_eq_true c86
            try have c86b2 : (9223372036854775807 < t416.size + 1) = False := eq_false (Nat.not_lt.2 c86)
            by_cases c87 : (t416 ++ (⟨#[32]⟩ : ByteArray)).size + t416.size ≤ 9223372036854775807
            ·rw [if_pos c87] at H
             have c87b0 := eq_true c87
             have c87b1 : decide ((t416 ++ (⟨#[32]⟩ : ByteArray)).size + t416.size ≤ 9223372036854775807) = true := decide_eq_true c87
             try have c87b2 : (9223372036854775807 < (t416 ++ (⟨#[32]⟩ : ByteArray)).size + t416.size) = False := eq_false (Nat.not_lt.2 c87)
             try have c87b3 : (9223372036854775807 < (t416.size + 1) + t416.size) = False := eq_false (Nat.not_lt.2 (by have h_ := c87; (repeat rw [ByteArray.size_append] at h_); exact h_))
             replace H := Option.bind_eq_some_iff.mp H
             obtain ⟨⟨t460, t461⟩, A880, H⟩ := H
             replace H : ((impl_SyllablesIn.f k3 t416).bind fun bt464 => (if x19_3 = (t416.size : Int) then (if t457 = true then (if t461 = true then (if bt464.2 = true then (if (t456.length : Int) = (t416.size : Int) then (if (t460.length : Int) = (wrap64 ((wrap64 (2 * (t437.length : Int))) + 1)) then (if 0 ≤ (t437.length : Int) then (if (t437.length : Int) < (t460.length : Int) then (if (rdOf ByteArray.empty t460 (t437.length : Int)).toList = ([114, 101, 115, 116] : List UInt8) then (if bt464.1 < 0 then (laws_FnRulesRead.j6 k3 t416 t437 t456 t460 bt464.1 true) else (laws_FnRulesRead.j6 k3 t416 t437 t456 t460 bt464.1 (decide (bt464.1 > x19_3)))) else (laws_FnRulesRead.j6 k3 t416 t437 t456 t460 bt464.1 true)) else (none)) else (none)) else (laws_FnRulesRead.j6 k3 t416 t437 t456 t460 bt464.1 true)) else (laws_FnRulesRead.j6 k3 t416 t437 t456 t460 bt464.1 true)) else (laws_FnRulesRead.j6 k3 t416 t437 t456 t460 bt464.1 true)) else (laws_FnRulesRead.j6 k3 t416 t437 t456 t460 bt464.1 true)) else (laws_FnRulesRead.j6 k3 t416 t437 t456 t460 bt464.1 true)) else (laws_FnRulesRead.j6 k3 t416 t437 t456 t460 bt464.1 true))) = some r := H
             have A88 := Aside0.mk A880
             clear A880
             replace H := Option.bind_eq_some_iff.mp H
             obtain ⟨⟨t464, t465⟩, A890, H⟩ := H
             replace H : (if x19_3 = (t416.size : Int) then (if t457 = true then (if t461 = true then (if t465 = true then (if (t456.length : Int) = (t416.size : Int) then (if (t460.length : Int) = (wrap64 ((wrap64 (2 * (t437.length : Int))) + 1)) then (if 0 ≤ (t437.length : Int) then (if (t437.length : Int) < (t460.length : Int) then (if (rdOf ByteArray.empty t460 (t437.length : Int)).toList = ([114, 101, 115, 116] : List UInt8) then (if t464 < 0 then (laws_FnRulesRead.j6 k3 t416 t437 t456 t460 t464 true) else (laws_FnRulesRead.j6 k3 t416 t437 t456 t460 t464 (decide (t464 > x19_3)))) else (laws_FnRulesRead.j6 k3 t416 t437 t456 t460 t464 true)) else (none)) else (none)) else (laws_FnRulesRead.j6 k3 t416 t437 t456 t460 t464 true)) else (laws_FnRulesRead.j6 k3 t416 t437 t456 t460 t464 true)) else (laws_FnRulesRead.j6 k3 t416 t437 t456 t460 t464 true)) else (laws_FnRulesRead.j6 k3 t416 t437 t456 t460 t464 true)) else (laws_FnRulesRead.j6 k3 t416 t437 t456 t460 t464 true)) else (laws_FnRulesRead.j6 k3 t416 t437 t456 t460 t464 true)) = some r := H
             have A89 := Aside0.mk A890
             clear A890
             have HC90 := Aside0.mk H
             clear H
             go_upto_region 43 with (first | (go_at_call 15; (with_reducible refine (impl_PlainRules.calls k3  t453 _ A84.out).mono ?_); rintro e w91 ⟨v454, rfl, ho0, hb⟩; have n0_ := Aside0.mk (Kd.R_elder' (by (with_reducible repeat (first | apply Kd.R_alloc | apply Kd.R_drewN | apply Kd.R_drew)); exact HO_5.out) (Kd.R_base ho0) hb); have n1_ := Aside0.mk (Kd.R_below (by (with_reducible repeat (first | apply Kd.R_alloc | apply Kd.R_drewN | apply Kd.R_drew)); exact HO_13.out) hb); have n2_ := Aside0.mk (Kd.R_below (by (with_reducible repeat (first | apply Kd.R_alloc | apply Kd.R_drewN | apply Kd.R_drew)); exact HO_15.out) hb); have n3_ := Aside0.mk (Kd.R_below (by (with_reducible repeat (first | apply Kd.R_alloc | apply Kd.R_drewN | apply Kd.R_drew)); exact HO_17.out) hb); have n4_ := Aside0.mk (Kd.R_lower (Kd.R_new' ho0 (Kd.R_lt (by (with_reducible repeat (first | apply Kd.R_alloc | apply Kd.R_drewN | apply Kd.R_drew)); exact HO_5.out))) (below_size (by repeat (first | (with_reducible first | exact HB.out | apply below_alloc | apply pw_below_drewN | apply below_drew1) | exact HB.out)))); have n5_ := Aside0.mk (below_step (by repeat (first | (with_reducible first | exact HB.out | apply below_alloc | apply pw_below_drewN | apply below_drew1) | exact HB.out)) hb); clear HO_5; clear HO_13; clear HO_15; clear HO_17; clear HB; have HO_5 := n0_; have HO_13 := n1_; have HO_15 := n2_; have HO_17 := n3_; have HO455 := n4_; have HB := n5_; clear n0_ n1_ n2_ n3_ n4_ n5_; (try clear hb); (try clear hb2); (try clear hk); (try clear hi); (try clear ho0); obtain ⟨Ao92, co92, eo92⟩ := Kd.R_slice HO455.out; subst eo92) | (go_at_call 11; (with_reducible refine (impl_SoundsOf.calls k3 _ _ t453 t416 t456 t457 _ ?side1 ?side2 A85.out).mono ?_); (case side1 => repeat (first | exact (Kd.R_reads' HO455.out).2.2 | (with_reducible refine Kd.C_alloc ?_ _) | (with_reducible refine Kd.C_drewN ?_ _) | (with_reducible refine Kd.C_drew ?_))); (case side2 => exact (Kd.R_reads' HO455.out).2.1); rintro e w93 ⟨v458, rfl, ho0, hb⟩; have n0_ := Aside0.mk (Kd.R_below (by (with_reducible repeat (first | apply Kd.R_alloc | apply Kd.R_drewN | apply Kd.R_drew)); exact HO_5.out) hb); have n1_ := Aside0.mk (Kd.R_below (by (with_reducible repeat (first | apply Kd.R_alloc | apply Kd.R_drewN | apply Kd.R_drew)); exact HO_13.out) hb); have n2_ := Aside0.mk (Kd.R_elder' (by (with_reducible repeat (first | apply Kd.R_alloc | apply Kd.R_drewN | apply Kd.R_drew)); exact HO_15.out) (Kd.R_base ho0) hb); have n3_ := Aside0.mk (Kd.R_below (by (with_reducible repeat (first | apply Kd.R_alloc | apply Kd.R_drewN | apply Kd.R_drew)); exact HO_17.out) hb); have n4_ := Aside0.mk (Kd.R_below (by (with_reducible repeat (first | apply Kd.R_alloc | apply Kd.R_drewN | apply Kd.R_drew)); exact HO455.out) hb); have n5_ := Aside0.mk (Kd.R_lower (Kd.R_new' ho0 (Kd.R_lt (by (with_reducible repeat (first | apply Kd.R_alloc | apply Kd.R_drewN | apply Kd.R_drew)); exact HO_15.out))) (below_size (by repeat (first | (with_reducible first | exact HB.out | apply below_alloc | apply pw_below_drewN | apply below_drew1) | exact HB.out)))); have n6_ := Aside0.mk (below_step (by repeat (first | (with_reducible first | exact HB.out | apply below_alloc | apply pw_below_drewN | apply below_drew1) | exact HB.out)) hb); clear HO_5; clear HO_13; clear HO_15; clear HO_17; clear HO455; clear HB; have HO_5 := n0_; have HO_13 := n1_; have HO_15 := n2_; have HO_17 := n3_; have HO455 := n4_; have HO459 := n5_; have HB := n6_; clear n0_ n1_ n2_ n3_ n4_ n5_ n6_; (try clear hb); (try clear hb2); (try clear hk); (try clear hi); (try clear ho0)) | (go_at_call 16; (with_reducible refine (impl_SpellText.calls k3 _ _ t413 ((t416 ++ (⟨#[32]⟩ : ByteArray)) ++ t416) t460 t461 _ ?side1 ?side2 A88.out).mono ?_); (case side1 => repeat (first | exact (Kd.R_reads' HO_5.out).2.2 | (with_reducible refine Kd.C_alloc ?_ _) | (with_reducible refine Kd.C_drewN ?_ _) | (with_reducible refine Kd.C_drew ?_))); (case side2 => exact (Kd.R_reads' HO_5.out).2.1); rintro e w94 ⟨v462, rfl, ho0, hb⟩; have n0_ := Aside0.mk (Kd.R_below (by (with_reducible repeat (first | apply Kd.R_alloc | apply Kd.R_drewN | apply Kd.R_drew)); exact HO_5.out) hb); have n1_ := Aside0.mk (Kd.R_below (by (with_reducible repeat (first | apply Kd.R_alloc | apply Kd.R_drewN | apply Kd.R_drew)); exact HO_13.out) hb); have n2_ := Aside0.mk (Kd.R_elder' (by (with_reducible repeat (first | apply Kd.R_alloc | apply Kd.R_drewN | apply Kd.R_drew)); exact HO_15.out) (Kd.R_base ho0) hb); have n3_ := Aside0.mk (Kd.R_below (by (with_reducible repeat (first | apply Kd.R_alloc | apply Kd.R_drewN | apply Kd.R_drew)); exact HO_17.out) hb); have n4_ := Aside0.mk (Kd.R_below (by (with_reducible repeat (first | apply Kd.R_alloc | apply Kd.R_drewN | apply Kd.R_drew)); exact HO455.out) hb); have n5_ := Aside0.mk (Kd.R_elder' (by (with_reducible repeat (first | apply Kd.R_alloc | apply Kd.R_drewN | apply Kd.R_drew)); exact HO459.out) (Kd.R_base ho0) hb); have n6_ := Aside0.mk (Kd.R_lower (Kd.R_new' (Kd.R_new' ho0 (Kd.R_lt (by (with_reducible repeat (first | apply Kd.R_alloc | apply Kd.R_drewN | apply Kd.R_drew)); exact HO_15.out))) (Kd.R_lt (by (with_reducible repeat (first | apply Kd.R_alloc | apply Kd.R_drewN | apply Kd.R_drew)); exact HO459.out))) (below_size (by repeat (first | (with_reducible first | exact HB.out | apply below_alloc | apply pw_below_drewN | apply below_drew1) | exact HB.out)))); have n7_ := Aside0.mk (below_step (by repeat (first | (with_reducible first | exact HB.out | apply below_alloc | apply pw_below_drewN | apply below_drew1) | exact HB.out)) hb); clear HO_5; clear HO_13; clear HO_15; clear HO_17; clear HO455; clear HO459; clear HB; have HO_5 := n0_; have HO_13 := n1_; have HO_15 := n2_; have HO_17 := n3_; have HO455 := n4_; have HO459 := n5_; have HO463 := n6_; have HB := n7_; clear n0_ n1_ n2_ n3_ n4_ n5_ n6_ n7_; (try clear hb); (try clear hb2); (try clear hk); (try clear hi); (try clear ho0)) | (go_at_call 17; (with_reducible refine (impl_SyllablesIn.calls k3 t416 t464 t465 _ A89.out).mono ?_); rintro e w' ⟨rfl, ⟨nd, rfl⟩⟩; (try first | exact ⟨rfl, _, World.drewN_drewN _ _ _⟩ | exact ⟨rfl, _, Eq.trans (World.drewN_drewN _ _ _) (congrArg (World.drewN _) (Nat.add_assoc _ _ _))⟩)))
             repeat (go_quiet (first | (go_at_call 15; (with_reducible refine (impl_PlainRules.calls k3  t453 _ A84.out).mono ?_); rintro e w91 ⟨v454, rfl, ho0, hb⟩; have n0_ := Aside0.mk (Kd.R_elder' (by (with_reducible repeat (first | apply Kd.R_alloc | apply Kd.R_drewN | apply Kd.R_drew)); exact HO_5.out) (Kd.R_base ho0) hb); have n1_ := Aside0.mk (Kd.R_below (by (with_reducible repeat (first | apply Kd.R_alloc | apply Kd.R_drewN | apply Kd.R_drew)); exact HO_13.out) hb); have n2_ := Aside0.mk (Kd.R_below (by (with_reducible repeat (first | apply Kd.R_alloc | apply Kd.R_drewN | apply Kd.R_drew)); exact HO_15.out) hb); have n3_ := Aside0.mk (Kd.R_below (by (with_reducible repeat (first | apply Kd.R_alloc | apply Kd.R_drewN | apply Kd.R_drew)); exact HO_17.out) hb); have n4_ := Aside0.mk (Kd.R_lower (Kd.R_new' ho0 (Kd.R_lt (by (with_reducible repeat (first | apply Kd.R_alloc | apply Kd.R_drewN | apply Kd.R_drew)); exact HO_5.out))) (below_size (by repeat (first | (with_reducible first | exact HB.out | apply below_alloc | apply pw_below_drewN | apply below_drew1) | exact HB.out)))); have n5_ := Aside0.mk (below_step (by repeat (first | (with_reducible first | exact HB.out | apply below_alloc | apply pw_below_drewN | apply below_drew1) | exact HB.out)) hb); clear HO_5; clear HO_13; clear HO_15; clear HO_17; clear HB; have HO_5 := n0_; have HO_13 := n1_; have HO_15 := n2_; have HO_17 := n3_; have HO455 := n4_; have HB := n5_; clear n0_ n1_ n2_ n3_ n4_ n5_; (try clear hb); (try clear hb2); (try clear hk); (try clear hi); (try clear ho0); obtain ⟨Ao92, co92, eo92⟩ := Kd.R_slice HO455.out; subst eo92) | (go_at_call 11; (with_reducible refine (impl_SoundsOf.calls k3 _ _ t453 t416 t456 t457 _ ?side1 ?side2 A85.out).mono ?_); (case side1 => repeat (first | exact (Kd.R_reads' HO455.out).2.2 | (with_reducible refine Kd.C_alloc ?_ _) | (with_reducible refine Kd.C_drewN ?_ _) | (with_reducible refine Kd.C_drew ?_))); (case side2 => exact (Kd.R_reads' HO455.out).2.1); rintro e w93 ⟨v458, rfl, ho0, hb⟩; have n0_ := Aside0.mk (Kd.R_below (by (with_reducible repeat (first | apply Kd.R_alloc | apply Kd.R_drewN | apply Kd.R_drew)); exact HO_5.out) hb); have n1_ := Aside0.mk (Kd.R_below (by (with_reducible repeat (first | apply Kd.R_alloc | apply Kd.R_drewN | apply Kd.R_drew)); exact HO_13.out) hb); have n2_ := Aside0.mk (Kd.R_elder' (by (with_reducible repeat (first | apply Kd.R_alloc | apply Kd.R_drewN | apply Kd.R_drew)); exact HO_15.out) (Kd.R_base ho0) hb); have n3_ := Aside0.mk (Kd.R_below (by (with_reducible repeat (first | apply Kd.R_alloc | apply Kd.R_drewN | apply Kd.R_drew)); exact HO_17.out) hb); have n4_ := Aside0.mk (Kd.R_below (by (with_reducible repeat (first | apply Kd.R_alloc | apply Kd.R_drewN | apply Kd.R_drew)); exact HO455.out) hb); have n5_ := Aside0.mk (Kd.R_lower (Kd.R_new' ho0 (Kd.R_lt (by (with_reducible repeat (first | apply Kd.R_alloc | apply Kd.R_drewN | apply Kd.R_drew)); exact HO_15.out))) (below_size (by repeat (first | (with_reducible first | exact HB.out | apply below_alloc | apply pw_below_drewN | apply below_drew1) | exact HB.out)))); have n6_ := Aside0.mk (below_step (by repeat (first | (with_reducible first | exact HB.out | apply below_alloc | apply pw_below_drewN | apply below_drew1) | exact HB.out)) hb); clear HO_5; clear HO_13; clear HO_15; clear HO_17; clear HO455; clear HB; have HO_5 := n0_; have HO_13 := n1_; have HO_15 := n2_; have HO_17 := n3_; have HO455 := n4_; have HO459 := n5_; have HB := n6_; clear n0_ n1_ n2_ n3_ n4_ n5_ n6_; (try clear hb); (try clear hb2); (try clear hk); (try clear hi); (try clear ho0)) | (go_at_call 16; (with_reducible refine (impl_SpellText.calls k3 _ _ t413 ((t416 ++ (⟨#[32]⟩ : ByteArray)) ++ t416) t460 t461 _ ?side1 ?side2 A88.out).mono ?_); (case side1 => repeat (first | exact (Kd.R_reads' HO_5.out).2.2 | (with_reducible refine Kd.C_alloc ?_ _) | (with_reducible refine Kd.C_drewN ?_ _) | (with_reducible refine Kd.C_drew ?_))); (case side2 => exact (Kd.R_reads' HO_5.out).2.1); rintro e w94 ⟨v462, rfl, ho0, hb⟩; have n0_ := Aside0.mk (Kd.R_below (by (with_reducible repeat (first | apply Kd.R_alloc | apply Kd.R_drewN | apply Kd.R_drew)); exact HO_5.out) hb); have n1_ := Aside0.mk (Kd.R_below (by (with_reducible repeat (first | apply Kd.R_alloc | apply Kd.R_drewN | apply Kd.R_drew)); exact HO_13.out) hb); have n2_ := Aside0.mk (Kd.R_elder' (by (with_reducible repeat (first | apply Kd.R_alloc | apply Kd.R_drewN | apply Kd.R_drew)); exact HO_15.out) (Kd.R_base ho0) hb); have n3_ := Aside0.mk (Kd.R_below (by (with_reducible repeat (first | apply Kd.R_alloc | apply Kd.R_drewN | apply Kd.R_drew)); exact HO_17.out) hb); have n4_ := Aside0.mk (Kd.R_below (by (with_reducible repeat (first | apply Kd.R_alloc | apply Kd.R_drewN | apply Kd.R_drew)); exact HO455.out) hb); have n5_ := Aside0.mk (Kd.R_elder' (by (with_reducible repeat (first | apply Kd.R_alloc | apply Kd.R_drewN | apply Kd.R_drew)); exact HO459.out) (Kd.R_base ho0) hb); have n6_ := Aside0.mk (Kd.R_lower (Kd.R_new' (Kd.R_new' ho0 (Kd.R_lt (by (with_reducible repeat (first | apply Kd.R_alloc | apply Kd.R_drewN | apply Kd.R_drew)); exact HO_15.out))) (Kd.R_lt (by (with_reducible repeat (first | apply Kd.R_alloc | apply Kd.R_drewN | apply Kd.R_drew)); exact HO459.out))) (below_size (by repeat (first | (with_reducible first | exact HB.out | apply below_alloc | apply pw_below_drewN | apply below_drew1) | exact HB.out)))); have n7_ := Aside0.mk (below_step (by repeat (first | (with_reducible first | exact HB.out | apply below_alloc | apply pw_below_drewN | apply below_drew1) | exact HB.out)) hb); clear HO_5; clear HO_13; clear HO_15; clear HO_17; clear HO455; clear HO459; clear HB; have HO_5 := n0_; have HO_13 := n1_; have HO_15 := n2_; have HO_17 := n3_; have HO455 := n4_; have HO459 := n5_; have HO463 := n6_; have HB := n7_; clear n0_ n1_ n2_ n3_ n4_ n5_ n6_ n7_; (try clear hb); (try clear hb2); (try clear hk); (try clear hi); (try clear ho0)) | (go_at_call 17; (with_reducible refine (impl_SyllablesIn.calls k3 t416 t464 t465 _ A89.out).mono ?_); rintro e w' ⟨rfl, ⟨nd, rfl⟩⟩; (try first | exact ⟨rfl, _, World.drewN_drewN _ _ _⟩ | exact ⟨rfl, _, Eq.trans (World.drewN_drewN _ _ _) (congrArg (World.drewN _) (Nat.add_assoc _ _ _))⟩))); go_upto_region 43 with (first | (go_at_call 15; (with_reducible refine (impl_PlainRules.calls k3  t453 _ A84.out).mono ?_); rintro e w91 ⟨v454, rfl, ho0, hb⟩; have n0_ := Aside0.mk (Kd.R_elder' (by (with_reducible repeat (first | apply Kd.R_alloc | apply Kd.R_drewN | apply Kd.R_drew)); exact HO_5.out) (Kd.R_base ho0) hb); have n1_ := Aside0.mk (Kd.R_below (by (with_reducible repeat (first | apply Kd.R_alloc | apply Kd.R_drewN | apply Kd.R_drew)); exact HO_13.out) hb); have n2_ := Aside0.mk (Kd.R_below (by (with_reducible repeat (first | apply Kd.R_alloc | apply Kd.R_drewN | apply Kd.R_drew)); exact HO_15.out) hb); have n3_ := Aside0.mk (Kd.R_below (by (with_reducible repeat (first | apply Kd.R_alloc | apply Kd.R_drewN | apply Kd.R_drew)); exact HO_17.out) hb); have n4_ := Aside0.mk (Kd.R_lower (Kd.R_new' ho0 (Kd.R_lt (by (with_reducible repeat (first | apply Kd.R_alloc | apply Kd.R_drewN | apply Kd.R_drew)); exact HO_5.out))) (below_size (by repeat (first | (with_reducible first | exact HB.out | apply below_alloc | apply pw_below_drewN | apply below_drew1) | exact HB.out)))); have n5_ := Aside0.mk (below_step (by repeat (first | (with_reducible first | exact HB.out | apply below_alloc | apply pw_below_drewN | apply below_drew1) | exact HB.out)) hb); clear HO_5; clear HO_13; clear HO_15; clear HO_17; clear HB; have HO_5 := n0_; have HO_13 := n1_; have HO_15 := n2_; have HO_17 := n3_; have HO455 := n4_; have HB := n5_; clear n0_ n1_ n2_ n3_ n4_ n5_; (try clear hb); (try clear hb2); (try clear hk); (try clear hi); (try clear ho0); obtain ⟨Ao92, co92, eo92⟩ := Kd.R_slice HO455.out; subst eo92) | (go_at_call 11; (with_reducible refine (impl_SoundsOf.calls k3 _ _ t453 t416 t456 t457 _ ?side1 ?side2 A85.out).mono ?_); (case side1 => repeat (first | exact (Kd.R_reads' HO455.out).2.2 | (with_reducible refine Kd.C_alloc ?_ _) | (with_reducible refine Kd.C_drewN ?_ _) | (with_reducible refine Kd.C_drew ?_))); (case side2 => exact (Kd.R_reads' HO455.out).2.1); rintro e w93 ⟨v458, rfl, ho0, hb⟩; have n0_ := Aside0.mk (Kd.R_below (by (with_reducible repeat (first | apply Kd.R_alloc | apply Kd.R_drewN | apply Kd.R_drew)); exact HO_5.out) hb); have n1_ := Aside0.mk (Kd.R_below (by (with_reducible repeat (first | apply Kd.R_alloc | apply Kd.R_drewN | apply Kd.R_drew)); exact HO_13.out) hb); have n2_ := Aside0.mk (Kd.R_elder' (by (with_reducible repeat (first | apply Kd.R_alloc | apply Kd.R_drewN | apply Kd.R_drew)); exact HO_15.out) (Kd.R_base ho0) hb); have n3_ := Aside0.mk (Kd.R_below (by (with_reducible repeat (first | apply Kd.R_alloc | apply Kd.R_drewN | apply Kd.R_drew)); exact HO_17.out) hb); have n4_ := Aside0.mk (Kd.R_below (by (with_reducible repeat (first | apply Kd.R_alloc | apply Kd.R_drewN | apply Kd.R_drew)); exact HO455.out) hb); have n5_ := Aside0.mk (Kd.R_lower (Kd.R_new' ho0 (Kd.R_lt (by (with_reducible repeat (first | apply Kd.R_alloc | apply Kd.R_drewN | apply Kd.R_drew)); exact HO_15.out))) (below_size (by repeat (first | (with_reducible first | exact HB.out | apply below_alloc | apply pw_below_drewN | apply below_drew1) | exact HB.out)))); have n6_ := Aside0.mk (below_step (by repeat (first | (with_reducible first | exact HB.out | apply below_alloc | apply pw_below_drewN | apply below_drew1) | exact HB.out)) hb); clear HO_5; clear HO_13; clear HO_15; clear HO_17; clear HO455; clear HB; have HO_5 := n0_; have HO_13 := n1_; have HO_15 := n2_; have HO_17 := n3_; have HO455 := n4_; have HO459 := n5_; have HB := n6_; clear n0_ n1_ n2_ n3_ n4_ n5_ n6_; (try clear hb); (try clear hb2); (try clear hk); (try clear hi); (try clear ho0)) | (go_at_call 16; (with_reducible refine (impl_SpellText.calls k3 _ _ t413 ((t416 ++ (⟨#[32]⟩ : ByteArray)) ++ t416) t460 t461 _ ?side1 ?side2 A88.out).mono ?_); (case side1 => repeat (first | exact (Kd.R_reads' HO_5.out).2.2 | (with_reducible refine Kd.C_alloc ?_ _) | (with_reducible refine Kd.C_drewN ?_ _) | (with_reducible refine Kd.C_drew ?_))); (case side2 => exact (Kd.R_reads' HO_5.out).2.1); rintro e w94 ⟨v462, rfl, ho0, hb⟩; have n0_ := Aside0.mk (Kd.R_below (by (with_reducible repeat (first | apply Kd.R_alloc | apply Kd.R_drewN | apply Kd.R_drew)); exact HO_5.out) hb); have n1_ := Aside0.mk (Kd.R_below (by (with_reducible repeat (first | apply Kd.R_alloc | apply Kd.R_drewN | apply Kd.R_drew)); exact HO_13.out) hb); have n2_ := Aside0.mk (Kd.R_elder' (by (with_reducible repeat (first | apply Kd.R_alloc | apply Kd.R_drewN | apply Kd.R_drew)); exact HO_15.out) (Kd.R_base ho0) hb); have n3_ := Aside0.mk (Kd.R_below (by (with_reducible repeat (first | apply Kd.R_alloc | apply Kd.R_drewN | apply Kd.R_drew)); exact HO_17.out) hb); have n4_ := Aside0.mk (Kd.R_below (by (with_reducible repeat (first | apply Kd.R_alloc | apply Kd.R_drewN | apply Kd.R_drew)); exact HO455.out) hb); have n5_ := Aside0.mk (Kd.R_elder' (by (with_reducible repeat (first | apply Kd.R_alloc | apply Kd.R_drewN | apply Kd.R_drew)); exact HO459.out) (Kd.R_base ho0) hb); have n6_ := Aside0.mk (Kd.R_lower (Kd.R_new' (Kd.R_new' ho0 (Kd.R_lt (by (with_reducible repeat (first | apply Kd.R_alloc | apply Kd.R_drewN | apply Kd.R_drew)); exact HO_15.out))) (Kd.R_lt (by (with_reducible repeat (first | apply Kd.R_alloc | apply Kd.R_drewN | apply Kd.R_drew)); exact HO459.out))) (below_size (by repeat (first | (with_reducible first | exact HB.out | apply below_alloc | apply pw_below_drewN | apply below_drew1) | exact HB.out)))); have n7_ := Aside0.mk (below_step (by repeat (first | (with_reducible first | exact HB.out | apply below_alloc | apply pw_below_drewN | apply below_drew1) | exact HB.out)) hb); clear HO_5; clear HO_13; clear HO_15; clear HO_17; clear HO455; clear HO459; clear HB; have HO_5 := n0_; have HO_13 := n1_; have HO_15 := n2_; have HO_17 := n3_; have HO455 := n4_; have HO459 := n5_; have HO463 := n6_; have HB := n7_; clear n0_ n1_ n2_ n3_ n4_ n5_ n6_ n7_; (try clear hb); (try clear hb2); (try clear hk); (try clear hi); (try clear ho0)) | (go_at_call 17; (with_reducible refine (impl_SyllablesIn.calls k3 t416 t464 t465 _ A89.out).mono ?_); rintro e w' ⟨rfl, ⟨nd, rfl⟩⟩; (try first | exact ⟨rfl, _, World.drewN_drewN _ _ _⟩ | exact ⟨rfl, _, Eq.trans (World.drewN_drewN _ _ _) (congrArg (World.drewN _) (Nat.add_assoc _ _ _))⟩))))
             (try simp only [Act.put, List.setIfInBounds_toArray, List.set_cons_zero, List.set_cons_succ])
             go_cut [236] (fun v236 wc => ∃ (kq : Nat) (x236_89 : Bool), v236 = .bool x236_89 ∧ Aside0 (laws_FnRulesRead.j6 kq t416 t437 t456 t460 t464 x236_89 = some r) ∧ Aside0 (kq ≤ k3) ∧ Aside0 (Kd.R Kd.string 9 wc w.heap.size (fun k_ => some k_ ≠ (v458 : Value).ownBlock ∧ some k_ ≠ (v462 : Value).ownBlock) v439 t437) ∧ Aside0 (Kd.R Kd.string 9 wc w.heap.size (fun k_ => some k_ ≠ (v439 : Value).ownBlock ∧ some k_ ≠ (v462 : Value).ownBlock) v458 t456) ∧ Aside0 (Kd.R Kd.string 9 wc w.heap.size (fun k_ => some k_ ≠ (v439 : Value).ownBlock ∧ some k_ ≠ (v458 : Value).ownBlock) v462 t460) ∧ Aside0 (Below w.heap.size w wc))
             case first =>
              as_aux_lemma =>
              have H := HC90.out
              clear HC90
              by_cases c95 : x19_3 = (t416.size : Int)
              ·as_aux_lemma =>
               rw [if_pos c95] at H
               have c95b0 : (x19_3 == (t416.size : Int)) = true := beq_iff_eq.mpr c95
               have c95b1 : (x19_3 != (t416.size : Int)) = false := bne_eq_false_iff_eq.mpr c95
               clear c95
               (first | rw [c95b0] | (simp only [i64_w, i32_w]; rw [c95b0]) | skip)
               by_cases c96 : t457 = true
               ·as_aux_lemma =>
                subst c96
                have H1 : (if t461 = true then (if t465 = true then (if (t456.length : Int) = (t416.size : Int) then (if (t460.length : Int) = (wrap64 ((wrap64 (2 * (t437.length : Int))) + 1)) then (if 0 ≤ (t437.length : Int) then (if (t437.length : Int) < (t460.length : Int) then (if (rdOf ByteArray.empty t460 (t437.length : Int)).toList = ([114, 101, 115, 116] : List UInt8) then (if t464 < 0 then (laws_FnRulesRead.j6 k3 t416 t437 t456 t460 t464 true) else (laws_FnRulesRead.j6 k3 t416 t437 t456 t460 t464 (decide (t464 > x19_3)))) else (laws_FnRulesRead.j6 k3 t416 t437 t456 t460 t464 true)) else (none)) else (none)) else (laws_FnRulesRead.j6 k3 t416 t437 t456 t460 t464 true)) else (laws_FnRulesRead.j6 k3 t416 t437 t456 t460 t464 true)) else (laws_FnRulesRead.j6 k3 t416 t437 t456 t460 t464 true)) else (laws_FnRulesRead.j6 k3 t416 t437 t456 t460 t464 true)) = some r := by rw [if_pos rfl] at H; exact H
                clear H
                have H := H1
                clear H1
                by_cases c97 : t461 = true
                ·as_aux_lemma =>
                 subst c97
                 have H1 : (if t465 = true then (if (t456.length : Int) = (t416.size : Int) then (if (t460.length : Int) = (wrap64 ((wrap64 (2 * (t437.length : Int))) + 1)) then (if 0 ≤ (t437.length : Int) then (if (t437.length : Int) < (t460.length : Int) then (if (rdOf ByteArray.empty t460 (t437.length : Int)).toList = ([114, 101, 115, 116] : List UInt8) then (if t464 < 0 then (laws_FnRulesRead.j6 k3 t416 t437 t456 t460 t464 true) else (laws_FnRulesRead.j6 k3 t416 t437 t456 t460 t464 (decide (t464 > x19_3)))) else (laws_FnRulesRead.j6 k3 t416 t437 t456 t460 t464 true)) else (none)) else (none)) else (laws_FnRulesRead.j6 k3 t416 t437 t456 t460 t464 true)) else (laws_FnRulesRead.j6 k3 t416 t437 t456 t460 t464 true)) else (laws_FnRulesRead.j6 k3 t416 t437 t456 t460 t464 true)) = some r := by rw [if_pos rfl] at H; exact H
                 clear H
                 have H := H1
                 clear H1
                 by_cases c98 : t465 = true
                 ·as_aux_lemma =>
                  subst c98
                  have H1 : (if (t456.length : Int) = (t416.size : Int) then (if (t460.length : Int) = (wrap64 ((wrap64 (2 * (t437.length : Int))) + 1)) then (if 0 ≤ (t437.length : Int) then (if (t437.length : Int) < (t460.length : Int) then (if (rdOf ByteArray.empty t460 (t437.length : Int)).toList = ([114, 101, 115, 116] : List UInt8) then (if t464 < 0 then (laws_FnRulesRead.j6 k3 t416 t437 t456 t460 t464 true) else (laws_FnRulesRead.j6 k3 t416 t437 t456 t460 t464 (decide (t464 > x19_3)))) else (laws_FnRulesRead.j6 k3 t416 t437 t456 t460 t464 true)) else (none)) else (none)) else (laws_FnRulesRead.j6 k3 t416 t437 t456 t460 t464 true)) else (laws_FnRulesRead.j6 k3 t416 t437 t456 t460 t464 true)) = some r := by rw [if_pos rfl] at H; exact H
                  clear H
                  have H := H1
                  clear H1
                  by_cases c99 : (t456.length : Int) = (t416.size : Int)
                  ·as_aux_lemma =>
                   rw [if_pos c99] at H
                   have c99b0 : ((t456.length : Int) == (t416.size : Int)) = true := beq_iff_eq.mpr c99
                   have c99b1 : ((t456.length : Int) != (t416.size : Int)) = false := bne_eq_false_iff_eq.mpr c99
                   have c99b2 : (t456.length == t416.size) = true := by first | simpa using c99 | (simp at c99 ⊢; omega)
                   clear c99
                   by_cases c100 : (t460.length : Int) = (wrap64 ((wrap64 (2 * (t437.length : Int))) + 1))
                   ·as_aux_lemma =>
                    rw [if_pos c100] at H
                    have c100b0 : ((t460.length : Int) == (wrap64 ((wrap64 (2 * (t437.length : Int))) + 1))) = true := beq_iff_eq.mpr c100
                    have c100b1 : ((t460.length : Int) != (wrap64 ((wrap64 (2 * (t437.length : Int))) + 1))) = false := bne_eq_false_iff_eq.mpr c100
                    clear c100
                    by_cases c101 : 0 ≤ (t437.length : Int)
                    ·as_aux_lemma =>
                     rw [if_pos c101] at H
                     have c101b0 : decide (0 ≤ (t437.length : Int)) = true := decide_eq_true c101
                     have c101b1 : decide (0 ≤ t437.length) = true := decide_eq_true (by omega)
                     clear c101
                     by_cases c102 : (t437.length : Int) < (t460.length : Int)
                     ·as_aux_lemma =>
                      rw [if_pos c102] at H
                      have c102b0 : decide ((t437.length : Int) < (t460.length : Int)) = true := decide_eq_true c102
                      have c102b1 : decide (t437.length < t460.length) = true := decide_eq_true (Int.ofNat_lt.mp c102)
                      clear c102
                      by_cases c103 : (rdOf ByteArray.empty t460 (t437.length : Int)).toList = ([114, 101, 115, 116] : List UInt8)
                      ·as_aux_lemma =>
                       rw [if_pos c103] at H
                       have c103b0 : ((rdOf ByteArray.empty t460 (t437.length : Int)).toList == ([114, 101, 115, 116] : List UInt8)) = true := beq_iff_eq.mpr c103
                       have c103b1 : ((rdOf ByteArray.empty t460 (t437.length : Int)).toList != ([114, 101, 115, 116] : List UInt8)) = false := bne_eq_false_iff_eq.mpr c103
                       clear c103
                       by_cases c104 : t464 < 0
                       ·as_aux_lemma =>
                        rw [if_pos c104] at H
                        have c104b0 : decide (t464 < 0) = true := decide_eq_true c104
                        clear c104
                        have H' := Aside0.mk H
                        clear H
                        obtain ⟨Ao105, co105, eo105⟩ := Kd.R_slice HO459.out
                        subst eo105
                        obtain ⟨Ao106, co106, eo106⟩ := Kd.R_slice HO463.out
                        subst eo106
                        obtain ⟨Ao107, co107, eo107⟩ := Kd.R_slice HO_15.out
                        subst eo107
                        have p466 : 0 ≤ ((t437.length : Int) : Int) := of_decide_eq_true (by first | (with_reducible assumption) | assumption)
                        have q466 : (t437.length : Int) < (t460.length : Int) := of_decide_eq_true (by first | (with_reducible assumption) | assumption)
                        obtain ⟨ad466, e466, hx466_0⟩ := Kd.at_string (Kd.R_reads' HO463.out).2.2 (t437.length : Int) p466 q466
                        cases e466
                        (try simp only [Go.IntWalk.toNatUp] at hx466_0)
                        replace p466 := eq_true p466
                        replace q466 := eq_true q466
                        go_wp2
                        repeat (go_quiet (fail); try go_wp2)
                        go_meet
                        case rel => exact ⟨_, (true), (by first | rfl | (simp; done) | (simp [*]; done)), H', ⟨by have := HK1.out; have := HJ44.out; have := HK3.out; first | omega | exact Nat.le_refl _⟩, ⟨by (with_reducible repeat (first | apply Kd.R_alloc | apply Kd.R_drewN | apply Kd.R_drew)); exact Kd.R_mono HO_15.out (fun _ hk => ⟨hk.1.2, hk.2⟩)⟩, ⟨by (with_reducible repeat (first | apply Kd.R_alloc | apply Kd.R_drewN | apply Kd.R_drew)); exact Kd.R_mono HO459.out (fun _ hk => ⟨hk.1.2, hk.2⟩)⟩, ⟨by (with_reducible repeat (first | apply Kd.R_alloc | apply Kd.R_drewN | apply Kd.R_drew)); exact Kd.R_mono HO463.out (fun _ hk => ⟨hk.1.2, hk.2⟩)⟩, ⟨by repeat (first | (with_reducible first | exact HB.out | apply below_alloc | apply pw_below_drewN | apply below_drew1) | exact HB.out)⟩⟩
                       ·as_aux_lemma =>
                        rw [if_neg c104] at H
                        have c104b0 : decide (t464 < 0) = false := decide_eq_false c104
                        clear c104
                        have H' := Aside0.mk H
                        clear H
                        obtain ⟨Ao108, co108, eo108⟩ := Kd.R_slice HO459.out
                        subst eo108
                        obtain ⟨Ao109, co109, eo109⟩ := Kd.R_slice HO463.out
                        subst eo109
                        obtain ⟨Ao110, co110, eo110⟩ := Kd.R_slice HO_15.out
                        subst eo110
                        have p466 : 0 ≤ ((t437.length : Int) : Int) := of_decide_eq_true (by first | (with_reducible assumption) | assumption)
                        have q466 : (t437.length : Int) < (t460.length : Int) := of_decide_eq_true (by first | (with_reducible assumption) | assumption)
                        obtain ⟨ad466, e466, hx466_0⟩ := Kd.at_string (Kd.R_reads' HO463.out).2.2 (t437.length : Int) p466 q466
                        cases e466
                        (try simp only [Go.IntWalk.toNatUp] at hx466_0)
                        replace p466 := eq_true p466
                        replace q466 := eq_true q466
                        go_wp2
                        repeat (go_quiet (fail); try go_wp2)
                        go_meet
                        case rel => exact ⟨_, (decide (t464 > x19_3)), (by first | rfl | (simp; done) | (simp [*]; done)), H', ⟨by have := HK1.out; have := HJ44.out; have := HK3.out; first | omega | exact Nat.le_refl _⟩, ⟨by (with_reducible repeat (first | apply Kd.R_alloc | apply Kd.R_drewN | apply Kd.R_drew)); exact Kd.R_mono HO_15.out (fun _ hk => ⟨hk.1.2, hk.2⟩)⟩, ⟨by (with_reducible repeat (first | apply Kd.R_alloc | apply Kd.R_drewN | apply Kd.R_drew)); exact Kd.R_mono HO459.out (fun _ hk => ⟨hk.1.2, hk.2⟩)⟩, ⟨by (with_reducible repeat (first | apply Kd.R_alloc | apply Kd.R_drewN | apply Kd.R_drew)); exact Kd.R_mono HO463.out (fun _ hk => ⟨hk.1.2, hk.2⟩)⟩, ⟨by repeat (first | (with_reducible first | exact HB.out | apply below_alloc | apply pw_below_drewN | apply below_drew1) | exact HB.out)⟩⟩
                      ·as_aux_lemma =>
                       rw [if_neg c103] at H
                       have c103b0 : ((rdOf ByteArray.empty t460 (t437.length : Int)).toList == ([114, 101, 115, 116] : List UInt8)) = false := beq_eq_false_iff_ne.mpr c103
                       have c103b1 : ((rdOf ByteArray.empty t460 (t437.length : Int)).toList != ([114, 101, 115, 116] : List UInt8)) = true := bne_iff_ne.mpr c103
                       have H' := Aside0.mk H
                       clear H
                       obtain ⟨Ao111, co111, eo111⟩ := Kd.R_slice HO459.out
                       subst eo111
                       obtain ⟨Ao112, co112, eo112⟩ := Kd.R_slice HO463.out
                       subst eo112
                       obtain ⟨Ao113, co113, eo113⟩ := Kd.R_slice HO_15.out
                       subst eo113
                       have p466 : 0 ≤ ((t437.length : Int) : Int) := of_decide_eq_true (by first | (with_reducible assumption) | assumption)
                       have q466 : (t437.length : Int) < (t460.length : Int) := of_decide_eq_true (by first | (with_reducible assumption) | assumption)
                       obtain ⟨ad466, e466, hx466_0⟩ := Kd.at_string (Kd.R_reads' HO463.out).2.2 (t437.length : Int) p466 q466
                       cases e466
                       (try simp only [Go.IntWalk.toNatUp] at hx466_0)
                       replace p466 := eq_true p466
                       replace q466 := eq_true q466
                       go_wp2
                       repeat (go_quiet (fail); try go_wp2)
                       go_meet
                       case rel => exact ⟨_, (true), (by first | rfl | (simp; done) | (simp [*]; done)), H', ⟨by have := HK1.out; have := HJ44.out; have := HK3.out; first | omega | exact Nat.le_refl _⟩, ⟨by (with_reducible repeat (first | apply Kd.R_alloc | apply Kd.R_drewN | apply Kd.R_drew)); exact Kd.R_mono HO_15.out (fun _ hk => ⟨hk.1.2, hk.2⟩)⟩, ⟨by (with_reducible repeat (first | apply Kd.R_alloc | apply Kd.R_drewN | apply Kd.R_drew)); exact Kd.R_mono HO459.out (fun _ hk => ⟨hk.1.2, hk.2⟩)⟩, ⟨by (with_reducible repeat (first | apply Kd.R_alloc | apply Kd.R_drewN | apply Kd.R_drew)); exact Kd.R_mono HO463.out (fun _ hk => ⟨hk.1.2, hk.2⟩)⟩, ⟨by repeat (first | (with_reducible first | exact HB.out | apply below_alloc | apply pw_below_drewN | apply below_drew1) | exact HB.out)⟩⟩
                     ·as_aux_lemma =>
                      rw [if_neg c102] at H
                      exact absurd H (by simp)
                    ·as_aux_lemma =>
                     rw [if_neg c101] at H
                     exact absurd H (by simp)
                   ·as_aux_lemma =>
                    rw [if_neg c100] at H
                    have c100b0 : ((t460.length : Int) == (wrap64 ((wrap64 (2 * (t437.length : Int))) + 1))) = false := beq_eq_false_iff_ne.mpr c100
                    have c100b1 : ((t460.length : Int) != (wrap64 ((wrap64 (2 * (t437.length : Int))) + 1))) = true := bne_iff_ne.mpr c100
                    have H' := Aside0.mk H
                    clear H
                    obtain ⟨Ao114, co114, eo114⟩ := Kd.R_slice HO459.out
                    subst eo114
                    obtain ⟨Ao115, co115, eo115⟩ := Kd.R_slice HO463.out
                    subst eo115
                    obtain ⟨Ao116, co116, eo116⟩ := Kd.R_slice HO_15.out
                    subst eo116
                    go_wp2
                    repeat (go_quiet (fail); try go_wp2)
                    go_meet
                    case rel => exact ⟨_, (true), (by first | rfl | (simp; done) | (simp [*]; done)), H', ⟨by have := HK1.out; have := HJ44.out; have := HK3.out; first | omega | exact Nat.le_refl _⟩, ⟨by (with_reducible repeat (first | apply Kd.R_alloc | apply Kd.R_drewN | apply Kd.R_drew)); exact Kd.R_mono HO_15.out (fun _ hk => ⟨hk.1.2, hk.2⟩)⟩, ⟨by (with_reducible repeat (first | apply Kd.R_alloc | apply Kd.R_drewN | apply Kd.R_drew)); exact Kd.R_mono HO459.out (fun _ hk => ⟨hk.1.2, hk.2⟩)⟩, ⟨by (with_reducible repeat (first | apply Kd.R_alloc | apply Kd.R_drewN | apply Kd.R_drew)); exact Kd.R_mono HO463.out (fun _ hk => ⟨hk.1.2, hk.2⟩)⟩, ⟨by repeat (first | (with_reducible first | exact HB.out | apply below_alloc | apply pw_below_drewN | apply below_drew1) | exact HB.out)⟩⟩
                  ·as_aux_lemma =>
                   rw [if_neg c99] at H
                   have c99b0 : ((t456.length : Int) == (t416.size : Int)) = false := beq_eq_false_iff_ne.mpr c99
                   have c99b1 : ((t456.length : Int) != (t416.size : Int)) = true := bne_iff_ne.mpr c99
                   have c99b2 : (t456.length == t416.size) = false := by first | simpa using c99 | (simp at c99 ⊢; omega)
                   have H' := Aside0.mk H
                   clear H
                   obtain ⟨Ao117, co117, eo117⟩ := Kd.R_slice HO459.out
                   subst eo117
                   go_wp2
                   repeat (go_quiet (fail); try go_wp2)
                   go_meet
                   case rel => exact ⟨_, (true), (by first | rfl | (simp; done) | (simp [*]; done)), H', ⟨by have := HK1.out; have := HJ44.out; have := HK3.out; first | omega | exact Nat.le_refl _⟩, ⟨by (with_reducible repeat (first | apply Kd.R_alloc | apply Kd.R_drewN | apply Kd.R_drew)); exact Kd.R_mono HO_15.out (fun _ hk => ⟨hk.1.2, hk.2⟩)⟩, ⟨by (with_reducible repeat (first | apply Kd.R_alloc | apply Kd.R_drewN | apply Kd.R_drew)); exact Kd.R_mono HO459.out (fun _ hk => ⟨hk.1.2, hk.2⟩)⟩, ⟨by (with_reducible repeat (first | apply Kd.R_alloc | apply Kd.R_drewN | apply Kd.R_drew)); exact Kd.R_mono HO463.out (fun _ hk => ⟨hk.1.2, hk.2⟩)⟩, ⟨by repeat (first | (with_reducible first | exact HB.out | apply below_alloc | apply pw_below_drewN | apply below_drew1) | exact HB.out)⟩⟩
                 ·as_aux_lemma =>
                  replace c98 := Bool.eq_false_iff.mpr c98
                  subst c98
                  have H1 : (laws_FnRulesRead.j6 k3 t416 t437 t456 t460 t464 true) = some r := by rw [if_neg (show ¬ (false = true) by decide)] at H; exact H
                  clear H
                  have H := H1
                  clear H1
                  have H' := Aside0.mk H
                  clear H
                  go_wp2
                  repeat (go_quiet (fail); try go_wp2)
                  go_meet
                  case rel => exact ⟨_, (true), (by first | rfl | (simp; done) | (simp [*]; done)), H', ⟨by have := HK1.out; have := HJ44.out; have := HK3.out; first | omega | exact Nat.le_refl _⟩, ⟨by (with_reducible repeat (first | apply Kd.R_alloc | apply Kd.R_drewN | apply Kd.R_drew)); exact Kd.R_mono HO_15.out (fun _ hk => ⟨hk.1.2, hk.2⟩)⟩, ⟨by (with_reducible repeat (first | apply Kd.R_alloc | apply Kd.R_drewN | apply Kd.R_drew)); exact Kd.R_mono HO459.out (fun _ hk => ⟨hk.1.2, hk.2⟩)⟩, ⟨by (with_reducible repeat (first | apply Kd.R_alloc | apply Kd.R_drewN | apply Kd.R_drew)); exact Kd.R_mono HO463.out (fun _ hk => ⟨hk.1.2, hk.2⟩)⟩, ⟨by repeat (first | (with_reducible first | exact HB.out | apply below_alloc | apply pw_below_drewN | apply below_drew1) | exact HB.out)⟩⟩
                ·as_aux_lemma =>
                 replace c97 := Bool.eq_false_iff.mpr c97
                 subst c97
                 have H1 : (laws_FnRulesRead.j6 k3 t416 t437 t456 t460 t464 true) = some r := by rw [if_neg (show ¬ (false = true) by decide)] at H; exact H
                 clear H
                 have H := H1
                 clear H1
                 have H' := Aside0.mk H
                 clear H
                 go_wp2
                 repeat (go_quiet (fail); try go_wp2)
                 go_meet
                 case rel => exact ⟨_, (true), (by first | rfl | (simp; done) | (simp [*]; done)), H', ⟨by have := HK1.out; have := HJ44.out; have := HK3.out; first | omega | exact Nat.le_refl _⟩, ⟨by (with_reducible repeat (first | apply Kd.R_alloc | apply Kd.R_drewN | apply Kd.R_drew)); exact Kd.R_mono HO_15.out (fun _ hk => ⟨hk.1.2, hk.2⟩)⟩, ⟨by (with_reducible repeat (first | apply Kd.R_alloc | apply Kd.R_drewN | apply Kd.R_drew)); exact Kd.R_mono HO459.out (fun _ hk => ⟨hk.1.2, hk.2⟩)⟩, ⟨by (with_reducible repeat (first | apply Kd.R_alloc | apply Kd.R_drewN | apply Kd.R_drew)); exact Kd.R_mono HO463.out (fun _ hk => ⟨hk.1.2, hk.2⟩)⟩, ⟨by repeat (first | (with_reducible first | exact HB.out | apply below_alloc | apply pw_below_drewN | apply below_drew1) | exact HB.out)⟩⟩
               ·as_aux_lemma =>
                replace c96 := Bool.eq_false_iff.mpr c96
                subst c96
                have H1 : (laws_FnRulesRead.j6 k3 t416 t437 t456 t460 t464 true) = some r := by rw [if_neg (show ¬ (false = true) by decide)] at H; exact H
                clear H
                have H := H1
                clear H1
                have H' := Aside0.mk H
                clear H
                go_wp2
                repeat (go_quiet (fail); try go_wp2)
                go_meet
                case rel => exact ⟨_, (true), (by first | rfl | (simp; done) | (simp [*]; done)), H', ⟨by have := HK1.out; have := HJ44.out; have := HK3.out; first | omega | exact Nat.le_refl _⟩, ⟨by (with_reducible repeat (first | apply Kd.R_alloc | apply Kd.R_drewN | apply Kd.R_drew)); exact Kd.R_mono HO_15.out (fun _ hk => ⟨hk.1.2, hk.2⟩)⟩, ⟨by (with_reducible repeat (first | apply Kd.R_alloc | apply Kd.R_drewN | apply Kd.R_drew)); exact Kd.R_mono HO459.out (fun _ hk => ⟨hk.1.2, hk.2⟩)⟩, ⟨by (with_reducible repeat (first | apply Kd.R_alloc | apply Kd.R_drewN | apply Kd.R_drew)); exact Kd.R_mono HO463.out (fun _ hk => ⟨hk.1.2, hk.2⟩)⟩, ⟨by repeat (first | (with_reducible first | exact HB.out | apply below_alloc | apply pw_below_drewN | apply below_drew1) | exact HB.out)⟩⟩
              ·as_aux_lemma =>
               rw [if_neg c95] at H
               have c95b0 : (x19_3 == (t416.size : Int)) = false := beq_eq_false_iff_ne.mpr c95
               have c95b1 : (x19_3 != (t416.size : Int)) = true := bne_iff_ne.mpr c95
               (first | rw [c95b0] | (simp only [i64_w, i32_w]; rw [c95b0]) | skip)
               have H' := Aside0.mk H
               clear H
               go_wp2
               repeat (go_quiet (fail); try go_wp2)
               go_meet
               case rel => exact ⟨_, (true), (by first | rfl | (simp; done) | (simp [*]; done)), H', ⟨by have := HK1.out; have := HJ44.out; have := HK3.out; first | omega | exact Nat.le_refl _⟩, ⟨by (with_reducible repeat (first | apply Kd.R_alloc | apply Kd.R_drewN | apply Kd.R_drew)); exact Kd.R_mono HO_15.out (fun _ hk => ⟨hk.1.2, hk.2⟩)⟩, ⟨by (with_reducible repeat (first | apply Kd.R_alloc | apply Kd.R_drewN | apply Kd.R_drew)); exact Kd.R_mono HO459.out (fun _ hk => ⟨hk.1.2, hk.2⟩)⟩, ⟨by (with_reducible repeat (first | apply Kd.R_alloc | apply Kd.R_drewN | apply Kd.R_drew)); exact Kd.R_mono HO463.out (fun _ hk => ⟨hk.1.2, hk.2⟩)⟩, ⟨by repeat (first | (with_reducible first | exact HB.out | apply below_alloc | apply pw_below_drewN | apply below_drew1) | exact HB.out)⟩⟩
             case rest =>
              as_aux_lemma =>
              clear HC90
              (try clear c1);(try clear c2);(try clear p2);(try clear c3);(try clear c4);(try clear p4);(try clear q4);(try clear hx4);(try clear c5);(try clear c6);(try clear p6);(try clear c7);(try clear c8);(try clear c9);(try clear c10);(try clear c12);(try clear c12b0);(try clear c13);(try clear c13b0);(try clear c14);(try clear c14b0);(try clear c17);(try clear c18);(try clear c20);(try clear c21);(try clear p42);(try clear q42);(try clear hx42);(try clear p44);(try clear q44);(try clear hx44);(try clear p45);(try clear q45);(try clear hx45);(try clear p46);(try clear q46);(try clear hx46);(try clear c50);(try clear c51);(try clear c52);(try clear c57);(try clear c59);(try clear c59b0);(try clear c60);(try clear c60b0);(try clear c61);(try clear c61b0);(try clear c63);(try clear c63b0);(try clear c64);(try clear c64b0);(try clear p64);(try clear c65);(try clear c65b0);(try clear c66);(try clear c66b0);(try clear c69);(try clear c70);(try clear c70b0);(try clear c71);(try clear c71b0);(try clear c72);(try clear c72b0);(try clear c74);(try clear c78);(try clear c78b0);(try clear c79);(try clear c79b0);(try clear c80);(try clear c80b0);(try clear c81);(try clear c81b0);(try clear c81b1);(try clear c82);(try clear c82b0);(try clear c83);(try clear c83b0);(try clear c86);(try clear c86b0);(try clear c86b1);(try clear c86b2);(try clear c87);(try clear c87b0);(try clear c87b1);(try clear c87b2);(try clear c95);(try clear c95b0);(try clear c95b1);(try clear c96);(try clear c97);(try clear c98);(try clear c99);(try clear c99b0);(try clear c99b1);(try clear c99b2);(try clear c100);(try clear c100b0);(try clear c100b1);(try clear c101);(try clear c101b0);(try clear c101b1);(try clear c102);(try clear c102b0);(try clear c102b1);(try clear c103);(try clear c103b0);(try clear c103b1);(try clear c104);(try clear c104b0);(try clear hcz25_0);(try clear hcz25_1);(try clear hcz25_2);(try clear hcz25_3);(try clear hcz27_0);(try clear hcz27_1);(try clear hcz27_2);(try clear hcz27_3);(try clear hcz32_0);(try clear hcz32_1);(try clear hcz32_2);(try clear hcz32_3);(try clear hcz37_0);(try clear hcz37_1);(try clear hcz37_2);(try clear hcz37_3);(try clear hcz41_0);(try clear hcz41_1);(try clear hcz41_2);(try clear hcz41_3);(try clear hfz25_0);(try clear hfz25_1);(try clear hfz25_2);(try clear hfz25_3);(try clear hfz27_0);(try clear hfz27_1);(try clear hfz27_2);(try clear hfz27_3);(try clear hfz32_0);(try clear hfz32_1);(try clear hfz32_2);(try clear hfz32_3);(try clear hfz37_0);(try clear hfz37_1);(try clear hfz37_2);(try clear hfz37_3);(try clear hfz41_0);(try clear hfz41_1);(try clear hfz41_2);(try clear hfz41_3);(try clear hx420_0);(try clear hx420_1);(try clear hx420_2);(try clear hx420_3);(try clear hx446_0);(try clear hx447_0);(try clear hx447_1);(try clear hx447_2);(try clear hx447_3);(try clear hx449_0);(try clear hx449_1);(try clear hx449_2);(try clear hx449_3);(try clear hx451_0);(try clear hx452_0);(try clear hx452_1);(try clear hx452_2);(try clear hx452_3);(try clear hx466_0);(try clear p2);(try clear p4);(try clear p42);(try clear p420);(try clear p44);(try clear p446);(try clear p447);(try clear p449);(try clear p451);(try clear p452);(try clear p466);(try clear p6);(try clear p64);(try clear q4);(try clear q42);(try clear q420);(try clear q44);(try clear q446);(try clear q447);(try clear q449);(try clear q451);(try clear q452);(try clear q466)
              obtain ⟨kq, x236_89, rfl, HA, HJ89, HO_15, HO_24, HO_26, HB⟩ := hcut
              cases kq with
              | zero => exact absurd HA.out (by simp [laws_FnRulesRead.j6])
              | succ kj89 =>
               have H := HA.out
               clear HA
               simp only [laws_FnRulesRead.j6] at H
               by_cases c118 : x236_89 = true
               ·subst c118
                have H1 : (some false) = some r := by rw [if_pos rfl] at H; exact H
                exact absurd ((Option.some.inj H1).trans HRT_.out) (by decide)
               ·replace c118 := Bool.eq_false_iff.mpr c118
                subst c118
                have H1 : (laws_FnRulesRead.l4 kj89 t416 t437 t456 t460 t464 false (t456.length : Int) 0) = some r := by rw [if_neg (show ¬ (false = true) by decide)] at H; exact H
                clear H
                have H := H1
                clear H1
                have H' := Aside0.mk H
                clear H
                obtain ⟨Ao119, co119, eo119⟩ := Kd.R_slice HO_24.out
                subst eo119
                go_wp2
                repeat (go_quiet (fail); try go_wp2)
                go_loopg [30, 239] kj89 (fun kq v30 v239 w' => ∃ (x30_5 : Bool) (x239_5 : Int), v30 = .bool x30_5 ∧ v239 = .int .i64 x239_5 ∧ Aside0 (laws_FnRulesRead.l4 kq t416 t437 t456 t460 t464 x30_5 (t456.length : Int) x239_5 = some r) ∧ Aside0 (kq ≤ kj89) ∧ Aside0 (Kd.R Kd.string 9 w' w.heap.size (fun k_ => some k_ ≠ ((.slice Ao119 t456.length co119) : Value).ownBlock ∧ some k_ ≠ (v462 : Value).ownBlock) v439 t437) ∧ Aside0 (Kd.R Kd.string 9 w' w.heap.size (fun k_ => some k_ ≠ (v439 : Value).ownBlock ∧ some k_ ≠ (v462 : Value).ownBlock) (.slice Ao119 t456.length co119) t456) ∧ Aside0 (Kd.R Kd.string 9 w' w.heap.size (fun k_ => some k_ ≠ (v439 : Value).ownBlock ∧ some k_ ≠ ((.slice Ao119 t456.length co119) : Value).ownBlock) v462 t460) ∧ Aside0 (Below w.heap.size w w'))
                case atStart => exact ⟨(false), (0), (by first | rfl | (simp; done) | (simp [*]; done)), (by first | rfl | (simp; done) | (simp [*]; done)), H', ⟨Nat.le_refl _⟩, ⟨by (with_reducible repeat (first | apply Kd.R_alloc | apply Kd.R_drewN | apply Kd.R_drew)); exact HO_15.out⟩, ⟨by (with_reducible repeat (first | apply Kd.R_alloc | apply Kd.R_drewN | apply Kd.R_drew)); exact HO_24.out⟩, ⟨by (with_reducible repeat (first | apply Kd.R_alloc | apply Kd.R_drewN | apply Kd.R_drew)); exact HO_26.out⟩, ⟨by repeat (first | (with_reducible first | exact HB.out | apply below_alloc | apply pw_below_drewN | apply below_drew1) | exact HB.out)⟩⟩
                case round =>
                 as_aux_lemma =>
                 clear H'
                 (try clear c1);(try clear c2);(try clear p2);(try clear c3);(try clear c4);(try clear p4);(try clear q4);(try clear hx4);(try clear c5);(try clear c6);(try clear p6);(try clear c7);(try clear c8);(try clear c9);(try clear c10);(try clear c11);(try clear c12);(try clear c12b0);(try clear c13);(try clear c13b0);(try clear c14);(try clear c14b0);(try clear c17);(try clear c18);(try clear c20);(try clear c21);(try clear p42);(try clear q42);(try clear hx42);(try clear p44);(try clear q44);(try clear hx44);(try clear p45);(try clear q45);(try clear hx45);(try clear p46);(try clear q46);(try clear hx46);(try clear c50);(try clear c51);(try clear c52);(try clear c57);(try clear c59);(try clear c59b0);(try clear c60);(try clear c60b0);(try clear c61);(try clear c61b0);(try clear c63);(try clear c63b0);(try clear c64);(try clear c64b0);(try clear p64);(try clear c65);(try clear c65b0);(try clear c66);(try clear c66b0);(try clear c69);(try clear c70);(try clear c70b0);(try clear c71);(try clear c71b0);(try clear c72);(try clear c72b0);(try clear c74);(try clear c78);(try clear c78b0);(try clear c79);(try clear c79b0);(try clear c80);(try clear c80b0);(try clear c81);(try clear c81b0);(try clear c81b1);(try clear c82);(try clear c82b0);(try clear c83);(try clear c83b0);(try clear c86);(try clear c86b0);(try clear c86b1);(try clear c86b2);(try clear c87);(try clear c87b0);(try clear c87b1);(try clear c87b2);(try clear c95);(try clear c95b0);(try clear c95b1);(try clear c96);(try clear c97);(try clear c98);(try clear c99);(try clear c99b0);(try clear c99b1);(try clear c99b2);(try clear c100);(try clear c100b0);(try clear c100b1);(try clear c101);(try clear c101b0);(try clear c101b1);(try clear c102);(try clear c102b0);(try clear c102b1);(try clear c103);(try clear c103b0);(try clear c103b1);(try clear c104);(try clear c104b0);(try clear c118);(try clear hcz25_0);(try clear hcz25_1);(try clear hcz25_2);(try clear hcz25_3);(try clear hcz27_0);(try clear hcz27_1);(try clear hcz27_2);(try clear hcz27_3);(try clear hcz32_0);(try clear hcz32_1);(try clear hcz32_2);(try clear hcz32_3);(try clear hcz37_0);(try clear hcz37_1);(try clear hcz37_2);(try clear hcz37_3);(try clear hcz41_0);(try clear hcz41_1);(try clear hcz41_2);(try clear hcz41_3);(try clear hfz25_0);(try clear hfz25_1);(try clear hfz25_2);(try clear hfz25_3);(try clear hfz27_0);(try clear hfz27_1);(try clear hfz27_2);(try clear hfz27_3);(try clear hfz32_0);(try clear hfz32_1);(try clear hfz32_2);(try clear hfz32_3);(try clear hfz37_0);(try clear hfz37_1);(try clear hfz37_2);(try clear hfz37_3);(try clear hfz41_0);(try clear hfz41_1);(try clear hfz41_2);(try clear hfz41_3);(try clear hx420_0);(try clear hx420_1);(try clear hx420_2);(try clear hx420_3);(try clear hx446_0);(try clear hx447_0);(try clear hx447_1);(try clear hx447_2);(try clear hx447_3);(try clear hx449_0);(try clear hx449_1);(try clear hx449_2);(try clear hx449_3);(try clear hx451_0);(try clear hx452_0);(try clear hx452_1);(try clear hx452_2);(try clear hx452_3);(try clear hx466_0);(try clear p2);(try clear p4);(try clear p42);(try clear p420);(try clear p44);(try clear p446);(try clear p447);(try clear p449);(try clear p45);(try clear p451);(try clear p452);(try clear p46);(try clear p466);(try clear p6);(try clear p64);(try clear q4);(try clear q42);(try clear q420);(try clear q44);(try clear q446);(try clear q447);(try clear q449);(try clear q45);(try clear q451);(try clear q452);(try clear q46);(try clear q466)
                 obtain ⟨x30_5, x239_5, rfl, rfl, HA, HK5, HO_15, HO_24, HO_26, HB⟩ := hrel
                 cases gk with
                 | zero => exact absurd HA.out (by simp [laws_FnRulesRead.l4])
                 | succ k5 =>
                  have H := HA.out
                  clear HA
                  simp only [laws_FnRulesRead.l4] at H
                  by_cases c120 : x239_5 < (t456.length : Int)
                  ·rw [if_pos c120] at H
                   have c120b0 : decide (x239_5 < (t456.length : Int)) = true := decide_eq_true c120
                   clear c120
                   by_cases c121 : 0 ≤ x239_5
                   ·rw [if_pos c121] at H
                    have c121b0 : decide (0 ≤ x239_5) = true := decide_eq_true c121
                    clear c121
                    by_cases c122 : x239_5 < (t456.length : Int)
                    ·rw [if_pos c122] at H
                     have c122b0 : decide (x239_5 < (t456.length : Int)) = true := decide_eq_true c122
                     clear c122
                     have c123b0 := eq_true (of_decide_eq_true (by first | (with_reducible assumption) | assumption) : 0 ≤ x239_5)
                     by_cases c124 : x239_5 ≤ (wrap64 (x239_5 + 1))
                     ·rw [if_pos c124] at H
                      have c124b0 := eq_true c124
                      have c124b1 : decide (x239_5 ≤ (wrap64 (x239_5 + 1))) = true := decide_eq_true c124
                      by_cases c125 : (wrap64 (x239_5 + 1)) ≤ (t416.size : Int)
                      ·rw [if_pos c125] at H
                       have c125b0 := eq_true c125
                       have c125b1 : decide ((wrap64 (x239_5 + 1)) ≤ (t416.size : Int)) = true := decide_eq_true c125
                       by_cases c126 : (rdOf ByteArray.empty t456 x239_5).toList = (t416.extract (x239_5 : Int).toNat ((wrap64 (x239_5 + 1)) : Int).toNat).toList
                       ·rw [if_pos c126] at H
                        have c126b0 : ((rdOf ByteArray.empty t456 x239_5).toList == (t416.extract (x239_5 : Int).toNat ((wrap64 (x239_5 + 1)) : Int).toNat).toList) = true := beq_iff_eq.mpr c126
                        have c126b1 : ((rdOf ByteArray.empty t456 x239_5).toList != (t416.extract (x239_5 : Int).toNat ((wrap64 (x239_5 + 1)) : Int).toNat).toList) = false := bne_eq_false_iff_eq.mpr c126
                        clear c126
                        by_cases c127 : x30_5 = true
                        ·subst c127
                         have H1 : (laws_FnRulesRead.l4 k5 t416 t437 t456 t460 t464 true (t456.length : Int) (wrap64 (x239_5 + 1))) = some r := by rw [if_pos rfl] at H; exact H
                         clear H
                         have H := H1
                         clear H1
                         have H' := Aside0.mk H
                         clear H
                         have p467 : 0 ≤ (x239_5 : Int) := of_decide_eq_true (by first | (with_reducible assumption) | assumption)
                         have q467 : x239_5 < (t456.length : Int) := of_decide_eq_true (by first | (with_reducible assumption) | assumption)
                         obtain ⟨ad467, e467, hx467_0⟩ := Kd.at_string (Kd.R_reads' HO_24.out).2.2 x239_5 p467 q467
                         cases e467
                         replace p467 := eq_true p467
                         replace q467 := eq_true q467
                         go_wp2
                         repeat (go_quiet (fail); try go_wp2)
                         go_roundg k5
                         case measure => have := HK1.out; have := HJ44.out; have := HK3.out; have := HJ89.out; have := HK5.out; omega
                         case rel => exact ⟨(true), (wrap64 (x239_5 + 1)), (by first | rfl | (simp; done) | (simp [*]; done)), (by first | rfl | (simp; done) | (simp [*]; done)), H', ⟨by have := HK1.out; have := HJ44.out; have := HK3.out; have := HJ89.out; have := HK5.out; omega⟩, ⟨by (with_reducible repeat (first | apply Kd.R_alloc | apply Kd.R_drewN | apply Kd.R_drew)); exact HO_15.out⟩, ⟨by (with_reducible repeat (first | apply Kd.R_alloc | apply Kd.R_drewN | apply Kd.R_drew)); exact HO_24.out⟩, ⟨by (with_reducible repeat (first | apply Kd.R_alloc | apply Kd.R_drewN | apply Kd.R_drew)); exact HO_26.out⟩, ⟨by repeat (first | (with_reducible first | exact HB.out | apply below_alloc | apply pw_below_drewN | apply below_drew1) | exact HB.out)⟩⟩
                        ·replace c127 := Bool.eq_false_iff.mpr c127
                         subst c127
                         have H1 : ((impl_IsVowel.f (rdOf ByteArray.empty t456 x239_5)).bind fun t469 => (laws_FnRulesRead.l4 k5 t416 t437 t456 t460 t464 t469 (t456.length : Int) (wrap64 (x239_5 + 1)))) = some r := by rw [if_neg (show ¬ (false = true) by decide)] at H; exact H
                         clear H
                         have H := H1
                         clear H1
                         replace H := Option.bind_eq_some_iff.mp H
                         obtain ⟨t469, A1280, H⟩ := H
                         replace H : (laws_FnRulesRead.l4 k5 t416 t437 t456 t460 t464 t469 (t456.length : Int) (wrap64 (x239_5 + 1))) = some r := H
                         have A128 := Aside0.mk A1280
                         clear A1280
                         have H' := Aside0.mk H
                         clear H
                         have p467 : 0 ≤ (x239_5 : Int) := of_decide_eq_true (by first | (with_reducible assumption) | assumption)
                         have q467 : x239_5 < (t456.length : Int) := of_decide_eq_true (by first | (with_reducible assumption) | assumption)
                         obtain ⟨ad467, e467, hx467_0⟩ := Kd.at_string (Kd.R_reads' HO_24.out).2.2 x239_5 p467 q467
                         cases e467
                         replace p467 := eq_true p467
                         replace q467 := eq_true q467
                         have p468 : 0 ≤ (x239_5 : Int) := of_decide_eq_true (by first | (with_reducible assumption) | assumption)
                         have q468 : x239_5 < (t456.length : Int) := of_decide_eq_true (by first | (with_reducible assumption) | assumption)
                         obtain ⟨ad468, e468, hx468_0⟩ := Kd.at_string (Kd.R_reads' HO_24.out).2.2 x239_5 p468 q468
                         obtain rfl : ad467 = ad468 := (by injection e468)
                         replace p468 := eq_true p468
                         replace q468 := eq_true q468
                         go_wp2_with (first | (go_at_call 18; (with_reducible refine (impl_IsVowel.calls (rdOf ByteArray.empty t456 x239_5) t469 _ A128.out).mono ?_); rintro e w' ⟨rfl, ⟨nd, rfl⟩⟩; (try first | exact ⟨rfl, _, World.drewN_drewN _ _ _⟩ | exact ⟨rfl, _, Eq.trans (World.drewN_drewN _ _ _) (congrArg (World.drewN _) (Nat.add_assoc _ _ _))⟩)))
                         repeat (go_quiet (first | (go_at_call 18; (with_reducible refine (impl_IsVowel.calls (rdOf ByteArray.empty t456 x239_5) t469 _ A128.out).mono ?_); rintro e w' ⟨rfl, ⟨nd, rfl⟩⟩; (try first | exact ⟨rfl, _, World.drewN_drewN _ _ _⟩ | exact ⟨rfl, _, Eq.trans (World.drewN_drewN _ _ _) (congrArg (World.drewN _) (Nat.add_assoc _ _ _))⟩))); try go_wp2_with (first | (go_at_call 18; (with_reducible refine (impl_IsVowel.calls (rdOf ByteArray.empty t456 x239_5) t469 _ A128.out).mono ?_); rintro e w' ⟨rfl, ⟨nd, rfl⟩⟩; (try first | exact ⟨rfl, _, World.drewN_drewN _ _ _⟩ | exact ⟨rfl, _, Eq.trans (World.drewN_drewN _ _ _) (congrArg (World.drewN _) (Nat.add_assoc _ _ _))⟩))))
                         go_roundg k5
                         case measure => have := HK1.out; have := HJ44.out; have := HK3.out; have := HJ89.out; have := HK5.out; omega
                         case rel => exact ⟨(t469), (wrap64 (x239_5 + 1)), (by first | rfl | (simp; done) | (simp [*]; done)), (by first | rfl | (simp; done) | (simp [*]; done)), H', ⟨by have := HK1.out; have := HJ44.out; have := HK3.out; have := HJ89.out; have := HK5.out; omega⟩, ⟨by (with_reducible repeat (first | apply Kd.R_alloc | apply Kd.R_drewN | apply Kd.R_drew)); exact HO_15.out⟩, ⟨by (with_reducible repeat (first | apply Kd.R_alloc | apply Kd.R_drewN | apply Kd.R_drew)); exact HO_24.out⟩, ⟨by (with_reducible repeat (first | apply Kd.R_alloc | apply Kd.R_drewN | apply Kd.R_drew)); exact HO_26.out⟩, ⟨by repeat (first | (with_reducible first | exact HB.out | apply below_alloc | apply pw_below_drewN | apply below_drew1) | exact HB.out)⟩⟩
                       ·rw [if_neg c126] at H
                        have c126b0 : ((rdOf ByteArray.empty t456 x239_5).toList == (t416.extract (x239_5 : Int).toNat ((wrap64 (x239_5 + 1)) : Int).toNat).toList) = false := beq_eq_false_iff_ne.mpr c126
                        have c126b1 : ((rdOf ByteArray.empty t456 x239_5).toList != (t416.extract (x239_5 : Int).toNat ((wrap64 (x239_5 + 1)) : Int).toNat).toList) = true := bne_iff_ne.mpr c126
                        obtain rfl := Option.some.inj H
                        have p467 : 0 ≤ (x239_5 : Int) := of_decide_eq_true (by first | (with_reducible assumption) | assumption)
                        have q467 : x239_5 < (t456.length : Int) := of_decide_eq_true (by first | (with_reducible assumption) | assumption)
                        obtain ⟨ad467, e467, hx467_0⟩ := Kd.at_string (Kd.R_reads' HO_24.out).2.2 x239_5 p467 q467
                        cases e467
                        replace p467 := eq_true p467
                        replace q467 := eq_true q467
                        go_wp2
                        repeat (go_quiet (fail); try go_wp2)
                        go_ret
                        exact ⟨by first | rfl | (simp [errW_none, errW_some] <;> rfl) | (simp [*, errW_none, errW_some] <;> rfl), by repeat (first | (with_reducible first | exact HB.out | apply below_alloc | apply pw_below_drewN | apply below_drew1) | exact HB.out)⟩
                      ·rw [if_neg c125] at H
                       exact absurd H (by simp)
                     ·rw [if_neg c124] at H
                      exact absurd H (by simp)
                    ·rw [if_neg c122] at H
                     exact absurd H (by simp)
                   ·rw [if_neg c121] at H
                    exact absurd H (by simp)
                  ·rw [if_neg c120] at H
                   have c120b0 : decide (x239_5 < (t456.length : Int)) = false := decide_eq_false c120
                   clear c120
                   have H' := Aside0.mk H
                   clear H
                   obtain ⟨Ao129, co129, eo129⟩ := Kd.R_slice HO_15.out
                   subst eo129
                   go_wp2
                   repeat (go_quiet (fail); try go_wp2)
                   go_loopg [263] k5 (fun kq v263 w' => ∃ (x263_6 : Int), v263 = .int .i64 x263_6 ∧ Aside0 (laws_FnRulesRead.l5 kq t437 t460 t464 x30_5 (t437.length : Int) x263_6 = some r) ∧ Aside0 (kq ≤ k5) ∧ Aside0 (Kd.R Kd.string 9 w' w.heap.size (fun k_ => some k_ ≠ (v462 : Value).ownBlock) (.slice Ao129 t437.length co129) t437) ∧ Aside0 (Kd.R Kd.string 9 w' w.heap.size (fun k_ => some k_ ≠ ((.slice Ao129 t437.length co129) : Value).ownBlock) v462 t460) ∧ Aside0 (Below w.heap.size w w'))
                   case atStart => exact ⟨(0), (by first | rfl | (simp; done) | (simp [*]; done)), H', ⟨Nat.le_refl _⟩, ⟨by (with_reducible repeat (first | apply Kd.R_alloc | apply Kd.R_drewN | apply Kd.R_drew)); exact Kd.R_mono HO_15.out (fun _ hk => hk.2)⟩, ⟨by (with_reducible repeat (first | apply Kd.R_alloc | apply Kd.R_drewN | apply Kd.R_drew)); exact Kd.R_mono HO_26.out (fun _ hk => hk.1)⟩, ⟨by repeat (first | (with_reducible first | exact HB.out | apply below_alloc | apply pw_below_drewN | apply below_drew1) | exact HB.out)⟩⟩
                   case round =>
                    as_aux_lemma =>
                    clear H'
                    (try clear c1);(try clear c2);(try clear p2);(try clear c3);(try clear c4);(try clear p4);(try clear q4);(try clear hx4);(try clear c5);(try clear c6);(try clear p6);(try clear c7);(try clear c8);(try clear c9);(try clear c10);(try clear c11);(try clear c12);(try clear c12b0);(try clear c13);(try clear c13b0);(try clear c14);(try clear c14b0);(try clear c17);(try clear c18);(try clear c20);(try clear c21);(try clear p42);(try clear q42);(try clear hx42);(try clear p44);(try clear q44);(try clear hx44);(try clear p45);(try clear q45);(try clear hx45);(try clear p46);(try clear q46);(try clear hx46);(try clear c50);(try clear c51);(try clear c52);(try clear c57);(try clear c59);(try clear c59b0);(try clear c60);(try clear c60b0);(try clear c61);(try clear c61b0);(try clear c63);(try clear c63b0);(try clear c64);(try clear c64b0);(try clear p64);(try clear c65);(try clear c65b0);(try clear c66);(try clear c66b0);(try clear c69);(try clear c70);(try clear c70b0);(try clear c71);(try clear c71b0);(try clear c72);(try clear c72b0);(try clear c74);(try clear c78);(try clear c78b0);(try clear c79);(try clear c79b0);(try clear c80);(try clear c80b0);(try clear c81);(try clear c81b0);(try clear c81b1);(try clear c82);(try clear c82b0);(try clear c83);(try clear c83b0);(try clear c86);(try clear c86b0);(try clear c86b1);(try clear c86b2);(try clear c87);(try clear c87b0);(try clear c87b1);(try clear c87b2);(try clear c95);(try clear c95b0);(try clear c95b1);(try clear c96);(try clear c97);(try clear c98);(try clear c99);(try clear c99b0);(try clear c99b1);(try clear c99b2);(try clear c100);(try clear c100b0);(try clear c100b1);(try clear c101);(try clear c101b0);(try clear c101b1);(try clear c102);(try clear c102b0);(try clear c102b1);(try clear c103);(try clear c103b0);(try clear c103b1);(try clear c104);(try clear c104b0);(try clear c118);(try clear c120);(try clear c120b0);(try clear c121);(try clear c121b0);(try clear c122);(try clear c122b0);(try clear c123);(try clear c123b0);(try clear c124);(try clear c124b0);(try clear c124b1);(try clear c125);(try clear c125b0);(try clear c125b1);(try clear c126);(try clear c126b0);(try clear c126b1);(try clear c127);(try clear hcz25_0);(try clear hcz25_1);(try clear hcz25_2);(try clear hcz25_3);(try clear hcz27_0);(try clear hcz27_1);(try clear hcz27_2);(try clear hcz27_3);(try clear hcz32_0);(try clear hcz32_1);(try clear hcz32_2);(try clear hcz32_3);(try clear hcz37_0);(try clear hcz37_1);(try clear hcz37_2);(try clear hcz37_3);(try clear hcz41_0);(try clear hcz41_1);(try clear hcz41_2);(try clear hcz41_3);(try clear hfz25_0);(try clear hfz25_1);(try clear hfz25_2);(try clear hfz25_3);(try clear hfz27_0);(try clear hfz27_1);(try clear hfz27_2);(try clear hfz27_3);(try clear hfz32_0);(try clear hfz32_1);(try clear hfz32_2);(try clear hfz32_3);(try clear hfz37_0);(try clear hfz37_1);(try clear hfz37_2);(try clear hfz37_3);(try clear hfz41_0);(try clear hfz41_1);(try clear hfz41_2);(try clear hfz41_3);(try clear hx420_0);(try clear hx420_1);(try clear hx420_2);(try clear hx420_3);(try clear hx446_0);(try clear hx447_0);(try clear hx447_1);(try clear hx447_2);(try clear hx447_3);(try clear hx449_0);(try clear hx449_1);(try clear hx449_2);(try clear hx449_3);(try clear hx451_0);(try clear hx452_0);(try clear hx452_1);(try clear hx452_2);(try clear hx452_3);(try clear hx466_0);(try clear hx467_0);(try clear hx468_0);(try clear p2);(try clear p4);(try clear p42);(try clear p420);(try clear p44);(try clear p446);(try clear p447);(try clear p449);(try clear p45);(try clear p451);(try clear p452);(try clear p46);(try clear p466);(try clear p467);(try clear p468);(try clear p6);(try clear p64);(try clear q4);(try clear q42);(try clear q420);(try clear q44);(try clear q446);(try clear q447);(try clear q449);(try clear q45);(try clear q451);(try clear q452);(try clear q46);(try clear q466);(try clear q467);(try clear q468)
                    obtain ⟨x263_6, rfl, HA, HK6, HO_15, HO_26, HB⟩ := hrel
                    cases gk with
                    | zero => exact absurd HA.out (by simp [laws_FnRulesRead.l5])
                    | succ k6 =>
                     have H := HA.out
                     clear HA
                     simp only [laws_FnRulesRead.l5] at H
                     by_cases c130 : x263_6 < (t437.length : Int)
                     ·rw [if_pos c130] at H
                      have c130b0 : decide (x263_6 < (t437.length : Int)) = true := decide_eq_true c130
                      clear c130
                      by_cases c131 : 0 ≤ x263_6
                      ·rw [if_pos c131] at H
                       have c131b0 : decide (0 ≤ x263_6) = true := decide_eq_true c131
                       clear c131
                       by_cases c132 : x263_6 < (t460.length : Int)
                       ·rw [if_pos c132] at H
                        have c132b0 : decide (x263_6 < (t460.length : Int)) = true := decide_eq_true c132
                        clear c132
                        by_cases c133 : x263_6 < (t437.length : Int)
                        ·rw [if_pos c133] at H
                         have c133b0 : decide (x263_6 < (t437.length : Int)) = true := decide_eq_true c133
                         clear c133
                         by_cases c134 : (rdOf ByteArray.empty t460 x263_6).toList = (rdOf ByteArray.empty t437 x263_6).toList
                         ·rw [if_pos c134] at H
                          have c134b0 : ((rdOf ByteArray.empty t460 x263_6).toList == (rdOf ByteArray.empty t437 x263_6).toList) = true := beq_iff_eq.mpr c134
                          have c134b1 : ((rdOf ByteArray.empty t460 x263_6).toList != (rdOf ByteArray.empty t437 x263_6).toList) = false := bne_eq_false_iff_eq.mpr c134
                          clear c134
                          have H' := Aside0.mk H
                          clear H
                          obtain ⟨Ao135, co135, eo135⟩ := Kd.R_slice HO_26.out
                          subst eo135
                          have p470 : 0 ≤ (x263_6 : Int) := of_decide_eq_true (by first | (with_reducible assumption) | assumption)
                          have q470 : x263_6 < (t460.length : Int) := of_decide_eq_true (by first | (with_reducible assumption) | assumption)
                          obtain ⟨ad470, e470, hx470_0⟩ := Kd.at_string (Kd.R_reads' HO_26.out).2.2 x263_6 p470 q470
                          cases e470
                          replace p470 := eq_true p470
                          replace q470 := eq_true q470
                          have p471 : 0 ≤ (x263_6 : Int) := of_decide_eq_true (by first | (with_reducible assumption) | assumption)
                          have q471 : x263_6 < (t437.length : Int) := of_decide_eq_true (by first | (with_reducible assumption) | assumption)
                          obtain ⟨ad471, e471, hx471_0⟩ := Kd.at_string (Kd.R_reads' HO_15.out).2.2 x263_6 p471 q471
                          cases e471
                          replace p471 := eq_true p471
                          replace q471 := eq_true q471
                          go_wp2
                          repeat (go_quiet (fail); try go_wp2)
                          go_roundg k6
                          case measure => have := HK1.out; have := HJ44.out; have := HK3.out; have := HJ89.out; have := HK5.out; have := HK6.out; omega
                          case rel => exact ⟨(wrap64 (x263_6 + 1)), (by first | rfl | (simp; done) | (simp [*]; done)), H', ⟨by have := HK1.out; have := HJ44.out; have := HK3.out; have := HJ89.out; have := HK5.out; have := HK6.out; omega⟩, ⟨by (with_reducible repeat (first | apply Kd.R_alloc | apply Kd.R_drewN | apply Kd.R_drew)); exact HO_15.out⟩, ⟨by (with_reducible repeat (first | apply Kd.R_alloc | apply Kd.R_drewN | apply Kd.R_drew)); exact HO_26.out⟩, ⟨by repeat (first | (with_reducible first | exact HB.out | apply below_alloc | apply pw_below_drewN | apply below_drew1) | exact HB.out)⟩⟩
                         ·rw [if_neg c134] at H
                          have c134b0 : ((rdOf ByteArray.empty t460 x263_6).toList == (rdOf ByteArray.empty t437 x263_6).toList) = false := beq_eq_false_iff_ne.mpr c134
                          have c134b1 : ((rdOf ByteArray.empty t460 x263_6).toList != (rdOf ByteArray.empty t437 x263_6).toList) = true := bne_iff_ne.mpr c134
                          obtain rfl := Option.some.inj H
                          obtain ⟨Ao136, co136, eo136⟩ := Kd.R_slice HO_26.out
                          subst eo136
                          have p470 : 0 ≤ (x263_6 : Int) := of_decide_eq_true (by first | (with_reducible assumption) | assumption)
                          have q470 : x263_6 < (t460.length : Int) := of_decide_eq_true (by first | (with_reducible assumption) | assumption)
                          obtain ⟨ad470, e470, hx470_0⟩ := Kd.at_string (Kd.R_reads' HO_26.out).2.2 x263_6 p470 q470
                          cases e470
                          replace p470 := eq_true p470
                          replace q470 := eq_true q470
                          have p471 : 0 ≤ (x263_6 : Int) := of_decide_eq_true (by first | (with_reducible assumption) | assumption)
                          have q471 : x263_6 < (t437.length : Int) := of_decide_eq_true (by first | (with_reducible assumption) | assumption)
                          obtain ⟨ad471, e471, hx471_0⟩ := Kd.at_string (Kd.R_reads' HO_15.out).2.2 x263_6 p471 q471
                          cases e471
                          replace p471 := eq_true p471
                          replace q471 := eq_true q471
                          go_wp2
                          repeat (go_quiet (fail); try go_wp2)
                          go_ret
                          exact ⟨by first | rfl | (simp [errW_none, errW_some] <;> rfl) | (simp [*, errW_none, errW_some] <;> rfl), by repeat (first | (with_reducible first | exact HB.out | apply below_alloc | apply pw_below_drewN | apply below_drew1) | exact HB.out)⟩
                        ·rw [if_neg c133] at H
                         exact absurd H (by simp)
                       ·rw [if_neg c132] at H
                        exact absurd H (by simp)
                      ·rw [if_neg c131] at H
                       exact absurd H (by simp)
                     ·rw [if_neg c130] at H
                      have c130b0 : decide (x263_6 < (t437.length : Int)) = false := decide_eq_false c130
                      clear c130
                      obtain rfl := Option.some.inj H
                      go_wp2
                      repeat (go_quiet (fail); try go_wp2)
                      go_ret
                      exact ⟨by first | rfl | (simp [errW_none, errW_some] <;> rfl) | (simp [*, errW_none, errW_some] <;> rfl), by repeat (first | (with_reducible first | exact HB.out | apply below_alloc | apply pw_below_drewN | apply below_drew1) | exact HB.out)⟩
            ·rw [if_neg c87] at H
             exact absurd H (by simp)
           ·rw [if_neg c86] at H
            exact absurd H (by simp)
def laws_FnRulesRead.Pure : Prop := ∀ (l0 : List Int) (l1 : List Int), l0.length ≤ maxLen → l0.length * 1 ≤ 140737488351232 → (∀ x ∈ l0, (Lit.int .u8 x).wf = true) → l1.length ≤ maxLen → l1.length * 1 ≤ 140737488351232 → (∀ x ∈ l1, (Lit.int .u8 x).wf = true) → ∃ k, laws_FnRulesRead.f k l0 l1 = some true
theorem laws_FnRulesRead.walk (P : laws_FnRulesRead.Pure) (a0 : Option Addr) (len0 cap0 : Nat) (z0 : List Int) (a1 : Option Addr) (len1 cap1 : Nat) (z1 : List Int) (w : World) (w0 : (a0 = none ∧ len0 = 0 ∧ cap0 = 0 ∧ z0 = []) ∨ ∃ x, a0 = some x ∧ len0 ≤ cap0 ∧ cap0 ≤ maxLen ∧ z0.length = cap0 ∧ (∀ i, i < z0.length → w.cell? (x.add i) = some (.int .u8 (z0.getD i 0))) ∧ ∀ n ∈ z0, (Lit.int .u8 n).wf = true) (y0 : len0 * 1 ≤ 140737488351232) (w1 : (a1 = none ∧ len1 = 0 ∧ cap1 = 0 ∧ z1 = []) ∨ ∃ x, a1 = some x ∧ len1 ≤ cap1 ∧ cap1 ≤ maxLen ∧ z1.length = cap1 ∧ (∀ i, i < z1.length → w.cell? (x.add i) = some (.int .u8 (z1.getD i 0))) ∧ ∀ n ∈ z1, (Lit.int .u8 n).wf = true) (y1 : len1 * 1 ≤ 140737488351232) :
  Calls Tryd.prog 3 #[.slice a0 len0 cap0, .slice a1 len1 cap1] w fun e w' => e = .returned (.bool true) ∧ Below w.heap.size w w' := by
 obtain ⟨l0, rfl, hr0, hm0, hw0, hc0⟩ := ReadsInt.ofRowC w0
 obtain ⟨l1, rfl, hr1, hm1, hw1, hc1⟩ := ReadsInt.ofRowC w1
 obtain ⟨k, h⟩ := P l0 l1 hm0 y0 hw0 hm1 y1 hw1
 refine (laws_FnRulesRead.calls k _ _ l0 _ _ l1 true w (Kd.C_of_reads (d := (0 : Int)) (h1 := fun _ => rfl) hr0) hc0 (Kd.C_of_reads (d := (0 : Int)) (h1 := fun _ => rfl) hr1) hc1 h rfl).mono ?_
 rintro e w' ⟨rfl, hd⟩
 exact ⟨rfl, hd⟩
end Go.Proofs.YtmmcdpijpdjnoaaDoor.PFnRulesRead
