import Derived.Test.YtbojmdjghfhmbaaDoorPFnExactThroatTextx2a
import Derived.Test.YtbojmdjghfhmbaaDoorPFnExactThroatTextx2b
import Derived.Test.YtbojmdjghfhmbaaDoorPFnExactThroatTextx2c
namespace Go.Proofs.YtbojmdjghfhmbaaDoor.PFnExactThroatText
open Go.RowKit Go.Proofs.YtbojmdjghfhmbaaDoorW.PrintWords Go.Proofs.YtbojmdjghfhmbaaDoorW.PrintLast Go.Proofs.YtbojmdjghfhmbaaDoorW.PrintMore
open Go.Proofs.YtbojmdjghfhmbaaDoorW.PrintFl
attribute [local go_sem high] binOp_feq binOp_fne binOp_fls binOp_fle binOp_fgr binOp_fge
attribute [local go_sem] run_fopr run_fconv run_fint run_stf run_stc ext_f32bits ext_f32frombits
attribute [local go_sem] max2_int min2_int max_two min_two max_three min_three max_four min_four
set_option linter.unusedVariables false
set_option linter.unusedSimpArgs false
set_option maxHeartbeats 8000000 in
set_option maxRecDepth 100000 in
theorem spec_l03Throat.calls (A0 : Option Addr) (l0 : List (S27)) (r : Bool) (w : World) (hr0 : Kd.C k27 w A0 l0.length l0) (h : spec_l03Throat.f l0 = some r) :
    Calls Tryd.prog 58 #[.pointer A0] w fun e w' => e = .returned (.bool r) ∧ Below w.heap.size w w' := by
  have hh : spec_l03Throat.fa l0 = some r ∨ spec_l03Throat.fb l0 = some r ∨ spec_l03Throat.fc l0 = some r := by
    unfold spec_l03Throat.f at h
    unfold spec_l03Throat.fa spec_l03Throat.fb spec_l03Throat.fc
    split at h
    · rename_i d1_
      simp only [if_pos d1_]
      split at h
      · rename_i d2_
        simp only [if_pos d2_]
        split at h
        · rename_i d3_
          simp only [if_pos d3_]
          obtain ⟨b4_, eb4_, h⟩ := Option.bind_eq_some_iff.mp h
          simp only [eb4_, Option.bind_some]
          split at h
          · rename_i d5_
            simp only [if_pos d5_]
            obtain ⟨b6_, eb6_, h⟩ := Option.bind_eq_some_iff.mp h
            simp only [eb6_, Option.bind_some]
            split at h
            · rename_i d7_
              simp only [if_pos d7_]
              split at h
              · rename_i d8_
                simp only [if_pos d8_]
                split at h
                · rename_i d9_
                  simp only [if_pos d9_]
                  obtain ⟨b10_, eb10_, h⟩ := Option.bind_eq_some_iff.mp h
                  simp only [eb10_, Option.bind_some]
                  split at h
                  · rename_i d11_
                    simp only [if_pos d11_]
                    split at h
                    · rename_i d12_
                      simp only [if_pos d12_]
                      exact .inl h
                    · rename_i d13_
                      simp only [if_neg d13_]
                      exact .inl h
                  · rename_i d14_
                    simp only [if_neg d14_]
                    exact .inr (.inl h)
                · rename_i d15_
                  simp only [if_neg d15_]
                  exact .inr (.inl h)
              · rename_i d16_
                skip
                exact absurd h (by simp)
            · rename_i d17_
              simp only [if_neg d17_]
              exact .inr (.inl h)
          · rename_i d18_
            simp only [if_neg d18_]
            exact .inr (.inr h)
        · rename_i d19_
          simp only [if_neg d19_]
          exact .inr (.inr h)
      · rename_i d20_
        simp only [if_neg d20_]
        exact .inr (.inr h)
    · rename_i d21_
      skip
      exact absurd h (by simp)
  rcases hh with hh | hh | hh
  · exact spec_l03Throat.callsa A0 l0 r w hr0 hh
  · exact spec_l03Throat.callsb A0 l0 r w hr0 hh
  · exact spec_l03Throat.callsc A0 l0 r w hr0 hh
end Go.Proofs.YtbojmdjghfhmbaaDoor.PFnExactThroatText
