/- CodeTexts, without program: for every text the printed statement is true. -/
import Derived.Test.YtkpedlhofalnjaaDoorAwake03
import Derived.Test.YtkpedlhofalnjaaDoorC4
namespace Go.Proofs.YtkpedlhofalnjaaDoor
open Go.RowKit Go.Proofs.YtkpedlhofalnjaaDoorW.PrintWords Go.Proofs.YtkpedlhofalnjaaDoorW.PrintLast Go.Proofs.YtkpedlhofalnjaaDoorW.PrintMore

theorem codeTexts_pure (s : ByteArray) (hn : s.size ≤ 140737488351232) : C.storemanlaw03_CodeTexts.f (s.size + 20) s = some true := by
  unfold C.storemanlaw03_CodeTexts.f
  by_cases h : (s.size : Int) > 100000
  · rw [if_pos h, awake03 _ (by omega)]; rfl
  · rw [if_neg h, ref_number s hn _ (by omega), ref_right s (by omega) _ (by omega), ref_put s hn _ (by omega)]
    have e1 : code_Number.f s = some ((num s.data.toList).getD 0, (num s.data.toList).isSome) := by unfold code_Number.f; rw [if_pos hn]
    have e2 : code_Right.f s = some (isCode s.data.toList) := rfl
    have e3 : code_Put.f s = some (ints (putCode s.data.toList)) := rfl
    rw [e1, e2, e3]
    simp only [Option.bind_some]
    have hl : (ints (putCode s.data.toList)).length ≤ s.size + 1 := by
      unfold ints putCode
      rw [List.length_map]
      split
      · simp
      · simp
    rw [same_says _ _ (by omega) _ (by omega), awake03 _ (by omega)]
    simp
end Go.Proofs.YtkpedlhofalnjaaDoor
