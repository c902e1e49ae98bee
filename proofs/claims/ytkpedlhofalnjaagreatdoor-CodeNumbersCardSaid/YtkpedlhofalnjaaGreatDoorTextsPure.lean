/- The examples of chapter 3, as the printed statement has them, are true. -/
import Derived.Test.YtkpedlhofalnjaaGreatDoorPure03
import Derived.Test.YtkpedlhofalnjaaGreatDoorC3
import Derived.Test.YtkpedlhofalnjaaGreatDoorC6
namespace Go.Proofs.YtkpedlhofalnjaaGreatDoor
open Go.RowKit Go.Proofs.YtkpedlhofalnjaaGreatDoorW.PrintWords Go.Proofs.YtkpedlhofalnjaaGreatDoorW.PrintLast Go.Proofs.YtkpedlhofalnjaaGreatDoorW.PrintMore

theorem get_ab : code_Get.f [2, 65, 66, 9] = some (⟨#[65, 66]⟩, 3, true) := by
  unfold code_Get.f
  rw [if_neg (by decide), show rd [2, 65, 66, 9] 0 = 2 from rfl, if_pos (by decide)]
  rfl
theorem itoa_5 : Lib.itoa (-5) = [45, 53] := by
  unfold Lib.itoa
  rw [if_pos (by decide), show (-5 : Int).natAbs = 5 from rfl, Lib.decDigits_one (by decide)]; rfl
theorem itoa_12 : Lib.itoa (-12) = [45, 49, 50] := by
  unfold Lib.itoa
  rw [if_pos (by decide), show (-12 : Int).natAbs = 12 from rfl, Lib.decDigits_two (by decide) (by decide)]; rfl
theorem num_5 : num [45, 53] = some (-5) := by rw [← itoa_5]; exact num_itoa _ (by decide) (by decide)
theorem number_5 : code_Number.f ⟨#[45, 53]⟩ = some (-5, true) := by
  unfold code_Number.f
  rw [if_pos (by decide), show (⟨#[45, 53]⟩ : ByteArray).data.toList = [45, 53] from rfl, num_5]; rfl
theorem text_12 : code_Text.f (-12) = some ⟨#[45, 49, 50]⟩ := by
  unfold code_Text.f
  rw [if_pos (by decide), if_pos (by decide), itoa_12]

theorem awake03 (k : Nat) (hk : 5 < k) : C.storemanlaw03_awake.f k = some true := by
  unfold C.storemanlaw03_awake.f
  rw [get_ab, number_5, text_12]
  simp only [Option.bind_some]
  rw [show code_Right.f ⟨#[75, 73, 84, 45, 55]⟩ = some true from rfl, show code_Right.f ⟨#[55, 65]⟩ = some false from rfl, show code_Right.f ⟨#[]⟩ = some false from rfl, show code_Put.f ⟨#[65, 66]⟩ = some [2, 65, 66] from rfl]
  simp only [Option.bind_some, if_true, Bool.false_eq_true, if_false]
  rw [same_says _ _ (by decide) k (by simp only [List.length_cons, List.length_nil]; omega)]
  simp only [Option.bind_some, decide_true, if_true]
  rw [Lib.toList_data, Lib.toList_data]
  rfl
end Go.Proofs.YtkpedlhofalnjaaGreatDoor

/- CodeTexts, without program: for every text the printed statement is true. -/
namespace Go.Proofs.YtkpedlhofalnjaaGreatDoor
open Go.RowKit Go.Proofs.YtkpedlhofalnjaaGreatDoorW.PrintWords Go.Proofs.YtkpedlhofalnjaaGreatDoorW.PrintLast Go.Proofs.YtkpedlhofalnjaaGreatDoorW.PrintMore

theorem codeTexts_pure (s : ByteArray) (hn : s.size ≤ 140737488351232) : C.storemanlaw03_CodeTexts.f (s.size + 20) s = some true := by
  unfold C.storemanlaw03_CodeTexts.f
  by_cases h : (s.size : Int) > 100000
  · rw [if_pos h, awake03 _ (by omega)]; rfl
  · rw [if_neg h, ref_number s hn _ (by omega), ref_right s (by omega) _ (by omega), ref_put s hn _ (by omega)]
    have e1 : code_Number.f s = some ((num s.data.toList).getD 0, (num s.data.toList).isSome) := by unfold code_Number.f; rw [if_pos hn]
    have e2 : code_Right.f s = some (isCode s.data.toList) := rfl
    have e3 : code_Put.f s = some (ints (putCode s.data.toList)) := rfl
    rw [e1, e2, e3]
    simp only [Option.bind_some]
    have hl : (ints (putCode s.data.toList)).length ≤ s.size + 1 := by
      unfold ints putCode
      rw [List.length_map]
      split
      · simp
      · simp
    rw [same_says _ _ (by omega) _ (by omega), awake03 _ (by omega)]
    simp
end Go.Proofs.YtkpedlhofalnjaaGreatDoor
