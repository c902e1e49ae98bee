/- The examples of chapter 3, as the printed statement has them, are true. -/
import Derived.Test.YtkpedlhofalnjaaGreatDoorPure03
import Derived.Test.YtkpedlhofalnjaaGreatDoorC3
namespace Go.Proofs.YtkpedlhofalnjaaGreatDoor
open Go.RowKit Go.Proofs.YtkpedlhofalnjaaGreatDoorW.PrintWords Go.Proofs.YtkpedlhofalnjaaGreatDoorW.PrintLast Go.Proofs.YtkpedlhofalnjaaGreatDoorW.PrintMore

theorem get_ab : code_Get.f [2, 65, 66, 9] = some (⟨#[65, 66]⟩, 3, true) := by
  unfold code_Get.f
  rw [if_neg (by decide), show rd [2, 65, 66, 9] 0 = 2 from rfl, if_pos (by decide)]
  rfl
theorem itoa_5 : Lib.itoa (-5) = [45, 53] := by
  unfold Lib.itoa
  rw [if_pos (by decide), show (-5 : Int).natAbs = 5 from rfl, Lib.decDigits_one (by decide)]; rfl
theorem itoa_12 : Lib.itoa (-12) = [45, 49, 50] := by
  unfold Lib.itoa
  rw [if_pos (by decide), show (-12 : Int).natAbs = 12 from rfl, Lib.decDigits_two (by decide) (by decide)]; rfl
theorem num_5 : num [45, 53] = some (-5) := by rw [← itoa_5]; exact num_itoa _ (by decide) (by decide)
theorem number_5 : code_Number.f ⟨#[45, 53]⟩ = some (-5, true) := by
  unfold code_Number.f
  rw [if_pos (by decide), show (⟨#[45, 53]⟩ : ByteArray).data.toList = [45, 53] from rfl, num_5]; rfl
theorem text_12 : code_Text.f (-12) = some ⟨#[45, 49, 50]⟩ := by
  unfold code_Text.f
  rw [if_pos (by decide), if_pos (by decide), itoa_12]

theorem awake03 (k : Nat) (hk : 5 < k) : C.storemanlaw03_awake.f k = some true := by
  unfold C.storemanlaw03_awake.f
  rw [get_ab, number_5, text_12]
  simp only [Option.bind_some]
  rw [show code_Right.f ⟨#[75, 73, 84, 45, 55]⟩ = some true from rfl, show code_Right.f ⟨#[55, 65]⟩ = some false from rfl, show code_Right.f ⟨#[]⟩ = some false from rfl, show code_Put.f ⟨#[65, 66]⟩ = some [2, 65, 66] from rfl]
  simp only [Option.bind_some, if_true, Bool.false_eq_true, if_false]
  rw [same_says _ _ (by decide) k (by simp only [List.length_cons, List.length_nil]; omega)]
  simp only [Option.bind_some, decide_true, if_true]
  rw [Lib.toList_data, Lib.toList_data]
  rfl
end Go.Proofs.YtkpedlhofalnjaaGreatDoor
