/- CodeNumbers: each byte at each place of a code, codes at their lengths, numbers at their ends and texts that nearly say one are told as written by hand. No condition of ours; the listed variables are as the program's own text lays them (the card ties them). -/
import Derived.Test.YtkpedlhofalnjaaGreatDoorCards
import Derived.Test.YtkpedlhofalnjaaGreatDoorTie
import Derived.Test.YtkpedlhofalnjaaGreatDoorJoinCodeNumbers
import Derived.Test.YtkpedlhofalnjaaGreatDoorLiftCodeNumbers
namespace Go.Proofs.YtkpedlhofalnjaaGreatDoor.codeNumbers
open Go.ChangeShapes Go.WideShapes Go.ChangeAt Go.RowKit
open Go.ChangeMaps (open_string shut_string)
open Go.Proofs.YtkpedlhofalnjaaGreatDoorW.PrintWords Go.Proofs.YtkpedlhofalnjaaGreatDoorW.PrintLast Go.Proofs.YtkpedlhofalnjaaGreatDoorW.PrintMore

theorem said : Rows.CodeNumbersSaid :=
  OpenClaim.holds_of_wide 9 Tryz.f9 rfl rfl rfl rfl rfl rfl rfl ⟨rfl, rfl, rfl, rfl, rfl⟩ rfl rfl rfl rfl rfl named_ Tryz.func9 joined
    (of_decide_eq_true (by kernel_rfl)) (by unfold Func.isWrapper; rw [if_neg (of_decide_eq_false (by kernel_rfl))]; exact ⟨rfl, rfl⟩)
    (fun os started H enc _ => lifted os started H enc)

theorem plain (f : FuncId) (fn : Func) (hf : Tryz.pinned.checked.prog.funcNamed "storeman/storemanlaw03.CodeNumbers" = some f) (hfn : Tryz.pinned.checked.prog.funcs[f]? = some fn) :
    true = Tryz.pinned.checked.prog.looks [] ∧ ∀ (j : Nat) t, fn.params[j]? = some t → Tryz.pinned.checked.prog.wantsStandIn t = false := by
  obtain rfl : f = 9 := Option.some.inj ((show Tryz.prog.funcNamed "storeman/storemanlaw03.CodeNumbers" = some 9 by kernel_rfl).symm.trans hf) |>.symm
  obtain rfl : fn = Tryz.f9 := (Option.some.inj (Tryz.func9.symm.trans hfn)).symm
  refine ⟨by kernel_rfl, fun j t ht => ?_⟩
  rw [Tryz.params9] at ht
  simp at ht
end Go.Proofs.YtkpedlhofalnjaaGreatDoor.codeNumbers
namespace Go.Proofs.YtkpedlhofalnjaaGreatDoor
theorem codeNumbers_card : Rows.CodeNumbersCardSaid :=
  Claim7.holds_tied_plain_at .later [] _ _ _ _ codeNumbers.said (fun _ h => by cases h) (by kernel_rfl) (fun _ h => by cases h) codeNumbers_row_tie rfl ⟨rfl, rfl⟩ (by kernel_rfl) rfl codeNumbers.plain (by kernel_rfl)
#print axioms codeNumbers_card
end Go.Proofs.YtkpedlhofalnjaaGreatDoor
