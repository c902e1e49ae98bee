/- AskPuts: of any command it is told whether it is right, and its bytes, as the document says; it stays as it was, and is not kept. No condition of ours; the listed variables are as the program's own text lays them (the card ties them). -/
import Derived.Test.YtkpedlhofalnjaaGreatDoorCards
import Derived.Test.YtkpedlhofalnjaaGreatDoorTie
import Derived.Test.YtkpedlhofalnjaaGreatDoorJoinAskPuts
import Derived.Test.YtkpedlhofalnjaaGreatDoorLiftAskPuts
namespace Go.Proofs.YtkpedlhofalnjaaGreatDoor.askPuts
open Go.ChangeShapes Go.WideShapes Go.ChangeAt Go.RowKit
open Go.ChangeMaps (open_string shut_string)
open Go.Proofs.YtkpedlhofalnjaaGreatDoorW.PrintWords Go.Proofs.YtkpedlhofalnjaaGreatDoorW.PrintLast Go.Proofs.YtkpedlhofalnjaaGreatDoorW.PrintMore

theorem said : Rows.AskPutsSaid :=
  OpenClaim.holds_of_wide 6 Tryz.f6 rfl rfl rfl rfl rfl rfl rfl ⟨rfl, rfl, rfl, rfl, rfl⟩ rfl rfl rfl rfl rfl named_ Tryz.func6 joined
    (of_decide_eq_true (by kernel_rfl)) (by unfold Func.isWrapper; rw [if_neg (of_decide_eq_false (by kernel_rfl))]; exact ⟨rfl, rfl⟩)
    (fun os started H enc _ => lifted os started H enc)

theorem plain (f : FuncId) (fn : Func) (hf : Tryz.pinned.checked.prog.funcNamed "storeman/storemanlaw13.AskPuts" = some f) (hfn : Tryz.pinned.checked.prog.funcs[f]? = some fn) :
    true = Tryz.pinned.checked.prog.looks [] ∧ ∀ (j : Nat) t, fn.params[j]? = some t → Tryz.pinned.checked.prog.wantsStandIn t = false := by
  obtain rfl : f = 6 := Option.some.inj ((show Tryz.prog.funcNamed "storeman/storemanlaw13.AskPuts" = some 6 by kernel_rfl).symm.trans hf) |>.symm
  obtain rfl : fn = Tryz.f6 := (Option.some.inj (Tryz.func6.symm.trans hfn)).symm
  refine ⟨by kernel_rfl, fun j t ht => ?_⟩
  rw [Tryz.params6] at ht
  obtain rfl : t = 38 := by simpa using Array.mem_of_getElem? ht
  exact (show Tryz.prog.wantsStandIn 38 = false by kernel_rfl)
end Go.Proofs.YtkpedlhofalnjaaGreatDoor.askPuts
namespace Go.Proofs.YtkpedlhofalnjaaGreatDoor
theorem askPuts_card : Rows.AskPutsCardSaid :=
  Claim7.holds_tied_plain_at .later [] _ _ _ _ askPuts.said (fun _ h => by cases h) (by kernel_rfl) (fun _ h => by cases h) askPuts_row_tie rfl ⟨rfl, rfl⟩ (by kernel_rfl) rfl askPuts.plain (by kernel_rfl)
#print axioms askPuts_card
end Go.Proofs.YtkpedlhofalnjaaGreatDoor
