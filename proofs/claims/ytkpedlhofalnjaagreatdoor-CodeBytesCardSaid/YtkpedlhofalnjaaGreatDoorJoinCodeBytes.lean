/- CodeBytes: the row's closed facts, apart (each by the kernel's run over the whole program). -/
import Derived.Test.YtkpedlhofalnjaaGreatDoorRows
import Derived.JoinedOf
import Derived.KernelRfl
namespace Go.Proofs.YtkpedlhofalnjaaGreatDoor.codeBytes
open Go
theorem joined : joinedFacts Tryz.pinned.checked.prog 3 Tryz.f3 Rows.codeBytesSpec Rows.codeBytesRow = true := by kernel_rfl
theorem named_ : Tryz.pinned.checked.prog.funcNamed Rows.codeBytesRow.func = some 3 := by kernel_rfl
end Go.Proofs.YtkpedlhofalnjaaGreatDoor.codeBytes
