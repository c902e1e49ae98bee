/- The examples of chapter 13, as the printed statements have them; sameness, as printed. -/
import Derived.Test.YtkpedlhofalnjaaDoorExt13
import Derived.Test.YtkpedlhofalnjaaDoorA10
import Derived.Test.YtkpedlhofalnjaaDoorA6
import Derived.Test.YtkpedlhofalnjaaDoorA9
namespace Go.Proofs.YtkpedlhofalnjaaDoor
open Go.RowKit Go.Proofs.YtkpedlhofalnjaaDoorW.PrintWords Go.Proofs.YtkpedlhofalnjaaDoorW.PrintLast Go.Proofs.YtkpedlhofalnjaaDoorW.PrintMore

theorem wrap_step13 {i : Nat} {n : Nat} (h : i < n) (hn : n ≤ 9223372036854775807) : wrap64 ((i : Int) + 1) = ((i + 1 : Nat) : Int) := by
  unfold wrap64; omega

theorem sameB_loop (a : List Int) (hn : a.length ≤ 9223372036854775807) : ∀ (d k i : Nat), a.length - i = d → i ≤ a.length → d < k → A.storemankit_SameBytes.l0 k a a i = some true := by
  intro d
  induction d with
  | zero =>
    intro k i hd hi hk
    obtain ⟨k, rfl⟩ : ∃ m, k = m + 1 := ⟨k - 1, by omega⟩
    simp only [A.storemankit_SameBytes.l0]
    rw [if_neg (by omega)]
  | succ d ih =>
    intro k i hd hi hk
    obtain ⟨k, rfl⟩ : ∃ m, k = m + 1 := ⟨k - 1, by omega⟩
    simp only [A.storemankit_SameBytes.l0]
    rw [if_pos (by omega), if_pos (by omega), if_pos (by omega), if_pos trivial, wrap_step13 (show i < a.length by omega) hn]
    exact ih k (i + 1) (by omega) (by omega) (by omega)
theorem sameB (a : List Int) (hn : a.length ≤ 9223372036854775807) (k : Nat) (hk : a.length < k) : A.storemankit_SameBytes.f k a a = some true := by
  unfold A.storemankit_SameBytes.f
  rw [if_pos rfl]
  exact sameB_loop a hn a.length k 0 (by omega) (by omega) hk
theorem sameP_loop (a : List Part) (hn : a.length ≤ 9223372036854775807) : ∀ (d k i : Nat), a.length - i = d → i ≤ a.length → d < k → A.storemankit_SameParts.l0 k a a i = some true := by
  intro d
  induction d with
  | zero =>
    intro k i hd hi hk
    obtain ⟨k, rfl⟩ : ∃ m, k = m + 1 := ⟨k - 1, by omega⟩
    simp only [A.storemankit_SameParts.l0]
    rw [if_neg (by omega)]
  | succ d ih =>
    intro k i hd hi hk
    obtain ⟨k, rfl⟩ : ∃ m, k = m + 1 := ⟨k - 1, by omega⟩
    simp only [A.storemankit_SameParts.l0]
    rw [if_pos (by omega), if_pos (by omega), if_pos (by omega), if_neg (by simp), wrap_step13 (show i < a.length by omega) hn]
    exact ih k (i + 1) (by omega) (by omega) (by omega)
theorem sameP (a : List Part) (hn : a.length ≤ 9223372036854775807) (k : Nat) (hk : a.length < k) : A.storemankit_SameParts.f k a a = some true := by
  unfold A.storemankit_SameParts.f
  rw [if_pos rfl]
  exact sameP_loop a hn a.length k 0 (by omega) (by omega) hk
theorem sameT_loop (a : List ByteArray) (hn : a.length ≤ 9223372036854775807) : ∀ (d k i : Nat), a.length - i = d → i ≤ a.length → d < k → A.storemankit_SameTexts.l0 k a a i = some true := by
  intro d
  induction d with
  | zero =>
    intro k i hd hi hk
    obtain ⟨k, rfl⟩ : ∃ m, k = m + 1 := ⟨k - 1, by omega⟩
    simp only [A.storemankit_SameTexts.l0]
    rw [if_neg (by omega)]
  | succ d ih =>
    intro k i hd hi hk
    obtain ⟨k, rfl⟩ : ∃ m, k = m + 1 := ⟨k - 1, by omega⟩
    simp only [A.storemankit_SameTexts.l0]
    rw [if_pos (by omega), if_pos (by omega), if_pos (by omega), if_pos trivial, wrap_step13 (show i < a.length by omega) hn]
    exact ih k (i + 1) (by omega) (by omega) (by omega)
theorem sameT (a : List ByteArray) (hn : a.length ≤ 9223372036854775807) (k : Nat) (hk : a.length < k) : A.storemankit_SameTexts.f k a a = some true := by
  unfold A.storemankit_SameTexts.f
  rw [if_pos rfl]
  exact sameT_loop a hn a.length k 0 (by omega) (by omega) hk
theorem sameAsk (a : Cmd) (h9 : a.parts.length ≤ 9223372036854775807) (h10 : a.others.length ≤ 9223372036854775807) (k : Nat) (k9 : a.parts.length < k) (k10 : a.others.length < k) :
    A.storemankit_SameAsk.f k a.kind a.req a.item a.qty a.day a.days a.rank a.lot a.line a.parts a.others a.kind a.req a.item a.qty a.day a.days a.rank a.lot a.line a.parts a.others = some true := by
  unfold A.storemankit_SameAsk.f
  rw [if_pos rfl, if_pos rfl, if_pos rfl, if_pos rfl, if_pos rfl, if_pos rfl, if_pos rfl, if_pos rfl, if_pos rfl]
  refine (bind_if (sameP _ h9 k k9)).trans ?_
  exact bind_is (sameT _ h10 k k10)

/-! ### The chapter's examples -/

theorem get_tick : getCmd [12, 0, 0, 0, 0, 0, 0, 0, 1, 9] = ({ zeroCmd with kind := 12, req := 1 }, 9, 0) := by
  have hw : ({ zeroCmd with kind := 12, req := 1 } : Cmd).wf := ⟨⟨by decide, by decide⟩, ⟨by decide, by decide⟩, ⟨by decide, by decide⟩, ⟨by decide, by decide⟩⟩
  exact get_putCmd { zeroCmd with kind := 12, req := 1 } hw (by decide) [9]

theorem awake13 (k : Nat) (hk : 30 < k) : A.storemanlaw13_awake.f k = some true := by
  unfold A.storemanlaw13_awake.f
  have hp : ask_Put.f 6 0 (⟨#[]⟩ : ByteArray) 0 300 0 0 2 0 ([] : List Part) ([] : List ByteArray) = some ([6, 0, 0, 0, 0, 0, 0, 0, 0, 0, 0, 0, 0, 0, 0, 0, 2, 1, 44], 0) := by decide
  have hg : ask_Get.f [12, 0, 0, 0, 0, 0, 0, 0, 1, 9] = some (gotOf ({ zeroCmd with kind := 12, req := 1 }, 9, 0)) := by
    unfold ask_Get.f
    rw [if_pos ⟨by decide, by decide⟩, get_tick]
  have hr : ask_Right.f 0 0 (⟨#[]⟩ : ByteArray) 0 0 0 0 0 0 ([] : List Part) ([] : List ByteArray) = some false := by decide
  refine (bind_is hp).trans ?_
  refine (bind_is hg).trans ?_
  rw [if_pos rfl]
  refine (bind_if (sameB _ (by decide) k (by simp; omega))).trans ?_
  refine (if_pos rfl).trans ?_
  refine (if_pos rfl).trans ?_
  refine (if_pos rfl).trans ?_
  refine (if_pos rfl).trans ?_
  refine (bind_if_not hr).trans ?_
  exact bind_is (by decide)

/-! ### AskBack -/

end Go.Proofs.YtkpedlhofalnjaaDoor
