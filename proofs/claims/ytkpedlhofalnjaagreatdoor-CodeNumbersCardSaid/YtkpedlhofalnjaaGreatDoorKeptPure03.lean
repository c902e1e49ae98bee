/- What was lent is found as it was. -/
import Derived.Test.YtkpedlhofalnjaaGreatDoorLent03
import Derived.Test.YtkpedlhofalnjaaGreatDoorFlat
namespace Go.Proofs.YtkpedlhofalnjaaGreatDoor
open Go.RowKit Go.Proofs.YtkpedlhofalnjaaGreatDoorW.PrintWords Go.Proofs.YtkpedlhofalnjaaGreatDoorW.PrintLast Go.Proofs.YtkpedlhofalnjaaGreatDoorW.PrintMore

theorem mark_f (k i : Int) : C.storemankit_markByte.f k i = some (markOf k i) := rfl
theorem bind_mark {f : Option Int} {v x : Int} (hf : f = some v) (hx : x = v) (a b : Option Bool) : (f.bind fun t => if x = t then a else b) = a := by
  subst hf; subst hx; exact if_pos rfl
theorem kept_pure (l : List Int) (hl : l.length ≤ 1000000) : ∀ (d i k : Nat), i + d = l.length + 12 → d < k → C.storemankit_KeptBytes.l0 k l (l ++ marks 1 0 12) i = some true := by
  intro d
  have hm : (l ++ marks 1 0 12).length = l.length + 12 := by rw [List.length_append, marks_length]
  generalize hM : marks 1 0 12 = M at hm ⊢
  induction d with
  | zero =>
    intro i k hi hk
    obtain ⟨k, rfl⟩ : ∃ m, k = m + 1 := ⟨k - 1, by omega⟩
    rw [C.storemankit_KeptBytes.l0, hm, if_neg (by omega)]
  | succ d ih =>
    intro i k hi hk
    obtain ⟨k, rfl⟩ : ∃ m, k = m + 1 := ⟨k - 1, by omega⟩
    have hw : wrap64 ((i : Int) + 1) = ((i + 1 : Nat) : Int) := by unfold wrap64; omega
    rw [C.storemankit_KeptBytes.l0, hm, if_pos (by omega), hw, ih (i + 1) k (by omega) (by omega)]
    by_cases h : i < l.length
    · rw [if_pos (by omega), if_pos (by omega)]
      have e : rd (l ++ M) i = rd l i := by
        unfold rd
        simp [List.getD, List.getElem?_append_left h]
      rw [if_pos e, if_neg (by omega)]
    · rw [if_neg (by omega), if_pos (by omega), if_pos (by omega)]
      obtain ⟨j, rfl⟩ : ∃ j, i = l.length + j := ⟨i - l.length, by omega⟩
      have e2 : wrap64 (((l.length + j : Nat) : Int) - (l.length : Int)) = (j : Int) := by unfold wrap64; omega
      have e : rd (l ++ M) ((l.length + j : Nat) : Int) = markOf 1 j := by
        unfold rd
        rw [Int.toNat_natCast, List.getD, List.getElem?_append_right (by omega), show l.length + j - l.length = j by omega, ← hM, marks_get _ _ _ _ (by omega), Nat.zero_add, Option.getD_some]
      rw [e2]
      exact bind_mark (mark_f 1 j) e _ _
end Go.Proofs.YtkpedlhofalnjaaGreatDoor
