/- What code.Right computes, for every text, in every world: whether it is a code. -/
import Derived.Test.YtkpedlhofalnjaaDoorProg
import Derived.Test.YtkpedlhofalnjaaDoorPlain
import Derived.WalkKit
import Derived.WalkSpells
import Derived.WalkLawsBesides
import Derived.BigQuiet
import Derived.Lib.Hide
import Derived.Lib.Strings
namespace Go.Proofs.YtkpedlhofalnjaaDoor
open Go.RowKit

theorem width_pos (s : ByteArray) (pos : Nat) (h : pos < s.size) : 1 ≤ (Utf8.decode s pos).2 := by
  by_cases ha : (s[pos]'h).toNat < 128
  · rw [decode_ascii s pos h ha]; exact Nat.le_refl _
  · exact (decode_high s pos h (by omega)).2

theorem next_says (s : ByteArray) (pos : Nat) (w : World) (hp : pos < s.size) : ∃ d wd : Nat, (∀ ty, (Instr.next (.pointer (some ⟨w.heap.size, 0, none⟩)) true ty).run Tryd.prog (w.iter s pos) = .ok (.tuple #[.bool true, .int .i64 pos, .int .i32 d]) (w.iter s (pos + wd))) ∧ 1 ≤ wd ∧
    Hid (goodN pos d = true → wd = 1 ∧ good pos (s[pos]'hp) = true) ∧ Hid (goodN pos d = false → good pos (s[pos]'hp) = false) := by
  refine ⟨(Utf8.decode s pos).1, (Utf8.decode s pos).2, fun ty => run_next_any w s pos ty hp, width_pos s pos hp, Lib.hid ?_, Lib.hid ?_⟩
  · intro h
    by_cases ha : (s[pos]'hp).toNat < 128
    · rw [decode_ascii s pos hp ha] at h ⊢; exact ⟨rfl, h⟩
    · rw [goodN_high _ _ (decode_high s pos hp (by omega)).1] at h; cases h
  · intro h
    by_cases ha : (s[pos]'hp).toNat < 128
    · rw [decode_ascii s pos hp ha] at h; exact h
    · exact goodN_high _ _ (by omega)

set_option maxRecDepth 1000000 in
set_option maxHeartbeats 1000000 in
theorem right_any (s : ByteArray) (w : World) :
    Calls Tryd.prog 11 #[.string s] w fun e w' => e = .returned (.bool (isCode s.data.toList)) ∧ Below w.heap.size w w' := by
  go_enter Tryd.func11, Tryd.ntmps11
  go_wp2
  go_loopw [3, 4] (fun _ _ w' => ∃ (pos : Nat), pos ≤ s.size ∧ w' = w.iter s pos ∧ goodFrom pos (s.data.toList.drop pos) = goodFrom 0 s.data.toList) (fun _ _ w' => s.size - w'.iterPos w.heap.size)
  case atStart => exact ⟨0, Nat.zero_le _, rfl, rfl⟩
  case round =>
    obtain ⟨pos, hle, rfl, hc⟩ := hrel
    have HC := Lib.hid hc
    clear hc
    by_cases hp : pos < s.size
    · obtain ⟨d, wd, hnx, hwd, hyes, hno⟩ := next_says s pos w hp
      go_wp2
      all_goals first
        | (go_roundw
           case rel =>
             have hg : goodN pos d = true := goodN_true (by (try simp only [beq_iff_eq] at *); omega)
             obtain ⟨rfl, hgb⟩ := hyes.out hg
             exact ⟨pos + 1, by omega, rfl, by have := HC.out; rw [goodFrom_drop _ _ (by simpa using hp)] at this; rw [← this]; rw [show good pos (s.data.toList[pos]'(by simpa using hp)) = true from hgb]; simp⟩
           case measure => simp only [World.iterPos_iter]; omega)
        | (go_ret
           have hg : goodN pos d = false := goodN_false (by (try simp only [beq_eq_false_iff_ne, ne_eq] at *); omega)
           exact ⟨by rw [isCode_false (by simpa using hp) HC.out (hno.out hg)]; rfl, Below.refl _ _ |>.alloc (Nat.le_refl _) _⟩)
    · have hnx : ∀ ty, (Instr.next (.pointer (some ⟨w.heap.size, 0, none⟩)) true ty).run Tryd.prog (w.iter s pos) = _ := fun ty => run_next_end w s pos ty hp
      have he := Lib.hid (isCode_end (l := s.data.toList) (i := pos) (by simp; omega) HC.out)
      go_wp2
      all_goals go_ret
      all_goals rw [he.out]
      · rename_i h
        rw [Lib.toList_data] at h
        exact ⟨by rw [h]; rfl, (Below.refl _ _).alloc (Nat.le_refl _) _⟩
      · refine ⟨congrArg (fun b => Ending.returned (.bool b)) ?_, (Below.refl _ _).alloc (Nat.le_refl _) _⟩
        rw [Lib.toList_data]
        congr 1
        rw [Bool.eq_iff_iff]
        simp
        omega
end Go.Proofs.YtkpedlhofalnjaaDoor
