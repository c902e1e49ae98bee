/- Codes' bytes, in plain Lean: what is put is got, and what is got is put. -/
import Derived.Test.YtkpedlhofalnjaaDoorExt03
namespace Go.Proofs.YtkpedlhofalnjaaDoor
open Go.RowKit Go.Proofs.YtkpedlhofalnjaaDoorW.PrintWords Go.Proofs.YtkpedlhofalnjaaDoorW.PrintLast Go.Proofs.YtkpedlhofalnjaaDoorW.PrintMore

/-- Each number is a byte's. -/
def bytesOk (l : List Int) : Prop := ∀ x ∈ l, 0 ≤ x ∧ x ≤ 255

theorem rd0 (x : Int) (r : List Int) : rd (x :: r) 0 = x := rfl

theorem ints_nums (l : List UInt8) : (strOfNums (ints l)).data.toList = l := by
  unfold strOfNums ints
  rw [List.map_map]
  show (List.map _ l) = l
  rw [List.map_congr_left (g := id) (fun a _ => by simp)]
  simp

theorem nums_ints (l : List Int) (h : bytesOk l) : ints (strOfNums l).data.toList = l := by
  unfold strOfNums ints
  show List.map _ (List.map _ l) = l
  rw [List.map_map, List.map_congr_left (g := id) (fun a ha => by have := h a ha; simp; omega)]
  simp

theorem strOfNums_size (l : List Int) : (strOfNums l).size = l.length := by
  show ((l.map fun n : Int => UInt8.ofNat n.toNat).toArray).size = l.length
  simp

theorem putCode_pos (l : List UInt8) (h : l = [] ∨ isCode l = true) : putCode l = UInt8.ofNat l.length :: l := if_pos h

theorem code_len {l : List UInt8} (h : l = [] ∨ isCode l = true) : l.length ≤ 12 := by
  rcases h with h | h
  · rw [h]; simp
  · exact (isCode_length h).2

theorem get_put (l : List UInt8) (h : l = [] ∨ isCode l = true) (more : List Int) : code_Get.f (ints (putCode l) ++ more) = some (⟨l.toArray⟩, 1 + (l.length : Int), true) := by
  have hl := code_len h
  rw [putCode_pos l h]
  have e : ints (UInt8.ofNat l.length :: l) ++ more = (l.length : Int) :: (ints l ++ more) := by
    unfold ints; simp; omega
  rw [e]
  unfold code_Get.f
  rw [if_neg (by simp), rd0, if_pos (by omega)]
  rw [Int.toNat_natCast]
  have hc : (codeIn ((l.length : Int) :: (ints l ++ more)) l.length) = ⟨l.toArray⟩ := by
    unfold codeIn
    rw [Nat.add_comm 1 l.length, List.take_succ_cons, List.drop_one, List.tail_cons]
    have : (ints l ++ more).take l.length = ints l := by
      have : l.length = (ints l).length := by unfold ints; simp
      rw [this, List.take_left]
    rw [this]
    have h2 := ints_nums l
    show strOfNums (ints l) = _
    have : (strOfNums (ints l)).data = l.toArray := Array.toList_inj.1 (by rw [h2])
    exact congrArg ByteArray.mk this
  unfold getCode
  rw [if_neg (by unfold ints; simp; omega), hc, if_pos h]
  simp
  rfl

theorem codeIn_ints (l : List Int) (n : Nat) (h : bytesOk l) : ints (codeIn l n).data.toList = (l.take (1 + n)).drop 1 := by
  unfold codeIn
  exact nums_ints _ fun x hx => h x (List.mem_of_mem_take (List.mem_of_mem_drop hx))

theorem got_put (l : List Int) (hb : bytesOk l) : ∃ s n ok, code_Get.f l = some (s, n, ok) ∧ s.size ≤ 12 ∧
    ((ok = true ∧ (s.data.toList = [] ∨ isCode s.data.toList = true) ∧ n = 1 + (s.size : Int) ∧ 1 + s.size ≤ l.length ∧ ints (putCode s.data.toList) = l.take (1 + s.size)) ∨ (ok = false ∧ s = ⟨#[]⟩ ∧ n = 0)) := by
  unfold code_Get.f
  by_cases h0 : l.length = 0
  · rw [if_pos h0]
    exact ⟨_, _, _, rfl, by decide, .inr ⟨rfl, rfl, rfl⟩⟩
  · rw [if_neg h0]
    obtain ⟨x, r, rfl⟩ : ∃ x r, l = x :: r := by
      cases l with
      | nil => simp at h0
      | cons x r => exact ⟨x, r, rfl⟩
    have hx := hb x (by simp)
    rw [rd0, if_pos hx]
    obtain ⟨n, rfl⟩ : ∃ n : Nat, x = n := ⟨x.toNat, by omega⟩
    rw [Int.toNat_natCast]
    unfold getCode
    by_cases h1 : ((n : Int) :: r).length < 1 + n
    · rw [if_pos h1]
      exact ⟨_, _, _, rfl, by decide, .inr ⟨rfl, rfl, rfl⟩⟩
    · rw [if_neg h1]
      have hci := codeIn_ints ((n : Int) :: r) n hb
      have hsz : (codeIn ((n : Int) :: r) n).size = n := by
        unfold codeIn
        rw [strOfNums_size, List.length_drop, List.length_take]; omega
      by_cases h2 : (codeIn ((n : Int) :: r) n).data.toList = [] ∨ isCode (codeIn ((n : Int) :: r) n).data.toList = true
      · rw [if_pos h2]
        have h12 := code_len h2
        rw [data_length, hsz] at h12
        refine ⟨_, _, _, rfl, by omega, .inl ⟨rfl, h2, rfl, by omega, ?_⟩⟩
        rw [putCode_pos _ h2, hsz]
        unfold ints at hci ⊢
        rw [List.map_cons, hci, data_length, hsz]
        rw [Nat.add_comm 1 n, List.take_succ_cons, List.drop_one, List.tail_cons]
        congr 1
        simp; omega
      · rw [if_neg h2]
        exact ⟨_, _, _, rfl, by decide, .inr ⟨rfl, rfl, rfl⟩⟩

theorem putCode_len (l : List UInt8) : (putCode l).length ≤ 13 := by
  unfold putCode
  split
  · rename_i h
    have := code_len h
    simp; omega
  · simp

end Go.Proofs.YtkpedlhofalnjaaDoor
