/- CodeBack and CodeWithin, without program: the printed statements are true. -/
import Derived.Test.YtkpedlhofalnjaaDoorAwake03
import Derived.Test.YtkpedlhofalnjaaDoorC4
import Derived.Test.YtkpedlhofalnjaaDoorC5
namespace Go.Proofs.YtkpedlhofalnjaaDoor
open Go.RowKit Go.Proofs.YtkpedlhofalnjaaDoorW.PrintWords Go.Proofs.YtkpedlhofalnjaaDoorW.PrintLast Go.Proofs.YtkpedlhofalnjaaDoorW.PrintMore

/-- Each number is a byte's. -/
def bytesOk (l : List Int) : Prop := ∀ x ∈ l, 0 ≤ x ∧ x ≤ 255

theorem rd0 (x : Int) (r : List Int) : rd (x :: r) 0 = x := rfl

theorem ints_nums (l : List UInt8) : (strOfNums (ints l)).data.toList = l := by
  unfold strOfNums ints
  rw [List.map_map]
  show (List.map _ l) = l
  rw [List.map_congr_left (g := id) (fun a _ => by simp)]
  simp

theorem nums_ints (l : List Int) (h : bytesOk l) : ints (strOfNums l).data.toList = l := by
  unfold strOfNums ints
  show List.map _ (List.map _ l) = l
  rw [List.map_map, List.map_congr_left (g := id) (fun a ha => by have := h a ha; simp; omega)]
  simp

theorem strOfNums_size (l : List Int) : (strOfNums l).size = l.length := by
  show ((l.map fun n : Int => UInt8.ofNat n.toNat).toArray).size = l.length
  simp

theorem putCode_pos (l : List UInt8) (h : l = [] ∨ isCode l = true) : putCode l = UInt8.ofNat l.length :: l := if_pos h

theorem code_len {l : List UInt8} (h : l = [] ∨ isCode l = true) : l.length ≤ 12 := by
  rcases h with h | h
  · rw [h]; simp
  · exact (isCode_length h).2

/-- What is put is got, whatever stands behind it. -/
theorem get_put (l : List UInt8) (h : l = [] ∨ isCode l = true) (more : List Int) : code_Get.f (ints (putCode l) ++ more) = some (⟨l.toArray⟩, 1 + (l.length : Int), true) := by
  have hl := code_len h
  rw [putCode_pos l h]
  have e : ints (UInt8.ofNat l.length :: l) ++ more = (l.length : Int) :: (ints l ++ more) := by
    unfold ints; simp; omega
  rw [e]
  unfold code_Get.f
  rw [if_neg (by simp), rd0, if_pos (by omega)]
  rw [Int.toNat_natCast]
  have hc : (codeIn ((l.length : Int) :: (ints l ++ more)) l.length) = ⟨l.toArray⟩ := by
    unfold codeIn
    rw [Nat.add_comm 1 l.length, List.take_succ_cons, List.drop_one, List.tail_cons]
    have : (ints l ++ more).take l.length = ints l := by
      have : l.length = (ints l).length := by unfold ints; simp
      rw [this, List.take_left]
    rw [this]
    have h2 := ints_nums l
    show strOfNums (ints l) = _
    have : (strOfNums (ints l)).data = l.toArray := Array.toList_inj.1 (by rw [h2])
    exact congrArg ByteArray.mk this
  unfold getCode
  rw [if_neg (by unfold ints; simp; omega), hc, if_pos h]
  simp
  rfl

theorem codeIn_ints (l : List Int) (n : Nat) (h : bytesOk l) : ints (codeIn l n).data.toList = (l.take (1 + n)).drop 1 := by
  unfold codeIn
  exact nums_ints _ fun x hx => h x (List.mem_of_mem_take (List.mem_of_mem_drop hx))

/-- What is got of any bytes is put as just those that go by. -/
theorem got_put (l : List Int) (hb : bytesOk l) : ∃ s n ok, code_Get.f l = some (s, n, ok) ∧ s.size ≤ 12 ∧
    ((ok = true ∧ (s.data.toList = [] ∨ isCode s.data.toList = true) ∧ n = 1 + (s.size : Int) ∧ 1 + s.size ≤ l.length ∧ ints (putCode s.data.toList) = l.take (1 + s.size)) ∨ (ok = false ∧ s = ⟨#[]⟩ ∧ n = 0)) := by
  unfold code_Get.f
  by_cases h0 : l.length = 0
  · rw [if_pos h0]
    exact ⟨_, _, _, rfl, by decide, .inr ⟨rfl, rfl, rfl⟩⟩
  · rw [if_neg h0]
    obtain ⟨x, r, rfl⟩ : ∃ x r, l = x :: r := by
      cases l with
      | nil => simp at h0
      | cons x r => exact ⟨x, r, rfl⟩
    have hx := hb x (by simp)
    rw [rd0, if_pos hx]
    obtain ⟨n, rfl⟩ : ∃ n : Nat, x = n := ⟨x.toNat, by omega⟩
    rw [Int.toNat_natCast]
    unfold getCode
    by_cases h1 : ((n : Int) :: r).length < 1 + n
    · rw [if_pos h1]
      exact ⟨_, _, _, rfl, by decide, .inr ⟨rfl, rfl, rfl⟩⟩
    · rw [if_neg h1]
      have hci := codeIn_ints ((n : Int) :: r) n hb
      have hsz : (codeIn ((n : Int) :: r) n).size = n := by
        unfold codeIn
        rw [strOfNums_size, List.length_drop, List.length_take]; omega
      by_cases h2 : (codeIn ((n : Int) :: r) n).data.toList = [] ∨ isCode (codeIn ((n : Int) :: r) n).data.toList = true
      · rw [if_pos h2]
        have h12 := code_len h2
        rw [data_length, hsz] at h12
        refine ⟨_, _, _, rfl, by omega, .inl ⟨rfl, h2, rfl, by omega, ?_⟩⟩
        rw [putCode_pos _ h2, hsz]
        unfold ints at hci ⊢
        rw [List.map_cons, hci, data_length, hsz]
        rw [Nat.add_comm 1 n, List.take_succ_cons, List.drop_one, List.tail_cons]
        congr 1
        simp; omega
      · rw [if_neg h2]
        exact ⟨_, _, _, rfl, by decide, .inr ⟨rfl, rfl, rfl⟩⟩

theorem text_said (x : Int) (h0 : -9223372036854775808 ≤ x) (h1 : x ≤ 9223372036854775807) : code_Text.f x = some ⟨(Lib.itoa x).toArray⟩ := by
  unfold code_Text.f
  rw [if_pos h0, if_pos h1]
theorem number_said (s : ByteArray) (h : s.size ≤ 140737488351232) : code_Number.f s = some ((num s.data.toList).getD 0, (num s.data.toList).isSome) := by
  unfold code_Number.f
  rw [if_pos h]
theorem itoa_size (x : Int) (h0 : -9223372036854775808 ≤ x) (h1 : x ≤ 9223372036854775807) : (⟨(Lib.itoa x).toArray⟩ : ByteArray).size ≤ 21 := by
  have := Lib.itoa_length_le x h0 h1
  show (Lib.itoa x).toArray.size ≤ 21
  simpa using this

theorem back_j2 (k : Nat) (s : ByteArray) (hs : s.size ≤ 140737488351232) (n : Int) (h0 : -9223372036854775808 ≤ n) (h1 : n ≤ 9223372036854775807) : C.storemanlaw03_CodeBack.j2 (k + 1) s n false = some true := by
  simp only [C.storemanlaw03_CodeBack.j2, Bool.false_eq_true, if_false]
  have hz := itoa_size n h0 h1
  rw [text_said n h0 h1]
  simp only [Option.bind_some]
  rw [number_said _ (by omega), number_said s hs, show (⟨(Lib.itoa n).toArray⟩ : ByteArray).data.toList = Lib.itoa n from by simp, num_itoa n h0 h1]
  simp only [Option.bind_some, Option.getD_some, Option.isSome_some, if_true]
  cases h : num s.data.toList with
  | some v =>
    have hv := num_some h
    simp only [Option.getD_some, Option.isSome_some]
    rw [text_said v hv.2.1 hv.2.2]
    simp only [Option.bind_some]
    rw [Lib.toList_data, Lib.toList_data]
    simp [hv.1]
  | none =>
    simp only [Option.getD_none, Option.isSome_none]
    rw [text_said 0 (by decide) (by decide)]
    simp only [Option.bind_some]
    rw [Lib.toList_data, Lib.toList_data]
    have : ¬ (Lib.itoa 0 = s.data.toList) := fun e => by
      rw [← e, num_itoa 0 (by decide) (by decide)] at h; cases h
    simp [this]

theorem putCode_len (l : List UInt8) : (putCode l).length ≤ 13 := by
  unfold putCode
  split
  · rename_i h
    have := code_len h
    simp; omega
  · simp

theorem back_j1 (k : Nat) (s : ByteArray) (hs : s.size ≤ 140737488351232) (l : List Int) (hb : bytesOk l) (n : Int) (h0 : -9223372036854775808 ≤ n) (h1 : n ≤ 9223372036854775807) (hk : 15 < k) : C.storemanlaw03_CodeBack.j1 (k + 1) s l n = some true := by
  simp only [C.storemanlaw03_CodeBack.j1]
  obtain ⟨t, m, ok, e, hsz, hc⟩ := got_put l hb
  obtain ⟨k, rfl⟩ : ∃ j, k = j + 1 := ⟨k - 1, by omega⟩
  rw [e]
  simp only [Option.bind_some]
  rcases hc with ⟨rfl, hcode, rfl, hle, hput⟩ | ⟨rfl, rfl, rfl⟩
  · have hp : code_Put.f t = some (ints (putCode t.data.toList)) := rfl
    have hpl := putCode_len t.data.toList
    rw [if_pos rfl, if_neg (by omega), if_neg (by omega), hp]
    simp only [Option.bind_some]
    rw [if_pos (by omega), if_pos (by omega), same_says _ _ (by unfold ints; rw [List.length_map]; omega) _ (by unfold ints; rw [List.length_map]; omega)]
    rw [show (1 + (t.size : Int)).toNat = 1 + t.size by omega, hput]
    simp only [decide_true, Option.bind_some, if_true]
    exact back_j2 k s hs n h0 h1
  · rw [if_neg (by decide), if_pos (by rw [Lib.toList_data])]
    exact back_j2 k s hs n h0 h1

theorem back_j0_yes (k : Nat) (hk : 20 < k) (s : ByteArray) (hs : s.size ≤ 100000) (l : List Int) (hl : l.length ≤ 100000) (hb : bytesOk l) (n : Int) (h0 : -9223372036854775808 ≤ n) (h1 : n ≤ 9223372036854775807)
    (hc : s.data.toList = [] ∨ isCode s.data.toList = true) : C.storemanlaw03_CodeBack.j0 (k + 2) s l n (ints (putCode s.data.toList)) false = some true := by
  have hpl := putCode_len s.data.toList
  have hil : (ints (putCode s.data.toList)).length = (putCode s.data.toList).length := by unfold ints; rw [List.length_map]
  have hlen : (ints (putCode s.data.toList)).length = 1 + s.size := by
    rw [hil, putCode_pos _ hc, List.length_cons, data_length]; omega
  have h12 := code_len hc
  rw [data_length] at h12
  have hcp : C.storemankit_CopyBytes.f (ints (putCode s.data.toList)) = some (ints (putCode s.data.toList)) := by
    unfold C.storemankit_CopyBytes.f
    rw [if_pos (by simp only [List.length_nil]; omega), List.nil_append]
  have hg := get_put s.data.toList hc l
  rw [data_length] at hg
  generalize ints (putCode s.data.toList) = b at *
  simp only [C.storemanlaw03_CodeBack.j0, Bool.false_eq_true, if_false]
  rw [if_pos (by omega), hcp]
  simp only [Option.bind_some]
  rw [if_pos (by omega), hg]
  simp only [Option.bind_some, if_true]
  rw [hlen, if_pos (by omega)]
  exact back_j1 k s (by omega) l hb n h0 h1 (by omega)

theorem back_j0_no (k : Nat) (hk : 20 < k) (s : ByteArray) (hs : s.size ≤ 100000) (l : List Int) (hb : bytesOk l) (n : Int) (h0 : -9223372036854775808 ≤ n) (h1 : n ≤ 9223372036854775807) :
    C.storemanlaw03_CodeBack.j0 (k + 2) s l n [] false = some true := by
  simp only [C.storemanlaw03_CodeBack.j0, Bool.false_eq_true, if_false]
  rw [if_neg (by simp)]
  exact back_j1 k s (by omega) l hb n h0 h1 (by omega)

theorem codeBack_pure (s : ByteArray) (hs : s.size ≤ 140737488351232) (l : List Int) (hl : l.length ≤ 140737488351232) (hb : bytesOk l) (n : Int) (h0 : -9223372036854775808 ≤ n) (h1 : n ≤ 9223372036854775807) (k : Nat) (hk : 25 < k) : C.storemanlaw03_CodeBack.f k s l n = some true := by
  have hw : wrap64 ((s.size : Int) + (l.length : Int)) = (s.size : Int) + (l.length : Int) := by unfold wrap64; omega
  have hp : code_Put.f s = some (ints (putCode s.data.toList)) := rfl
  have hr : code_Right.f s = some (isCode s.data.toList) := rfl
  unfold C.storemanlaw03_CodeBack.f
  refine (bind_if (awake03 k (by omega))).trans ?_
  obtain ⟨k, rfl⟩ : ∃ m, k = m + 2 := ⟨k - 2, by omega⟩
  rw [hw]
  by_cases h : (s.size : Int) + (l.length : Int) > 100000
  · exact if_pos h
  · refine (if_neg h).trans ?_
    refine (bind_is hp).trans ?_
    rw [Lib.toList_data]
    by_cases hc : s.data.toList = [] ∨ isCode s.data.toList = true
    · have hlen : (ints (putCode s.data.toList)).length = 1 + s.size := by
        unfold ints
        rw [List.length_map, putCode_pos _ hc, List.length_cons, data_length]; omega
      have hd : decide (((ints (putCode s.data.toList)).length : Int) > 0) = true := decide_eq_true (by omega)
      have hy := back_j0_yes k (by omega) s (by omega) l (by omega) hb n h0 h1 hc
      rw [hd]
      by_cases e : s.data.toList = []
      · refine (if_pos e).trans ?_; exact hy
      · refine (if_neg e).trans ?_
        rcases hc with hc | hc
        · exact absurd hc e
        · rw [hc] at hr
          refine (bind_is hr).trans ?_; exact hy
    · have he : putCode s.data.toList = [] := if_neg hc
      simp only [not_or] at hc
      have hc2 : isCode s.data.toList = false := by simpa using hc.2
      rw [hc2] at hr
      refine (if_neg hc.1).trans ?_
      refine (bind_is hr).trans ?_
      rw [he]
      exact back_j0_no k (by omega) s (by omega) l hb n h0 h1
end Go.Proofs.YtkpedlhofalnjaaDoor
