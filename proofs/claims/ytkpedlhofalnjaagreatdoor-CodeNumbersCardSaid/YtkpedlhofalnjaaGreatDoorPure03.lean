/- The references of layer 3, as printed, answer as the plain words say: codes, their bytes, numbers' texts. -/
import Derived.Test.YtkpedlhofalnjaaGreatDoorExt03
import Derived.Test.YtkpedlhofalnjaaGreatDoorC2
import Derived.Test.YtkpedlhofalnjaaGreatDoorC4
import Derived.Test.YtkpedlhofalnjaaGreatDoorC5
namespace Go.Proofs.YtkpedlhofalnjaaGreatDoor
open Go.RowKit Go.Proofs.YtkpedlhofalnjaaGreatDoorW.PrintWords Go.Proofs.YtkpedlhofalnjaaGreatDoorW.PrintLast Go.Proofs.YtkpedlhofalnjaaGreatDoorW.PrintMore

theorem wrap_step {i : Nat} {n : Nat} (h : i < n) (hn : n ≤ 9223372036854775807) : wrap64 ((i : Int) + 1) = ((i + 1 : Nat) : Int) := by
  unfold wrap64; omega

theorem same_loop (a b : List Int) (hl : a.length = b.length) (hn : a.length ≤ 9223372036854775807) : ∀ (d k i : Nat), a.length - i = d → i ≤ a.length → d < k → a.take i = b.take i →
    C.storemankit_SameBytes.l0 k a b i = some (decide (a = b)) := by
  intro d
  induction d with
  | zero =>
    intro k i hd hi hk ht
    obtain ⟨k, rfl⟩ : ∃ m, k = m + 1 := ⟨k - 1, by omega⟩
    simp only [C.storemankit_SameBytes.l0]
    rw [if_neg (by omega)]
    have : a = b := by rw [List.take_of_length_le (by omega), List.take_of_length_le (by omega)] at ht; exact ht
    simp [this]
  | succ d ih =>
    intro k i hd hi hk ht
    obtain ⟨k, rfl⟩ : ∃ m, k = m + 1 := ⟨k - 1, by omega⟩
    simp only [C.storemankit_SameBytes.l0]
    rw [if_pos (by omega), if_pos (by omega), if_pos (by omega)]
    have ha : rd a (i : Int) = a[i]'(by omega) := by unfold rd; simp [List.getD_eq_getElem?_getD, List.getElem?_eq_getElem (show i < a.length by omega)]
    have hb : rd b (i : Int) = b[i]'(by omega) := by unfold rd; simp [List.getD_eq_getElem?_getD, List.getElem?_eq_getElem (show i < b.length by omega)]
    rw [ha, hb, wrap_step (show i < a.length by omega) hn]
    by_cases e : a[i]'(by omega) = b[i]'(by omega)
    · rw [if_pos e]
      refine ih k (i + 1) (by omega) (by omega) (by omega) ?_
      rw [List.take_succ_eq_append_getElem (by omega), List.take_succ_eq_append_getElem (by omega), ht, e]
    · rw [if_neg e]
      have : a ≠ b := by rintro rfl; exact e rfl
      simp [this]

theorem same_says (a b : List Int) (hn : a.length ≤ 9223372036854775807) (k : Nat) (hk : a.length < k) : C.storemankit_SameBytes.f k a b = some (decide (a = b)) := by
  unfold C.storemankit_SameBytes.f
  by_cases hl : a.length = b.length
  · rw [if_pos (by omega)]
    exact same_loop a b hl hn a.length k 0 (by omega) (by omega) hk rfl
  · rw [if_neg (by omega)]
    have : a ≠ b := by rintro rfl; exact hl rfl
    simp [this]

theorem bt_nat (s : ByteArray) (i : Nat) (h : i < s.size) : bt s (i : Int) = ((s.data.toList[i]'(by simpa using h)).toNat : Int) := by
  unfold bt
  rw [dif_pos (by simpa using h)]
  simp
  rfl

theorem right_loop (s : ByteArray) (hn : s.size ≤ 9223372036854775807) : ∀ (d k i : Nat), s.size - i = d → i ≤ s.size → d < k → C.storemanref03_Right.l0 k s i = some (goodFrom i (s.data.toList.drop i)) := by
  intro d
  induction d with
  | zero =>
    intro k i hd hi hk
    obtain ⟨k, rfl⟩ : ∃ m, k = m + 1 := ⟨k - 1, by omega⟩
    simp only [C.storemanref03_Right.l0]
    rw [if_neg (by omega), goodFrom_end _ _ (by simp; omega)]
  | succ d ih =>
    intro k i hd hi hk
    obtain ⟨k, rfl⟩ : ∃ m, k = m + 1 := ⟨k - 1, by omega⟩
    simp only [C.storemanref03_Right.l0]
    have hlt : i < s.size := by omega
    have hlt' : i < s.data.toList.length := by simpa using hlt
    rw [if_pos (by omega), if_pos (by omega), bt_nat s i hlt, wrap_step hlt hn, ih k (i + 1) (by omega) (by omega) (by omega), goodFrom_drop _ _ hlt']
    generalize hc : (s.data.toList[i]'hlt') = c
    generalize goodFrom (i + 1) (s.data.toList.drop (i + 1)) = g
    by_cases hg : good i c = true
    · have hg' := hg
      unfold good at hg'
      simp only [Bool.or_eq_true, Bool.and_eq_true, decide_eq_true_eq] at hg'
      rw [hg]
      repeat' split
      all_goals first
        | rfl
        | (exfalso; omega)
    · have hg2 : good i c = false := by simpa using hg
      have hg' := hg2
      unfold good at hg'
      simp only [Bool.or_eq_false_iff, Bool.and_eq_false_iff, decide_eq_false_iff_not] at hg'
      rw [hg2]
      repeat' split
      all_goals first
        | rfl
        | (exfalso; omega)

theorem ref_right (s : ByteArray) (hn : s.size ≤ 9223372036854775807) (k : Nat) (hk : s.size + 2 < k) : C.storemanref03_Right.f k s = some (isCode s.data.toList) := by
  obtain ⟨k, rfl⟩ : ∃ m, k = m + 1 := ⟨k - 1, by omega⟩
  unfold C.storemanref03_Right.f
  have hl := data_length s
  by_cases h1 : s.size < 1
  · rw [if_pos (by omega)]
    simp only [C.storemanref03_Right.j0, if_true]
    have : s.data.toList = [] := List.length_eq_zero_iff.1 (by omega)
    rw [this]; rfl
  · rw [if_neg (by omega)]
    by_cases h2 : s.size > 12
    · rw [decide_eq_true (by omega)]
      simp only [C.storemanref03_Right.j0, if_true]
      unfold isCode
      rw [decide_eq_false (by omega : ¬ s.data.toList.length ≤ 12)]
      simp
    · rw [decide_eq_false (by omega)]
      simp only [C.storemanref03_Right.j0]
      rw [if_neg (by decide)]
      have := right_loop s hn s.size k 0 (by omega) (by omega) (by omega)
      rw [show ((0 : Nat) : Int) = 0 from rfl] at this
      rw [this]
      unfold isCode
      rw [decide_eq_true (by omega : s.data.toList.length ≤ 12)]
      have hne : s.data.toList.isEmpty = false := by
        rw [List.isEmpty_eq_false_iff]; intro e; rw [e] at hl; simp at hl; omega
      rw [hne]
      simp

theorem ref_put (s : ByteArray) (hn : s.size ≤ 140737488351232) (k : Nat) (hk : s.size + 2 < k) : C.storemanref03_Put.f k s = some (ints (putCode s.data.toList)) := by
  unfold C.storemanref03_Put.f
  rw [ref_right s (by omega) k hk, Lib.toList_data]
  have hb : [((s.size : Int)) % 256] ++ bytesOf s = ints (UInt8.ofNat s.data.toList.length :: s.data.toList) := by
    unfold ints bytesOf
    simp
  simp only [Option.bind_some]
  have hlim : ([((s.size : Int)) % 256] : List Int).length + s.size < 140737488355328 := by simp only [List.length_cons, List.length_nil]; omega
  rw [if_pos hlim, hb]
  unfold putCode
  by_cases e : s.data.toList = []
  · rw [if_pos e, if_pos (.inl e)]
  · rw [if_neg e]
    by_cases c : isCode s.data.toList = true
    · rw [if_pos c, if_pos (.inr c)]
    · rw [if_neg c, if_neg (by simp only [not_or]; exact ⟨e, c⟩)]; rfl


/-! numbers -/
theorem u64_wrap (n : Int) : IntKind.u64.wrap n = n % 18446744073709551616 := by
  unfold IntKind.wrap
  have h1 : IntKind.u64.signed = false := rfl
  have h2 : IntKind.u64.bits = 64 := rfl
  rw [h1, h2]
  simp
theorem num_step (s : ByteArray) (i : Nat) (h : i < s.size) : (s.data.toList.take (i + 1)) = s.data.toList.take i ++ [s.data.toList[i]'(by simpa using h)] :=
  List.take_succ_eq_append_getElem (by simpa using h)

theorem val_lt (l : List UInt8) (h : digs l) : val l < 10 ^ l.length := by
  obtain ⟨n, hn⟩ : ∃ n, l.length = n := ⟨_, rfl⟩
  induction n generalizing l with
  | zero => rw [List.length_eq_zero_iff.1 hn]; decide
  | succ n ih =>
    rcases List.eq_nil_or_concat l with e | ⟨r, c, e⟩
    · subst e; simp at hn
    · rw [List.concat_eq_append] at e
      subst e
      have hc := h c (by simp)
      have hr : digs r := fun y hy => h y (by simp [hy])
      have hl : r.length = n := by simpa using hn
      have := ih r hr hl
      rw [val_snoc, hn, Nat.pow_succ]
      rw [hl] at this
      omega

/-- What the reference's loop comes to: the digits' value, if all are digits. -/
def afterLoop (neg : Bool) (l : List UInt8) : Int × Bool :=
  if neg = true then (if val l ≤ 9223372036854775808 then (-(val l : Int), true) else (0, false)) else (if val l < 9223372036854775808 then ((val l : Int), true) else (0, false))

theorem digs_take_succ (s : ByteArray) (i : Nat) (h : i < s.size) (hd : digs (s.data.toList.take i)) : digs (s.data.toList.take (i + 1)) ↔ (48 ≤ (s.data.toList[i]'(by simpa using h)).toNat ∧ (s.data.toList[i]'(by simpa using h)).toNat ≤ 57) := by
  rw [num_step s i h]
  constructor
  · intro hh; exact hh _ (by simp)
  · intro hh c hc
    rcases List.mem_append.1 hc with hc | hc
    · exact hd c hc
    · simp only [List.mem_singleton] at hc; subst hc; exact hh

theorem not_digs {s : ByteArray} {i : Nat} (h : i < s.size) (hn : ¬ (48 ≤ (s.data.toList[i]'(by simpa using h)).toNat ∧ (s.data.toList[i]'(by simpa using h)).toNat ≤ 57)) : ¬ digs s.data.toList :=
  fun hd => hn (hd _ (List.getElem_mem _))

theorem num_loop (neg : Bool) (s : ByteArray) (hs : s.size ≤ 19) : ∀ (d k i : Nat), s.size - i = d → i ≤ s.size → d + 1 < k → digs (s.data.toList.take i) →
    C.storemanref03_Number.l0 k neg s (val (s.data.toList.take i) : Nat) i = some (if digs s.data.toList then afterLoop neg s.data.toList else (0, false)) := by
  have hl := data_length s
  intro d
  induction d with
  | zero =>
    intro k i hd hi hk hdg
    obtain ⟨k, rfl⟩ : ∃ m, k = m + 2 := ⟨k - 2, by omega⟩
    have ht : s.data.toList.take i = s.data.toList := List.take_of_length_le (by omega)
    rw [ht] at hdg ⊢
    simp only [C.storemanref03_Number.l0]
    rw [if_neg (by omega), if_pos hdg]
    have hv := val_lt _ hdg
    have hp : 10 ^ s.data.toList.length ≤ 10 ^ 19 := Nat.pow_le_pow_right (by decide) (by omega)
    have hp2 : (10 : Nat) ^ 19 = 10000000000000000000 := by decide
    generalize hvv : val s.data.toList = v at hv ⊢
    unfold afterLoop
    rw [hvv]
    cases neg with
    | true =>
      simp only [if_true]
      by_cases c : v ≤ 9223372036854775808
      · rw [decide_eq_true (by omega), if_pos c]
        simp only [C.storemanref03_Number.j4, if_true]
        congr 2
        rw [u64_wrap]
        unfold wrap64; omega
      · rw [decide_eq_false (by omega), if_neg c]
        simp only [C.storemanref03_Number.j4, if_true]
        rw [if_neg (by decide)]
    | false =>
      simp only [C.storemanref03_Number.j4, Bool.false_eq_true, if_false]
      by_cases c : v < 9223372036854775808
      · rw [if_pos (by omega), if_pos c]
        congr 2
        unfold wrap64; omega
      · rw [if_neg (by omega), if_neg c]
  | succ d ih =>
    intro k i hd hi hk hdg
    obtain ⟨k, rfl⟩ : ∃ m, k = m + 1 := ⟨k - 1, by omega⟩
    have hlt : i < s.size := by omega
    simp only [C.storemanref03_Number.l0]
    rw [if_pos (by omega), if_pos (by omega), bt_nat s i hlt, wrap_step hlt (by omega)]
    have hv := val_lt _ hdg
    rw [List.length_take] at hv
    have hp : 10 ^ (min i s.data.toList.length) ≤ 10 ^ 18 := Nat.pow_le_pow_right (by decide) (by omega)
    have hp2 : (10 : Nat) ^ 18 = 1000000000000000000 := by decide
    have hs2 := digs_take_succ s i hlt hdg
    have hvs : val (s.data.toList.take (i + 1)) = 10 * val (s.data.toList.take i) + ((s.data.toList[i]'(by simpa using hlt)).toNat - 48) := by rw [num_step s i hlt, val_snoc]
    by_cases c : 48 ≤ (s.data.toList[i]'(by simpa using hlt)).toNat ∧ (s.data.toList[i]'(by simpa using hlt)).toNat ≤ 57
    · rw [if_neg (by omega), if_neg (by omega)]
      have := ih k (i + 1) (by omega) (by omega) (by omega) (hs2.2 c)
      rw [← this]
      congr 1
      rw [hvs, u64_wrap, u64_wrap]
      omega
    · rw [if_neg (not_digs hlt c)]
      by_cases c1 : (s.data.toList[i]'(by simpa using hlt)).toNat < 48
      · rw [if_pos (by omega)]
      · rw [if_neg (by omega), if_pos (by omega)]

/-- What the reference says of a text's bytes. -/
def refNum (l : List UInt8) : Int × Bool :=
  if (if l.head? = some 45 then l.drop 1 else l) = [] ∨ 19 < (if l.head? = some 45 then l.drop 1 else l).length ∨ (if l.head? = some 45 then l.drop 1 else l).head? = some 48 ∧ (1 < (if l.head? = some 45 then l.drop 1 else l).length ∨ l.head? = some 45) then (0, false)
  else if digs (if l.head? = some 45 then l.drop 1 else l) then afterLoop (decide (l.head? = some 45)) (if l.head? = some 45 then l.drop 1 else l) else (0, false)

theorem pow_nDigits (u : Nat) (h : 1 ≤ u) : 10 ^ (Lib.nDigits u - 1) ≤ u := by
  induction u using Nat.strongRecOn with
  | _ u ih =>
    by_cases c : u < 10
    · rw [Lib.nDigits_small c]; simpa using h
    · have hp := Lib.nDigits_pos (u / 10)
      have := ih (u / 10) (by omega) (by omega)
      rw [Lib.nDigits_big c]
      obtain ⟨m, hm⟩ : ∃ m, Lib.nDigits (u / 10) = m + 1 := ⟨Lib.nDigits (u / 10) - 1, by omega⟩
      rw [hm] at this ⊢
      simp only [Nat.add_sub_cancel] at this ⊢
      rw [Nat.pow_succ]
      omega

theorem decDigits_len19 (u : Nat) (h : u < 10000000000000000000) : (Lib.decDigits u).length ≤ 19 := by
  rw [Lib.decDigits_length]
  by_cases c : 1 ≤ u
  · have := pow_nDigits u c
    refine Nat.le_of_not_lt fun hlt => ?_
    have h2 : 10 ^ 19 ≤ 10 ^ (Lib.nDigits u - 1) := Nat.pow_le_pow_right (by decide) (by omega)
    have h3 : (10 : Nat) ^ 19 = 10000000000000000000 := by decide
    omega
  · rw [Lib.nDigits_small (by omega)]; omega

theorem refNum_itoa (v : Int) (h0 : -9223372036854775808 ≤ v) (h1 : v ≤ 9223372036854775807) : refNum (Lib.itoa v) = (v, true) := by
  unfold Lib.itoa
  split
  · rename_i hv
    unfold refNum
    have hh : (45 :: Lib.decDigits v.natAbs).head? = some 45 := rfl
    have hd : (45 :: Lib.decDigits v.natAbs).drop 1 = Lib.decDigits v.natAbs := rfl
    rw [if_pos hh, hd]
    have hl := decDigits_len19 v.natAbs (by omega)
    rw [if_neg]
    · rw [if_pos (digs_decDigits _), decide_eq_true hh]
      unfold afterLoop
      rw [if_pos rfl, val_decDigits, if_pos (by omega)]
      congr 1
      omega
    · rintro (h | h | ⟨h, _⟩)
      · exact decDigits_ne _ h
      · omega
      · have := head_decDigits _ h; omega
  · rename_i hv
    unfold refNum
    obtain ⟨c, r, hcr, hc1, hc2⟩ := first_digit v.toNat
    have hh : ¬ (Lib.decDigits v.toNat).head? = some 45 := by
      rw [hcr]; intro e
      simp only [List.head?_cons, Option.some.injEq] at e
      rw [e] at hc1
      have : (45 : UInt8).toNat = 45 := rfl
      omega
    rw [if_neg hh]
    have hl := decDigits_len19 v.toNat (by omega)
    rw [if_neg]
    · rw [if_pos (digs_decDigits _), decide_eq_false hh]
      unfold afterLoop
      rw [if_neg (by decide), val_decDigits, if_pos (by omega)]
      congr 1
      omega
    · rintro (h | h | ⟨h, h2⟩)
      · exact decDigits_ne _ h
      · omega
      · rcases h2 with h2 | h2
        · have := (canon_decDigits v.toNat).2.2 h; omega
        · exact hh h2

theorem refNum_true {l : List UInt8} {x : Int} (h : refNum l = (x, true)) : num l = some x := by
  unfold refNum at h
  by_cases hh : l.head? = some 45
  · rw [if_pos hh] at h
    obtain ⟨r, rfl⟩ : ∃ r, l = 45 :: r := by
      cases l with
      | nil => simp at hh
      | cons c r => simp only [List.head?_cons, Option.some.injEq] at hh; exact ⟨r, by rw [hh]⟩
    have hd : (45 :: r).drop 1 = r := rfl
    rw [hd] at h
    split at h
    · simp at h
    · rename_i hn
      simp only [not_or, not_and] at hn
      split at h
      · rename_i hdg
        rw [decide_eq_true hh] at h
        unfold afterLoop at h
        rw [if_pos rfl] at h
        split at h
        · rename_i hv
          injection h with h _
          have h48 : r.head? ≠ some 48 := fun e => (hn.2.2 e).2 hh
          have hc : canon r := ⟨hdg, hn.1, fun e => absurd e h48⟩
          have hp : 1 ≤ val r := by
            cases r with
            | nil => exact absurd rfl hn.1
            | cons c r' => exact val_pos_of_head r' c hdg (fun e => h48 (by rw [e]; rfl))
          refine num_eq_some_iff.2 ⟨?_, by omega, by omega⟩
          unfold Lib.itoa
          rw [if_pos (by omega)]
          congr 1
          rw [show x.natAbs = val r by omega]
          exact decDigits_val r hc
        · simp at h
      · simp at h
  · rw [if_neg hh] at h
    split at h
    · simp at h
    · rename_i hn
      simp only [not_or, not_and] at hn
      split at h
      · rename_i hdg
        rw [decide_eq_false hh] at h
        unfold afterLoop at h
        rw [if_neg (by decide)] at h
        split at h
        · rename_i hv
          injection h with h _
          have hc : canon l := ⟨hdg, hn.1, fun e => by
            have := (hn.2.2 e).1
            have : l.length ≠ 0 := fun e => hn.1 (List.length_eq_zero_iff.1 e)
            omega⟩
          refine num_eq_some_iff.2 ⟨?_, by omega, by omega⟩
          unfold Lib.itoa
          rw [if_neg (by omega), show x.toNat = val l by omega]
          exact decDigits_val l hc
        · simp at h
      · simp at h

theorem refNum_shape (l : List UInt8) : refNum l = (0, false) ∨ (refNum l).2 = true := by
  unfold refNum afterLoop
  repeat' split
  all_goals first
    | exact .inl rfl
    | exact .inr rfl

theorem refNum_eq (l : List UInt8) : refNum l = ((num l).getD 0, (num l).isSome) := by
  cases h : num l with
  | some v =>
    have := num_some h
    rw [← this.1, refNum_itoa v this.2.1 this.2.2]; rfl
  | none =>
    rcases refNum_shape l with e | e
    · rw [e]; rfl
    · have : num l = some (refNum l).1 := refNum_true (by rw [← e])
      rw [h] at this; cases this

theorem head_byte (s : ByteArray) (h : 0 < s.size) (b : UInt8) : s.data.toList.head? = some b ↔ bt s 0 = (b.toNat : Int) := by
  have hb := bt_nat s 0 h
  rw [show ((0 : Nat) : Int) = 0 from rfl] at hb
  rw [hb]
  have hl : 0 < s.data.toList.length := by rw [data_length]; exact h
  rw [List.head?_eq_getElem?, List.getElem?_eq_getElem hl, Option.some.injEq]
  constructor
  · intro e; rw [e]
  · intro e; exact u8_eq (by omega)

theorem ref_j1 (neg : Bool) (s : ByteArray) (hn : s.size ≤ 140737488351232) (k : Nat) (hk : s.size + 4 < k) : C.storemanref03_Number.j1 k neg s =
    some (if s.data.toList = [] ∨ 19 < s.data.toList.length ∨ s.data.toList.head? = some 48 ∧ (1 < s.data.toList.length ∨ neg = true) then (0, false) else if digs s.data.toList then afterLoop neg s.data.toList else (0, false)) := by
  obtain ⟨k, rfl⟩ : ∃ m, k = m + 2 := ⟨k - 2, by omega⟩
  have hl := data_length s
  have hT : C.storemanref03_Number.j2 (k + 1) neg s true = some (0, false) := by simp only [C.storemanref03_Number.j2, if_true]
  simp only [C.storemanref03_Number.j1]
  by_cases h0 : s.size = 0
  · rw [if_pos (by omega), hT, if_pos (.inl (List.length_eq_zero_iff.1 (by omega)))]
  · rw [if_neg (by omega)]
    by_cases h19 : 19 < s.size
    · rw [if_pos (by omega), hT, if_pos (.inr (.inl (by omega)))]
    · rw [if_neg (by omega), if_pos (by omega)]
      have hne : s.data.toList ≠ [] := fun e => h0 (by rw [← hl, e]; rfl)
      have hh := head_byte s (by omega) 48
      have h48 : (48 : UInt8).toNat = 48 := rfl
      rw [h48] at hh
      have hF : C.storemanref03_Number.j2 (k + 1) neg s false = some (if digs s.data.toList then afterLoop neg s.data.toList else (0, false)) := by
        simp only [C.storemanref03_Number.j2, Bool.false_eq_true, if_false]
        have := num_loop neg s (by omega) s.size k 0 (by omega) (by omega) (by omega) (by intro c hc; simp at hc)
        exact this
      by_cases c : bt s 0 = 48
      · rw [if_pos c]
        by_cases c1 : 1 < s.size
        · rw [if_pos (by omega), hT, if_pos (.inr (.inr ⟨hh.2 c, .inl (by omega)⟩))]
        · rw [if_neg (by omega)]
          cases neg with
          | true => rw [hT, if_pos (.inr (.inr ⟨hh.2 c, .inr rfl⟩))]
          | false =>
            have hneg : ¬ (s.data.toList = [] ∨ 19 < s.data.toList.length ∨ s.data.toList.head? = some 48 ∧ (1 < s.data.toList.length ∨ false = true)) := by
              rintro (h | h | ⟨_, h | h⟩)
              · exact hne h
              · omega
              · omega
              · cases h
            rw [hF, if_neg hneg]
      · have hneg : ¬ (s.data.toList = [] ∨ 19 < s.data.toList.length ∨ s.data.toList.head? = some 48 ∧ (1 < s.data.toList.length ∨ neg = true)) := by
          rintro (h | h | ⟨h, _⟩)
          · exact hne h
          · omega
          · exact c (hh.1 h)
        rw [if_neg c, hF, if_neg hneg]

theorem ref_number (s : ByteArray) (hn : s.size ≤ 140737488351232) (k : Nat) (hk : s.size + 8 < k) : C.storemanref03_Number.f k s = some ((num s.data.toList).getD 0, (num s.data.toList).isSome) := by
  rw [← refNum_eq]
  obtain ⟨k, rfl⟩ : ∃ m, k = m + 1 := ⟨k - 1, by omega⟩
  unfold C.storemanref03_Number.f
  have hl := data_length s
  by_cases h0 : s.size = 0
  · rw [if_neg (by omega)]
    simp only [C.storemanref03_Number.j0, Bool.false_eq_true, if_false]
    rw [ref_j1 false s hn k (by omega)]
    have : s.data.toList = [] := List.length_eq_zero_iff.1 (by omega)
    rw [this]; rfl
  · rw [if_pos (by omega), if_pos (by omega)]
    have hh := head_byte s (by omega) 45
    have h45 : (45 : UInt8).toNat = 45 := rfl
    rw [h45] at hh
    by_cases c : bt s 0 = 45
    · have hc := hh.2 c
      rw [show (bt s 0 == 45) = true from beq_iff_eq.2 c]
      simp only [C.storemanref03_Number.j0, if_true]
      rw [if_pos (by omega), ref_j1 true _ (by rw [ByteArray.size_extract]; omega) k (by rw [ByteArray.size_extract]; omega)]
      have he : (s.extract 1 s.size).data.toList = s.data.toList.drop 1 := by rw [Lib.extract_data, List.take_of_length_le (by rw [List.length_drop]; omega)]
      rw [he]
      unfold refNum
      rw [if_pos hc, decide_eq_true hc]
      simp only [hc]
    · have hc : ¬ s.data.toList.head? = some 45 := fun e => c (hh.1 e)
      rw [show (bt s 0 == 45) = false from beq_eq_false_iff_ne.2 c]
      simp only [C.storemanref03_Number.j0, Bool.false_eq_true, if_false]
      rw [ref_j1 false s hn k (by omega)]
      unfold refNum
      rw [if_neg hc, decide_eq_false hc]
      simp only [hc, Bool.false_eq_true]
end Go.Proofs.YtkpedlhofalnjaaGreatDoor
