/- The number that a text says, and a number as a text (plain Lean, no program): what strconv reads back of a numeral is the number; canonical numerals. -/
import Derived.Lib.ParseIntBTie
import Derived.Lib.ItoaLen
namespace Go.Proofs.YtkpedlhofalnjaaDoor
open Go.Lib

def digs (l : List UInt8) : Prop := ∀ c ∈ l, 48 ≤ c.toNat ∧ c.toNat ≤ 57
instance : DecidablePred digs := fun l => inferInstanceAs (Decidable (∀ c ∈ l, 48 ≤ c.toNat ∧ c.toNat ≤ 57))
def val (l : List UInt8) : Nat := l.foldl (fun a c => 10 * a + (c.toNat - 48)) 0
theorem val_snoc (l : List UInt8) (c : UInt8) : val (l ++ [c]) = 10 * val l + (c.toNat - 48) := by simp [val]

theorem parse_snoc : ∀ (l : List UInt8) (acc : Nat) (c : UInt8), parseUint10 acc (l ++ [c]) = match parseUint10 acc l with | .ok a => parseUint10 a [c] | e => e
  | [], acc, c => by simp only [List.nil_append, parseUint10]
  | x :: r, acc, c => by
    simp only [List.cons_append, parseUint10]
    split
    · split
      · rfl
      · split
        · rfl
        · exact parse_snoc r _ c
    · rfl

theorem digit_toNat (k : Nat) (h : k < 10) : (UInt8.ofNat (48 + k)).toNat = 48 + k := by
  simp [UInt8.toNat_ofNat']; omega

theorem parse_decDigits (u : Nat) : u < 18446744073709551616 → parseUint10 0 (decDigits u) = .ok u := by
  induction u using Nat.strongRecOn with
  | _ u ih =>
    intro hu
    by_cases h : u < 10
    · rw [decDigits, dif_pos h]
      have hd := digit_toNat u h
      simp only [parseUint10, hd]
      rw [if_pos (by omega), if_neg (by omega), if_neg (by omega)]
      congr 1; omega
    · have hd := digit_toNat (u % 10) (by omega)
      rw [decDigits, dif_neg h, parse_snoc, ih (u / 10) (by omega) (by omega)]
      simp only [parseUint10, hd]
      rw [if_pos (by omega), if_neg (by omega), if_neg (by omega)]
      congr 1; omega

theorem digs_decDigits (u : Nat) : digs (decDigits u) := by
  induction u using Nat.strongRecOn with
  | _ u ih =>
    by_cases h : u < 10
    · rw [decDigits, dif_pos h]
      intro c hc
      have hd := digit_toNat u h
      simp only [List.mem_singleton] at hc
      subst hc; omega
    · rw [decDigits, dif_neg h]
      intro c hc
      have hd := digit_toNat (u % 10) (by omega)
      rcases List.mem_append.1 hc with hc | hc
      · exact ih _ (by omega) c hc
      · simp only [List.mem_singleton] at hc
        subst hc; omega

theorem val_decDigits (u : Nat) : val (decDigits u) = u := by
  induction u using Nat.strongRecOn with
  | _ u ih =>
    by_cases h : u < 10
    · rw [decDigits, dif_pos h]
      have hd := digit_toNat u h
      simp only [val, List.foldl_cons, List.foldl_nil, hd]; omega
    · rw [decDigits, dif_neg h, val_snoc, ih _ (by omega)]
      have hd := digit_toNat (u % 10) (by omega)
      rw [hd]; omega

theorem decDigits_ne (u : Nat) : decDigits u ≠ [] := by
  intro h
  have := decDigits_length u
  rw [h] at this
  have := nDigits_pos u
  simp at *
  omega

/-- no nought ahead -/
def canon (l : List UInt8) : Prop := digs l ∧ l ≠ [] ∧ (l.head? = some 48 → l.length = 1)

theorem head_decDigits (u : Nat) : (decDigits u).head? = some 48 → u = 0 := by
  induction u using Nat.strongRecOn with
  | _ u ih =>
    by_cases h : u < 10
    · rw [decDigits, dif_pos h]
      have hd := digit_toNat u h
      intro he
      simp only [List.head?_cons, Option.some.injEq] at he
      rw [he] at hd
      have : (48 : UInt8).toNat = 48 := rfl
      omega
    · rw [decDigits, dif_neg h]
      intro he
      have he' : (decDigits (u / 10)).head? = some 48 := by
        cases hq : decDigits (u / 10) with
        | nil => exact absurd hq (decDigits_ne _)
        | cons x r => rw [hq] at he; simpa using he
      have := ih (u / 10) (by omega) he'
      omega

theorem canon_decDigits (u : Nat) : canon (decDigits u) := by
  refine ⟨digs_decDigits u, decDigits_ne u, fun h => ?_⟩
  rw [head_decDigits u h, decDigits_one (by omega)]; rfl

theorem u8_eq {a b : UInt8} (h : a.toNat = b.toNat) : a = b := UInt8.toNat_inj.1 h

theorem val_pos_of_head : ∀ (l : List UInt8) (c : UInt8), digs (c :: l) → c ≠ 48 → 1 ≤ val (c :: l) := by
  intro l c
  have key : ∀ (l : List UInt8) (a : Nat), 1 ≤ a → 1 ≤ l.foldl (fun a c => 10 * a + (c.toNat - 48)) a := by
    intro l
    induction l with
    | nil => intro a ha; exact ha
    | cons x r ih => intro a ha; simp only [List.foldl_cons]; exact ih _ (by omega)
  intro hd hc
  have h1 := hd c (by simp)
  have h2 : c.toNat ≠ 48 := fun e => hc (u8_eq e)
  unfold val
  simp only [List.foldl_cons]
  exact key l _ (by omega)

theorem decDigits_val (l : List UInt8) (h : canon l) : decDigits (val l) = l := by
  obtain ⟨n, hn⟩ : ∃ n, l.length = n := ⟨_, rfl⟩
  induction n generalizing l with
  | zero => exact absurd (List.length_eq_zero_iff.1 hn) h.2.1
  | succ n ih =>
    obtain ⟨hd, hne, hh⟩ := h
    rcases List.eq_nil_or_concat l with e | ⟨r, c, e⟩
    · exact absurd e hne
    · rw [List.concat_eq_append] at e
      subst e
      have hc := hd c (by simp)
      have hv := val_snoc r c
      have hcd : UInt8.ofNat (48 + (c.toNat - 48)) = c := by
        apply u8_eq; rw [digit_toNat _ (by omega)]; omega
      cases r with
      | nil =>
        have hv0 : val ([] ++ [c]) = c.toNat - 48 := by rw [hv]; simp [val]
        rw [hv0, decDigits_one (by omega), hcd]; rfl
      | cons x r =>
        have hx : x ≠ 48 := by
          intro e
          have := hh (by simp [e])
          simp at this
        have hr : canon (x :: r) := by
          refine ⟨fun y hy => hd y (by simp at hy ⊢; rcases hy with h | h <;> simp [h]), by simp, fun he => ?_⟩
          simp only [List.head?_cons, Option.some.injEq] at he
          exact absurd he hx
        have hp := val_pos_of_head r x hr.1 hx
        have hb : ¬ val (x :: r ++ [c]) < 10 := by rw [hv]; omega
        rw [decDigits, dif_neg hb]
        have e1 : val (x :: r ++ [c]) / 10 = val (x :: r) := by rw [hv]; omega
        have e2 : val (x :: r ++ [c]) % 10 = c.toNat - 48 := by rw [hv]; omega
        rw [e1, e2, hcd, ih (x :: r) hr (by simp at hn ⊢; omega)]

theorem first_digit (u : Nat) : ∃ c r, decDigits u = c :: r ∧ 48 ≤ c.toNat ∧ c.toNat ≤ 57 := by
  cases h : decDigits u with
  | nil => exact absurd h (decDigits_ne u)
  | cons c r => exact ⟨c, r, rfl, digs_decDigits u c (by rw [h]; simp)⟩

theorem atoi_itoa (n : Int) (h0 : -9223372036854775808 ≤ n) (h1 : n ≤ 9223372036854775807) : atoiAll (itoa n) = .ok n := by
  unfold itoa
  split
  · have hp := parse_decDigits n.natAbs (by omega)
    simp only [atoiAll]
    have e : parseMag (decDigits n.natAbs) = .ok n.natAbs := by unfold parseMag; rw [if_neg (decDigits_ne _), hp]
    have h45 : (45 : UInt8).toNat = 45 := rfl
    rw [if_pos (Or.inr h45), e]
    simp only [h45]
    rw [if_neg (by simp), if_neg (by simp; omega)]
    simp only [if_true]
    congr 1; omega
  · have hp := parse_decDigits n.toNat (by omega)
    obtain ⟨c, r, hcr, hc1, hc2⟩ := first_digit n.toNat
    have e : parseMag (decDigits n.toNat) = .ok n.toNat := by unfold parseMag; rw [if_neg (decDigits_ne _), hp]
    rw [hcr] at e ⊢
    simp only [atoiAll]
    rw [if_neg (by omega), e]
    simp only
    rw [if_neg (by simp; omega), if_neg (by omega), if_neg (by omega)]
    congr 1; omega

/-- what a text says -/
def num (l : List UInt8) : Option Int := match atoiAll l with | .ok v => if itoa v = l then some v else none | _ => none

theorem num_itoa (n : Int) (h0 : -9223372036854775808 ≤ n) (h1 : n ≤ 9223372036854775807) : num (itoa n) = some n := by
  unfold num; rw [atoi_itoa n h0 h1]; simp

theorem atoi_bounds {l : List UInt8} {v : Int} (h : atoiAll l = .ok v) : -9223372036854775808 ≤ v ∧ v ≤ 9223372036854775807 := by
  rw [← parseIntB_64] at h
  have := parseIntB_bounds h
  simp at this
  omega

theorem num_some {l : List UInt8} {v : Int} (h : num l = some v) : itoa v = l ∧ -9223372036854775808 ≤ v ∧ v ≤ 9223372036854775807 := by
  unfold num at h
  split at h
  · rename_i w hw
    have hb := atoi_bounds hw
    split at h
    · rename_i e
      injection h with h; subst h
      exact ⟨e, hb⟩
    · cases h
  · cases h

theorem num_eq_some_iff {l : List UInt8} {v : Int} : num l = some v ↔ itoa v = l ∧ -9223372036854775808 ≤ v ∧ v ≤ 9223372036854775807 :=
  ⟨num_some, fun ⟨e, a, b⟩ => e ▸ num_itoa v a b⟩

theorem num_none {l : List UInt8} (h : ∀ v : Int, -9223372036854775808 ≤ v → v ≤ 9223372036854775807 → itoa v ≠ l) : num l = none := by
  cases e : num l with
  | none => rfl
  | some v => have := num_some e; exact absurd this.1 (h v this.2.1 this.2.2)

end Go.Proofs.YtkpedlhofalnjaaDoor
