/- What ask.unlike and ask.parted, as printed, answer. -/
import Derived.Test.YtkpedlhofalnjaaDoorAsk13
import Derived.Test.YtkpedlhofalnjaaDoorA1
import Derived.Test.YtkpedlhofalnjaaDoorA4
import Derived.Test.YtkpedlhofalnjaaDoorA5
namespace Go.Proofs.YtkpedlhofalnjaaDoor
open Go.RowKit Go.Proofs.YtkpedlhofalnjaaDoorW.PrintWords Go.Proofs.YtkpedlhofalnjaaDoorW.PrintLast Go.Proofs.YtkpedlhofalnjaaDoorW.PrintMore

theorem wrap_up {i : Nat} {n : Nat} (h : i < n) (hn : n ≤ 9223372036854775807) : wrap64 ((i : Int) + 1) = ((i + 1 : Nat) : Int) := by
  unfold wrap64; omega
theorem rdOf_at {α : Type} (d : α) (l : List α) (i : Nat) (h : i < l.length) : rdOf d l (i : Int) = l[i] := by
  unfold rdOf; simp [List.getD_eq_getElem?_getD, List.getElem?_eq_getElem h]

/-- Is a text among some? -/
def isIn (l : List ByteArray) (s : ByteArray) : Bool := l.any fun t => t.data.toList == s.data.toList

theorem index_loop (l : List ByteArray) (s : ByteArray) (hn : l.length ≤ 9223372036854775807) : ∀ (d k i : Nat), l.length - i = d → i ≤ l.length → d < k → ∃ r, A.slices_Index_string_string.l0 k l s l.length i = some r ∧ decide (r ≥ 0) = isIn (l.drop i) s := by
  intro d
  induction d with
  | zero =>
    intro k i hd hi hk
    obtain ⟨k, rfl⟩ : ∃ m, k = m + 1 := ⟨k - 1, by omega⟩
    refine ⟨-1, ?_, ?_⟩
    · simp only [A.slices_Index_string_string.l0]
      exact if_neg (by omega)
    · rw [List.drop_of_length_le (by omega)]; rfl
  | succ d ih =>
    intro k i hd hi hk
    obtain ⟨k, rfl⟩ : ∃ m, k = m + 1 := ⟨k - 1, by omega⟩
    have hlt : i < l.length := by omega
    obtain ⟨r, h1, h2⟩ := ih k (i + 1) (by omega) (by omega) (by omega)
    have e0 : isIn (l.drop i) s = (l[i].data.toList == s.data.toList || isIn (l.drop (i + 1)) s) := by
      rw [List.drop_eq_getElem_cons hlt]; rfl
    by_cases e : s.toList = (rdOf ByteArray.empty l (i : Int)).toList
    · refine ⟨i, ?_, ?_⟩
      · simp only [A.slices_Index_string_string.l0]
        refine (if_pos (by omega)).trans ?_
        refine (if_pos (by omega)).trans ?_
        refine (if_pos (by omega)).trans ?_
        exact if_pos e
      · rw [rdOf_at _ _ _ hlt, Lib.toList_data, Lib.toList_data] at e
        rw [e0, e, BEq.rfl, Bool.true_or]
        exact decide_eq_true (by omega)
    · refine ⟨r, ?_, ?_⟩
      · simp only [A.slices_Index_string_string.l0]
        refine (if_pos (by omega)).trans ?_
        refine (if_pos (by omega)).trans ?_
        refine (if_pos (by omega)).trans ?_
        refine (if_neg e).trans ?_
        rw [wrap_up hlt hn]
        exact h1
      · rw [rdOf_at _ _ _ hlt, Lib.toList_data, Lib.toList_data] at e
        rw [e0, h2, beq_eq_false_iff_ne.2 (fun h => e h.symm), Bool.false_or]
theorem contains_says (l : List ByteArray) (s : ByteArray) (hn : l.length ≤ 9223372036854775807) (k : Nat) (hk : l.length < k) : A.slices_Contains_string_string.f k l s = some (isIn l s) := by
  obtain ⟨r, h1, h2⟩ := index_loop l s hn l.length k 0 (by omega) (by omega) hk
  unfold A.slices_Contains_string_string.f A.slices_Index_string_string.f
  refine (bind_is h1).trans ?_
  rw [h2]; rfl

/-- The codes from a place on are codes, and like none ahead of them. -/
def unlikeFrom (l : List ByteArray) (i : Nat) : Bool := (List.range (l.length - i)).all fun j => match l[i + j]? with | some s => isRight s && !isIn (l.take (i + j)) s | none => true
theorem unlikeFrom_step (l : List ByteArray) (i : Nat) (h : i < l.length) : unlikeFrom l i = (isRight l[i] && !isIn (l.take i) l[i] && unlikeFrom l (i + 1)) := by
  unfold unlikeFrom
  have e : l.length - i = (l.length - (i + 1)) + 1 := by omega
  rw [e, List.range_succ_eq_map, List.all_cons, List.all_map]
  congr 1
  · simp [h]
  · congr 1
    funext j
    simp only [Function.comp]
    rw [show i + (j + 1) = i + 1 + j by omega]
theorem unlike_loop (l : List ByteArray) (hn : l.length ≤ 9223372036854775807) : ∀ (d k i : Nat), l.length - i = d → i ≤ l.length → d + l.length < k → A.ask_unlike.l0 k l l l.length i = some (unlikeFrom l i) := by
  intro d
  induction d with
  | zero =>
    intro k i hd hi hk
    obtain ⟨k, rfl⟩ : ∃ m, k = m + 1 := ⟨k - 1, by omega⟩
    simp only [A.ask_unlike.l0]
    refine (if_neg (by omega)).trans ?_
    unfold unlikeFrom
    rw [hd]; rfl
  | succ d ih =>
    intro k i hd hi hk
    obtain ⟨k, rfl⟩ : ∃ m, k = m + 1 := ⟨k - 1, by omega⟩
    have hlt : i < l.length := by omega
    rw [unlikeFrom_step l i hlt]
    simp only [A.ask_unlike.l0]
    refine (if_pos (by omega)).trans ?_
    refine (if_pos (by omega)).trans ?_
    refine (if_pos (by omega)).trans ?_
    rw [rdOf_at _ _ _ hlt, Int.toNat_natCast]
    have hr : code_Right.f l[i] = some (isRight l[i]) := rfl
    cases e : isRight l[i] with
    | false =>
      rw [e] at hr
      refine (bind_if_not hr).trans ?_
      rfl
    | true =>
      rw [e] at hr
      refine (bind_if hr).trans ?_
      refine (if_pos (by omega)).trans ?_
      have hc := contains_says (l.take i) l[i] (by rw [List.length_take]; omega) k (by rw [List.length_take]; omega)
      cases e2 : isIn (l.take i) l[i] with
      | true =>
        rw [e2] at hc
        refine (bind_if hc).trans ?_
        rfl
      | false =>
        rw [e2] at hc
        refine (bind_if_not hc).trans ?_
        rw [wrap_up hlt hn]
        rw [ih k (i + 1) (by omega) (by omega) (by omega)]
        rfl

theorem isIn_append (a b : List ByteArray) (s : ByteArray) : isIn (a ++ b) s = (isIn a s || isIn b s) := List.any_append
theorem all_not_in (p : List ByteArray) (s : ByteArray) : ∀ r : List ByteArray, (r.all fun t => !isIn (p ++ [s]) t) = ((r.all fun t => !isIn p t) && !(r.any fun t => t.data.toList == s.data.toList))
  | [] => rfl
  | t :: r => by
    rw [List.all_cons, List.all_cons, List.any_cons, all_not_in p s r, isIn_append]
    have hsym : (s.data.toList == t.data.toList) = (t.data.toList == s.data.toList) := by
      rw [Bool.eq_iff_iff, beq_iff_eq, beq_iff_eq]; exact eq_comm
    show ((!(isIn p t || (s.data.toList == t.data.toList || false))) && _) = _
    rw [hsym]
    cases isIn p t <;> cases (t.data.toList == s.data.toList) <;> cases (r.all fun t => !isIn p t) <;> cases (r.any fun t => t.data.toList == s.data.toList) <;> rfl
/-- The pairs may be gone through from the front or from behind. -/
theorem unlikeFrom_pre (r : List ByteArray) : ∀ (p : List ByteArray), unlikeFrom (p ++ r) p.length = (unlikeOk r && r.all fun s => !isIn p s) := by
  induction r with
  | nil => intro p; unfold unlikeFrom; simp [unlikeOk]
  | cons s r ih =>
    intro p
    rw [unlikeFrom_step _ _ (by simp)]
    have e1 : (p ++ s :: r)[p.length]'(by simp) = s := by simp
    have e2 : (p ++ s :: r).take p.length = p := by simp
    rw [e1, e2]
    have e3 : p ++ s :: r = (p ++ [s]) ++ r := by simp
    have e4 : p.length + 1 = (p ++ [s]).length := by simp
    rw [e3, e4, ih (p ++ [s])]
    rw [List.all_cons]
    show _ = (isRight s && !(r.any fun t => t.data.toList == s.data.toList) && unlikeOk r && (!isIn p s && r.all fun t => !isIn p t))
    have e5 := all_not_in p s r
    rw [e5]
    cases isRight s <;> cases isIn p s <;> cases (r.any fun t => t.data.toList == s.data.toList) <;> cases unlikeOk r <;> cases (r.all fun t => !isIn p t) <;> rfl
theorem unlike_says (l : List ByteArray) (hn : l.length ≤ 9223372036854775807) (k : Nat) (hk : l.length + l.length < k) : A.ask_unlike.f k l = some (unlikeOk l) := by
  unfold A.ask_unlike.f
  refine (unlike_loop l hn l.length k 0 (by omega) (by omega) (by omega)).trans ?_
  have h := unlikeFrom_pre l []
  rw [List.nil_append, List.length_nil] at h
  rw [h]
  have : (l.all fun s => !isIn [] s) = true := List.all_eq_true.2 fun s _ => rfl
  rw [this, Bool.and_true]

theorem within_says (n a b : Int) : A.ask_within.f n a b = some (decide (a ≤ n) && decide (n ≤ b)) := by
  unfold A.ask_within.f
  by_cases h : n ≥ a
  · rw [if_pos h, decide_eq_true (show a ≤ n from h), Bool.true_and]
  · rw [if_neg h, decide_eq_false (show ¬ a ≤ n from h), Bool.false_and]

def qtyOk (p : Part) : Bool := decide (1 ≤ p.f1) && decide (p.f1 ≤ 1073741824)
theorem parted_loop (l : List Part) (hn : l.length ≤ 1000000) : ∀ (d k i : Nat), l.length - i = d → i ≤ l.length → d + l.length + l.length + 1 < k → (l.take i).all qtyOk = true →
    A.ask_parted.l0 k l ((l.take i).map (·.f0)) l l.length i = some (partedOk l) := by
  intro d
  induction d with
  | zero =>
    intro k i hd hi hk hq
    obtain ⟨k, rfl⟩ : ∃ m, k = m + 1 := ⟨k - 1, by omega⟩
    rw [List.take_of_length_le (by omega)] at hq ⊢
    simp only [A.ask_parted.l0]
    refine (if_neg (by omega)).trans ?_
    unfold partedOk
    rw [show (l.all fun p => decide (1 ≤ p.f1) && decide (p.f1 ≤ 1073741824)) = true from hq, Bool.and_true]
    by_cases h0 : 0 < l.length
    · refine (if_pos (by omega)).trans ?_
      rw [decide_eq_true h0, Bool.true_and]
      by_cases h8 : l.length ≤ 8
      · refine (if_pos (by omega)).trans ?_
        rw [decide_eq_true h8, Bool.true_and]
        exact bind_is (unlike_says _ (by rw [List.length_map]; omega) k (by rw [List.length_map]; omega))
      · refine (if_neg (by omega)).trans ?_
        rw [decide_eq_false h8, Bool.false_and]
    · refine (if_neg (by omega)).trans ?_
      rw [decide_eq_false h0, Bool.false_and, Bool.false_and]
  | succ d ih =>
    intro k i hd hi hk hq
    obtain ⟨k, rfl⟩ : ∃ m, k = m + 1 := ⟨k - 1, by omega⟩
    have hlt : i < l.length := by omega
    have hrd : A.rd_T62 l (i : Int) = l[i] := by
      unfold A.rd_T62; simp [List.getD_eq_getElem?_getD, List.getElem?_eq_getElem hlt]
    simp only [A.ask_parted.l0]
    refine (if_pos (by omega)).trans ?_
    refine (if_pos (by omega)).trans ?_
    refine (if_pos (by omega)).trans ?_
    rw [hrd]
    have hw := within_says l[i].f1 1 1073741824
    cases e : (decide (1 ≤ l[i].f1) && decide (l[i].f1 ≤ 1073741824)) with
    | true =>
      rw [e] at hw
      refine (bind_if hw).trans ?_
      refine (if_pos (by rw [List.length_map, List.length_take]; omega)).trans ?_
      rw [wrap_up hlt (by omega)]
      have e2 : (l.take i).map (·.f0) ++ [l[i].f0] = (l.take (i + 1)).map (·.f0) := by
        rw [List.take_succ_eq_append_getElem hlt, List.map_append]; rfl
      rw [e2]
      refine ih k (i + 1) (by omega) (by omega) (by omega) ?_
      rw [List.take_succ_eq_append_getElem hlt, List.all_append, hq, Bool.true_and, List.all_cons, show qtyOk l[i] = true from e]; rfl
    | false =>
      rw [e] at hw
      refine (bind_if_not hw).trans ?_
      unfold partedOk
      have : (l.all fun p => decide (1 ≤ p.f1) && decide (p.f1 ≤ 1073741824)) = false := by
        rw [List.all_eq_false]
        exact ⟨l[i], List.getElem_mem hlt, by rw [e]; decide⟩
      rw [this, Bool.and_false, Bool.false_and]
theorem parted_says (l : List Part) (hn : l.length ≤ 1000000) (k : Nat) (hk : l.length + l.length + l.length + 1 < k) : A.ask_parted.f k l = some (partedOk l) := by
  unfold A.ask_parted.f
  exact parted_loop l hn l.length k 0 (by omega) (by omega) (by omega) rfl
end Go.Proofs.YtkpedlhofalnjaaDoor

/- What ask.number computes at the sizes that it is asked for: a number's bytes, the highest first. -/
namespace Go.Proofs.YtkpedlhofalnjaaDoor
open Go.RowKit Go.Proofs.YtkpedlhofalnjaaDoorW.PrintWords Go.Proofs.YtkpedlhofalnjaaDoorW.PrintLast Go.Proofs.YtkpedlhofalnjaaDoorW.PrintMore

theorem row_made (w : World) (xs : List Int) (h : xs.length ≤ 100) (v : Value) (hv : v = .slice (some ⟨w.heap.size, 0, none⟩) xs.length xs.length) :
    Kd.R (Kd.int .u8) 5 (w.alloc (.cells (nums .u8 xs).toArray 5)) w.heap.size (fun _ => True) v xs := by
  subst hv
  exact Kd.R_of_own (h1 := fun _ => rfl) (own_lit w w.heap.size 5 .u8 xs (Nat.le_refl _) (by omega)) (fun _ _ => trivial)

set_option maxRecDepth 100000 in
set_option maxHeartbeats 2000000 in
theorem number1 (n : Int) (w : World) :
    Calls Tryd.prog 29 #[.int .i64 n, .int .i64 1] w fun e w' => e = .returned (.slice (some ⟨w.heap.size, 0, none⟩) 1 1) ∧ w' = w.alloc (.cells #[.int .u8 (n % 256)] 5) := by
  have hmk : ∀ w : World, (Instr.makeSlice 27 (.int .i64 1) (.int .i64 1)).run Tryd.prog w = .ok (.slice (some ⟨w.heap.size, 0, none⟩) 1 1) (w.alloc (.cells #[.int .u8 0] 5)) := fun _ => by kernel_rfl
  go_enter Tryd.func29, Tryd.ntmps29
  go_wp2
  refine wp_loop_rounds 2 ?_
  rw [rounds_succ]
  go_wp2
  rw [rounds_succ]
  go_wp2
  go_ret
  exact ⟨rfl, rfl⟩

set_option maxRecDepth 100000 in
set_option maxHeartbeats 2000000 in
theorem number2 (n : Int) (w : World) :
    Calls Tryd.prog 29 #[.int .i64 n, .int .i64 2] w fun e w' => e = .returned (.slice (some ⟨w.heap.size, 0, none⟩) 2 2) ∧ w' = w.alloc (.cells #[.int .u8 (n / 256 % 256), .int .u8 (n % 256)] 5) := by
  have hmk : ∀ w : World, (Instr.makeSlice 27 (.int .i64 2) (.int .i64 2)).run Tryd.prog w = .ok (.slice (some ⟨w.heap.size, 0, none⟩) 2 2) (w.alloc (.cells #[.int .u8 0, .int .u8 0] 5)) := fun _ => by kernel_rfl
  go_enter Tryd.func29, Tryd.ntmps29
  go_wp2
  refine wp_loop_rounds 3 ?_
  rw [rounds_succ]
  go_wp2
  rw [rounds_succ]
  go_wp2
  rw [rounds_succ]
  go_wp2
  go_ret
  exact ⟨rfl, rfl⟩

set_option maxRecDepth 100000 in
set_option maxHeartbeats 4000000 in
theorem number8 (n : Int) (w : World) :
    Calls Tryd.prog 29 #[.int .i64 n, .int .i64 8] w fun e w' => e = .returned (.slice (some ⟨w.heap.size, 0, none⟩) 8 8) ∧
      w' = w.alloc (.cells #[.int .u8 (n / 72057594037927936 % 256), .int .u8 (n / 281474976710656 % 256), .int .u8 (n / 1099511627776 % 256), .int .u8 (n / 4294967296 % 256), .int .u8 (n / 16777216 % 256), .int .u8 (n / 65536 % 256), .int .u8 (n / 256 % 256), .int .u8 (n % 256)] 5) := by
  have hmk : ∀ w : World, (Instr.makeSlice 27 (.int .i64 8) (.int .i64 8)).run Tryd.prog w = .ok (.slice (some ⟨w.heap.size, 0, none⟩) 8 8) (w.alloc (.cells #[.int .u8 0, .int .u8 0, .int .u8 0, .int .u8 0, .int .u8 0, .int .u8 0, .int .u8 0, .int .u8 0] 5)) := fun _ => by kernel_rfl
  go_enter Tryd.func29, Tryd.ntmps29
  go_wp2
  refine wp_loop_rounds 9 ?_
  iterate 8 (rw [rounds_succ]; go_wp2)
  rw [rounds_succ]
  go_wp2
  go_ret
  exact ⟨rfl, rfl⟩

theorem asknum_any (n : Int) (s : Nat) (hs : s = 1 ∨ s = 2 ∨ s = 8) (w : World) :
    Calls Tryd.prog 29 #[.int .i64 n, .int .i64 s] w fun e w' => ∃ v, e = .returned v ∧ Kd.R (Kd.int .u8) 5 w' w.heap.size (fun _ => True) v (be n s) ∧ Below w.heap.size w w' := by
  rcases hs with rfl | rfl | rfl
  · refine (number1 n w).mono ?_
    rintro e w' ⟨rfl, rfl⟩
    exact ⟨_, rfl, by
      have := row_made w (be n 1) (by rw [be_length]; decide) _ rfl
      simpa [be, nums] using this, (Below.refl _ _).alloc (Nat.le_refl _) _⟩
  · refine (number2 n w).mono ?_
    rintro e w' ⟨rfl, rfl⟩
    exact ⟨_, rfl, by
      have := row_made w (be n 2) (by rw [be_length]; decide) _ rfl
      simpa [be, nums] using this, (Below.refl _ _).alloc (Nat.le_refl _) _⟩
  · refine (number8 n w).mono ?_
    rintro e w' ⟨rfl, rfl⟩
    exact ⟨_, rfl, by
      have := row_made w (be n 8) (by rw [be_length]; decide) _ rfl
      simpa [be, nums] using this, (Below.refl _ _).alloc (Nat.le_refl _) _⟩
end Go.Proofs.YtkpedlhofalnjaaDoor
