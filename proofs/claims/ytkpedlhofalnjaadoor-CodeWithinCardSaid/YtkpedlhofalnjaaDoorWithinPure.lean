/- CodeWithin, without program: the printed statement is true. -/
import Derived.Test.YtkpedlhofalnjaaDoorAwake03
import Derived.Test.YtkpedlhofalnjaaDoorC6
namespace Go.Proofs.YtkpedlhofalnjaaDoor
open Go.RowKit Go.Proofs.YtkpedlhofalnjaaDoorW.PrintWords Go.Proofs.YtkpedlhofalnjaaDoorW.PrintLast Go.Proofs.YtkpedlhofalnjaaDoorW.PrintMore

theorem goodFrom_append (a b : List UInt8) (i : Nat) : goodFrom i (a ++ b) = (goodFrom i a && goodFrom (i + a.length) b) := by
  induction a generalizing i with
  | nil => simp [goodFrom]
  | cons c r ih => simp only [List.cons_append, goodFrom, ih, List.length_cons, Bool.and_assoc]; rw [show i + 1 + r.length = i + (r.length + 1) by omega]

theorem good_later {i : Nat} {c : UInt8} (h : good i c = true) (j : Nat) (hj : i ≤ j) : good j c = true := by
  unfold good at h ⊢
  simp only [Bool.or_eq_true, Bool.and_eq_true, decide_eq_true_eq] at h ⊢
  omega
theorem goodFrom_later (l : List UInt8) : ∀ (i : Nat), goodFrom i l = true → ∀ j, i ≤ j → goodFrom j l = true := by
  induction l with
  | nil => intro i _ j _; rfl
  | cons c r ih =>
    intro i h j hj
    simp only [goodFrom, Bool.and_eq_true] at h ⊢
    exact ⟨good_later h.1 j hj, ih (i + 1) h.2 (j + 1) (by omega)⟩

theorem isCode_take {l : List UInt8} (h : isCode l = true) (k : Nat) (h1 : 1 ≤ k) : isCode (l.take k) = true := by
  have hl := isCode_length h
  have hg : goodFrom 0 l = true := by unfold isCode at h; simp only [Bool.and_eq_true] at h; exact h.1
  have ht : goodFrom 0 (l.take k) = true := by
    have := goodFrom_append (l.take k) (l.drop k) 0
    rw [List.take_append_drop, hg] at this
    have := this.symm
    simp only [Bool.and_eq_true] at this
    exact this.1
  unfold isCode
  rw [ht]
  have hne : (l.take k).isEmpty = false := by
    rw [List.isEmpty_eq_false_iff]
    intro e
    have : (l.take k).length = 0 := by rw [e]; rfl
    rw [List.length_take] at this; omega
  rw [hne]
  have : (l.take k).length ≤ 12 := by rw [List.length_take]; omega
  simpa using this

theorem isCode_join {a b : List UInt8} (ha : isCode a = true) (hb : isCode b = true) : isCode (a ++ b) = decide (a.length + b.length ≤ 12) := by
  have la := isCode_length ha
  have ga : goodFrom 0 a = true := by unfold isCode at ha; simp only [Bool.and_eq_true] at ha; exact ha.1
  have gb : goodFrom 0 b = true := by unfold isCode at hb; simp only [Bool.and_eq_true] at hb; exact hb.1
  unfold isCode
  rw [goodFrom_append, ga, goodFrom_later b 0 gb _ (by omega)]
  have hne : (a ++ b).isEmpty = false := by
    rw [List.isEmpty_eq_false_iff]; intro e
    have : (a ++ b).length = 0 := by rw [e]; rfl
    rw [List.length_append] at this; omega
  rw [hne, List.length_append]
  simp

theorem join_data (a b : ByteArray) : (a ++ b).data.toList = a.data.toList ++ b.data.toList := by
  rw [ByteArray.data_append]; simp

theorem right_is (s : ByteArray) : code_Right.f s = some (isCode s.data.toList) := rfl

theorem within_loop (a b : ByteArray) (ha : isCode a.data.toList = true) (hb : b.size ≤ 140737488351232) (has : a.size ≤ 12) : ∀ (d k i : Nat), a.size + 1 - i = d → 1 ≤ i → i ≤ a.size + 1 → d < k → C.storemanlaw03_CodeWithin.l0 k a b i = some true := by
  intro d
  induction d with
  | zero =>
    intro k i hd h1 hi hk
    obtain ⟨k, rfl⟩ : ∃ m, k = m + 1 := ⟨k - 1, by omega⟩
    simp only [C.storemanlaw03_CodeWithin.l0]
    rw [if_neg (by omega)]
    cases hc : isCode b.data.toList with
    | true =>
      refine (bind_if (by rw [right_is, hc])).trans ?_
      rw [if_pos (by omega)]
      refine (bind_is (right_is _)).trans ?_
      rw [join_data, isCode_join ha hc, data_length, data_length, show wrap64 ((a.size : Int) + (b.size : Int)) = (a.size : Int) + (b.size : Int) by unfold wrap64; omega]
      congr 1
      rw [beq_iff_eq, Bool.eq_iff_iff]
      simp only [decide_eq_true_eq]
      omega
    | false => exact bind_if_not (by rw [right_is, hc])
  | succ d ih =>
    intro k i hd h1 hi hk
    obtain ⟨k, rfl⟩ : ∃ m, k = m + 1 := ⟨k - 1, by omega⟩
    simp only [C.storemanlaw03_CodeWithin.l0]
    rw [if_pos (by omega), if_pos (by omega), Int.toNat_natCast]
    have he : (a.extract 0 i).data.toList = a.data.toList.take i := by rw [Lib.extract_data]; simp
    refine (bind_if (by rw [right_is, he, isCode_take ha i h1])).trans ?_
    rw [wrap_step (show i < 100 by omega) (by omega)]
    exact ih k (i + 1) (by omega) (by omega) (by omega) (by omega)

theorem codeWithin_pure (a : ByteArray) (ha : a.size ≤ 140737488351232) (b : ByteArray) (hb : b.size ≤ 140737488351232) : C.storemanlaw03_CodeWithin.f 40 a b = some true := by
  unfold C.storemanlaw03_CodeWithin.f
  refine (bind_if (awake03 40 (by decide))).trans ?_
  cases hc : isCode a.data.toList with
  | false => exact bind_if_not (by rw [right_is, hc])
  | true =>
    refine (bind_if (by rw [right_is, hc])).trans ?_
    have hl := isCode_length hc
    rw [data_length] at hl
    exact within_loop a b hc hb hl.2 a.size 40 1 (by omega) (by omega) (by omega) (by omega)
end Go.Proofs.YtkpedlhofalnjaaDoor
