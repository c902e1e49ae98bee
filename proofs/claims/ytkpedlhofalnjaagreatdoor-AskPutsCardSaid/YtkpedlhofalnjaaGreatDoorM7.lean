/- A6, Parted13. -/
import Derived.Test.YtkpedlhofalnjaaGreatDoorM4
import Derived.Test.YtkpedlhofalnjaaGreatDoorM5
import Derived.Test.YtkpedlhofalnjaaGreatDoorM6

section
-- Written by a program of this session (a turned copy of the kit's print): functions and their proofs.
namespace Go.Proofs.YtkpedlhofalnjaaGreatDoor.A
open Go.RowKit Go.Proofs.YtkpedlhofalnjaaGreatDoorW.PrintWords Go.Proofs.YtkpedlhofalnjaaGreatDoorW.PrintLast Go.Proofs.YtkpedlhofalnjaaGreatDoorW.PrintMore
attribute [local go_sem] max2_int min2_int max_two min_two max_three min_three max_four min_four   -- for this text's walks alone
set_option linter.unusedVariables false
set_option linter.unusedSimpArgs false

/-! ### ask_plain: function 87 -/
def ask_plain.f (a0_0 : Int) (a0_1 : Int) (a0_2 : ByteArray) (a0_3 : Int) (a0_4 : Int) (a0_5 : Int) (a0_6 : Int) (a0_7 : Int) (a0_8 : Int) (l0_9 : List (S58)) (l0_10 : List ByteArray) : Option (Int × Int × Int × ByteArray × Int × Int × Int × Int × Int) := some (a0_0, a0_1, a0_3, a0_2, a0_4, a0_5, a0_6, a0_7, a0_8)
set_option maxHeartbeats 8000000 in
set_option maxRecDepth 100000 in
theorem ask_plain.calls (a0_0 : Int) (a0_1 : Int) (a0_2 : ByteArray) (a0_3 : Int) (a0_4 : Int) (a0_5 : Int) (a0_6 : Int) (a0_7 : Int) (a0_8 : Int) (A0_9 : Option Addr) (c0_9 : Nat) (l0_9 : List (S58)) (A0_10 : Option Addr) (c0_10 : Nat) (l0_10 : List ByteArray) (r1 : Int) (r2 : Int) (r3 : Int) (r4 : ByteArray) (r5 : Int) (r6 : Int) (r7 : Int) (r8 : Int) (r9 : Int) (w : World) (hr0_9 : Kd.C k58 w A0_9 l0_9.length l0_9) (hc0_9 : l0_9.length ≤ c0_9) (hr0_10 : Kd.C Kd.string w A0_10 l0_10.length l0_10) (hc0_10 : l0_10.length ≤ c0_10) (h : ask_plain.f a0_0 a0_1 a0_2 a0_3 a0_4 a0_5 a0_6 a0_7 a0_8 l0_9 l0_10 = some (r1, r2, r3, r4, r5, r6, r7, r8, r9)) :
    Calls Tryz.prog 87 #[.agg #[.int .u8 a0_0, .int .i64 a0_1, .string a0_2, .int .i64 a0_3, .int .i64 a0_4, .int .i64 a0_5, .int .i64 a0_6, .int .i64 a0_7, .int .i64 a0_8, .slice A0_9 l0_9.length c0_9, .slice A0_10 l0_10.length c0_10]] w fun e w' => e = .returned (.agg #[.int .u8 r1, .int .i64 r2, .int .i64 r3, .string r4, .int .i64 r5, .int .i64 r6, .int .i64 r7, .int .i64 r8, .int .i64 r9]) ∧ Below w.heap.size w w' := by
  have hu38 := Tryz.underlying38
  have hu155 := Tryz.underlying155
  have HR0_9 := Aside0.mk hr0_9
  have HC0_9 := Aside0.mk hc0_9
  clear hr0_9 hc0_9
  have HR0_10 := Aside0.mk hr0_10
  have HC0_10 := Aside0.mk hc0_10
  clear hr0_10 hc0_10
  have HB := Aside0.mk (Below.refl w.heap.size w)
  have H : (some (a0_0, a0_1, a0_3, a0_2, a0_4, a0_5, a0_6, a0_7, a0_8)) = some (r1, r2, r3, r4, r5, r6, r7, r8, r9) := h
  clear h
  simp only [Option.some.injEq, Prod.mk.injEq] at H
  obtain ⟨rfl, rfl, rfl, rfl, rfl, rfl, rfl, rfl, rfl⟩ := H
  go_enter Tryz.func87, Tryz.ntmps87
  go_wp2_with (first | ((with_reducible refine gate_dst (N := 1) rfl ?_); refine box_event ?hg (N := 1) ?hd (cs := #[.int .u8 a0_0, .int .i64 a0_1, .string a0_2, .int .i64 a0_3, .int .i64 a0_4, .int .i64 a0_5, .int .i64 a0_6, .int .i64 a0_7, .int .i64 a0_8, .slice A0_9 l0_9.length c0_9, .slice A0_10 l0_10.length c0_10]) (t := 38) ?hr ?_; (case hd => rfl); (case hg => rfl); (case hr => first | (go_simp; done) | (go_simp; rfl)); intro gb114 hg w2 hbox hb; have n0_ := Aside0.mk (below_step (by repeat (first | (with_reducible first | exact HB.out | apply below_alloc | apply pw_below_drewN | apply below_drew1) | exact HB.out)) hb); have n1_ := Aside0.mk (hbox); have n2_ := Aside0.mk ((by rw [hg]; exact (below_size (by repeat (first | (with_reducible first | exact HB.out | apply below_alloc | apply pw_below_drewN | apply below_drew1) | exact HB.out))) : w.heap.size ≤ gb114)); have n3_ := Aside0.mk ((by rw [hg]; exact (below_size (by repeat (first | (with_reducible first | exact HB.out | apply below_alloc | apply pw_below_drewN | apply below_drew1) | exact HB.out))) : w.heap.size ≤ gb114)); clear HB; have HB := n0_; have BK114 := n1_; have GW114 := n2_; have GE114 := n3_; clear n0_ n1_ n2_ n3_; clear hb hbox hg) | ((with_reducible refine gate_dst (N := 2) rfl ?_); refine box_event ?hg (N := 2) ?hd (cs := #[.int .u8 0, .int .i64 0, .int .i64 0, .string (⟨#[]⟩ : ByteArray), .int .i64 0, .int .i64 0, .int .i64 0, .int .i64 0, .int .i64 0]) (t := 155) ?hr ?_; (case hd => rfl); (case hg => rfl); (case hr => first | (go_simp; done) | (go_simp; rfl)); intro gb115 hg w3 hbox hb; have n0_ := Aside0.mk (blk_below (g := gb114) (o := .cells #[.int .u8 a0_0, .int .i64 a0_1, .string a0_2, .int .i64 a0_3, .int .i64 a0_4, .int .i64 a0_5, .int .i64 a0_6, .int .i64 a0_7, .int .i64 a0_8, .slice A0_9 l0_9.length c0_9, .slice A0_10 l0_10.length c0_10] 38 (0, 0)) (by (with_reducible repeat (first | refine blk_drewN ?_ _ | refine blk_drew ?_ | refine blk_alloc ?_ _)); exact BK114.out) hb); have n1_ := Aside0.mk (below_step (by repeat (first | (with_reducible first | exact HB.out | apply below_alloc | apply pw_below_drewN | apply below_drew1 | refine below_set ?_ GE114.out) | exact HB.out)) hb); have n2_ := Aside0.mk (hbox); have n3_ := Aside0.mk ((by rw [hg]; exact (below_size (by repeat (first | (with_reducible first | exact HB.out | apply below_alloc | apply pw_below_drewN | apply below_drew1 | refine below_set ?_ GE114.out) | exact HB.out))) : w.heap.size ≤ gb115)); have n4_ := Aside0.mk ((by rw [hg]; exact (below_size (by repeat (first | (with_reducible first | exact HB.out | apply below_alloc | apply pw_below_drewN | apply below_drew1 | refine below_set ?_ GE114.out) | exact HB.out))) : w.heap.size ≤ gb115)); have n5_ := Aside0.mk ((by rw [hg]; exact Nat.ne_of_lt (blk_lt (g := gb114) (o := .cells #[.int .u8 a0_0, .int .i64 a0_1, .string a0_2, .int .i64 a0_3, .int .i64 a0_4, .int .i64 a0_5, .int .i64 a0_6, .int .i64 a0_7, .int .i64 a0_8, .slice A0_9 l0_9.length c0_9, .slice A0_10 l0_10.length c0_10] 38 (0, 0)) (by (with_reducible repeat (first | refine blk_drewN ?_ _ | refine blk_drew ?_ | refine blk_alloc ?_ _)); exact BK114.out)) : gb114 ≠ gb115)); have n6_ := Aside0.mk ((by rw [hg]; exact Nat.ne_of_gt (blk_lt (g := gb114) (o := .cells #[.int .u8 a0_0, .int .i64 a0_1, .string a0_2, .int .i64 a0_3, .int .i64 a0_4, .int .i64 a0_5, .int .i64 a0_6, .int .i64 a0_7, .int .i64 a0_8, .slice A0_9 l0_9.length c0_9, .slice A0_10 l0_10.length c0_10] 38 (0, 0)) (by (with_reducible repeat (first | refine blk_drewN ?_ _ | refine blk_drew ?_ | refine blk_alloc ?_ _)); exact BK114.out)) : gb115 ≠ gb114)); clear BK114; clear HB; have BK114 := n0_; have HB := n1_; have BK115 := n2_; have GW115 := n3_; have GE115 := n4_; have NB114_115 := n5_; have NB115_114 := n6_; clear n0_ n1_ n2_ n3_ n4_ n5_ n6_; clear hb hbox hg; have hnb4 := NB114_115.out; have hnc4 := NB115_114.out; have hcz5_0 : w3.cell? ⟨gb114, 0, none⟩ = some (.int .u8 a0_0) := (blk_cell BK114.out 0).trans rfl; have hcz5_1 : w3.cell? ⟨gb114, 1, none⟩ = some (.int .i64 a0_1) := (blk_cell BK114.out 1).trans rfl; have hcz5_2 : w3.cell? ⟨gb114, 2, none⟩ = some (.string a0_2) := (blk_cell BK114.out 2).trans rfl; have hcz5_3 : w3.cell? ⟨gb114, 3, none⟩ = some (.int .i64 a0_3) := (blk_cell BK114.out 3).trans rfl; have hcz5_4 : w3.cell? ⟨gb114, 4, none⟩ = some (.int .i64 a0_4) := (blk_cell BK114.out 4).trans rfl; have hcz5_5 : w3.cell? ⟨gb114, 5, none⟩ = some (.int .i64 a0_5) := (blk_cell BK114.out 5).trans rfl; have hcz5_6 : w3.cell? ⟨gb114, 6, none⟩ = some (.int .i64 a0_6) := (blk_cell BK114.out 6).trans rfl; have hcz5_7 : w3.cell? ⟨gb114, 7, none⟩ = some (.int .i64 a0_7) := (blk_cell BK114.out 7).trans rfl; have hcz5_8 : w3.cell? ⟨gb114, 8, none⟩ = some (.int .i64 a0_8) := (blk_cell BK114.out 8).trans rfl; have hcz5_9 : w3.cell? ⟨gb114, 9, none⟩ = some (.slice A0_9 l0_9.length c0_9) := (blk_cell BK114.out 9).trans rfl; have hcz5_10 : w3.cell? ⟨gb114, 10, none⟩ = some (.slice A0_10 l0_10.length c0_10) := (blk_cell BK114.out 10).trans rfl; have hfz5_0 := blk_frozen BK114.out 0; have hfz5_1 := blk_frozen BK114.out 1; have hfz5_2 := blk_frozen BK114.out 2; have hfz5_3 := blk_frozen BK114.out 3; have hfz5_4 := blk_frozen BK114.out 4; have hfz5_5 := blk_frozen BK114.out 5; have hfz5_6 := blk_frozen BK114.out 6; have hfz5_7 := blk_frozen BK114.out 7; have hfz5_8 := blk_frozen BK114.out 8; have hfz5_9 := blk_frozen BK114.out 9; have hfz5_10 := blk_frozen BK114.out 10; have hcz6_0 : w3.cell? ⟨gb115, 0, none⟩ = some (.int .u8 0) := (blk_cell BK115.out 0).trans rfl; have hcz6_1 : w3.cell? ⟨gb115, 1, none⟩ = some (.int .i64 0) := (blk_cell BK115.out 1).trans rfl; have hcz6_2 : w3.cell? ⟨gb115, 2, none⟩ = some (.int .i64 0) := (blk_cell BK115.out 2).trans rfl; have hcz6_3 : w3.cell? ⟨gb115, 3, none⟩ = some (.string (⟨#[]⟩ : ByteArray)) := (blk_cell BK115.out 3).trans rfl; have hcz6_4 : w3.cell? ⟨gb115, 4, none⟩ = some (.int .i64 0) := (blk_cell BK115.out 4).trans rfl; have hcz6_5 : w3.cell? ⟨gb115, 5, none⟩ = some (.int .i64 0) := (blk_cell BK115.out 5).trans rfl; have hcz6_6 : w3.cell? ⟨gb115, 6, none⟩ = some (.int .i64 0) := (blk_cell BK115.out 6).trans rfl; have hcz6_7 : w3.cell? ⟨gb115, 7, none⟩ = some (.int .i64 0) := (blk_cell BK115.out 7).trans rfl; have hcz6_8 : w3.cell? ⟨gb115, 8, none⟩ = some (.int .i64 0) := (blk_cell BK115.out 8).trans rfl; have hfz6_0 := blk_frozen BK115.out 0; have hfz6_1 := blk_frozen BK115.out 1; have hfz6_2 := blk_frozen BK115.out 2; have hfz6_3 := blk_frozen BK115.out 3; have hfz6_4 := blk_frozen BK115.out 4; have hfz6_5 := blk_frozen BK115.out 5; have hfz6_6 := blk_frozen BK115.out 6; have hfz6_7 := blk_frozen BK115.out 7; have hfz6_8 := blk_frozen BK115.out 8))
  refine bodyPost_ret (results_cell_row rfl _ _ gb115 155 #[.int .u8 a0_0, .int .i64 a0_1, .int .i64 a0_3, .string a0_2, .int .i64 a0_4, .int .i64 a0_5, .int .i64 a0_6, .int .i64 a0_7, .int .i64 a0_8] (0, 0) _ rfl (by (with_reducible repeat (first | refine blk_drewN ?_ _ | refine blk_drew ?_ | refine blk_alloc ?_ _)); refine blk_put (cs := #[.int .u8 a0_0, .int .i64 a0_1, .int .i64 a0_3, .string a0_2, .int .i64 a0_4, .int .i64 a0_5, .int .i64 a0_6, .int .i64 a0_7, .int .i64 0]) ?_ 8 _ rfl; (with_reducible repeat (first | refine blk_drewN ?_ _ | refine blk_drew ?_ | refine blk_alloc ?_ _)); refine blk_put (cs := #[.int .u8 a0_0, .int .i64 a0_1, .int .i64 a0_3, .string a0_2, .int .i64 a0_4, .int .i64 a0_5, .int .i64 a0_6, .int .i64 0, .int .i64 0]) ?_ 7 _ rfl; (with_reducible repeat (first | refine blk_drewN ?_ _ | refine blk_drew ?_ | refine blk_alloc ?_ _)); refine blk_put (cs := #[.int .u8 a0_0, .int .i64 a0_1, .int .i64 a0_3, .string a0_2, .int .i64 a0_4, .int .i64 a0_5, .int .i64 0, .int .i64 0, .int .i64 0]) ?_ 6 _ rfl; (with_reducible repeat (first | refine blk_drewN ?_ _ | refine blk_drew ?_ | refine blk_alloc ?_ _)); refine blk_put (cs := #[.int .u8 a0_0, .int .i64 a0_1, .int .i64 a0_3, .string a0_2, .int .i64 a0_4, .int .i64 0, .int .i64 0, .int .i64 0, .int .i64 0]) ?_ 5 _ rfl; (with_reducible repeat (first | refine blk_drewN ?_ _ | refine blk_drew ?_ | refine blk_alloc ?_ _)); refine blk_put (cs := #[.int .u8 a0_0, .int .i64 a0_1, .int .i64 a0_3, .string a0_2, .int .i64 0, .int .i64 0, .int .i64 0, .int .i64 0, .int .i64 0]) ?_ 4 _ rfl; (with_reducible repeat (first | refine blk_drewN ?_ _ | refine blk_drew ?_ | refine blk_alloc ?_ _)); refine blk_put (cs := #[.int .u8 a0_0, .int .i64 a0_1, .int .i64 a0_3, .string (⟨#[]⟩ : ByteArray), .int .i64 0, .int .i64 0, .int .i64 0, .int .i64 0, .int .i64 0]) ?_ 3 _ rfl; (with_reducible repeat (first | refine blk_drewN ?_ _ | refine blk_drew ?_ | refine blk_alloc ?_ _)); refine blk_put (cs := #[.int .u8 a0_0, .int .i64 a0_1, .int .i64 0, .string (⟨#[]⟩ : ByteArray), .int .i64 0, .int .i64 0, .int .i64 0, .int .i64 0, .int .i64 0]) ?_ 2 _ rfl; (with_reducible repeat (first | refine blk_drewN ?_ _ | refine blk_drew ?_ | refine blk_alloc ?_ _)); refine blk_put (cs := #[.int .u8 a0_0, .int .i64 0, .int .i64 0, .string (⟨#[]⟩ : ByteArray), .int .i64 0, .int .i64 0, .int .i64 0, .int .i64 0, .int .i64 0]) ?_ 1 _ rfl; (with_reducible repeat (first | refine blk_drewN ?_ _ | refine blk_drew ?_ | refine blk_alloc ?_ _)); refine blk_put (cs := #[.int .u8 0, .int .i64 0, .int .i64 0, .string (⟨#[]⟩ : ByteArray), .int .i64 0, .int .i64 0, .int .i64 0, .int .i64 0, .int .i64 0]) ?_ 0 _ rfl; (with_reducible repeat (first | refine blk_drewN ?_ _ | refine blk_drew ?_ | refine blk_alloc ?_ _)); exact BK115.out) Tryz.underlying155 rfl (by kernel_rfl)) rfl ?_
  exact ⟨by first | rfl | (simp [errW_none, errW_some] <;> rfl) | (simp [*, errW_none, errW_some] <;> rfl), by repeat (first | (with_reducible first | exact HB.out | apply below_alloc | apply pw_below_drewN | apply below_drew1 | refine below_set ?_ GE114.out | refine below_set ?_ GE115.out) | exact HB.out)⟩

end Go.Proofs.YtkpedlhofalnjaaGreatDoor.A
end

section
/- What ask.unlike and ask.parted, as printed, answer. -/
namespace Go.Proofs.YtkpedlhofalnjaaGreatDoor
open Go.RowKit Go.Proofs.YtkpedlhofalnjaaGreatDoorW.PrintWords Go.Proofs.YtkpedlhofalnjaaGreatDoorW.PrintLast Go.Proofs.YtkpedlhofalnjaaGreatDoorW.PrintMore

theorem wrap_up {i : Nat} {n : Nat} (h : i < n) (hn : n ≤ 9223372036854775807) : wrap64 ((i : Int) + 1) = ((i + 1 : Nat) : Int) := by
  unfold wrap64; omega
theorem rdOf_at {α : Type} (d : α) (l : List α) (i : Nat) (h : i < l.length) : rdOf d l (i : Int) = l[i] := by
  unfold rdOf; simp [List.getD_eq_getElem?_getD, List.getElem?_eq_getElem h]

/-- Is a text among some? -/
def isIn (l : List ByteArray) (s : ByteArray) : Bool := l.any fun t => t.data.toList == s.data.toList

theorem index_loop (l : List ByteArray) (s : ByteArray) (hn : l.length ≤ 9223372036854775807) : ∀ (d k i : Nat), l.length - i = d → i ≤ l.length → d < k → ∃ r, A.slices_Index_string_string.l0 k l s l.length i = some r ∧ decide (r ≥ 0) = isIn (l.drop i) s := by
  intro d
  induction d with
  | zero =>
    intro k i hd hi hk
    obtain ⟨k, rfl⟩ : ∃ m, k = m + 1 := ⟨k - 1, by omega⟩
    refine ⟨-1, ?_, ?_⟩
    · simp only [A.slices_Index_string_string.l0]
      exact if_neg (by omega)
    · rw [List.drop_of_length_le (by omega)]; rfl
  | succ d ih =>
    intro k i hd hi hk
    obtain ⟨k, rfl⟩ : ∃ m, k = m + 1 := ⟨k - 1, by omega⟩
    have hlt : i < l.length := by omega
    obtain ⟨r, h1, h2⟩ := ih k (i + 1) (by omega) (by omega) (by omega)
    have e0 : isIn (l.drop i) s = (l[i].data.toList == s.data.toList || isIn (l.drop (i + 1)) s) := by
      rw [List.drop_eq_getElem_cons hlt]; rfl
    by_cases e : s.toList = (rdOf ByteArray.empty l (i : Int)).toList
    · refine ⟨i, ?_, ?_⟩
      · simp only [A.slices_Index_string_string.l0]
        refine (if_pos (by omega)).trans ?_
        refine (if_pos (by omega)).trans ?_
        refine (if_pos (by omega)).trans ?_
        exact if_pos e
      · rw [rdOf_at _ _ _ hlt, Lib.toList_data, Lib.toList_data] at e
        rw [e0, e, BEq.rfl, Bool.true_or]
        exact decide_eq_true (by omega)
    · refine ⟨r, ?_, ?_⟩
      · simp only [A.slices_Index_string_string.l0]
        refine (if_pos (by omega)).trans ?_
        refine (if_pos (by omega)).trans ?_
        refine (if_pos (by omega)).trans ?_
        refine (if_neg e).trans ?_
        rw [wrap_up hlt hn]
        exact h1
      · rw [rdOf_at _ _ _ hlt, Lib.toList_data, Lib.toList_data] at e
        rw [e0, h2, beq_eq_false_iff_ne.2 (fun h => e h.symm), Bool.false_or]
theorem contains_says (l : List ByteArray) (s : ByteArray) (hn : l.length ≤ 9223372036854775807) (k : Nat) (hk : l.length < k) : A.slices_Contains_string_string.f k l s = some (isIn l s) := by
  obtain ⟨r, h1, h2⟩ := index_loop l s hn l.length k 0 (by omega) (by omega) hk
  unfold A.slices_Contains_string_string.f A.slices_Index_string_string.f
  refine (bind_is h1).trans ?_
  rw [h2]; rfl

/-- The codes from a place on are codes, and like none ahead of them. -/
def unlikeFrom (l : List ByteArray) (i : Nat) : Bool := (List.range (l.length - i)).all fun j => match l[i + j]? with | some s => isRight s && !isIn (l.take (i + j)) s | none => true
theorem unlikeFrom_step (l : List ByteArray) (i : Nat) (h : i < l.length) : unlikeFrom l i = (isRight l[i] && !isIn (l.take i) l[i] && unlikeFrom l (i + 1)) := by
  unfold unlikeFrom
  have e : l.length - i = (l.length - (i + 1)) + 1 := by omega
  rw [e, List.range_succ_eq_map, List.all_cons, List.all_map]
  congr 1
  · simp [h]
  · congr 1
    funext j
    simp only [Function.comp]
    rw [show i + (j + 1) = i + 1 + j by omega]
theorem unlike_loop (l : List ByteArray) (hn : l.length ≤ 9223372036854775807) : ∀ (d k i : Nat), l.length - i = d → i ≤ l.length → d + l.length < k → A.ask_unlike.l0 k l l l.length i = some (unlikeFrom l i) := by
  intro d
  induction d with
  | zero =>
    intro k i hd hi hk
    obtain ⟨k, rfl⟩ : ∃ m, k = m + 1 := ⟨k - 1, by omega⟩
    simp only [A.ask_unlike.l0]
    refine (if_neg (by omega)).trans ?_
    unfold unlikeFrom
    rw [hd]; rfl
  | succ d ih =>
    intro k i hd hi hk
    obtain ⟨k, rfl⟩ : ∃ m, k = m + 1 := ⟨k - 1, by omega⟩
    have hlt : i < l.length := by omega
    rw [unlikeFrom_step l i hlt]
    simp only [A.ask_unlike.l0]
    refine (if_pos (by omega)).trans ?_
    refine (if_pos (by omega)).trans ?_
    refine (if_pos (by omega)).trans ?_
    rw [rdOf_at _ _ _ hlt, Int.toNat_natCast]
    have hr : code_Right.f l[i] = some (isRight l[i]) := rfl
    cases e : isRight l[i] with
    | false =>
      rw [e] at hr
      refine (bind_if_not hr).trans ?_
      rfl
    | true =>
      rw [e] at hr
      refine (bind_if hr).trans ?_
      refine (if_pos (by omega)).trans ?_
      have hc := contains_says (l.take i) l[i] (by rw [List.length_take]; omega) k (by rw [List.length_take]; omega)
      cases e2 : isIn (l.take i) l[i] with
      | true =>
        rw [e2] at hc
        refine (bind_if hc).trans ?_
        rfl
      | false =>
        rw [e2] at hc
        refine (bind_if_not hc).trans ?_
        rw [wrap_up hlt hn]
        rw [ih k (i + 1) (by omega) (by omega) (by omega)]
        rfl

theorem isIn_append (a b : List ByteArray) (s : ByteArray) : isIn (a ++ b) s = (isIn a s || isIn b s) := List.any_append
theorem all_not_in (p : List ByteArray) (s : ByteArray) : ∀ r : List ByteArray, (r.all fun t => !isIn (p ++ [s]) t) = ((r.all fun t => !isIn p t) && !(r.any fun t => t.data.toList == s.data.toList))
  | [] => rfl
  | t :: r => by
    rw [List.all_cons, List.all_cons, List.any_cons, all_not_in p s r, isIn_append]
    have hsym : (s.data.toList == t.data.toList) = (t.data.toList == s.data.toList) := by
      rw [Bool.eq_iff_iff, beq_iff_eq, beq_iff_eq]; exact eq_comm
    show ((!(isIn p t || (s.data.toList == t.data.toList || false))) && _) = _
    rw [hsym]
    cases isIn p t <;> cases (t.data.toList == s.data.toList) <;> cases (r.all fun t => !isIn p t) <;> cases (r.any fun t => t.data.toList == s.data.toList) <;> rfl
/-- The pairs may be gone through from the front or from behind. -/
theorem unlikeFrom_pre (r : List ByteArray) : ∀ (p : List ByteArray), unlikeFrom (p ++ r) p.length = (unlikeOk r && r.all fun s => !isIn p s) := by
  induction r with
  | nil => intro p; unfold unlikeFrom; simp [unlikeOk]
  | cons s r ih =>
    intro p
    rw [unlikeFrom_step _ _ (by simp)]
    have e1 : (p ++ s :: r)[p.length]'(by simp) = s := by simp
    have e2 : (p ++ s :: r).take p.length = p := by simp
    rw [e1, e2]
    have e3 : p ++ s :: r = (p ++ [s]) ++ r := by simp
    have e4 : p.length + 1 = (p ++ [s]).length := by simp
    rw [e3, e4, ih (p ++ [s])]
    rw [List.all_cons]
    show _ = (isRight s && !(r.any fun t => t.data.toList == s.data.toList) && unlikeOk r && (!isIn p s && r.all fun t => !isIn p t))
    have e5 := all_not_in p s r
    rw [e5]
    cases isRight s <;> cases isIn p s <;> cases (r.any fun t => t.data.toList == s.data.toList) <;> cases unlikeOk r <;> cases (r.all fun t => !isIn p t) <;> rfl
theorem unlike_says (l : List ByteArray) (hn : l.length ≤ 9223372036854775807) (k : Nat) (hk : l.length + l.length < k) : A.ask_unlike.f k l = some (unlikeOk l) := by
  unfold A.ask_unlike.f
  refine (unlike_loop l hn l.length k 0 (by omega) (by omega) (by omega)).trans ?_
  have h := unlikeFrom_pre l []
  rw [List.nil_append, List.length_nil] at h
  rw [h]
  have : (l.all fun s => !isIn [] s) = true := List.all_eq_true.2 fun s _ => rfl
  rw [this, Bool.and_true]

theorem within_says (n a b : Int) : A.ask_within.f n a b = some (decide (a ≤ n) && decide (n ≤ b)) := by
  unfold A.ask_within.f
  by_cases h : n ≥ a
  · rw [if_pos h, decide_eq_true (show a ≤ n from h), Bool.true_and]
  · rw [if_neg h, decide_eq_false (show ¬ a ≤ n from h), Bool.false_and]

def qtyOk (p : Part) : Bool := decide (1 ≤ p.f1) && decide (p.f1 ≤ 1073741824)
theorem parted_loop (l : List Part) (hn : l.length ≤ 1000000) : ∀ (d k i : Nat), l.length - i = d → i ≤ l.length → d + l.length + l.length + 1 < k → (l.take i).all qtyOk = true →
    A.ask_parted.l0 k l ((l.take i).map (·.f0)) l l.length i = some (partedOk l) := by
  intro d
  induction d with
  | zero =>
    intro k i hd hi hk hq
    obtain ⟨k, rfl⟩ : ∃ m, k = m + 1 := ⟨k - 1, by omega⟩
    rw [List.take_of_length_le (by omega)] at hq ⊢
    simp only [A.ask_parted.l0]
    refine (if_neg (by omega)).trans ?_
    unfold partedOk
    rw [show (l.all fun p => decide (1 ≤ p.f1) && decide (p.f1 ≤ 1073741824)) = true from hq, Bool.and_true]
    by_cases h0 : 0 < l.length
    · refine (if_pos (by omega)).trans ?_
      rw [decide_eq_true h0, Bool.true_and]
      by_cases h8 : l.length ≤ 8
      · refine (if_pos (by omega)).trans ?_
        rw [decide_eq_true h8, Bool.true_and]
        exact bind_is (unlike_says _ (by rw [List.length_map]; omega) k (by rw [List.length_map]; omega))
      · refine (if_neg (by omega)).trans ?_
        rw [decide_eq_false h8, Bool.false_and]
    · refine (if_neg (by omega)).trans ?_
      rw [decide_eq_false h0, Bool.false_and, Bool.false_and]
  | succ d ih =>
    intro k i hd hi hk hq
    obtain ⟨k, rfl⟩ : ∃ m, k = m + 1 := ⟨k - 1, by omega⟩
    have hlt : i < l.length := by omega
    have hrd : A.rd_T58 l (i : Int) = l[i] := by
      unfold A.rd_T58; simp [List.getD_eq_getElem?_getD, List.getElem?_eq_getElem hlt]
    simp only [A.ask_parted.l0]
    refine (if_pos (by omega)).trans ?_
    refine (if_pos (by omega)).trans ?_
    refine (if_pos (by omega)).trans ?_
    rw [hrd]
    have hw := within_says l[i].f1 1 1073741824
    cases e : (decide (1 ≤ l[i].f1) && decide (l[i].f1 ≤ 1073741824)) with
    | true =>
      rw [e] at hw
      refine (bind_if hw).trans ?_
      refine (if_pos (by rw [List.length_map, List.length_take]; omega)).trans ?_
      rw [wrap_up hlt (by omega)]
      have e2 : (l.take i).map (·.f0) ++ [l[i].f0] = (l.take (i + 1)).map (·.f0) := by
        rw [List.take_succ_eq_append_getElem hlt, List.map_append]; rfl
      rw [e2]
      refine ih k (i + 1) (by omega) (by omega) (by omega) ?_
      rw [List.take_succ_eq_append_getElem hlt, List.all_append, hq, Bool.true_and, List.all_cons, show qtyOk l[i] = true from e]; rfl
    | false =>
      rw [e] at hw
      refine (bind_if_not hw).trans ?_
      unfold partedOk
      have : (l.all fun p => decide (1 ≤ p.f1) && decide (p.f1 ≤ 1073741824)) = false := by
        rw [List.all_eq_false]
        exact ⟨l[i], List.getElem_mem hlt, by rw [e]; decide⟩
      rw [this, Bool.and_false, Bool.false_and]
theorem parted_says (l : List Part) (hn : l.length ≤ 1000000) (k : Nat) (hk : l.length + l.length + l.length + 1 < k) : A.ask_parted.f k l = some (partedOk l) := by
  unfold A.ask_parted.f
  exact parted_loop l hn l.length k 0 (by omega) (by omega) (by omega) rfl
end Go.Proofs.YtkpedlhofalnjaaGreatDoor

/- What ask.number computes at the sizes that it is asked for: a number's bytes, the highest first. -/
namespace Go.Proofs.YtkpedlhofalnjaaGreatDoor
open Go.RowKit Go.Proofs.YtkpedlhofalnjaaGreatDoorW.PrintWords Go.Proofs.YtkpedlhofalnjaaGreatDoorW.PrintLast Go.Proofs.YtkpedlhofalnjaaGreatDoorW.PrintMore

theorem row_made (w : World) (xs : List Int) (h : xs.length ≤ 100) (v : Value) (hv : v = .slice (some ⟨w.heap.size, 0, none⟩) xs.length xs.length) :
    Kd.R (Kd.int .u8) 5 (w.alloc (.cells (nums .u8 xs).toArray 5)) w.heap.size (fun _ => True) v xs := by
  subst hv
  exact Kd.R_of_own (h1 := fun _ => rfl) (own_lit w w.heap.size 5 .u8 xs (Nat.le_refl _) (by omega)) (fun _ _ => trivial)

set_option maxRecDepth 100000 in
set_option maxHeartbeats 2000000 in
theorem number1 (n : Int) (w : World) :
    Calls Tryz.prog 79 #[.int .i64 n, .int .i64 1] w fun e w' => e = .returned (.slice (some ⟨w.heap.size, 0, none⟩) 1 1) ∧ w' = w.alloc (.cells #[.int .u8 (n % 256)] 5) := by
  have hmk : ∀ w : World, (Instr.makeSlice 22 (.int .i64 1) (.int .i64 1)).run Tryz.prog w = .ok (.slice (some ⟨w.heap.size, 0, none⟩) 1 1) (w.alloc (.cells #[.int .u8 0] 5)) := fun _ => by kernel_rfl
  go_enter Tryz.func79, Tryz.ntmps79
  go_wp2
  refine wp_loop_rounds 2 ?_
  rw [rounds_succ]
  go_wp2
  rw [rounds_succ]
  go_wp2
  go_ret
  exact ⟨rfl, rfl⟩

set_option maxRecDepth 100000 in
set_option maxHeartbeats 2000000 in
theorem number2 (n : Int) (w : World) :
    Calls Tryz.prog 79 #[.int .i64 n, .int .i64 2] w fun e w' => e = .returned (.slice (some ⟨w.heap.size, 0, none⟩) 2 2) ∧ w' = w.alloc (.cells #[.int .u8 (n / 256 % 256), .int .u8 (n % 256)] 5) := by
  have hmk : ∀ w : World, (Instr.makeSlice 22 (.int .i64 2) (.int .i64 2)).run Tryz.prog w = .ok (.slice (some ⟨w.heap.size, 0, none⟩) 2 2) (w.alloc (.cells #[.int .u8 0, .int .u8 0] 5)) := fun _ => by kernel_rfl
  go_enter Tryz.func79, Tryz.ntmps79
  go_wp2
  refine wp_loop_rounds 3 ?_
  rw [rounds_succ]
  go_wp2
  rw [rounds_succ]
  go_wp2
  rw [rounds_succ]
  go_wp2
  go_ret
  exact ⟨rfl, rfl⟩

set_option maxRecDepth 100000 in
set_option maxHeartbeats 4000000 in
theorem number8 (n : Int) (w : World) :
    Calls Tryz.prog 79 #[.int .i64 n, .int .i64 8] w fun e w' => e = .returned (.slice (some ⟨w.heap.size, 0, none⟩) 8 8) ∧
      w' = w.alloc (.cells #[.int .u8 (n / 72057594037927936 % 256), .int .u8 (n / 281474976710656 % 256), .int .u8 (n / 1099511627776 % 256), .int .u8 (n / 4294967296 % 256), .int .u8 (n / 16777216 % 256), .int .u8 (n / 65536 % 256), .int .u8 (n / 256 % 256), .int .u8 (n % 256)] 5) := by
  have hmk : ∀ w : World, (Instr.makeSlice 22 (.int .i64 8) (.int .i64 8)).run Tryz.prog w = .ok (.slice (some ⟨w.heap.size, 0, none⟩) 8 8) (w.alloc (.cells #[.int .u8 0, .int .u8 0, .int .u8 0, .int .u8 0, .int .u8 0, .int .u8 0, .int .u8 0, .int .u8 0] 5)) := fun _ => by kernel_rfl
  go_enter Tryz.func79, Tryz.ntmps79
  go_wp2
  refine wp_loop_rounds 9 ?_
  iterate 8 (rw [rounds_succ]; go_wp2)
  rw [rounds_succ]
  go_wp2
  go_ret
  exact ⟨rfl, rfl⟩

theorem asknum_any (n : Int) (s : Nat) (hs : s = 1 ∨ s = 2 ∨ s = 8) (w : World) :
    Calls Tryz.prog 79 #[.int .i64 n, .int .i64 s] w fun e w' => ∃ v, e = .returned v ∧ Kd.R (Kd.int .u8) 5 w' w.heap.size (fun _ => True) v (be n s) ∧ Below w.heap.size w w' := by
  rcases hs with rfl | rfl | rfl
  · refine (number1 n w).mono ?_
    rintro e w' ⟨rfl, rfl⟩
    exact ⟨_, rfl, by
      have := row_made w (be n 1) (by rw [be_length]; decide) _ rfl
      simpa [be, nums] using this, (Below.refl _ _).alloc (Nat.le_refl _) _⟩
  · refine (number2 n w).mono ?_
    rintro e w' ⟨rfl, rfl⟩
    exact ⟨_, rfl, by
      have := row_made w (be n 2) (by rw [be_length]; decide) _ rfl
      simpa [be, nums] using this, (Below.refl _ _).alloc (Nat.le_refl _) _⟩
  · refine (number8 n w).mono ?_
    rintro e w' ⟨rfl, rfl⟩
    exact ⟨_, rfl, by
      have := row_made w (be n 8) (by rw [be_length]; decide) _ rfl
      simpa [be, nums] using this, (Below.refl _ _).alloc (Nat.le_refl _) _⟩
end Go.Proofs.YtkpedlhofalnjaaGreatDoor
end
