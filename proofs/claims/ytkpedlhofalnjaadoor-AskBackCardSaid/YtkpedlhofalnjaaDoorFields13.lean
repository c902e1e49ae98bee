/- What ask.fields answers: the fields that a kind has, out of the program's own table. -/
import Derived.Test.YtkpedlhofalnjaaDoorAsk13
import Derived.Test.YtkpedlhofalnjaaDoorWorld
import Derived.Test.YtkpedlhofalnjaaDoorShelf13
import Derived.WalkSpells
namespace Go.Proofs.YtkpedlhofalnjaaDoor
open Go.RowKit Go.Proofs.YtkpedlhofalnjaaDoorW.PrintWords Go.Proofs.YtkpedlhofalnjaaDoorW.PrintLast Go.Proofs.YtkpedlhofalnjaaDoorW.PrintMore

/-- The table as the program lays it. -/
def kindTexts : List ByteArray := [⟨#[]⟩, ⟨#[105, 108]⟩, ⟨#[105, 112]⟩, ⟨#[105, 111]⟩, ⟨#[105, 113]⟩, ⟨#[105, 113, 100]⟩, ⟨#[116, 100]⟩, ⟨#[116]⟩, ⟨#[116]⟩, ⟨#[105, 113, 100, 114]⟩, ⟨#[110]⟩, ⟨#[110]⟩, ⟨#[45]⟩, ⟨#[105, 113, 100]⟩, ⟨#[110]⟩, ⟨#[105]⟩]
theorem gKinds : Tryd.prog.globalNamed "storeman/ask.kinds" = some 0 := by kernel_rfl
structure Laid13 (w : World) : Prop where
  kinds : w.var? Tryd.prog "storeman/ask.kinds" = some (kindTexts.map Value.string).toArray
theorem Laid13.cell {w : World} (h : Laid13 w) (i : Nat) (s : ByteArray) (hs : kindTexts[i]? = some s) : w.cell? ⟨0, i, none⟩ = some (.string s) := by
  have := World.var?_cell gKinds h.kinds i
  rw [this]
  simp [hs]
theorem Laid13.below {w w' : World} (h : Laid13 w) (hb : Below w.heap.size w w') : Laid13 w' :=
  ⟨var?_below hb gKinds (World.block_lt_of_cell? w _ (h.cell 0 _ rfl)) h.kinds⟩

def textOf (k : Int) : ByteArray := ⟨((fieldsIn k).map Fld.byte).toArray⟩

theorem trim_one (s t : ByteArray) (hs : s.size ≤ 100) (ht : Lib.trimB s.data.toList 45 = t.data.toList) (w : World) : Calls Tryd.prog 45 #[.string s, .string ⟨#[45]⟩] w fun e w' => e = .returned (.string t) ∧ Drawn0 w w' :=
  (Tryd.strings_Trim_one s 45 (by decide) w (by omega)).mono fun e w' ⟨he, hw⟩ => by
    refine ⟨?_, ?_⟩
    · rw [he, ht]
    · rcases hw with rfl | rfl
      · exact Drawn0.refl _
      · exact (Drawn0.refl w).step 1

theorem fields_above (k : Int) (h : 16 ≤ k) (h1 : k ≤ 255) (w : World) : Calls Tryd.prog 31 #[.int .u8 k] w fun e w' => e = .returned (.tuple #[.string (textOf k), .bool (fieldsOf k).isSome]) ∧ Below w.heap.size w w' := by
  have e : fieldsOf k = none := by unfold fieldsOf; rw [if_neg (by omega)]
  have e1 : textOf k = ⟨#[]⟩ := by unfold textOf fieldsIn; rw [e]; rfl
  have E := Lib.hid e
  have E1 := Lib.hid e1
  clear e e1
  go_enter Tryd.func31, Tryd.ntmps31
  go_wp2_with fail
  go_ret2
  exact ⟨by rw [E.out, E1.out]; rfl, Below.refl _ _⟩
theorem fields_zero (w : World) (hL : Laid13 w) : Calls Tryd.prog 31 #[.int .u8 0] w fun e w' => e = .returned (.tuple #[.string (textOf 0), .bool (fieldsOf 0).isSome]) ∧ Below w.heap.size w w' := by
  have hc := hL.cell 0 _ rfl
  clear hL
  go_enter Tryd.func31, Tryd.ntmps31
  go_wp2_with fail
  go_ret2
  exact ⟨rfl, Below.refl _ _⟩
theorem fields_1 (w : World) (hL : Laid13 w) : Calls Tryd.prog 31 #[.int .u8 1] w fun e w' => e = .returned (.tuple #[.string (textOf 1), .bool (fieldsOf 1).isSome]) ∧ Below w.heap.size w w' := by
  have hc := hL.cell 1 _ rfl
  clear hL
  go_enter Tryd.func31, Tryd.ntmps31
  go_wp2_with fail
  refine (trim_one ⟨#[105, 108]⟩ (textOf 1) (by decide) (by decide) _).mono ?_
  rintro e w1 ⟨rfl, hd⟩
  have hb := hd.below
  clear hd hc
  go_wp2_with fail
  go_ret2
  exact ⟨rfl, hb⟩
theorem fields_2 (w : World) (hL : Laid13 w) : Calls Tryd.prog 31 #[.int .u8 2] w fun e w' => e = .returned (.tuple #[.string (textOf 2), .bool (fieldsOf 2).isSome]) ∧ Below w.heap.size w w' := by
  have hc := hL.cell 2 _ rfl
  clear hL
  go_enter Tryd.func31, Tryd.ntmps31
  go_wp2_with fail
  refine (trim_one ⟨#[105, 112]⟩ (textOf 2) (by decide) (by decide) _).mono ?_
  rintro e w1 ⟨rfl, hd⟩
  have hb := hd.below
  clear hd hc
  go_wp2_with fail
  go_ret2
  exact ⟨rfl, hb⟩
theorem fields_3 (w : World) (hL : Laid13 w) : Calls Tryd.prog 31 #[.int .u8 3] w fun e w' => e = .returned (.tuple #[.string (textOf 3), .bool (fieldsOf 3).isSome]) ∧ Below w.heap.size w w' := by
  have hc := hL.cell 3 _ rfl
  clear hL
  go_enter Tryd.func31, Tryd.ntmps31
  go_wp2_with fail
  refine (trim_one ⟨#[105, 111]⟩ (textOf 3) (by decide) (by decide) _).mono ?_
  rintro e w1 ⟨rfl, hd⟩
  have hb := hd.below
  clear hd hc
  go_wp2_with fail
  go_ret2
  exact ⟨rfl, hb⟩
theorem fields_4 (w : World) (hL : Laid13 w) : Calls Tryd.prog 31 #[.int .u8 4] w fun e w' => e = .returned (.tuple #[.string (textOf 4), .bool (fieldsOf 4).isSome]) ∧ Below w.heap.size w w' := by
  have hc := hL.cell 4 _ rfl
  clear hL
  go_enter Tryd.func31, Tryd.ntmps31
  go_wp2_with fail
  refine (trim_one ⟨#[105, 113]⟩ (textOf 4) (by decide) (by decide) _).mono ?_
  rintro e w1 ⟨rfl, hd⟩
  have hb := hd.below
  clear hd hc
  go_wp2_with fail
  go_ret2
  exact ⟨rfl, hb⟩
theorem fields_5 (w : World) (hL : Laid13 w) : Calls Tryd.prog 31 #[.int .u8 5] w fun e w' => e = .returned (.tuple #[.string (textOf 5), .bool (fieldsOf 5).isSome]) ∧ Below w.heap.size w w' := by
  have hc := hL.cell 5 _ rfl
  clear hL
  go_enter Tryd.func31, Tryd.ntmps31
  go_wp2_with fail
  refine (trim_one ⟨#[105, 113, 100]⟩ (textOf 5) (by decide) (by decide) _).mono ?_
  rintro e w1 ⟨rfl, hd⟩
  have hb := hd.below
  clear hd hc
  go_wp2_with fail
  go_ret2
  exact ⟨rfl, hb⟩
theorem fields_6 (w : World) (hL : Laid13 w) : Calls Tryd.prog 31 #[.int .u8 6] w fun e w' => e = .returned (.tuple #[.string (textOf 6), .bool (fieldsOf 6).isSome]) ∧ Below w.heap.size w w' := by
  have hc := hL.cell 6 _ rfl
  clear hL
  go_enter Tryd.func31, Tryd.ntmps31
  go_wp2_with fail
  refine (trim_one ⟨#[116, 100]⟩ (textOf 6) (by decide) (by decide) _).mono ?_
  rintro e w1 ⟨rfl, hd⟩
  have hb := hd.below
  clear hd hc
  go_wp2_with fail
  go_ret2
  exact ⟨rfl, hb⟩
theorem fields_7 (w : World) (hL : Laid13 w) : Calls Tryd.prog 31 #[.int .u8 7] w fun e w' => e = .returned (.tuple #[.string (textOf 7), .bool (fieldsOf 7).isSome]) ∧ Below w.heap.size w w' := by
  have hc := hL.cell 7 _ rfl
  clear hL
  go_enter Tryd.func31, Tryd.ntmps31
  go_wp2_with fail
  refine (trim_one ⟨#[116]⟩ (textOf 7) (by decide) (by decide) _).mono ?_
  rintro e w1 ⟨rfl, hd⟩
  have hb := hd.below
  clear hd hc
  go_wp2_with fail
  go_ret2
  exact ⟨rfl, hb⟩
theorem fields_8 (w : World) (hL : Laid13 w) : Calls Tryd.prog 31 #[.int .u8 8] w fun e w' => e = .returned (.tuple #[.string (textOf 8), .bool (fieldsOf 8).isSome]) ∧ Below w.heap.size w w' := by
  have hc := hL.cell 8 _ rfl
  clear hL
  go_enter Tryd.func31, Tryd.ntmps31
  go_wp2_with fail
  refine (trim_one ⟨#[116]⟩ (textOf 8) (by decide) (by decide) _).mono ?_
  rintro e w1 ⟨rfl, hd⟩
  have hb := hd.below
  clear hd hc
  go_wp2_with fail
  go_ret2
  exact ⟨rfl, hb⟩
theorem fields_9 (w : World) (hL : Laid13 w) : Calls Tryd.prog 31 #[.int .u8 9] w fun e w' => e = .returned (.tuple #[.string (textOf 9), .bool (fieldsOf 9).isSome]) ∧ Below w.heap.size w w' := by
  have hc := hL.cell 9 _ rfl
  clear hL
  go_enter Tryd.func31, Tryd.ntmps31
  go_wp2_with fail
  refine (trim_one ⟨#[105, 113, 100, 114]⟩ (textOf 9) (by decide) (by decide) _).mono ?_
  rintro e w1 ⟨rfl, hd⟩
  have hb := hd.below
  clear hd hc
  go_wp2_with fail
  go_ret2
  exact ⟨rfl, hb⟩
theorem fields_10 (w : World) (hL : Laid13 w) : Calls Tryd.prog 31 #[.int .u8 10] w fun e w' => e = .returned (.tuple #[.string (textOf 10), .bool (fieldsOf 10).isSome]) ∧ Below w.heap.size w w' := by
  have hc := hL.cell 10 _ rfl
  clear hL
  go_enter Tryd.func31, Tryd.ntmps31
  go_wp2_with fail
  refine (trim_one ⟨#[110]⟩ (textOf 10) (by decide) (by decide) _).mono ?_
  rintro e w1 ⟨rfl, hd⟩
  have hb := hd.below
  clear hd hc
  go_wp2_with fail
  go_ret2
  exact ⟨rfl, hb⟩
theorem fields_11 (w : World) (hL : Laid13 w) : Calls Tryd.prog 31 #[.int .u8 11] w fun e w' => e = .returned (.tuple #[.string (textOf 11), .bool (fieldsOf 11).isSome]) ∧ Below w.heap.size w w' := by
  have hc := hL.cell 11 _ rfl
  clear hL
  go_enter Tryd.func31, Tryd.ntmps31
  go_wp2_with fail
  refine (trim_one ⟨#[110]⟩ (textOf 11) (by decide) (by decide) _).mono ?_
  rintro e w1 ⟨rfl, hd⟩
  have hb := hd.below
  clear hd hc
  go_wp2_with fail
  go_ret2
  exact ⟨rfl, hb⟩
theorem fields_12 (w : World) (hL : Laid13 w) : Calls Tryd.prog 31 #[.int .u8 12] w fun e w' => e = .returned (.tuple #[.string (textOf 12), .bool (fieldsOf 12).isSome]) ∧ Below w.heap.size w w' := by
  have hc := hL.cell 12 _ rfl
  clear hL
  go_enter Tryd.func31, Tryd.ntmps31
  go_wp2_with fail
  refine (trim_one ⟨#[45]⟩ (textOf 12) (by decide) (by decide) _).mono ?_
  rintro e w1 ⟨rfl, hd⟩
  have hb := hd.below
  clear hd hc
  go_wp2_with fail
  go_ret2
  exact ⟨rfl, hb⟩
theorem fields_13 (w : World) (hL : Laid13 w) : Calls Tryd.prog 31 #[.int .u8 13] w fun e w' => e = .returned (.tuple #[.string (textOf 13), .bool (fieldsOf 13).isSome]) ∧ Below w.heap.size w w' := by
  have hc := hL.cell 13 _ rfl
  clear hL
  go_enter Tryd.func31, Tryd.ntmps31
  go_wp2_with fail
  refine (trim_one ⟨#[105, 113, 100]⟩ (textOf 13) (by decide) (by decide) _).mono ?_
  rintro e w1 ⟨rfl, hd⟩
  have hb := hd.below
  clear hd hc
  go_wp2_with fail
  go_ret2
  exact ⟨rfl, hb⟩
theorem fields_14 (w : World) (hL : Laid13 w) : Calls Tryd.prog 31 #[.int .u8 14] w fun e w' => e = .returned (.tuple #[.string (textOf 14), .bool (fieldsOf 14).isSome]) ∧ Below w.heap.size w w' := by
  have hc := hL.cell 14 _ rfl
  clear hL
  go_enter Tryd.func31, Tryd.ntmps31
  go_wp2_with fail
  refine (trim_one ⟨#[110]⟩ (textOf 14) (by decide) (by decide) _).mono ?_
  rintro e w1 ⟨rfl, hd⟩
  have hb := hd.below
  clear hd hc
  go_wp2_with fail
  go_ret2
  exact ⟨rfl, hb⟩
theorem fields_15 (w : World) (hL : Laid13 w) : Calls Tryd.prog 31 #[.int .u8 15] w fun e w' => e = .returned (.tuple #[.string (textOf 15), .bool (fieldsOf 15).isSome]) ∧ Below w.heap.size w w' := by
  have hc := hL.cell 15 _ rfl
  clear hL
  go_enter Tryd.func31, Tryd.ntmps31
  go_wp2_with fail
  refine (trim_one ⟨#[105]⟩ (textOf 15) (by decide) (by decide) _).mono ?_
  rintro e w1 ⟨rfl, hd⟩
  have hb := hd.below
  clear hd hc
  go_wp2_with fail
  go_ret2
  exact ⟨rfl, hb⟩
theorem fields_any (k : Int) (h0 : 0 ≤ k) (h1 : k ≤ 255) (w : World) (hL : Laid13 w) : Calls Tryd.prog 31 #[.int .u8 k] w fun e w' => e = .returned (.tuple #[.string (textOf k), .bool (fieldsOf k).isSome]) ∧ Below w.heap.size w w' := by
  by_cases h : 16 ≤ k
  · exact fields_above k h h1 w
  · obtain h | h | h | h | h | h | h | h | h | h | h | h | h | h | h | h : k = 0 ∨ k = 1 ∨ k = 2 ∨ k = 3 ∨ k = 4 ∨ k = 5 ∨ k = 6 ∨ k = 7 ∨ k = 8 ∨ k = 9 ∨ k = 10 ∨ k = 11 ∨ k = 12 ∨ k = 13 ∨ k = 14 ∨ k = 15 := by omega
    all_goals subst h
    · exact fields_zero w hL
    · exact fields_1 w hL
    · exact fields_2 w hL
    · exact fields_3 w hL
    · exact fields_4 w hL
    · exact fields_5 w hL
    · exact fields_6 w hL
    · exact fields_7 w hL
    · exact fields_8 w hL
    · exact fields_9 w hL
    · exact fields_10 w hL
    · exact fields_11 w hL
    · exact fields_12 w hL
    · exact fields_13 w hL
    · exact fields_14 w hL
    · exact fields_15 w hL
end Go.Proofs.YtkpedlhofalnjaaDoor
