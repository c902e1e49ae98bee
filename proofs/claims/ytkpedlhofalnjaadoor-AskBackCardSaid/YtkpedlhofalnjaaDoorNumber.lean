/- What code.Text and code.Number compute: a number's numeral; the number that a text says, if it says one. -/
import Derived.Test.YtkpedlhofalnjaaDoorWorld
import Derived.Test.YtkpedlhofalnjaaDoorPlain
import Derived.Test.YtkpedlhofalnjaaDoorShelf
namespace Go.Proofs.YtkpedlhofalnjaaDoor
open Go.RowKit

theorem text_any (n : Int) (h0 : -9223372036854775808 ≤ n) (h1 : n ≤ 9223372036854775807) (w : World) (hL : Laid03 w) :
    Calls Tryd.prog 18 #[.int .i64 n] w fun e w' => e = .returned (.string ⟨(Lib.itoa n).toArray⟩) ∧ Below w.heap.size w w' := by
  have ht := hL.tab
  clear hL
  go_enter Tryd.func18, Tryd.ntmps18
  go_wp2_with fail
  refine (Tryd.strconv_FormatInt_10 n h0 h1 _ ht).mono ?_
  rintro e w' ⟨rfl, k, os, rfl⟩
  go_wp2_with fail
  go_ret
  exact ⟨rfl, below_grow _ _ _⟩

set_option maxHeartbeats 1000000 in
theorem number_any (s : ByteArray) (hs : s.size ≤ 140737488351232) (w : World) (hL : Laid03 w) :
    Calls Tryd.prog 9 #[.string s] w fun e w' => e = .returned (.tuple #[.int .i64 ((num s.data.toList).getD 0), .bool (num s.data.toList).isSome]) ∧ Below w.heap.size w w' := by
  rcases h : Lib.atoiAll s.data.toList with v | _ | _
  ·
    have hb := atoi_bounds h
    have hp : Lib.parseIntB 64 s.data.toList = .ok v := by rw [Lib.parseIntB_64]; exact h
    have HN : Hid (num s.data.toList = if Lib.itoa v = s.data.toList then some v else none) := Lib.hid (by unfold num; rw [h])
    clear h
    have HP := Lib.hid hp
    clear hp
    have HL := Lib.hid hL
    clear hL
    by_cases e : Lib.itoa v = s.data.toList
    · have hne : (Lib.itoa v == s.toList) = true := by rw [Lib.toList_data]; simpa using e
      have HE := Lib.hid e
      clear e
      go_enter Tryd.func9, Tryd.ntmps9
      go_wp2_with fail
      refine (Tryd.strconv_ParseInt_10_at64_ok s (by omega) v HP.out _).mono ?_
      rintro e w1 ⟨rfl, hw⟩
      have hb1 : Below w.heap.size w w1 := by
        rcases hw with rfl | ⟨t, rfl⟩
        · exact Below.refl _ _
        · exact Lib.bytesWorld_below _ _ _
      clear hw
      go_wp2_with fail
      refine (text_any v hb.1 hb.2 _ (HL.out.below hb1)).mono ?_
      rintro e w2 ⟨rfl, hb2⟩
      go_wp2_with fail
      go_ret2
      exact ⟨by rw [HN.out, if_pos HE.out]; rfl, hb1.trans (hb2.mono hb1.size)⟩
    · have hne : (Lib.itoa v == s.toList) = false := by rw [Lib.toList_data]; simpa using e
      have HE := Lib.hid e
      clear e
      go_enter Tryd.func9, Tryd.ntmps9
      go_wp2_with fail
      refine (Tryd.strconv_ParseInt_10_at64_ok s (by omega) v HP.out _).mono ?_
      rintro e w1 ⟨rfl, hw⟩
      have hb1 : Below w.heap.size w w1 := by
        rcases hw with rfl | ⟨t, rfl⟩
        · exact Below.refl _ _
        · exact Lib.bytesWorld_below _ _ _
      clear hw
      go_wp2_with fail
      refine (text_any v hb.1 hb.2 _ (HL.out.below hb1)).mono ?_
      rintro e w2 ⟨rfl, hb2⟩
      go_wp2_with fail
      go_ret2
      exact ⟨by rw [HN.out, if_neg HE.out]; rfl, hb1.trans (hb2.mono hb1.size)⟩
  · have hp := (Lib.parseIntB_64 s.data.toList).trans h
    have HN : Hid (num s.data.toList = none) := Lib.hid (by unfold num; rw [h])
    obtain ⟨tp, p, hc⟩ := hL.syn
    have key := Any.strconv_ParseInt_10_at64_syntax Tryd.laysC174 s (by omega) hp _ w hc (.inr ⟨tp, p, rfl⟩)
    clear h hL hp
    go_enter Tryd.func9, Tryd.ntmps9
    go_wp2_with fail
    refine (show Calls Tryd.prog 25 #[.string s, .int .i64 10, .int .i64 64] w _ from key).mono ?_
    rintro e w1 ⟨N, rfl, _, _, hb1⟩
    go_wp2_with fail
    go_ret2
    exact ⟨by rw [HN.out]; rfl, hb1⟩
  · have hp := (Lib.parseIntB_64 s.data.toList).trans h
    have HN : Hid (num s.data.toList = none) := Lib.hid (by unfold num; rw [h])
    obtain ⟨tp, p, hc⟩ := hL.rng
    have key := Any.strconv_ParseInt_10_at64_range Tryd.laysC174 s (by omega) hp _ w hc (.inr ⟨tp, p, rfl⟩)
    clear h hL hp
    go_enter Tryd.func9, Tryd.ntmps9
    go_wp2_with fail
    refine (show Calls Tryd.prog 25 #[.string s, .int .i64 10, .int .i64 64] w _ from key).mono ?_
    rintro e w1 ⟨N, rfl, _, _, hb1⟩
    go_wp2_with fail
    go_ret2
    exact ⟨by rw [HN.out]; rfl, hb1⟩
end Go.Proofs.YtkpedlhofalnjaaDoor
