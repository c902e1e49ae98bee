/- CodeBytes, walked: for every row of bytes, in every world with the laid variables, it is true. -/
import Derived.Test.YtkpedlhofalnjaaGreatDoorApartBytes
import Derived.Test.YtkpedlhofalnjaaGreatDoorKeptPure03
import Derived.Test.YtkpedlhofalnjaaGreatDoorRefGet03
import Derived.Test.YtkpedlhofalnjaaGreatDoorTextsPure
namespace Go.Proofs.YtkpedlhofalnjaaGreatDoor
open Go.RowKit Go.Proofs.YtkpedlhofalnjaaGreatDoorW.PrintWords Go.Proofs.YtkpedlhofalnjaaGreatDoorW.PrintLast Go.Proofs.YtkpedlhofalnjaaGreatDoorW.PrintMore

theorem get_some (l : List Int) (hb : ∀ x ∈ l, 0 ≤ x ∧ x ≤ 255) : ∃ s n ok, code_Get.f l = some (s, n, ok) ∧ (ints (putCode s.data.toList)).length ≤ 13 := by
  have hp : ∀ s : ByteArray, (ints (putCode s.data.toList)).length ≤ 13 := by
    intro s
    unfold ints putCode
    rw [List.length_map]
    split
    · rename_i h
      rcases h with h | h
      · rw [h]; decide
      · have := isCode_length h
        simp only [List.length_cons]; omega
    · decide
  unfold code_Get.f
  by_cases h0 : l.length = 0
  · rw [if_pos h0]; exact ⟨_, _, _, rfl, hp _⟩
  · rw [if_neg h0]
    have hx : rd l 0 ∈ l := by
      unfold rd
      cases l with
      | nil => simp at h0
      | cons x r => simp
    rw [if_pos (hb _ hx)]
    exact ⟨_, _, _, rfl, hp _⟩

theorem reads_head {w : World} {base : Nat} {e : TypeId} {g l c : Nat} {xs : List Int} (h : w.ownsRow base e 1 (.slice (some ⟨g, 0, none⟩) l c) l (nums .u8 xs)) (n : Nat) (hn : n ≤ l) (hl : l ≤ 1000000) (ys : List Int) (hy : xs.take n = ys) : ReadsInt w .u8 (some ⟨g, 0, none⟩) n ys := by
  have hx : xs.length = l := by have := h.1; simpa [nums] using this
  refine ⟨by rw [← hy, List.length_take]; omega, by omega, fun h0 => ⟨_, rfl, fun j hj => ?_⟩⟩
  rw [Addr.add_lit, Nat.zero_add, h.cellAt j (by omega), ← hy]
  simp [nums, List.getD, hj, show j < xs.length by omega]

theorem own_below {w w' : World} {base : Nat} {e : TypeId} {v : Value} {n : Nat} {xs : List Value} (h : w.ownsRow base e 1 v n xs) (hb : Below w.heap.size w w') : w'.ownsRow base e 1 v n xs := by
  refine ⟨h.1, ?_⟩
  rcases h.2 with h2 | ⟨b, cap, cur, h1, h2, h3, h4⟩
  · exact .inl h2
  · exact .inr ⟨b, cap, cur, h1, h2, by rw [hb.block b (Array.getElem?_eq_some_iff.1 h3).1]; exact h3, h4⟩
theorem own_form {w : World} {base : Nat} {e : TypeId} {v : Value} {n : Nat} {xs : List Value} (h : w.ownsRow base e 1 v n xs) : ∃ A c, v = .slice A n c ∧ (∀ g, A = some ⟨g, 0, none⟩ → base ≤ g ∧ g < w.heap.size) := by
  rcases h.2 with ⟨h2, h3⟩ | ⟨b, cap, cur, h1, h2, h3, h4⟩
  · exact ⟨none, 0, by rw [h2, h3], fun g hg => by cases hg⟩
  · exact ⟨_, cap, h1, fun g hg => by cases hg; exact ⟨h2, (Array.getElem?_eq_some_iff.1 h3).1⟩⟩

theorem awake_calls (w : World) (hL : Laid03 w) : Calls Tryz.prog 13 #[] w fun e w' => e = .returned (.bool true) ∧ Below w.heap.size w w' :=
  C.storemanlaw03_awake.calls 10 true w (awake03 10 (by decide)) hL

set_option maxRecDepth 100000 in
set_option maxHeartbeats 8000000 in
theorem codeBytes_calls (A0 : Option Addr) (c0 : Nat) (l : List Int) (w : World) (hr : ReadsInt w .u8 A0 l.length l) (hc : l.length ≤ c0) (hb : ∀ x ∈ l, 0 ≤ x ∧ x ≤ 255) (hL : Laid03 w) :
    Calls Tryz.prog 3 #[.slice A0 l.length c0] w fun e w' => e = .returned (.bool true) ∧ Below w.heap.size w w' := by
  have HR := Lib.hid hr
  have HC := Lib.hid hc
  have HL := Lib.hid hL
  have HBY := Lib.hid hb
  clear hr hc hL hb
  by_cases hn : l.length ≤ 100000
  · obtain ⟨s, n, ok, hg, hp⟩ := get_some l HBY.out
    have HG := Lib.hid hg
    have HP := Lib.hid hp
    clear hg hp
    go_enter Tryz.func3, Tryz.ntmps3
    go_wp2_with fail
    refine (lent_bytes A0 c0 l w HR.out (by omega)).mono ?_
    rintro e w1 ⟨rfl, ho1, hb1⟩
    have HO1 := Lib.hid ho1
    have HB1 := Lib.hid hb1
    clear ho1 hb1
    go_wp2_with fail
    have hr1 : ReadsInt w1 .u8 (some ⟨w.heap.size, 0, none⟩) l.length l := reads_head HO1.out l.length (by omega) (by omega) l (List.take_left ..)
    refine (code_Get.calls _ (l.length + 12) l s n ok w1 (Kd.C_of_reads (d := (0 : Int)) (h1 := fun _ => rfl) hr1) (by omega) HG.out).mono ?_
    rintro e w2 ⟨rfl, hb2⟩
    have HB2 := Lib.hid (HB1.out.trans (hb2.mono HB1.out.size))
    have HO2 := Lib.hid (own_below HO1.out hb2)
    clear hb2 hr1 HO1 HB1
    go_wp2_with fail
    have hlm : (l ++ marks 1 0 12).length = l.length + 12 := by rw [List.length_append, marks_length]
    have hr2 : ReadsInt w2 .u8 (some ⟨w.heap.size, 0, none⟩) (l ++ marks 1 0 12).length (l ++ marks 1 0 12) := by
      rw [hlm]; exact reads_head HO2.out _ (Nat.le_refl _) (by omega) _ (List.take_of_length_le (by omega))
    refine (C.storemankit_KeptBytes.room_calls (l.length + 14) _ (l.length + 12) (l ++ marks 1 0 12) A0 c0 l true w2 (Kd.C_of_reads (d := (0 : Int)) (h1 := fun _ => rfl) hr2) hlm (by omega) (by omega) (Kd.C_of_reads (d := (0 : Int)) (h1 := fun _ => rfl) (HR.out.below HB2.out)) HC.out (kept_pure l (by omega) (l.length + 12) 0 _ (by omega) (by omega))).mono ?_
    rintro e w3 ⟨rfl, hb3⟩
    have HB3 := Lib.hid (HB2.out.trans (hb3.mono HB2.out.size))
    have HO3 := Lib.hid (own_below HO2.out hb3)
    clear hb3 hr2 hlm HO2 HB2
    go_wp2_with fail
    refine (over_bytes w.heap.size l.length (by omega) (l ++ marks 1 0 12) (by rw [List.length_append, marks_length]) w.heap.size w3 HO3.out (Nat.le_refl _)).mono ?_
    rintro e w4 ⟨rfl, hb4⟩
    have HB4 := Lib.hid (HB3.out.trans hb4)
    clear hb4 HO3 HB3
    go_wp2_with fail
    refine (ref_Get.calls A0 c0 l s n ok w4 (Kd.C_of_reads (d := (0 : Int)) (h1 := fun _ => rfl) (HR.out.below HB4.out)) HC.out HG.out).mono ?_
    rintro e w5 ⟨rfl, hb5⟩
    have HB5 := Lib.hid (HB4.out.trans (hb5.mono HB4.out.size))
    clear hb5 HB4
    go_wp2_with fail
    have HB50 := Lib.hid HB5.out.size
    obtain ⟨xs, hxs⟩ : ∃ xs, ints (putCode s.data.toList) = xs := ⟨_, rfl⟩
    have hxl : xs.length ≤ 13 := by rw [← hxs]; exact HP.out
    refine (code_Put.calls s xs w5 (by rw [← hxs]; rfl)).mono ?_
    rintro e w6 ⟨v0, rfl, hR6, hb6⟩
    obtain ⟨A6, c6, rfl, hg6⟩ := own_form (Kd.own_of_R hR6)
    have HO6 := Lib.hid (Kd.own_of_R hR6)
    have HB6 := Lib.hid (HB5.out.trans (hb6.mono HB5.out.size))
    have HG6 := Lib.hid hg6
    have HB60 := Lib.hid HB6.out.size
    clear hR6 hb6 HB5 hg6
    go_wp2_with fail
    refine (code_Put.calls s xs w6 (by rw [← hxs]; rfl)).mono ?_
    rintro e w7 ⟨v1, rfl, hR7, hb7⟩
    obtain ⟨A7, c7, rfl, hg7⟩ := own_form (Kd.own_of_R hR7)
    have HO7 := Lib.hid (Kd.own_of_R hR7)
    have HO6' := Lib.hid (own_below HO6.out hb7)
    have HB7 := Lib.hid (HB6.out.trans (hb7.mono HB6.out.size))
    have HS7 := Lib.hid hb7.size
    have HG7 := Lib.hid hg7
    clear hR7 hb7 HB6 hg7 HO6
    go_wp2_with fail
    refine (apart_bytes w7.heap.size 2 (fun j => if j = 0 then A6 else A7) (fun _ => xs.length) (fun j => if j = 0 then c6 else c7) (fun _ => xs) _ (fun _ => by omega) ⟨fun j hj => ?_, fun j hj => ?_⟩ ⟨fun i j g hi hj h1 h2 => ?_, fun i hi h => ?_⟩).mono ?_
    · match j, hj with
      | 0, _ => exact own_alloc (own_base HO6'.out (Nat.zero_le _)) _
      | 1, _ => exact own_alloc (own_base HO7.out (Nat.zero_le _)) _
      | _ + 2, h => omega
    · rw [World.ownsRow.cellAt (World.ownsRow_lit (base := 0) (size := 1) w7 _ 2 (Nat.zero_le _) (by decide) rfl) j (by omega)]
      match j, hj with
      | 0, _ => rfl
      | 1, _ => rfl
      | _ + 2, h => omega
    · match i, j, hi, hj with
      | 0, 0, _, _ => rfl
      | 1, 1, _, _ => rfl
      | 0, 1, _, _ =>
        have q1 := (HG6.out g h1).2; have q2 := (HG7.out g h2).1; omega
      | 1, 0, _, _ =>
        have q1 := (HG6.out g h2).2; have q2 := (HG7.out g h1).1; omega
      | _ + 2, _, h, _ => omega
      | _, _ + 2, _, h => omega
    · match i, hi with
      | 0, _ => have q1 := (HG6.out _ h).2; have := HS7.out; omega
      | 1, _ => have q1 := (HG7.out _ h).2; omega
      | _ + 2, h => omega
    rintro e w8 ⟨rfl, hu⟩
    have hb8 : Below w.heap.size w w8 := by
      refine (HB7.out.alloc HB7.out.size _).trans (hu.below (fun b ⟨j, hj, h⟩ => ?_) (HB7.out.alloc HB7.out.size _).size)
      match j, hj with
      | 0, _ => have q1 := (HG6.out _ h).1; have := HB50.out; omega
      | 1, _ => have q1 := (HG7.out _ h).1; have := HB60.out; omega
      | _ + 2, h => omega
    have HB8 := Lib.hid hb8
    clear hu hb8 HB7
    go_wp2_with fail
    refine (awake_calls w8 (HL.out.below HB8.out)).mono ?_
    rintro e w9 ⟨rfl, hb9⟩
    have HB9 := Lib.hid (HB8.out.trans (hb9.mono HB8.out.size))
    clear hb9 HB8
    go_wp2_with fail
    go_ret
    exact ⟨rfl, HB9.out⟩
  · go_enter Tryz.func3, Tryz.ntmps3
    go_wp2_with fail
    refine (awake_calls w HL.out).mono ?_
    rintro e w1 ⟨rfl, hb1⟩
    go_wp2_with fail
    go_ret
    exact ⟨rfl, hb1⟩
end Go.Proofs.YtkpedlhofalnjaaGreatDoor
