/- CodeNumbers, walked: in every world with the laid variables it is true. -/
import Derived.Test.YtkpedlhofalnjaaGreatDoorCodeBytes
import Derived.Test.YtkpedlhofalnjaaGreatDoorTextsPure
import Derived.Test.YtkpedlhofalnjaaGreatDoorShelf
import Derived.Test.YtkpedlhofalnjaaGreatDoorNumbersPure
import Derived.Test.YtkpedlhofalnjaaGreatDoorWGuard
import Derived.Test.YtkpedlhofalnjaaGreatDoorC3
import Derived.Test.YtkpedlhofalnjaaGreatDoorC6
namespace Go.Proofs.YtkpedlhofalnjaaGreatDoor
set_option linter.unusedVariables false
set_option linter.unusedSimpArgs false
open Go.RowKit Go.Proofs.YtkpedlhofalnjaaGreatDoorW.PrintWords Go.Proofs.YtkpedlhofalnjaaGreatDoorW.PrintLast Go.Proofs.YtkpedlhofalnjaaGreatDoorW.PrintMore

theorem texts_any (s : ByteArray) (hs : s.size ≤ 1000000) (w : World) (hL : Laid03 w) : Calls Tryz.prog 47 #[.string s] w fun e w' => e = .returned (.bool true) ∧ Below w.heap.size w w' :=
  C.storemanlaw03_CodeTexts.calls _ s true w (codeTexts_pure s (by omega)) hL
theorem bytes_any {w : World} {base : Nat} {l c g : Nat} {xs : List Int} (h : w.ownsRow base 5 1 (.slice (some ⟨g, 0, none⟩) l c) l (nums .u8 xs)) (hl : l ≤ 1000000) (hb : ∀ x ∈ xs, 0 ≤ x ∧ x ≤ 255) (hL : Laid03 w) :
    Calls Tryz.prog 3 #[.slice (some ⟨g, 0, none⟩) l c] w fun e w' => e = .returned (.bool true) ∧ Below w.heap.size w w' := by
  have hx : xs.length = l := by have := h.1; simpa [nums] using this
  subst hx
  exact codeBytes_calls _ c xs w (reads_head h _ (Nat.le_refl _) hl xs (List.take_of_length_le (Nat.le_refl _))) (own_cap h) hb hL

namespace codeNumbers
noncomputable def T18 : Bool × List (List Nat × List Nat) := rtab .any (opsOf Tryz.f9 18)
def B18 : List Nat := [0, 0, 0, 6, 14, 31, 63, 127, 255, 511, 1023, 2047, 2047, 8191, 16383, 32767, 2047, 2047, 198655, 460799, 1048575, 2097151, 4194303]
theorem tab18 : rtab .any (opsOf Tryz.f9 18) = T18 := rfl
theorem bits18 : waitsOk T18.2 B18 = true := by kernel_rfl
end codeNumbers
theorem bytes_own {w : World} {base : Nat} {v : Value} {xs : List Int} (h : w.ownsRow base 5 1 v xs.length (nums .u8 xs)) (h0 : 0 < xs.length) (hl : xs.length ≤ 1000000) (hb : ∀ x ∈ xs, 0 ≤ x ∧ x ≤ 255) (hL : Laid03 w) :
    Calls Tryz.prog 3 #[v] w fun e w' => e = .returned (.bool true) ∧ Below w.heap.size w w' := by
  obtain ⟨A, c, rfl, _⟩ := own_form h
  obtain ⟨g, rfl, _⟩ := own_addr h h0
  exact bytes_any h hl hb hL
theorem bytesOf_wf (s : ByteArray) : ∀ x ∈ bytesOf s, 0 ≤ x ∧ x ≤ 255 := by
  intro x hx
  unfold bytesOf at hx
  obtain ⟨b, _, rfl⟩ := List.mem_map.1 hx
  have := b.toNat_lt
  omega
theorem right_q : ∀ k, k < 20 → isCode (Lib.repeatL [81] k) = (decide (1 ≤ k) && decide (k ≤ 12)) := by decide
theorem size_two (a b : ByteArray) (n : Nat) (ha : a.size ≤ n) (hb : b.size ≤ n) : (a ++ b).size ≤ n + n := by
  rw [ByteArray.size_append]; omega
theorem repeat_any (s : ByteArray) (c : Nat) (hc : c ≤ 1000) (hs : s.size ≤ 1) : ∃ Z : ByteArray, Z.data.toList = Lib.repeatL s.data.toList c ∧ ∀ w : World, Calls Tryz.prog 28 #[.string s, .int .i64 c] w fun e w' => e = .returned (.string Z) ∧ Below w.heap.size w w' :=
  ⟨⟨(Lib.repeatL s.data.toList c).toArray⟩, by simp, fun w => Tryz.strings_Repeat s c w (by omega) (Nat.le_trans (Nat.mul_le_mul hs hc) (by decide))⟩

set_option maxRecDepth 100000 in
set_option maxHeartbeats 8000000 in
theorem codeNumbers_calls (w : World) (hL : Laid03 w) :
    Calls Tryz.prog 9 #[] w fun e w' => e = .returned (.bool true) ∧ Below w.heap.size w w' := by
  have HL := Lib.hid hL
  clear hL
  obtain ⟨Z, hZ, hZc⟩ := repeat_any ⟨#[90]⟩ 300 (by decide) (by decide)
  have hZs : Z.size ≤ 300 := by rw [← data_length, hZ, Lib.repeatL_length]; decide
  have HZ := Lib.hid hZc
  clear hZc hZ
  go_enter Tryz.func9, Tryz.ntmps9
  go_wp2
  go_loopg [1] 257 (fun kq v1 wr => ∃ (k : Nat), v1 = .int .i64 k ∧ k + kq = 257 ∧ 0 < kq ∧ Aside0 (Below w.heap.size w wr))
  case atStart => exact ⟨0, rfl, by omega, by omega, ⟨Below.refl _ _⟩⟩
  case round =>
    obtain ⟨c, rfl, hk, hk0, HB⟩ := hrel
    by_cases hc : c < 256
    · have hcv : (convert 22 9 (.slice (some ⟨wr.heap.size, 0, none⟩) 1 1)).run Tryz.prog (wr.alloc (.cells #[.int .u8 c] 5)) = .ok (.string (strOfNums [(c : Int)])) (wr.alloc (.cells #[.int .u8 c] 5)) :=
        Kd.C_string (P := Tryz.prog) (c := 1) Tryz.underlying22 Tryz.underlying5 Tryz.underlying9 (Kd.C_of_reads (d := (0 : Int)) (h1 := fun _ => rfl) (reads_one wr .u8 c _))
      have hx : (strOfNums [(c : Int)]).size ≤ 1 := by show (1 : Nat) ≤ 1; decide
      go_wp2_with fail
      generalize strOfNums [(c : Int)] = x at hx ⊢
      clear hcv
      have HB1 := Aside0.mk (HB.out.alloc HB.out.size (.cells #[.int .u8 c] 5))
      refine (texts_any _ (by omega) _ (HL.out.below HB1.out)).mono ?_
      rintro e w2 ⟨rfl, hb⟩
      have HB2 := Aside0.mk (HB1.out.trans (hb.mono HB1.out.size))
      clear hb HB1 HB
      go_wp2_with fail
      refine (texts_any _ (Nat.le_trans (size_two _ _ 1 (by decide) hx) (by decide)) _ (HL.out.below HB2.out)).mono ?_
      rintro e w3 ⟨rfl, hb⟩
      have HB3 := Aside0.mk (HB2.out.trans (hb.mono HB2.out.size))
      clear hb HB2
      go_wp2_with fail
      refine (texts_any _ (Nat.le_trans (size_two _ _ 2 (size_two _ _ 1 (by decide) hx) (by decide)) (by decide)) _ (HL.out.below HB3.out)).mono ?_
      rintro e w4 ⟨rfl, hb⟩
      have HB4 := Aside0.mk (HB3.out.trans (hb.mono HB3.out.size))
      clear hb HB3
      go_wp2_with fail
      refine (texts_any _ (Nat.le_trans (size_two _ _ 1 (by decide) hx) (by decide)) _ (HL.out.below HB4.out)).mono ?_
      rintro e w5 ⟨rfl, hb⟩
      have HB5 := Aside0.mk (HB4.out.trans (hb.mono HB4.out.size))
      clear hb HB4
      go_wp2_with fail
      refine (bytes_any (own_lit w5 0 _ .u8 [1, (c : Int)] (Nat.zero_le _) (by simp)) (by simp) (by intro z hz; simp at hz; omega) (HL.out.below (HB5.out.alloc HB5.out.size _))).mono ?_
      rintro e w6 ⟨rfl, hb⟩
      have HB6 := Aside0.mk ((HB5.out.alloc HB5.out.size _).trans (hb.mono (HB5.out.alloc HB5.out.size _).size))
      clear hb HB5
      go_wp2_with fail
      refine (bytes_any (own_lit w6 0 _ .u8 [2, 65, (c : Int), 66] (Nat.zero_le _) (by simp)) (by simp) (by intro z hz; simp at hz; omega) (HL.out.below (HB6.out.alloc HB6.out.size _))).mono ?_
      rintro e w7 ⟨rfl, hb⟩
      have HB7 := Aside0.mk ((HB6.out.alloc HB6.out.size _).trans (hb.mono (HB6.out.alloc HB6.out.size _).size))
      clear hb HB6
      go_wp2_with fail
      refine (bytes_any (own_lit w7 0 _ .u8 [(c : Int)] (Nat.zero_le _) (by simp)) (by simp) (by intro z hz; simp at hz; omega) (HL.out.below (HB7.out.alloc HB7.out.size _))).mono ?_
      rintro e w8 ⟨rfl, hb⟩
      have HB8 := Aside0.mk ((HB7.out.alloc HB7.out.size _).trans (hb.mono (HB7.out.alloc HB7.out.size _).size))
      clear hb HB7
      go_wp2_with fail
      refine (HZ.out _).mono ?_
      rintro e w9 ⟨rfl, hb⟩
      have HB9 := Aside0.mk ((HB8.out.alloc HB8.out.size _).trans (hb.mono (HB8.out.alloc HB8.out.size _).size))
      have HO9 := Aside0.mk (own_below (own_lit w8 w.heap.size _ .u8 [(c : Int)] HB8.out.size (by simp)) hb)
      clear hb HB8
      go_wp2_with (first
        | (at_builtin; go_loud (refine gate_guard (by rfl) (print_append_str w.heap.size rfl _ _ 22 9 5 rfl Tryz.underlying22 Tryz.underlying9 info_u8 _ [(c : Int)] Z rfl rfl HO9.out HB9.out HB9.out.size (by show 1 + Z.size ≤ _; omega) ?_)))
        | fail)
      intro v1 w10 ho hb10 _
      have HO10 := Aside0.mk ho
      have HB10 := Aside0.mk hb10
      clear ho hb10 HO9 HB9
      go_wp2_with fail
      refine (bytes_own HO10.out (by simp) (by simp [bytesOf_length]; omega) (by intro z hz; rcases List.mem_cons.1 hz with h | h; (subst h; omega); exact bytesOf_wf _ _ h) (HL.out.below HB10.out)).mono ?_
      rintro e w11 ⟨rfl, hb⟩
      have HB11 := Aside0.mk (HB10.out.trans (hb.mono HB10.out.size))
      clear hb HB10 HO10
      go_wp2
      go_roundg (256 - c)
      case measure => omega
      case rel => exact ⟨c + 1, by simp, by omega, by omega, HB11⟩
    · go_wp2
      go_loopg [3] 21 (fun kq v3 wr => ∃ (k : Nat), v3 = .int .i64 k ∧ k + kq = 21 ∧ 0 < kq ∧ Aside0 (Below w.heap.size w wr))
      case atStart => exact ⟨0, rfl, by omega, by omega, HB⟩
      case round =>
        clear HB hk hk0 hc
        obtain ⟨k, rfl, hk, hk0, HB⟩ := hrel
        by_cases hkn : k < 20
        · obtain ⟨S, hS, hSc⟩ := repeat_any ⟨#[81]⟩ k (by omega) (by decide)
          have hSs : S.size = k := by rw [← data_length, hS, Lib.repeatL_length]; simp
          have hR : ∀ w : World, Calls Tryz.prog 48 #[.string S] w fun e w' => e = .returned (.bool (isCode (Lib.repeatL [81] k))) ∧ Below w.heap.size w w' := fun w => by have := right_any S w; rw [hS] at this; exact this
          rw [right_q k hkn] at hR
          have HS := Lib.hid hSc
          clear hS hSc
          go_wp2_with fail
          refine (HS.out _).mono ?_
          rintro e w2 ⟨rfl, hb⟩
          have HB2 := Aside0.mk (HB.out.trans (hb.mono HB.out.size))
          clear hb HB
          by_cases k0 : k = 0
          · have d1 : decide (1 ≤ (k : Int)) = false := decide_eq_false (by omega)
            have d2 : decide (0 < (k : Int)) = false := decide_eq_false (by omega)
            rw [show decide (1 ≤ k) = false from decide_eq_false (by omega), Bool.false_and] at hR
            have HR := Lib.hid hR
            clear hR
            go_wp2_with fail
            refine (HR.out w2).mono ?_
            rintro e w3 ⟨rfl, hb⟩
            have HB3 := Aside0.mk (HB2.out.trans (hb.mono HB2.out.size))
            clear hb
            go_wp2_with fail
            refine (texts_any _ (by omega) _ (HL.out.below HB3.out)).mono ?_
            rintro e w4 ⟨rfl, hb⟩
            have HB4 := Aside0.mk (HB3.out.trans (hb.mono HB3.out.size))
            clear hb HB3
            go_wp2_with (first
              | (at_builtin; go_loud (refine gate_guard (by rfl) (print_append_str w.heap.size rfl _ _ 22 9 5 rfl Tryz.underlying22 Tryz.underlying9 info_u8 _ [(0 : Int)] S rfl rfl (own_lit w4 w.heap.size _ .u8 [(0 : Int)] HB4.out.size (by simp)) (HB4.out.alloc HB4.out.size _) (HB4.out.alloc HB4.out.size _).size (by show 1 + S.size ≤ _; omega) ?_)))
              | fail)
            intro v1 w5 ho hb5 _
            have HO5 := Aside0.mk ho
            have HB5 := Aside0.mk hb5
            clear ho hb5 HB4
            go_wp2_with fail
            refine (bytes_own HO5.out (by simp) (by simp [bytesOf_length]; omega) (by intro z hz; rcases List.mem_cons.1 hz with h | h; (subst h; omega); exact bytesOf_wf _ _ h) (HL.out.below HB5.out)).mono ?_
            rintro e w6 ⟨rfl, hb⟩
            have HB6 := Aside0.mk (HB5.out.trans (hb.mono HB5.out.size))
            clear hb HB5 HO5
            go_wp2
            go_roundg (20 - k)
            case measure => omega
            case rel => exact ⟨1, by first | rfl | simp, by omega, by omega, HB6⟩
          · have d1 : decide (1 ≤ (k : Int)) = true := decide_eq_true (by omega)
            have d2 : decide (0 < (k : Int)) = true := decide_eq_true (by omega)
            rw [show decide (1 ≤ k) = true from decide_eq_true (by omega), Bool.true_and] at hR
            by_cases k12 : k ≤ 12
            · have d3 : decide ((k : Int) ≤ 12) = true := decide_eq_true (by omega)
              rw [show decide (k ≤ 12) = true from decide_eq_true (by omega)] at hR
              have HR := Lib.hid hR
              clear hR
              go_wp2_with fail
              refine (HR.out w2).mono ?_
              rintro e w3 ⟨rfl, hb⟩
              have HB3 := Aside0.mk (HB2.out.trans (hb.mono HB2.out.size))
              clear hb
              go_wp2_with fail
              refine (texts_any _ (by omega) _ (HL.out.below HB3.out)).mono ?_
              rintro e w4 ⟨rfl, hb⟩
              have HB4 := Aside0.mk (HB3.out.trans (hb.mono HB3.out.size))
              clear hb HB3
              go_wp2_with (first
                | (at_builtin; go_loud (refine gate_guard (by rfl) (print_append_str w.heap.size rfl _ _ 22 9 5 rfl Tryz.underlying22 Tryz.underlying9 info_u8 _ [(k : Int)] S rfl rfl (own_lit w4 w.heap.size _ .u8 [(k : Int)] HB4.out.size (by simp)) (HB4.out.alloc HB4.out.size _) (HB4.out.alloc HB4.out.size _).size (by show 1 + S.size ≤ _; omega) ?_)))
                | fail)
              intro v1 w5 ho hb5 _
              have HO5 := Aside0.mk ho
              have HB5 := Aside0.mk hb5
              clear ho hb5 HB4
              go_wp2_with fail
              refine (bytes_own HO5.out (by simp) (by simp [bytesOf_length]; omega) (by intro z hz; rcases List.mem_cons.1 hz with h | h; (subst h; omega); exact bytesOf_wf _ _ h) (HL.out.below HB5.out)).mono ?_
              rintro e w6 ⟨rfl, hb⟩
              have HB6 := Aside0.mk (HB5.out.trans (hb.mono HB5.out.size))
              clear hb HB5 HO5
              go_wp2_with (first
                | (at_builtin; refine gate_guard (by rfl) (print_append_str w.heap.size rfl _ _ 22 9 5 rfl Tryz.underlying22 Tryz.underlying9 info_u8 _ [(k : Int)] _ rfl rfl (own_lit w6 w.heap.size _ .u8 [(k : Int)] HB6.out.size (by simp)) (HB6.out.alloc HB6.out.size _) (HB6.out.alloc HB6.out.size _).size (by show 1 + ByteArray.size _ ≤ _; simp; omega) ?_))
                | fail)
              intro v2 w7 ho hb7 _
              have HO7 := Aside0.mk ho
              have HB7 := Aside0.mk hb7
              clear ho hb7 HB6
              go_wp2_with fail
              refine (bytes_own HO7.out (by simp) (by simp [bytesOf_length]; omega) (by intro z hz; rcases List.mem_cons.1 hz with h | h; (subst h; omega); exact bytesOf_wf _ _ h) (HL.out.below HB7.out)).mono ?_
              rintro e w8 ⟨rfl, hb⟩
              have HB8 := Aside0.mk (HB7.out.trans (hb.mono HB7.out.size))
              clear hb HB7 HO7
              go_wp2
              go_roundg (20 - k)
              case measure => omega
              case rel => exact ⟨k + 1, by simp, by omega, by omega, HB8⟩
            · have d3 : decide ((k : Int) ≤ 12) = false := decide_eq_false (by omega)
              rw [show decide (k ≤ 12) = false from decide_eq_false (by omega)] at hR
              have HR := Lib.hid hR
              clear hR
              go_wp2_with fail
              refine (HR.out w2).mono ?_
              rintro e w3 ⟨rfl, hb⟩
              have HB3 := Aside0.mk (HB2.out.trans (hb.mono HB2.out.size))
              clear hb
              go_wp2_with fail
              refine (texts_any _ (by omega) _ (HL.out.below HB3.out)).mono ?_
              rintro e w4 ⟨rfl, hb⟩
              have HB4 := Aside0.mk (HB3.out.trans (hb.mono HB3.out.size))
              clear hb HB3
              go_wp2_with (first
                | (at_builtin; go_loud (refine gate_guard (by rfl) (print_append_str w.heap.size rfl _ _ 22 9 5 rfl Tryz.underlying22 Tryz.underlying9 info_u8 _ [(k : Int)] S rfl rfl (own_lit w4 w.heap.size _ .u8 [(k : Int)] HB4.out.size (by simp)) (HB4.out.alloc HB4.out.size _) (HB4.out.alloc HB4.out.size _).size (by show 1 + S.size ≤ _; omega) ?_)))
                | fail)
              intro v1 w5 ho hb5 _
              have HO5 := Aside0.mk ho
              have HB5 := Aside0.mk hb5
              clear ho hb5 HB4
              go_wp2_with fail
              refine (bytes_own HO5.out (by simp) (by simp [bytesOf_length]; omega) (by intro z hz; rcases List.mem_cons.1 hz with h | h; (subst h; omega); exact bytesOf_wf _ _ h) (HL.out.below HB5.out)).mono ?_
              rintro e w6 ⟨rfl, hb⟩
              have HB6 := Aside0.mk (HB5.out.trans (hb.mono HB5.out.size))
              clear hb HB5 HO5
              go_wp2_with (first
                | (at_builtin; refine gate_guard (by rfl) (print_append_str w.heap.size rfl _ _ 22 9 5 rfl Tryz.underlying22 Tryz.underlying9 info_u8 _ [(k : Int)] _ rfl rfl (own_lit w6 w.heap.size _ .u8 [(k : Int)] HB6.out.size (by simp)) (HB6.out.alloc HB6.out.size _) (HB6.out.alloc HB6.out.size _).size (by show 1 + ByteArray.size _ ≤ _; simp; omega) ?_))
                | fail)
              intro v2 w7 ho hb7 _
              have HO7 := Aside0.mk ho
              have HB7 := Aside0.mk hb7
              clear ho hb7 HB6
              go_wp2_with fail
              refine (bytes_own HO7.out (by simp) (by simp [bytesOf_length]; omega) (by intro z hz; rcases List.mem_cons.1 hz with h | h; (subst h; omega); exact bytesOf_wf _ _ h) (HL.out.below HB7.out)).mono ?_
              rintro e w8 ⟨rfl, hb⟩
              have HB8 := Aside0.mk (HB7.out.trans (hb.mono HB7.out.size))
              clear hb HB7 HO7
              go_wp2
              go_roundg (20 - k)
              case measure => omega
              case rel => exact ⟨k + 1, by simp, by omega, by omega, HB8⟩
        · go_wp2
          have HON := Aside0.mk (own_lit wr 0 2 .i64 (yes.map (·.1)) (Nat.zero_le _) (by decide))
          have HBN := Aside0.mk (HB.out.alloc HB.out.size (.cells (nums .i64 (yes.map (·.1))).toArray 2))
          clear HB hk hk0 hkn
          generalize wr.heap.size = G at HON ⊢
          go_loopg [6] 10 (fun kq v6 wr => ∃ (k : Nat), v6 = .int .i64 k ∧ k + kq = 10 ∧ 0 < kq ∧ Aside0 (Below w.heap.size w wr) ∧ Aside0 (wr.ownsRow 0 2 1 (.slice (some ⟨G, 0, none⟩) 9 9) 9 (nums .i64 (yes.map (·.1)))))
          case atStart => exact ⟨0, rfl, by omega, by omega, HBN, HON⟩
          case round =>
            clear HBN HON
            obtain ⟨i, rfl, hi, hi0, HB, HO⟩ := hrel
            by_cases hin : i < 9
            · obtain ⟨p, hp, hpi⟩ : ∃ p, p ∈ yes ∧ (nums .i64 (yes.map (·.1)))[i]? = some (.int .i64 p.1) := by
                have hl : i < yes.length := hin
                exact ⟨yes[i], List.getElem_mem hl, by simp [nums, hl]⟩
              have hcell := HO.out.cellAt i (by omega)
              rw [hpi] at hcell
              have HP := Lib.hid hp
              have HPI := Lib.hid hpi
              clear hp hpi
              go_wp2_with fail
              refine (code_Text.calls p.1 p.2 wr (text_of p HP.out) (HL.out.below HB.out)).mono ?_
              rintro e w2 ⟨rfl, hb⟩
              have HB2 := Aside0.mk (HB.out.trans (hb.mono HB.out.size))
              have HO2 := Aside0.mk (own_below HO.out hb)
              clear hb hcell
              go_wp2_with fail
              refine (code_Number.calls p.2 p.1 true w2 (number_of_ref p.2 p.1 true (yes_small p HP.out).1 (yes_number p HP.out)) (HL.out.below HB2.out)).mono ?_
              rintro e w3 ⟨rfl, hb⟩
              have HB3 := Aside0.mk (HB2.out.trans (hb.mono HB2.out.size))
              have HO3 := Aside0.mk (own_below HO2.out hb)
              clear hb
              have hc3 := HO3.out.cellAt i (by omega)
              rw [HPI.out] at hc3
              go_wp2_with fail
              refine start_ (n := 23) (S := fun w' => w'.cell? ⟨G, i, none⟩ = some (.int .i64 p.1)) (ds := []) #[false, false, false, false, false, false, false, false, false, false, false, false, false, false, false, false, false, false, false, false, false, false, false] (by kernel_rfl) rfl rfl hc3 (fun hHeld => ?_); refine with_tabW codeNumbers.tab18 codeNumbers.bits18 (fun HT_ HW_ => ?_)
              have HB4 := Aside0.mk (below_drew1 HB3.out)
              have HO4 : Aside0 (w3.drew.ownsRow 0 2 1 (.slice (some ⟨G, 0, none⟩) 9 9) 9 (nums .i64 (yes.map (·.1)))) := ⟨HO3.out⟩
              generalize w3.drew = w4 at HB4 HO4 hHeld ⊢
              refine pure_ (i := 0) (N := some 132) (v := ?_) (a' := ?_) #[true, false, false, false, false, false, false, false, false, false, false, false, false, false, false, false, false, false, false, false, false, false, false] rfl rfl (any_of HT_.out (by kernel_rfl)) (fun _ _ _ h => h) (Or.inl ⟨by rfl, ?_⟩) ?_ ?_
              rotate_left
              · intro w'
                go_simp
                with_reducible rfl
              rotate_left
              · simp only [Act.put, List.setIfInBounds_toArray, List.set_cons_zero, List.set_cons_succ, i64_w, i32_w]
                rfl
              refine pure_ (i := 1) (N := some 133) (v := ?_) (a' := ?_) #[true, true, false, false, false, false, false, false, false, false, false, false, false, false, false, false, false, false, false, false, false, false, false] rfl rfl (any_of HT_.out (by kernel_rfl)) (fun _ _ _ h => h) (Or.inl ⟨by rfl, ?_⟩) ?_ ?_
              rotate_left
              · intro w'
                go_simp
                with_reducible rfl
              rotate_left
              · simp only [Act.put, List.setIfInBounds_toArray, List.set_cons_zero, List.set_cons_succ, i64_w, i32_w]
                rfl
              refine pure_ (i := 2) (N := some 134) (v := ?_) (a' := ?_) #[true, true, true, false, false, false, false, false, false, false, false, false, false, false, false, false, false, false, false, false, false, false, false] rfl rfl (any_of HT_.out (by kernel_rfl)) (fun _ _ _ h => h) (Or.inl ⟨by rfl, ?_⟩) ?_ ?_
              rotate_left
              · intro w'
                go_simp
                with_reducible rfl
              rotate_left
              · simp only [Act.put, List.setIfInBounds_toArray, List.set_cons_zero, List.set_cons_succ, i64_w, i32_w]
                rfl
              refine pure_ (i := 3) (N := some 135) (v := ?_) (a' := ?_) #[true, true, true, true, false, false, false, false, false, false, false, false, false, false, false, false, false, false, false, false, false, false, false] rfl rfl (any_of HT_.out (by kernel_rfl)) (fun _ _ _ h => h) (Or.inl ⟨by rfl, ?_⟩) ?_ ?_
              rotate_left
              · intro w'
                go_simp
                with_reducible rfl
              rotate_left
              · simp only [Act.put, List.setIfInBounds_toArray, List.set_cons_zero, List.set_cons_succ, i64_w, i32_w]
                rfl
              refine take_ (i := 4) (N := some 136) (v := ?_) (a' := ?_) #[true, true, true, true, true, false, false, false, false, false, false, false, false, false, false, false, false, false, false, false, false, false, false] rfl rfl (take_ofW HT_.out HW_.out (by kernel_rfl)) (fun _ _ _ h => h) (Or.inl ⟨by rfl, ?_⟩) hHeld ?_ ?_
              rotate_left
              · rintro w' hS
                have hc := hS
                go_simp
                with_reducible rfl
              rotate_left
              · simp only [Act.put, List.setIfInBounds_toArray, List.set_cons_zero, List.set_cons_succ, i64_w, i32_w]
                rfl
              refine pure_ (i := 5) (N := some 137) (v := ?_) (a' := ?_) #[true, true, true, true, true, true, false, false, false, false, false, false, false, false, false, false, false, false, false, false, false, false, false] rfl rfl (any_of HT_.out (by kernel_rfl)) (fun _ _ _ h => h) (Or.inl ⟨by rfl, ?_⟩) ?_ ?_
              rotate_left
              · intro w'
                go_simp
                with_reducible rfl
              rotate_left
              · simp only [Act.put, List.setIfInBounds_toArray, List.set_cons_zero, List.set_cons_succ, i64_w, i32_w]
                rfl
              refine pure_ (i := 6) (N := some 138) (v := ?_) (a' := ?_) #[true, true, true, true, true, true, true, false, false, false, false, false, false, false, false, false, false, false, false, false, false, false, false] rfl rfl (any_of HT_.out (by kernel_rfl)) (fun _ _ _ h => h) (Or.inl ⟨by rfl, ?_⟩) ?_ ?_
              rotate_left
              · intro w'
                go_simp
                with_reducible rfl
              rotate_left
              · simp only [Act.put, List.setIfInBounds_toArray, List.set_cons_zero, List.set_cons_succ, i64_w, i32_w]
                rfl
              refine pure_ (i := 7) (N := some 139) (v := ?_) (a' := ?_) #[true, true, true, true, true, true, true, true, false, false, false, false, false, false, false, false, false, false, false, false, false, false, false] rfl rfl (any_of HT_.out (by kernel_rfl)) (fun _ _ _ h => h) (Or.inl ⟨by rfl, ?_⟩) ?_ ?_
              rotate_left
              · intro w'
                go_simp
                with_reducible rfl
              rotate_left
              · simp only [Act.put, List.setIfInBounds_toArray, List.set_cons_zero, List.set_cons_succ, i64_w, i32_w]
                rfl
              refine pure_ (i := 8) (N := some 140) (v := ?_) (a' := ?_) #[true, true, true, true, true, true, true, true, true, false, false, false, false, false, false, false, false, false, false, false, false, false, false] rfl rfl (any_of HT_.out (by kernel_rfl)) (fun _ _ _ h => h) (Or.inl ⟨by rfl, ?_⟩) ?_ ?_
              rotate_left
              · intro w'
                go_simp
                with_reducible rfl
              rotate_left
              · simp only [Act.put, List.setIfInBounds_toArray, List.set_cons_zero, List.set_cons_succ, i64_w, i32_w]
                rfl
              refine pure_ (i := 9) (N := some 141) (v := ?_) (a' := ?_) #[true, true, true, true, true, true, true, true, true, true, false, false, false, false, false, false, false, false, false, false, false, false, false] rfl rfl (any_of HT_.out (by kernel_rfl)) (fun _ _ _ h => h) (Or.inl ⟨by rfl, ?_⟩) ?_ ?_
              rotate_left
              · intro w'
                go_simp
                with_reducible rfl
              rotate_left
              · simp only [Act.put, List.setIfInBounds_toArray, List.set_cons_zero, List.set_cons_succ, i64_w, i32_w]
                rfl
              refine pure_ (i := 10) (N := some 142) (v := ?_) (a' := ?_) #[true, true, true, true, true, true, true, true, true, true, true, false, false, false, false, false, false, false, false, false, false, false, false] rfl rfl (any_of HT_.out (by kernel_rfl)) (fun _ _ _ h => h) (Or.inl ⟨by rfl, ?_⟩) ?_ ?_
              rotate_left
              · intro w'
                go_simp
                with_reducible rfl
              rotate_left
              · simp only [Act.put, List.setIfInBounds_toArray, List.set_cons_zero, List.set_cons_succ, i64_w, i32_w]
                rfl
              refine pure_ (i := 11) (N := some 143) (v := ?_) (a' := ?_) #[true, true, true, true, true, true, true, true, true, true, true, true, false, false, false, false, false, false, false, false, false, false, false] rfl rfl (any_of HT_.out (by kernel_rfl)) (fun _ _ _ h => h) (Or.inl ⟨by rfl, ?_⟩) ?_ ?_
              rotate_left
              · intro w'
                go_simp
                with_reducible rfl
              rotate_left
              · simp only [Act.put, List.setIfInBounds_toArray, List.set_cons_zero, List.set_cons_succ, i64_w, i32_w]
                rfl
              refine pure_ (i := 12) (N := some 144) (v := ?_) (a' := ?_) #[true, true, true, true, true, true, true, true, true, true, true, true, true, false, false, false, false, false, false, false, false, false, false] rfl rfl (any_of HT_.out (by kernel_rfl)) (fun _ _ _ h => h) (Or.inl ⟨by rfl, ?_⟩) ?_ ?_
              rotate_left
              · intro w'
                go_simp
                with_reducible rfl
              rotate_left
              · simp only [Act.put, List.setIfInBounds_toArray, List.set_cons_zero, List.set_cons_succ, i64_w, i32_w]
                rfl
              refine pure_ (i := 13) (N := some 145) (v := ?_) (a' := ?_) #[true, true, true, true, true, true, true, true, true, true, true, true, true, true, false, false, false, false, false, false, false, false, false] rfl rfl (any_of HT_.out (by kernel_rfl)) (fun _ _ _ h => h) (Or.inl ⟨by rfl, ?_⟩) ?_ ?_
              rotate_left
              · intro w'
                go_simp
                with_reducible rfl
              rotate_left
              · simp only [Act.put, List.setIfInBounds_toArray, List.set_cons_zero, List.set_cons_succ, i64_w, i32_w]
                rfl
              refine take_ (i := 14) (N := some 146) (v := ?_) (a' := ?_) #[true, true, true, true, true, true, true, true, true, true, true, true, true, true, true, false, false, false, false, false, false, false, false] rfl rfl (take_ofW HT_.out HW_.out (by kernel_rfl)) (fun _ _ _ h => h) (Or.inl ⟨by rfl, ?_⟩) hHeld ?_ ?_
              rotate_left
              · rintro w' hS
                have hc := hS
                go_simp
                with_reducible rfl
              rotate_left
              · simp only [Act.put, List.setIfInBounds_toArray, List.set_cons_zero, List.set_cons_succ, i64_w, i32_w]
                rfl
              refine pure_ (i := 16) (N := some 148) (v := ?_) (a' := ?_) #[true, true, true, true, true, true, true, true, true, true, true, true, true, true, true, false, true, false, false, false, false, false, false] rfl rfl (any_of HT_.out (by kernel_rfl)) (fun _ _ _ h => h) (Or.inl ⟨by rfl, ?_⟩) ?_ ?_
              rotate_left
              · intro w'
                go_simp
                with_reducible rfl
              rotate_left
              · simp only [Act.put, List.setIfInBounds_toArray, List.set_cons_zero, List.set_cons_succ, i64_w, i32_w]
                rfl
              refine pure_ (i := 17) (N := some 149) (v := ?_) (a' := ?_) #[true, true, true, true, true, true, true, true, true, true, true, true, true, true, true, false, true, true, false, false, false, false, false] rfl rfl (any_of HT_.out (by kernel_rfl)) (fun _ _ _ h => h) (Or.inl ⟨by rfl, ?_⟩) ?_ ?_
              rotate_left
              · intro w'
                go_simp
                with_reducible rfl
              rotate_left
              · simp only [Act.put, List.setIfInBounds_toArray, List.set_cons_zero, List.set_cons_succ, i64_w, i32_w]
                rfl
              refine pure_ (i := 18) (N := some 150) (v := ?_) (a' := ?_) #[true, true, true, true, true, true, true, true, true, true, true, true, true, true, true, false, true, true, true, false, false, false, false] rfl rfl (any_of HT_.out (by kernel_rfl)) (fun _ _ _ h => h) (Or.inl ⟨by rfl, ?_⟩) ?_ ?_
              rotate_left
              · intro w'
                go_simp
                with_reducible rfl
              rotate_left
              · simp only [Act.put, List.setIfInBounds_toArray, List.set_cons_zero, List.set_cons_succ, i64_w, i32_w]
                rfl
              refine take_ (i := 19) (N := some 151) (v := ?_) (a' := ?_) #[true, true, true, true, true, true, true, true, true, true, true, true, true, true, true, false, true, true, true, true, false, false, false] rfl rfl (take_ofW HT_.out HW_.out (by kernel_rfl)) (fun _ _ _ h => h) (Or.inl ⟨by rfl, ?_⟩) hHeld ?_ ?_
              rotate_left
              · rintro w' hS
                have hc := hS
                go_simp
                with_reducible rfl
              rotate_left
              · simp only [Act.put, List.setIfInBounds_toArray, List.set_cons_zero, List.set_cons_succ, i64_w, i32_w]
                rfl
              refine one_ (i := 15) (N := some 147) #[true, true, true, true, true, true, true, true, true, true, true, true, true, true, true, true, true, true, true, true, false, false, false] rfl rfl (one_of HT_.out (by kernel_rfl)) (by decide) (fun K hK => ?_)
              refine goes_ Tryz.func50 (by kernel_rfl) rfl #[.int .i64 p.1] (by rfl) rfl rfl (by (try simp only [List.map_toArray, List.map_cons, List.map_nil]); first | done | rfl) ?_
              refine (code_Text.calls p.1 p.2 w4 (text_of p HP.out) (HL.out.below HB4.out)).mono ?_
              rintro e w5 ⟨rfl, hb⟩
              refine ⟨_, rfl, ?_⟩
              have HB5 := Aside0.mk (HB4.out.trans (hb.mono HB4.out.size))
              have HO5 := Aside0.mk (own_below HO4.out hb)
              refine hK.out _ _ (keep_cell hb hHeld) (fun hHeld => ?_)
              clear hK K
              refine norm_ (a' := ?_) ?_ ?_
              rotate_left
              · show Act.put _ (some 147) _ = _
                simp only [Act.put, List.setIfInBounds_toArray, List.set_cons_zero, List.set_cons_succ, i64_w, i32_w]
                rfl
              refine one_ (i := 20) (N := some 152) #[true, true, true, true, true, true, true, true, true, true, true, true, true, true, true, true, true, true, true, true, true, false, false] rfl rfl (one_of HT_.out (by kernel_rfl)) (by decide) (fun K hK => ?_)
              refine goes_ Tryz.func51 (by kernel_rfl) rfl #[.int .i64 p.1] (by rfl) rfl rfl (by (try simp only [List.map_toArray, List.map_cons, List.map_nil]); first | done | rfl) ?_
              refine (R.storemanref03_Text.calls 60 p.1 p.2 w5 (yes_text p HP.out)).mono ?_
              rintro e w6 ⟨rfl, hb⟩
              refine ⟨_, rfl, ?_⟩
              have HB6 := Aside0.mk (HB5.out.trans (hb.mono HB5.out.size))
              have HO6 := Aside0.mk (own_below HO5.out hb)
              refine hK.out _ _ (keep_cell hb hHeld) (fun hHeld => ?_)
              clear hK K
              refine norm_ (a' := ?_) ?_ ?_
              rotate_left
              · show Act.put _ (some 152) _ = _
                simp only [Act.put, List.setIfInBounds_toArray, List.set_cons_zero, List.set_cons_succ, i64_w, i32_w]
                rfl
              refine pure_ (i := 21) (N := some 153) (v := ?_) (a' := ?_) #[true, true, true, true, true, true, true, true, true, true, true, true, true, true, true, true, true, true, true, true, true, true, false] rfl rfl (any_of HT_.out (by kernel_rfl)) (fun _ _ _ h => h) (Or.inl ⟨by rfl, ?_⟩) ?_ ?_
              rotate_left
              · intro w'
                go_simp
                with_reducible rfl
              rotate_left
              · simp only [Act.put, List.setIfInBounds_toArray, List.set_cons_zero, List.set_cons_succ, i64_w, i32_w]
                rfl
              refine pure_ (i := 22) (N := some 154) (v := ?_) (a' := ?_) #[true, true, true, true, true, true, true, true, true, true, true, true, true, true, true, true, true, true, true, true, true, true, true] rfl rfl (any_of HT_.out (by kernel_rfl)) (fun _ _ _ h => h) (Or.inl ⟨by rfl, ?_⟩) ?_ ?_
              rotate_left
              · intro w'
                go_simp
                with_reducible rfl
              rotate_left
              · simp only [Act.put, List.setIfInBounds_toArray, List.set_cons_zero, List.set_cons_succ, i64_w, i32_w]
                rfl
              refine done_ (done_of HT_.out (by kernel_rfl)) ?_
              go_wp2
              go_roundg (9 - i)
              case measure => omega
              case rel => exact ⟨i + 1, by simp, by omega, by omega, HB6, HO6⟩
            · go_wp2
              have HON := Aside0.mk (own_lit_of (enc := Value.string) wr 0 9 nos (Nat.zero_le _) (by decide))
              have HBN := Aside0.mk (HB.out.alloc HB.out.size (.cells (encs Value.string nos).toArray 9))
              clear HB hi hi0 hin HO
              generalize wr.heap.size = G at HON ⊢
              go_loopg [10] 17 (fun kq v10 wr => ∃ (k : Nat), v10 = .int .i64 k ∧ k + kq = 17 ∧ 0 < kq ∧ Aside0 (Below w.heap.size w wr) ∧ Aside0 (wr.ownsRow 0 9 1 (.slice (some ⟨G, 0, none⟩) 16 16) 16 (encs Value.string nos)))
              case atStart => exact ⟨0, rfl, by omega, by omega, HBN, HON⟩
              case round =>
                clear HBN HON
                obtain ⟨i, rfl, hi, hi0, HB, HO⟩ := hrel
                by_cases hin : i < 16
                · obtain ⟨p, hp, hpi⟩ : ∃ p, p ∈ nos ∧ (encs Value.string nos)[i]? = some (.string p) := by
                    have hl : i < nos.length := hin
                    exact ⟨nos[i], List.getElem_mem hl, by simp [encs, hl]⟩
                  have hcell := HO.out.cellAt i (by omega)
                  rw [hpi] at hcell
                  have HP := Lib.hid hp
                  clear hp hpi
                  go_wp2_with fail
                  refine (code_Number.calls p 0 false wr (number_of_ref p 0 false (nos_small p HP.out) (nos_none p HP.out)) (HL.out.below HB.out)).mono ?_
                  rintro e w2 ⟨rfl, hb⟩
                  have HB2 := Aside0.mk (HB.out.trans (hb.mono HB.out.size))
                  have HO2 := Aside0.mk (own_below HO.out hb)
                  clear hb hcell
                  go_wp2
                  go_roundg (16 - i)
                  case measure => omega
                  case rel => exact ⟨i + 1, by simp, by omega, by omega, HB2, HO2⟩
                · go_wp2_with fail
                  refine (C.storemanlaw03_awake.calls 10 true wr (awake03 10 (by decide)) (HL.out.below HB.out)).mono ?_
                  rintro e w2 ⟨rfl, hb⟩
                  have HB2 := Aside0.mk (HB.out.trans (hb.mono HB.out.size))
                  clear hb
                  go_wp2
                  go_ret
                  exact ⟨rfl, HB2.out⟩
end Go.Proofs.YtkpedlhofalnjaaGreatDoor
