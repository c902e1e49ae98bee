/- KeptTexts, KeptParts, SameParts, SameTexts, SameAsk. -/
import Derived.Test.YtkpedlhofalnjaaGreatDoorM14
import Derived.Test.YtkpedlhofalnjaaGreatDoorM1
import Derived.Test.YtkpedlhofalnjaaGreatDoorM2

section
/- storemankit's KeptTexts, of a list that was lent and is as it was: true. -/
namespace Go.Proofs.YtkpedlhofalnjaaGreatDoor
open Go.RowKit Go.Proofs.YtkpedlhofalnjaaGreatDoorW.PrintWords Go.Proofs.YtkpedlhofalnjaaGreatDoorW.PrintLast Go.Proofs.YtkpedlhofalnjaaGreatDoorW.PrintMore

set_option linter.unusedSimpArgs false
set_option linter.unusedVariables false
def bitsATexts (n m : Nat) : Array Bool := ((List.range n).map fun i => m.testBit i).toArray
namespace keptTexts
noncomputable def T7 : Bool × List (List Nat × List Nat) := rtab .any (opsOf Tryz.f89 7)
def B7 : List Nat := [0, 0, 2, 7, 15, 31, 31, 127, 255, 31, 31, 1567, 3615, 8191, 16383, 32767, 65535, 131071, 131071, 393215, 1048575, 2097151, 4194303, 4194303, 16777215, 33554431, 4194303, 4194303, 138412031, 473956351, 1010827263, 2147483647, 4294967295, 8589934591, 17179869183]
theorem tab7 : rtab .any (opsOf Tryz.f89 7) = T7 := rfl
theorem bits7 : waitsOk T7.2 B7 = true := by kernel_rfl
end keptTexts

set_option maxRecDepth 100000 in
set_option maxHeartbeats 4000000 in
theorem kept_texts (g : Nat) (l : List ByteArray) (A1 : Option Addr) (c1 : Nat) (base : Nat) (w : World) (hn : l.length ≤ 1000000)
    (ho : w.ownsRow base 9 1 (.slice (some ⟨g, 0, none⟩) (l.length + 12) (l.length + 12)) (l.length + 12) (encTexts.cells (l ++ marksTexts 1 0 12))) (hr : encTexts.kd.C w A1 l.length l) :
    Calls Tryz.prog 89 #[.slice (some ⟨g, 0, none⟩) l.length (l.length + 12), .slice A1 l.length c1] w fun e w' => e = .returned (.bool true) ∧ Below w.heap.size w w' := by
  obtain ⟨i0, hi, hz0, hz1, hz2⟩ := info_parts infoE_texts
  have hcut : ∀ W : World, (Instr.slice 36 (.slice (some ⟨g, 0, none⟩) l.length (l.length + 12)) none (some (.int .i64 ((l.length : Int) + 12))) none).run Tryz.prog W = .ok (.slice (some ⟨g, 0, none⟩) (l.length + 12) (l.length + 12)) W := by
    intro W
    have hel : Tryz.prog.elem 36 = 9 := by simp [Program.elem, Tryz.underlying36]
    have hu : Tryz.prog.underlying 36 = some (.slice (Tryz.prog.elem 36)) := by rw [hel]; exact Tryz.underlying36
    rw [run_slice_h W 36 (some ⟨g, 0, none⟩) l.length (l.length + 12) hu .i64 ((l.length : Int) + 12) (by omega) (by omega), hel, show ((l.length : Int) + 12).toNat = l.length + 12 by omega]
    simp [sizeOf, typeInfo, hi, hz1, sliced, Result.andThen, Addr.add]
  have HO := Aside0.mk ho
  have HR := Aside0.mk hr
  clear ho hr
  go_enter Tryz.func89, Tryz.ntmps89
  go_wp2
  go_loopg [6] (l.length + 13) (fun kq v6 wr => ∃ (i : Nat), v6 = .int .i64 i ∧ i + kq = l.length + 13 ∧ 0 < kq ∧ Aside0 (Below w.heap.size w wr))
  case atStart => exact ⟨0, rfl, by omega, by omega, ⟨Below.refl _ _⟩⟩
  case round =>
    obtain ⟨i, rfl, hi1, hi0, HB⟩ := hrel
    have HO1 := Aside0.mk (ownS_below HO.out HB.out)
    have hall := Enc.own_reads (E := encTexts) HO1.out (l.length + 12) (Nat.le_refl _) (by omega) _ (List.take_of_length_le (by rw [List.length_append, marksTexts_length]; exact Nat.le_refl _))
    have HALL := Aside0.mk hall
    clear hall
    by_cases hin : i < l.length + 12
    · by_cases hil : i < l.length
      · have hx := List.getElem?_eq_getElem hil
        obtain ⟨ad, rfl, hcs⟩ := Enc.cell_at (Kd.C_below HR.out HB.out) i _ hx
        obtain ⟨ad2, e2, hcg⟩ := Enc.cell_at HALL.out i _ (by rw [List.getElem?_append_left hil]; exact hx)
        cases e2
        clear hx
        generalize l[i] = x at hcs hcg
        replace hcg : ∀ j u, (encTexts.enc x)[j]? = some u → wr.cell? ⟨g, i * encTexts.sz + j, none⟩ = some u := fun j u hu => by have := hcg j u hu; rwa [Addr.add_lit, Nat.zero_add] at this
        simp only [encTexts_sz, Nat.mul_one] at hcs hcg
        have hc0 : wr.cell? ⟨g, i, none⟩ = some (.string x) := hcg 0 _ rfl
        have hs0 : wr.cell? (ad.add (i)) = some (.string x) := hcs 0 _ rfl
        clear hcs hcg
        have hb1 : decide (i < l.length) = true := decide_eq_true hil
        have hb2 : decide (l.length ≤ i) = false := decide_eq_false (by omega)
        go_wp2
        go_quiet (fail)
        go_wp2
        go_roundg (l.length + 12 - i)
        case measure => omega
        case rel => exact ⟨i + 1, by simp, by omega, by omega, ⟨pw_below_drewN HB.out _⟩⟩
      · obtain ⟨ad2, e2, hcg⟩ := Enc.cell_at HALL.out i (markTexts 1 ((i : Int) - (l.length : Int))) (by
          rw [List.getElem?_append_right (by omega), marksTexts_get 1 0 12 (i - l.length) (by omega), show ((0 + (i - l.length) : Nat) : Int) = (i : Int) - (l.length : Int) by omega])
        cases e2
        replace hcg : ∀ q u, (encTexts.enc (markTexts 1 ((i : Int) - (l.length : Int))))[q]? = some u → wr.cell? ⟨g, i * encTexts.sz + q, none⟩ = some u := fun q u hu => by have := hcg q u hu; rwa [Addr.add_lit, Nat.zero_add] at this
        simp only [encTexts_sz, Nat.mul_one] at hcg
        have hglt : g < wr.heap.size := (HO1.out.lt g rfl).2
        have hc0 : ∀ w', Below wr.heap.size wr w' → w'.cell? ⟨g, i, none⟩ = some (.string (textMark 1 ((i : Int) - (l.length : Int)))) := fun w' h => (h.cell (p := ⟨g, i, none⟩) hglt).trans (hcg 0 _ rfl)
        clear hcg
        have hb1 : decide (i < l.length) = false := decide_eq_false (by omega)
        have hb2 : decide (l.length ≤ i) = true := decide_eq_true (by omega)
        have hw1 : IntKind.i64.wrap ((i : Int) - (l.length : Int)) = (i : Int) - (l.length : Int) := by rw [i64_w]; unfold wrap64; omega
        have hw2 : wrap64 ((i : Int) - (l.length : Int)) = (i : Int) - (l.length : Int) := by unfold wrap64; omega
        go_wp2
        refine start_ (n := 35) (S := fun w' => Below wr.heap.size wr w') (ds := []) (bitsATexts 35 0) (by kernel_rfl) rfl (by kernel_rfl) (below_drew1 (Below.refl _ _)) (fun hHeld => ?_); refine with_tabW keptTexts.tab7 keptTexts.bits7 (fun HT_ HW_ => ?_)
        generalize wr.drew = w15 at hHeld ⊢
        refine pure_ (i := 0) (N := some 23) (v := ?_) (a' := ?_) (bitsATexts 35 1) rfl rfl (any_of HT_.out (by kernel_rfl)) (fun _ _ _ h => h) (Or.inl ⟨by rfl, ?_⟩) ?_ ?_
        rotate_left
        · intro w'
          go_simp
          with_reducible rfl
        rotate_left
        · simp only [Act.put, List.setIfInBounds_toArray, List.set_cons_zero, List.set_cons_succ, i64_w, i32_w]
          rfl
        refine pure_ (i := 1) (N := some 24) (v := ?_) (a' := ?_) (bitsATexts 35 3) rfl rfl (any_of HT_.out (by kernel_rfl)) (fun _ _ _ h => h) (Or.inl ⟨by rfl, ?_⟩) ?_ ?_
        rotate_left
        · intro w'
          go_simp
          with_reducible rfl
        rotate_left
        · simp only [Act.put, List.setIfInBounds_toArray, List.set_cons_zero, List.set_cons_succ, i64_w, i32_w]
          rfl
        refine pure_ (i := 2) (N := some 25) (v := ?_) (a' := ?_) (bitsATexts 35 7) rfl rfl (any_of HT_.out (by kernel_rfl)) (fun _ _ _ h => h) (Or.inl ⟨by rfl, ?_⟩) ?_ ?_
        rotate_left
        · intro w'
          go_simp
          with_reducible rfl
        rotate_left
        · simp only [Act.put, List.setIfInBounds_toArray, List.set_cons_zero, List.set_cons_succ, i64_w, i32_w]
          rfl
        refine pure_ (i := 3) (N := some 26) (v := ?_) (a' := ?_) (bitsATexts 35 15) rfl rfl (any_of HT_.out (by kernel_rfl)) (fun _ _ _ h => h) (Or.inl ⟨by rfl, ?_⟩) ?_ ?_
        rotate_left
        · intro w'
          go_simp
          with_reducible rfl
        rotate_left
        · simp only [Act.put, List.setIfInBounds_toArray, List.set_cons_zero, List.set_cons_succ, i64_w, i32_w]
          rfl
        refine pure_ (i := 4) (N := some 27) (v := ?_) (a' := ?_) (bitsATexts 35 31) rfl rfl (any_of HT_.out (by kernel_rfl)) (fun _ _ _ h => h) (Or.inl ⟨by rfl, ?_⟩) ?_ ?_
        rotate_left
        · intro w'
          go_simp
          with_reducible rfl
        rotate_left
        · simp only [Act.put, List.setIfInBounds_toArray, List.set_cons_zero, List.set_cons_succ, i64_w, i32_w]
          rfl
        refine pure_ (i := 5) (N := some 28) (v := undef) (a' := ?_) (bitsATexts 35 63) rfl rfl (any_of HT_.out (by kernel_rfl)) (fun _ _ _ h => h) (Or.inr ⟨by rfl, rfl⟩) ?_ ?_
        rotate_left
        · simp only [Act.put, List.setIfInBounds_toArray, List.set_cons_zero, List.set_cons_succ, i64_w, i32_w]
          rfl
        refine pure_ (i := 6) (N := some 29) (v := undef) (a' := ?_) (bitsATexts 35 127) rfl rfl (any_of HT_.out (by kernel_rfl)) (fun _ _ _ h => h) (Or.inr ⟨by rfl, rfl⟩) ?_ ?_
        rotate_left
        · simp only [Act.put, List.setIfInBounds_toArray, List.set_cons_zero, List.set_cons_succ, i64_w, i32_w]
          rfl
        refine pure_ (i := 7) (N := some 30) (v := undef) (a' := ?_) (bitsATexts 35 255) rfl rfl (any_of HT_.out (by kernel_rfl)) (fun _ _ _ h => h) (Or.inr ⟨by rfl, rfl⟩) ?_ ?_
        rotate_left
        · simp only [Act.put, List.setIfInBounds_toArray, List.set_cons_zero, List.set_cons_succ, i64_w, i32_w]
          rfl
        refine pure_ (i := 8) (N := some 31) (v := undef) (a' := ?_) (bitsATexts 35 511) rfl rfl (any_of HT_.out (by kernel_rfl)) (fun _ _ _ h => h) (Or.inr ⟨by rfl, rfl⟩) ?_ ?_
        rotate_left
        · simp only [Act.put, List.setIfInBounds_toArray, List.set_cons_zero, List.set_cons_succ, i64_w, i32_w]
          rfl
        refine pure_ (i := 9) (N := some 32) (v := undef) (a' := ?_) (bitsATexts 35 1023) rfl rfl (any_of HT_.out (by kernel_rfl)) (fun _ _ _ h => h) (Or.inr ⟨by rfl, rfl⟩) ?_ ?_
        rotate_left
        · simp only [Act.put, List.setIfInBounds_toArray, List.set_cons_zero, List.set_cons_succ, i64_w, i32_w]
          rfl
        refine pure_ (i := 10) (N := some 33) (v := undef) (a' := ?_) (bitsATexts 35 2047) rfl rfl (any_of HT_.out (by kernel_rfl)) (fun _ _ _ h => h) (Or.inr ⟨by rfl, rfl⟩) ?_ ?_
        rotate_left
        · simp only [Act.put, List.setIfInBounds_toArray, List.set_cons_zero, List.set_cons_succ, i64_w, i32_w]
          rfl
        refine pure_ (i := 11) (N := some 34) (v := undef) (a' := ?_) (bitsATexts 35 4095) rfl rfl (any_of HT_.out (by kernel_rfl)) (fun _ _ _ h => h) (Or.inr ⟨by rfl, rfl⟩) ?_ ?_
        rotate_left
        · simp only [Act.put, List.setIfInBounds_toArray, List.set_cons_zero, List.set_cons_succ, i64_w, i32_w]
          rfl
        refine pure_ (i := 12) (N := some 35) (v := undef) (a' := ?_) (bitsATexts 35 8191) rfl rfl (any_of HT_.out (by kernel_rfl)) (fun _ _ _ h => h) (Or.inr ⟨by rfl, rfl⟩) ?_ ?_
        rotate_left
        · simp only [Act.put, List.setIfInBounds_toArray, List.set_cons_zero, List.set_cons_succ, i64_w, i32_w]
          rfl
        refine pure_ (i := 13) (N := some 36) (v := undef) (a' := ?_) (bitsATexts 35 16383) rfl rfl (any_of HT_.out (by kernel_rfl)) (fun _ _ _ h => h) (Or.inr ⟨by rfl, rfl⟩) ?_ ?_
        rotate_left
        · simp only [Act.put, List.setIfInBounds_toArray, List.set_cons_zero, List.set_cons_succ, i64_w, i32_w]
          rfl
        refine pure_ (i := 14) (N := some 37) (v := undef) (a' := ?_) (bitsATexts 35 32767) rfl rfl (any_of HT_.out (by kernel_rfl)) (fun _ _ _ h => h) (Or.inr ⟨by rfl, rfl⟩) ?_ ?_
        rotate_left
        · simp only [Act.put, List.setIfInBounds_toArray, List.set_cons_zero, List.set_cons_succ, i64_w, i32_w]
          rfl
        refine pure_ (i := 15) (N := some 38) (v := ?_) (a' := ?_) (bitsATexts 35 65535) rfl rfl (any_of HT_.out (by kernel_rfl)) (fun _ _ _ h => h) (Or.inl ⟨by rfl, ?_⟩) ?_ ?_
        rotate_left
        · intro w'
          go_simp
          with_reducible rfl
        rotate_left
        · simp only [Act.put, List.setIfInBounds_toArray, List.set_cons_zero, List.set_cons_succ, i64_w, i32_w]
          rfl
        refine pure_ (i := 16) (N := some 39) (v := ?_) (a' := ?_) (bitsATexts 35 131071) rfl rfl (any_of HT_.out (by kernel_rfl)) (fun _ _ _ h => h) (Or.inl ⟨by rfl, ?_⟩) ?_ ?_
        rotate_left
        · intro w'
          go_simp
          with_reducible rfl
        rotate_left
        · simp only [Act.put, List.setIfInBounds_toArray, List.set_cons_zero, List.set_cons_succ, i64_w, i32_w]
          rfl
        refine pure_ (i := 17) (N := some 40) (v := ?_) (a' := ?_) (bitsATexts 35 262143) rfl rfl (any_of HT_.out (by kernel_rfl)) (fun _ _ _ h => h) (Or.inl ⟨by rfl, ?_⟩) ?_ ?_
        rotate_left
        · intro w'
          go_simp
          with_reducible rfl
        rotate_left
        · simp only [Act.put, List.setIfInBounds_toArray, List.set_cons_zero, List.set_cons_succ, i64_w, i32_w]
          rfl
        refine pure_ (i := 18) (N := some 41) (v := ?_) (a' := ?_) (bitsATexts 35 524287) rfl rfl (any_of HT_.out (by kernel_rfl)) (fun _ _ _ h => h) (Or.inl ⟨by rfl, ?_⟩) ?_ ?_
        rotate_left
        · intro w'
          go_simp
          with_reducible rfl
        rotate_left
        · simp only [Act.put, List.setIfInBounds_toArray, List.set_cons_zero, List.set_cons_succ, i64_w, i32_w]
          rfl
        refine pure_ (i := 19) (N := some 42) (v := ?_) (a' := ?_) (bitsATexts 35 1048575) rfl rfl (any_of HT_.out (by kernel_rfl)) (fun _ _ _ h => h) (Or.inl ⟨by rfl, ?_⟩) ?_ ?_
        rotate_left
        · intro w'
          go_simp
          with_reducible rfl
        rotate_left
        · simp only [Act.put, List.setIfInBounds_toArray, List.set_cons_zero, List.set_cons_succ, i64_w, i32_w]
          rfl
        refine pure_ (i := 20) (N := some 43) (v := ?_) (a' := ?_) (bitsATexts 35 2097151) rfl rfl (any_of HT_.out (by kernel_rfl)) (fun _ _ _ h => h) (Or.inl ⟨by rfl, ?_⟩) ?_ ?_
        rotate_left
        · intro w'
          go_simp
          with_reducible rfl
        rotate_left
        · simp only [Act.put, List.setIfInBounds_toArray, List.set_cons_zero, List.set_cons_succ, i64_w, i32_w]
          rfl
        refine pure_ (i := 21) (N := some 44) (v := ?_) (a' := ?_) (bitsATexts 35 4194303) rfl rfl (any_of HT_.out (by kernel_rfl)) (fun _ _ _ h => h) (Or.inl ⟨by rfl, ?_⟩) ?_ ?_
        rotate_left
        · intro w'
          go_simp
          with_reducible rfl
        rotate_left
        · simp only [Act.put, List.setIfInBounds_toArray, List.set_cons_zero, List.set_cons_succ, i64_w, i32_w]
          rfl
        refine pure_ (i := 22) (N := some 45) (v := ?_) (a' := ?_) (bitsATexts 35 8388607) rfl rfl (any_of HT_.out (by kernel_rfl)) (fun _ _ _ h => h) (Or.inl ⟨by rfl, ?_⟩) ?_ ?_
        rotate_left
        · intro w'
          go_simp
          with_reducible rfl
        rotate_left
        · simp only [Act.put, List.setIfInBounds_toArray, List.set_cons_zero, List.set_cons_succ, i64_w, i32_w]
          rfl
        refine pure_ (i := 23) (N := some 46) (v := ?_) (a' := ?_) (bitsATexts 35 16777215) rfl rfl (any_of HT_.out (by kernel_rfl)) (fun _ _ _ h => h) (Or.inl ⟨by rfl, ?_⟩) ?_ ?_
        rotate_left
        · intro w'
          go_simp
          with_reducible rfl
        rotate_left
        · simp only [Act.put, List.setIfInBounds_toArray, List.set_cons_zero, List.set_cons_succ, i64_w, i32_w]
          rfl
        refine pure_ (i := 24) (N := some 47) (v := ?_) (a' := ?_) (bitsATexts 35 33554431) rfl rfl (any_of HT_.out (by kernel_rfl)) (fun _ _ _ h => h) (Or.inl ⟨by rfl, ?_⟩) ?_ ?_
        rotate_left
        · intro w'
          go_simp
          with_reducible rfl
        rotate_left
        · simp only [Act.put, List.setIfInBounds_toArray, List.set_cons_zero, List.set_cons_succ, i64_w, i32_w]
          rfl
        refine take_ (i := 25) (N := some 48) (v := ?_) (a' := ?_) (bitsATexts 35 67108863) rfl rfl (take_ofW HT_.out HW_.out (by kernel_rfl)) (fun _ _ _ h => h) (Or.inl ⟨by rfl, ?_⟩) hHeld ?_ ?_
        rotate_left
        · rintro w' hS
          have hc0 := hc0 w' hS
          go_simp
          with_reducible rfl
        rotate_left
        · simp only [Act.put, List.setIfInBounds_toArray, List.set_cons_zero, List.set_cons_succ, i64_w, i32_w]
          rfl
        refine pure_ (i := 26) (N := some 49) (v := ?_) (a' := ?_) (bitsATexts 35 134217727) rfl rfl (any_of HT_.out (by kernel_rfl)) (fun _ _ _ h => h) (Or.inl ⟨by rfl, ?_⟩) ?_ ?_
        rotate_left
        · intro w'
          go_simp
          with_reducible rfl
        rotate_left
        · simp only [Act.put, List.setIfInBounds_toArray, List.set_cons_zero, List.set_cons_succ, i64_w, i32_w]
          rfl
        refine pure_ (i := 27) (N := some 50) (v := ?_) (a' := ?_) (bitsATexts 35 268435455) rfl rfl (any_of HT_.out (by kernel_rfl)) (fun _ _ _ h => h) (Or.inl ⟨by rfl, ?_⟩) ?_ ?_
        rotate_left
        · intro w'
          go_simp
          with_reducible rfl
        rotate_left
        · simp only [Act.put, List.setIfInBounds_toArray, List.set_cons_zero, List.set_cons_succ, i64_w, i32_w]
          rfl
        refine pure_ (i := 28) (N := some 51) (v := ?_) (a' := ?_) (bitsATexts 35 536870911) rfl rfl (any_of HT_.out (by kernel_rfl)) (fun _ _ _ h => h) (Or.inl ⟨by rfl, ?_⟩) ?_ ?_
        rotate_left
        · intro w'
          go_simp
          with_reducible rfl
        rotate_left
        · simp only [Act.put, List.setIfInBounds_toArray, List.set_cons_zero, List.set_cons_succ, i64_w, i32_w]
          rfl
        refine pure_ (i := 29) (N := some 52) (v := ?_) (a' := ?_) (bitsATexts 35 1073741823) rfl rfl (any_of HT_.out (by kernel_rfl)) (fun _ _ _ h => h) (Or.inl ⟨by rfl, ?_⟩) ?_ ?_
        rotate_left
        · intro w'
          go_simp
          with_reducible rfl
        rotate_left
        · simp only [Act.put, List.setIfInBounds_toArray, List.set_cons_zero, List.set_cons_succ, i64_w, i32_w]
          rfl
        refine one_ (i := 30) (N := some 53) (bitsATexts 35 2147483647) rfl rfl (one_of HT_.out (by kernel_rfl)) (by decide) (fun K hK => ?_)
        refine goes_ Tryz.func160 (by kernel_rfl) rfl #[.int .i64 1, .int .i64 ((i : Int) - (l.length : Int))] (by rfl) rfl rfl (by (try simp only [List.map_toArray, List.map_cons, List.map_nil]); first | done | rfl) ?_
        refine (markTexts_calls 1 _ _).mono ?_
        rintro e w16 ⟨rfl, hd⟩
        refine ⟨_, rfl, ?_⟩
        have hHeld2 : Below wr.heap.size wr w16 := hHeld.trans (hd.mono hHeld.size)
        refine hK.out _ _ hHeld2 (fun hHeld => ?_)
        clear hK K
        refine norm_ (a' := ?_) ?_ ?_
        rotate_left
        · show Act.put _ (some 53) _ = _
          simp only [Act.put, List.setIfInBounds_toArray, List.set_cons_zero, List.set_cons_succ, i64_w, i32_w]
          rfl
        refine pure_ (i := 31) (N := some 54) (v := ?_) (a' := ?_) (bitsATexts 35 4294967295) rfl rfl (any_of HT_.out (by kernel_rfl)) (fun _ _ _ h => h) (Or.inl ⟨by rfl, ?_⟩) ?_ ?_
        rotate_left
        · intro w'
          go_simp
          with_reducible rfl
        rotate_left
        · simp only [Act.put, List.setIfInBounds_toArray, List.set_cons_zero, List.set_cons_succ, i64_w, i32_w]
          rfl
        refine pure_ (i := 32) (N := some 55) (v := ?_) (a' := ?_) (bitsATexts 35 8589934591) rfl rfl (any_of HT_.out (by kernel_rfl)) (fun _ _ _ h => h) (Or.inl ⟨by rfl, ?_⟩) ?_ ?_
        rotate_left
        · intro w'
          go_simp
          with_reducible rfl
        rotate_left
        · simp only [Act.put, List.setIfInBounds_toArray, List.set_cons_zero, List.set_cons_succ, i64_w, i32_w]
          rfl
        refine pure_ (i := 33) (N := some 56) (v := ?_) (a' := ?_) (bitsATexts 35 17179869183) rfl rfl (any_of HT_.out (by kernel_rfl)) (fun _ _ _ h => h) (Or.inl ⟨by rfl, ?_⟩) ?_ ?_
        rotate_left
        · intro w'
          go_simp
          with_reducible rfl
        rotate_left
        · simp only [Act.put, List.setIfInBounds_toArray, List.set_cons_zero, List.set_cons_succ, i64_w, i32_w]
          rfl
        refine pure_ (i := 34) (N := some 57) (v := ?_) (a' := ?_) (bitsATexts 35 34359738367) rfl rfl (any_of HT_.out (by kernel_rfl)) (fun _ _ _ h => h) (Or.inl ⟨by rfl, ?_⟩) ?_ ?_
        rotate_left
        · intro w'
          go_simp
          with_reducible rfl
        rotate_left
        · simp only [Act.put, List.setIfInBounds_toArray, List.set_cons_zero, List.set_cons_succ, i64_w, i32_w]
          rfl
        refine done_ (done_of HT_.out (by kernel_rfl)) ?_
        go_wp2
        go_roundg (l.length + 12 - i)
        case measure => omega
        case rel => exact ⟨i + 1, by simp, by omega, by omega, ⟨HB.out.trans (hHeld.mono HB.out.size)⟩⟩
    · obtain rfl : i = l.length + 12 := by omega
      go_wp2
      go_ret
      exact ⟨rfl, HB.out⟩
end Go.Proofs.YtkpedlhofalnjaaGreatDoor
end

section
/- storemankit's KeptParts, of a list that was lent and is as it was: true. -/
namespace Go.Proofs.YtkpedlhofalnjaaGreatDoor
open Go.RowKit Go.Proofs.YtkpedlhofalnjaaGreatDoorW.PrintWords Go.Proofs.YtkpedlhofalnjaaGreatDoorW.PrintLast Go.Proofs.YtkpedlhofalnjaaGreatDoorW.PrintMore

set_option linter.unusedSimpArgs false
set_option linter.unusedVariables false
def bitsAParts (n m : Nat) : Array Bool := ((List.range n).map fun i => m.testBit i).toArray
namespace keptParts
noncomputable def T7 : Bool × List (List Nat × List Nat) := rtab .any (opsOf Tryz.f88 7)
def B7 : List Nat := [0, 0, 2, 7, 15, 31, 31, 127, 255, 31, 31, 1567, 3615, 8191, 16383, 32767, 65535, 131071, 131071, 393215, 1048575, 2097151, 4194303, 4194303, 16777215, 33554431, 4194303, 4194303, 138412031, 473956351, 1010827263, 2147483647, 4294967295, 8589934591, 17179869183]
theorem tab7 : rtab .any (opsOf Tryz.f88 7) = T7 := rfl
theorem bits7 : waitsOk T7.2 B7 = true := by kernel_rfl
end keptParts
theorem eqK_parts (d : Nat) (w : World) (x0 y0 : ByteArray) (x1 y1 : Int) :
    (Op.equalIn (d + 2) 58 (.agg #[.string x0, .int .i64 x1]) (.agg #[.string y0, .int .i64 y1])).run Tryz.prog w = .ok (x0.toList == y0.toList && (x1 == y1)) w := by
  refine eqA_of Tryz.underlying58 (by kernel_rfl) ?_
  refine eqf_cons (by rfl) (by go_simp; rfl) (by go_simp; rfl) (by go_simp) ?_
  exact eqf_last (by rfl) (by go_simp; rfl) (by go_simp; rfl) (by go_simp)
attribute [local go_sem high] eqK_parts

set_option maxRecDepth 100000 in
set_option maxHeartbeats 4000000 in
theorem kept_parts (g : Nat) (l : List Part) (A1 : Option Addr) (c1 : Nat) (base : Nat) (w : World) (hn : l.length ≤ 1000000)
    (ho : w.ownsRow base 58 2 (.slice (some ⟨g, 0, none⟩) (l.length + 12) (l.length + 12)) (l.length + 12) (encParts.cells (l ++ marksParts 1 0 12))) (hr : encParts.kd.C w A1 l.length l) :
    Calls Tryz.prog 88 #[.slice (some ⟨g, 0, none⟩) l.length (l.length + 12), .slice A1 l.length c1] w fun e w' => e = .returned (.bool true) ∧ Below w.heap.size w w' := by
  obtain ⟨i0, hi, hz0, hz1, hz2⟩ := info_parts infoE_parts
  have hcut : ∀ W : World, (Instr.slice 35 (.slice (some ⟨g, 0, none⟩) l.length (l.length + 12)) none (some (.int .i64 ((l.length : Int) + 12))) none).run Tryz.prog W = .ok (.slice (some ⟨g, 0, none⟩) (l.length + 12) (l.length + 12)) W := by
    intro W
    have hel : Tryz.prog.elem 35 = 58 := by simp [Program.elem, Tryz.underlying35]
    have hu : Tryz.prog.underlying 35 = some (.slice (Tryz.prog.elem 35)) := by rw [hel]; exact Tryz.underlying35
    rw [run_slice_h W 35 (some ⟨g, 0, none⟩) l.length (l.length + 12) hu .i64 ((l.length : Int) + 12) (by omega) (by omega), hel, show ((l.length : Int) + 12).toNat = l.length + 12 by omega]
    simp [sizeOf, typeInfo, hi, hz1, sliced, Result.andThen, Addr.add]
  have HO := Aside0.mk ho
  have HR := Aside0.mk hr
  clear ho hr
  go_enter Tryz.func88, Tryz.ntmps88
  go_wp2
  go_loopg [6] (l.length + 13) (fun kq v6 wr => ∃ (i : Nat), v6 = .int .i64 i ∧ i + kq = l.length + 13 ∧ 0 < kq ∧ Aside0 (Below w.heap.size w wr))
  case atStart => exact ⟨0, rfl, by omega, by omega, ⟨Below.refl _ _⟩⟩
  case round =>
    obtain ⟨i, rfl, hi1, hi0, HB⟩ := hrel
    have HO1 := Aside0.mk (ownS_below HO.out HB.out)
    have hall := Enc.own_reads (E := encParts) HO1.out (l.length + 12) (Nat.le_refl _) (by omega) _ (List.take_of_length_le (by rw [List.length_append, marksParts_length]; exact Nat.le_refl _))
    have HALL := Aside0.mk hall
    clear hall
    by_cases hin : i < l.length + 12
    · by_cases hil : i < l.length
      · have hx := List.getElem?_eq_getElem hil
        obtain ⟨ad, rfl, hcs⟩ := Enc.cell_at (Kd.C_below HR.out HB.out) i _ hx
        obtain ⟨ad2, e2, hcg⟩ := Enc.cell_at HALL.out i _ (by rw [List.getElem?_append_left hil]; exact hx)
        cases e2
        clear hx
        generalize l[i] = x at hcs hcg
        replace hcg : ∀ j u, (encParts.enc x)[j]? = some u → wr.cell? ⟨g, i * encParts.sz + j, none⟩ = some u := fun j u hu => by have := hcg j u hu; rwa [Addr.add_lit, Nat.zero_add] at this
        simp only [encParts_sz, Nat.mul_one] at hcs hcg
        have hc0 : wr.cell? ⟨g, i * 2, none⟩ = some (.string x.f0) := hcg 0 _ rfl
        have hs0 : wr.cell? (ad.add (i * 2)) = some (.string x.f0) := hcs 0 _ rfl
        have hc1 : wr.cell? ⟨g, i * 2 + 1, none⟩ = some (.int .i64 x.f1) := hcg 1 _ rfl
        have hs1 : wr.cell? ⟨(ad.add (i * 2)).block, (ad.add (i * 2)).off + 1, none⟩ = some (.int .i64 x.f1) := by rw [← add_field _ _ 1 (by omega)]; exact hcs 1 _ rfl
        clear hcs hcg
        have hb1 : decide (i < l.length) = true := decide_eq_true hil
        have hb2 : decide (l.length ≤ i) = false := decide_eq_false (by omega)
        go_wp2
        go_quiet (fail)
        go_wp2
        go_roundg (l.length + 12 - i)
        case measure => omega
        case rel => exact ⟨i + 1, by simp, by omega, by omega, ⟨pw_below_drewN HB.out _⟩⟩
      · obtain ⟨ad2, e2, hcg⟩ := Enc.cell_at HALL.out i (markParts 1 ((i : Int) - (l.length : Int))) (by
          rw [List.getElem?_append_right (by omega), marksParts_get 1 0 12 (i - l.length) (by omega), show ((0 + (i - l.length) : Nat) : Int) = (i : Int) - (l.length : Int) by omega])
        cases e2
        replace hcg : ∀ q u, (encParts.enc (markParts 1 ((i : Int) - (l.length : Int))))[q]? = some u → wr.cell? ⟨g, i * encParts.sz + q, none⟩ = some u := fun q u hu => by have := hcg q u hu; rwa [Addr.add_lit, Nat.zero_add] at this
        simp only [encParts_sz, Nat.mul_one] at hcg
        have hglt : g < wr.heap.size := (HO1.out.lt g rfl).2
        have hc0 : ∀ w', Below wr.heap.size wr w' → w'.cell? ⟨g, i * 2, none⟩ = some (.string ByteArray.empty) := fun w' h => (h.cell (p := ⟨g, i * 2, none⟩) hglt).trans (hcg 0 _ rfl)
        have hc1 : ∀ w', Below wr.heap.size wr w' → w'.cell? ⟨g, i * 2 + 1, none⟩ = some (.int .i64 (markNum 1 ((i : Int) - (l.length : Int)))) := fun w' h => (h.cell (p := ⟨g, i * 2 + 1, none⟩) hglt).trans (hcg 1 _ rfl)
        clear hcg
        have hb1 : decide (i < l.length) = false := decide_eq_false (by omega)
        have hb2 : decide (l.length ≤ i) = true := decide_eq_true (by omega)
        have hw1 : IntKind.i64.wrap ((i : Int) - (l.length : Int)) = (i : Int) - (l.length : Int) := by rw [i64_w]; unfold wrap64; omega
        have hw2 : wrap64 ((i : Int) - (l.length : Int)) = (i : Int) - (l.length : Int) := by unfold wrap64; omega
        go_wp2
        refine start_ (n := 35) (S := fun w' => Below wr.heap.size wr w') (ds := []) (bitsAParts 35 0) (by kernel_rfl) rfl (by kernel_rfl) (below_drew1 (Below.refl _ _)) (fun hHeld => ?_); refine with_tabW keptParts.tab7 keptParts.bits7 (fun HT_ HW_ => ?_)
        generalize wr.drew = w15 at hHeld ⊢
        refine pure_ (i := 0) (N := some 23) (v := ?_) (a' := ?_) (bitsAParts 35 1) rfl rfl (any_of HT_.out (by kernel_rfl)) (fun _ _ _ h => h) (Or.inl ⟨by rfl, ?_⟩) ?_ ?_
        rotate_left
        · intro w'
          go_simp
          with_reducible rfl
        rotate_left
        · simp only [Act.put, List.setIfInBounds_toArray, List.set_cons_zero, List.set_cons_succ, i64_w, i32_w]
          rfl
        refine pure_ (i := 1) (N := some 24) (v := ?_) (a' := ?_) (bitsAParts 35 3) rfl rfl (any_of HT_.out (by kernel_rfl)) (fun _ _ _ h => h) (Or.inl ⟨by rfl, ?_⟩) ?_ ?_
        rotate_left
        · intro w'
          go_simp
          with_reducible rfl
        rotate_left
        · simp only [Act.put, List.setIfInBounds_toArray, List.set_cons_zero, List.set_cons_succ, i64_w, i32_w]
          rfl
        refine pure_ (i := 2) (N := some 25) (v := ?_) (a' := ?_) (bitsAParts 35 7) rfl rfl (any_of HT_.out (by kernel_rfl)) (fun _ _ _ h => h) (Or.inl ⟨by rfl, ?_⟩) ?_ ?_
        rotate_left
        · intro w'
          go_simp
          with_reducible rfl
        rotate_left
        · simp only [Act.put, List.setIfInBounds_toArray, List.set_cons_zero, List.set_cons_succ, i64_w, i32_w]
          rfl
        refine pure_ (i := 3) (N := some 26) (v := ?_) (a' := ?_) (bitsAParts 35 15) rfl rfl (any_of HT_.out (by kernel_rfl)) (fun _ _ _ h => h) (Or.inl ⟨by rfl, ?_⟩) ?_ ?_
        rotate_left
        · intro w'
          go_simp
          with_reducible rfl
        rotate_left
        · simp only [Act.put, List.setIfInBounds_toArray, List.set_cons_zero, List.set_cons_succ, i64_w, i32_w]
          rfl
        refine pure_ (i := 4) (N := some 27) (v := ?_) (a' := ?_) (bitsAParts 35 31) rfl rfl (any_of HT_.out (by kernel_rfl)) (fun _ _ _ h => h) (Or.inl ⟨by rfl, ?_⟩) ?_ ?_
        rotate_left
        · intro w'
          go_simp
          with_reducible rfl
        rotate_left
        · simp only [Act.put, List.setIfInBounds_toArray, List.set_cons_zero, List.set_cons_succ, i64_w, i32_w]
          rfl
        refine pure_ (i := 5) (N := some 28) (v := undef) (a' := ?_) (bitsAParts 35 63) rfl rfl (any_of HT_.out (by kernel_rfl)) (fun _ _ _ h => h) (Or.inr ⟨by rfl, rfl⟩) ?_ ?_
        rotate_left
        · simp only [Act.put, List.setIfInBounds_toArray, List.set_cons_zero, List.set_cons_succ, i64_w, i32_w]
          rfl
        refine pure_ (i := 6) (N := some 29) (v := undef) (a' := ?_) (bitsAParts 35 127) rfl rfl (any_of HT_.out (by kernel_rfl)) (fun _ _ _ h => h) (Or.inr ⟨by rfl, rfl⟩) ?_ ?_
        rotate_left
        · simp only [Act.put, List.setIfInBounds_toArray, List.set_cons_zero, List.set_cons_succ, i64_w, i32_w]
          rfl
        refine pure_ (i := 7) (N := some 30) (v := undef) (a' := ?_) (bitsAParts 35 255) rfl rfl (any_of HT_.out (by kernel_rfl)) (fun _ _ _ h => h) (Or.inr ⟨by rfl, rfl⟩) ?_ ?_
        rotate_left
        · simp only [Act.put, List.setIfInBounds_toArray, List.set_cons_zero, List.set_cons_succ, i64_w, i32_w]
          rfl
        refine pure_ (i := 8) (N := some 31) (v := undef) (a' := ?_) (bitsAParts 35 511) rfl rfl (any_of HT_.out (by kernel_rfl)) (fun _ _ _ h => h) (Or.inr ⟨by rfl, rfl⟩) ?_ ?_
        rotate_left
        · simp only [Act.put, List.setIfInBounds_toArray, List.set_cons_zero, List.set_cons_succ, i64_w, i32_w]
          rfl
        refine pure_ (i := 9) (N := some 32) (v := undef) (a' := ?_) (bitsAParts 35 1023) rfl rfl (any_of HT_.out (by kernel_rfl)) (fun _ _ _ h => h) (Or.inr ⟨by rfl, rfl⟩) ?_ ?_
        rotate_left
        · simp only [Act.put, List.setIfInBounds_toArray, List.set_cons_zero, List.set_cons_succ, i64_w, i32_w]
          rfl
        refine pure_ (i := 10) (N := some 33) (v := undef) (a' := ?_) (bitsAParts 35 2047) rfl rfl (any_of HT_.out (by kernel_rfl)) (fun _ _ _ h => h) (Or.inr ⟨by rfl, rfl⟩) ?_ ?_
        rotate_left
        · simp only [Act.put, List.setIfInBounds_toArray, List.set_cons_zero, List.set_cons_succ, i64_w, i32_w]
          rfl
        refine pure_ (i := 11) (N := some 34) (v := undef) (a' := ?_) (bitsAParts 35 4095) rfl rfl (any_of HT_.out (by kernel_rfl)) (fun _ _ _ h => h) (Or.inr ⟨by rfl, rfl⟩) ?_ ?_
        rotate_left
        · simp only [Act.put, List.setIfInBounds_toArray, List.set_cons_zero, List.set_cons_succ, i64_w, i32_w]
          rfl
        refine pure_ (i := 12) (N := some 35) (v := undef) (a' := ?_) (bitsAParts 35 8191) rfl rfl (any_of HT_.out (by kernel_rfl)) (fun _ _ _ h => h) (Or.inr ⟨by rfl, rfl⟩) ?_ ?_
        rotate_left
        · simp only [Act.put, List.setIfInBounds_toArray, List.set_cons_zero, List.set_cons_succ, i64_w, i32_w]
          rfl
        refine pure_ (i := 13) (N := some 36) (v := undef) (a' := ?_) (bitsAParts 35 16383) rfl rfl (any_of HT_.out (by kernel_rfl)) (fun _ _ _ h => h) (Or.inr ⟨by rfl, rfl⟩) ?_ ?_
        rotate_left
        · simp only [Act.put, List.setIfInBounds_toArray, List.set_cons_zero, List.set_cons_succ, i64_w, i32_w]
          rfl
        refine pure_ (i := 14) (N := some 37) (v := undef) (a' := ?_) (bitsAParts 35 32767) rfl rfl (any_of HT_.out (by kernel_rfl)) (fun _ _ _ h => h) (Or.inr ⟨by rfl, rfl⟩) ?_ ?_
        rotate_left
        · simp only [Act.put, List.setIfInBounds_toArray, List.set_cons_zero, List.set_cons_succ, i64_w, i32_w]
          rfl
        refine pure_ (i := 15) (N := some 38) (v := ?_) (a' := ?_) (bitsAParts 35 65535) rfl rfl (any_of HT_.out (by kernel_rfl)) (fun _ _ _ h => h) (Or.inl ⟨by rfl, ?_⟩) ?_ ?_
        rotate_left
        · intro w'
          go_simp
          with_reducible rfl
        rotate_left
        · simp only [Act.put, List.setIfInBounds_toArray, List.set_cons_zero, List.set_cons_succ, i64_w, i32_w]
          rfl
        refine pure_ (i := 16) (N := some 39) (v := ?_) (a' := ?_) (bitsAParts 35 131071) rfl rfl (any_of HT_.out (by kernel_rfl)) (fun _ _ _ h => h) (Or.inl ⟨by rfl, ?_⟩) ?_ ?_
        rotate_left
        · intro w'
          go_simp
          with_reducible rfl
        rotate_left
        · simp only [Act.put, List.setIfInBounds_toArray, List.set_cons_zero, List.set_cons_succ, i64_w, i32_w]
          rfl
        refine pure_ (i := 17) (N := some 40) (v := ?_) (a' := ?_) (bitsAParts 35 262143) rfl rfl (any_of HT_.out (by kernel_rfl)) (fun _ _ _ h => h) (Or.inl ⟨by rfl, ?_⟩) ?_ ?_
        rotate_left
        · intro w'
          go_simp
          with_reducible rfl
        rotate_left
        · simp only [Act.put, List.setIfInBounds_toArray, List.set_cons_zero, List.set_cons_succ, i64_w, i32_w]
          rfl
        refine pure_ (i := 18) (N := some 41) (v := ?_) (a' := ?_) (bitsAParts 35 524287) rfl rfl (any_of HT_.out (by kernel_rfl)) (fun _ _ _ h => h) (Or.inl ⟨by rfl, ?_⟩) ?_ ?_
        rotate_left
        · intro w'
          go_simp
          with_reducible rfl
        rotate_left
        · simp only [Act.put, List.setIfInBounds_toArray, List.set_cons_zero, List.set_cons_succ, i64_w, i32_w]
          rfl
        refine pure_ (i := 19) (N := some 42) (v := ?_) (a' := ?_) (bitsAParts 35 1048575) rfl rfl (any_of HT_.out (by kernel_rfl)) (fun _ _ _ h => h) (Or.inl ⟨by rfl, ?_⟩) ?_ ?_
        rotate_left
        · intro w'
          go_simp
          with_reducible rfl
        rotate_left
        · simp only [Act.put, List.setIfInBounds_toArray, List.set_cons_zero, List.set_cons_succ, i64_w, i32_w]
          rfl
        refine pure_ (i := 20) (N := some 43) (v := ?_) (a' := ?_) (bitsAParts 35 2097151) rfl rfl (any_of HT_.out (by kernel_rfl)) (fun _ _ _ h => h) (Or.inl ⟨by rfl, ?_⟩) ?_ ?_
        rotate_left
        · intro w'
          go_simp
          with_reducible rfl
        rotate_left
        · simp only [Act.put, List.setIfInBounds_toArray, List.set_cons_zero, List.set_cons_succ, i64_w, i32_w]
          rfl
        refine pure_ (i := 21) (N := some 44) (v := ?_) (a' := ?_) (bitsAParts 35 4194303) rfl rfl (any_of HT_.out (by kernel_rfl)) (fun _ _ _ h => h) (Or.inl ⟨by rfl, ?_⟩) ?_ ?_
        rotate_left
        · intro w'
          go_simp
          with_reducible rfl
        rotate_left
        · simp only [Act.put, List.setIfInBounds_toArray, List.set_cons_zero, List.set_cons_succ, i64_w, i32_w]
          rfl
        refine pure_ (i := 22) (N := some 45) (v := ?_) (a' := ?_) (bitsAParts 35 8388607) rfl rfl (any_of HT_.out (by kernel_rfl)) (fun _ _ _ h => h) (Or.inl ⟨by rfl, ?_⟩) ?_ ?_
        rotate_left
        · intro w'
          go_simp
          with_reducible rfl
        rotate_left
        · simp only [Act.put, List.setIfInBounds_toArray, List.set_cons_zero, List.set_cons_succ, i64_w, i32_w]
          rfl
        refine pure_ (i := 23) (N := some 46) (v := ?_) (a' := ?_) (bitsAParts 35 16777215) rfl rfl (any_of HT_.out (by kernel_rfl)) (fun _ _ _ h => h) (Or.inl ⟨by rfl, ?_⟩) ?_ ?_
        rotate_left
        · intro w'
          go_simp
          with_reducible rfl
        rotate_left
        · simp only [Act.put, List.setIfInBounds_toArray, List.set_cons_zero, List.set_cons_succ, i64_w, i32_w]
          rfl
        refine pure_ (i := 24) (N := some 47) (v := ?_) (a' := ?_) (bitsAParts 35 33554431) rfl rfl (any_of HT_.out (by kernel_rfl)) (fun _ _ _ h => h) (Or.inl ⟨by rfl, ?_⟩) ?_ ?_
        rotate_left
        · intro w'
          go_simp
          with_reducible rfl
        rotate_left
        · simp only [Act.put, List.setIfInBounds_toArray, List.set_cons_zero, List.set_cons_succ, i64_w, i32_w]
          rfl
        refine take_ (i := 25) (N := some 48) (v := ?_) (a' := ?_) (bitsAParts 35 67108863) rfl rfl (take_ofW HT_.out HW_.out (by kernel_rfl)) (fun _ _ _ h => h) (Or.inl ⟨by rfl, ?_⟩) hHeld ?_ ?_
        rotate_left
        · rintro w' hS
          have hc0 := hc0 w' hS
          have hc1 := hc1 w' hS
          go_simp
          with_reducible rfl
        rotate_left
        · simp only [Act.put, List.setIfInBounds_toArray, List.set_cons_zero, List.set_cons_succ, i64_w, i32_w]
          rfl
        refine pure_ (i := 26) (N := some 49) (v := ?_) (a' := ?_) (bitsAParts 35 134217727) rfl rfl (any_of HT_.out (by kernel_rfl)) (fun _ _ _ h => h) (Or.inl ⟨by rfl, ?_⟩) ?_ ?_
        rotate_left
        · intro w'
          go_simp
          with_reducible rfl
        rotate_left
        · simp only [Act.put, List.setIfInBounds_toArray, List.set_cons_zero, List.set_cons_succ, i64_w, i32_w]
          rfl
        refine pure_ (i := 27) (N := some 50) (v := ?_) (a' := ?_) (bitsAParts 35 268435455) rfl rfl (any_of HT_.out (by kernel_rfl)) (fun _ _ _ h => h) (Or.inl ⟨by rfl, ?_⟩) ?_ ?_
        rotate_left
        · intro w'
          go_simp
          with_reducible rfl
        rotate_left
        · simp only [Act.put, List.setIfInBounds_toArray, List.set_cons_zero, List.set_cons_succ, i64_w, i32_w]
          rfl
        refine pure_ (i := 28) (N := some 51) (v := ?_) (a' := ?_) (bitsAParts 35 536870911) rfl rfl (any_of HT_.out (by kernel_rfl)) (fun _ _ _ h => h) (Or.inl ⟨by rfl, ?_⟩) ?_ ?_
        rotate_left
        · intro w'
          go_simp
          with_reducible rfl
        rotate_left
        · simp only [Act.put, List.setIfInBounds_toArray, List.set_cons_zero, List.set_cons_succ, i64_w, i32_w]
          rfl
        refine pure_ (i := 29) (N := some 52) (v := ?_) (a' := ?_) (bitsAParts 35 1073741823) rfl rfl (any_of HT_.out (by kernel_rfl)) (fun _ _ _ h => h) (Or.inl ⟨by rfl, ?_⟩) ?_ ?_
        rotate_left
        · intro w'
          go_simp
          with_reducible rfl
        rotate_left
        · simp only [Act.put, List.setIfInBounds_toArray, List.set_cons_zero, List.set_cons_succ, i64_w, i32_w]
          rfl
        refine one_ (i := 30) (N := some 53) (bitsAParts 35 2147483647) rfl rfl (one_of HT_.out (by kernel_rfl)) (by decide) (fun K hK => ?_)
        refine goes_ Tryz.func159 (by kernel_rfl) rfl #[.int .i64 1, .int .i64 ((i : Int) - (l.length : Int))] (by rfl) rfl rfl (by (try simp only [List.map_toArray, List.map_cons, List.map_nil]); first | done | rfl) ?_
        refine (markParts_calls 1 _ _).mono ?_
        rintro e w16 ⟨rfl, hd⟩
        refine ⟨_, rfl, ?_⟩
        have hHeld2 : Below wr.heap.size wr w16 := hHeld.trans (hd.mono hHeld.size)
        refine hK.out _ _ hHeld2 (fun hHeld => ?_)
        clear hK K
        refine norm_ (a' := ?_) ?_ ?_
        rotate_left
        · show Act.put _ (some 53) _ = _
          simp only [Act.put, List.setIfInBounds_toArray, List.set_cons_zero, List.set_cons_succ, i64_w, i32_w]
          rfl
        refine pure_ (i := 31) (N := some 54) (v := ?_) (a' := ?_) (bitsAParts 35 4294967295) rfl rfl (any_of HT_.out (by kernel_rfl)) (fun _ _ _ h => h) (Or.inl ⟨by rfl, ?_⟩) ?_ ?_
        rotate_left
        · intro w'
          go_simp
          with_reducible rfl
        rotate_left
        · simp only [Act.put, List.setIfInBounds_toArray, List.set_cons_zero, List.set_cons_succ, i64_w, i32_w]
          rfl
        refine pure_ (i := 32) (N := some 55) (v := ?_) (a' := ?_) (bitsAParts 35 8589934591) rfl rfl (any_of HT_.out (by kernel_rfl)) (fun _ _ _ h => h) (Or.inl ⟨by rfl, ?_⟩) ?_ ?_
        rotate_left
        · intro w'
          go_simp
          with_reducible rfl
        rotate_left
        · simp only [Act.put, List.setIfInBounds_toArray, List.set_cons_zero, List.set_cons_succ, i64_w, i32_w]
          rfl
        refine pure_ (i := 33) (N := some 56) (v := ?_) (a' := ?_) (bitsAParts 35 17179869183) rfl rfl (any_of HT_.out (by kernel_rfl)) (fun _ _ _ h => h) (Or.inl ⟨by rfl, ?_⟩) ?_ ?_
        rotate_left
        · intro w'
          go_simp
          with_reducible rfl
        rotate_left
        · simp only [Act.put, List.setIfInBounds_toArray, List.set_cons_zero, List.set_cons_succ, i64_w, i32_w]
          rfl
        refine pure_ (i := 34) (N := some 57) (v := ?_) (a' := ?_) (bitsAParts 35 34359738367) rfl rfl (any_of HT_.out (by kernel_rfl)) (fun _ _ _ h => h) (Or.inl ⟨by rfl, ?_⟩) ?_ ?_
        rotate_left
        · intro w'
          go_simp
          with_reducible rfl
        rotate_left
        · simp only [Act.put, List.setIfInBounds_toArray, List.set_cons_zero, List.set_cons_succ, i64_w, i32_w]
          rfl
        refine done_ (done_of HT_.out (by kernel_rfl)) ?_
        go_wp2
        go_roundg (l.length + 12 - i)
        case measure => omega
        case rel => exact ⟨i + 1, by simp, by omega, by omega, ⟨HB.out.trans (hHeld.mono HB.out.size)⟩⟩
    · obtain rfl : i = l.length + 12 := by omega
      go_wp2
      go_ret
      exact ⟨rfl, HB.out⟩
end Go.Proofs.YtkpedlhofalnjaaGreatDoor
end

section
/- storemankit's SameParts, of two lists of the same elements: true. -/
namespace Go.Proofs.YtkpedlhofalnjaaGreatDoor
open Go.RowKit Go.Proofs.YtkpedlhofalnjaaGreatDoorW.PrintWords Go.Proofs.YtkpedlhofalnjaaGreatDoorW.PrintLast Go.Proofs.YtkpedlhofalnjaaGreatDoorW.PrintMore

set_option linter.unusedSimpArgs false
set_option linter.unusedVariables false
attribute [local go_sem high] eqK_parts
set_option maxRecDepth 100000 in
set_option maxHeartbeats 2000000 in
theorem same_parts (l : List Part) (A0 : Option Addr) (c0 : Nat) (A1 : Option Addr) (c1 : Nat) (w : World) (hn : l.length ≤ 1000000) (hr0 : encParts.kd.C w A0 l.length l) (hr1 : encParts.kd.C w A1 l.length l) :
    Calls Tryz.prog 102 #[.slice A0 l.length c0, .slice A1 l.length c1] w fun e w' => e = .returned (.bool true) ∧ Drawn0 w w' := by
  have HR0 := Aside0.mk hr0
  have HR1 := Aside0.mk hr1
  clear hr0 hr1
  go_enter Tryz.func102, Tryz.ntmps102
  go_wp2
  go_loopg [5] (l.length + 1) (fun kq v5 wr => ∃ (i : Nat), v5 = .int .i64 i ∧ i + kq = l.length + 1 ∧ 0 < kq ∧ Aside0 (Drawn0 w wr))
  case atStart => exact ⟨0, rfl, by omega, by omega, ⟨⟨0, rfl⟩⟩⟩
  case round =>
    obtain ⟨i, rfl, hi1, hi0, HD⟩ := hrel
    by_cases hil : i < l.length
    · have hx := List.getElem?_eq_getElem hil
      have hbl : Below w.heap.size w wr := by obtain ⟨nd, rfl⟩ := HD.out; exact pw_below_drewN (Below.refl _ _) nd
      obtain ⟨ad, rfl, hcs0⟩ := Enc.cell_at (Kd.C_below HR0.out hbl) i _ hx
      obtain ⟨ae, rfl, hcs1⟩ := Enc.cell_at (Kd.C_below HR1.out hbl) i _ hx
      clear hx hbl
      generalize l[i] = x at hcs0 hcs1
      simp only [encParts_sz, Nat.mul_one] at hcs0 hcs1
      have hc0_0 : wr.cell? (ad.add (i * 2)) = some (.string x.f0) := hcs0 0 _ rfl
      have hc0_1 : wr.cell? ⟨(ad.add (i * 2)).block, (ad.add (i * 2)).off + 1, none⟩ = some (.int .i64 x.f1) := by rw [← add_field _ _ 1 (by omega)]; exact hcs0 1 _ rfl
      have hc1_0 : wr.cell? (ae.add (i * 2)) = some (.string x.f0) := hcs1 0 _ rfl
      have hc1_1 : wr.cell? ⟨(ae.add (i * 2)).block, (ae.add (i * 2)).off + 1, none⟩ = some (.int .i64 x.f1) := by rw [← add_field _ _ 1 (by omega)]; exact hcs1 1 _ rfl
      clear hcs0 hcs1
      have hb1 : decide (i < l.length) = true := decide_eq_true hil
      go_wp2
      go_quiet (fail)
      go_wp2
      go_roundg (l.length - i)
      case measure => omega
      case rel => exact ⟨i + 1, by simp, by omega, by omega, ⟨by obtain ⟨nd, hnd⟩ := HD.out; exact ⟨_, by rw [hnd, World.drewN_drewN]⟩⟩⟩
    · obtain rfl : i = l.length := by omega
      go_wp2
      go_ret
      exact ⟨rfl, HD.out⟩
end Go.Proofs.YtkpedlhofalnjaaGreatDoor
end

section
/- storemankit's SameTexts, of two lists of the same elements: true. -/
namespace Go.Proofs.YtkpedlhofalnjaaGreatDoor
open Go.RowKit Go.Proofs.YtkpedlhofalnjaaGreatDoorW.PrintWords Go.Proofs.YtkpedlhofalnjaaGreatDoorW.PrintLast Go.Proofs.YtkpedlhofalnjaaGreatDoorW.PrintMore

set_option linter.unusedSimpArgs false
set_option linter.unusedVariables false
set_option maxRecDepth 100000 in
set_option maxHeartbeats 2000000 in
theorem same_texts (l : List ByteArray) (A0 : Option Addr) (c0 : Nat) (A1 : Option Addr) (c1 : Nat) (w : World) (hn : l.length ≤ 1000000) (hr0 : encTexts.kd.C w A0 l.length l) (hr1 : encTexts.kd.C w A1 l.length l) :
    Calls Tryz.prog 103 #[.slice A0 l.length c0, .slice A1 l.length c1] w fun e w' => e = .returned (.bool true) ∧ Drawn0 w w' := by
  have HR0 := Aside0.mk hr0
  have HR1 := Aside0.mk hr1
  clear hr0 hr1
  go_enter Tryz.func103, Tryz.ntmps103
  go_wp2
  go_loopg [5] (l.length + 1) (fun kq v5 wr => ∃ (i : Nat), v5 = .int .i64 i ∧ i + kq = l.length + 1 ∧ 0 < kq ∧ Aside0 (Drawn0 w wr))
  case atStart => exact ⟨0, rfl, by omega, by omega, ⟨⟨0, rfl⟩⟩⟩
  case round =>
    obtain ⟨i, rfl, hi1, hi0, HD⟩ := hrel
    by_cases hil : i < l.length
    · have hx := List.getElem?_eq_getElem hil
      have hbl : Below w.heap.size w wr := by obtain ⟨nd, rfl⟩ := HD.out; exact pw_below_drewN (Below.refl _ _) nd
      obtain ⟨ad, rfl, hcs0⟩ := Enc.cell_at (Kd.C_below HR0.out hbl) i _ hx
      obtain ⟨ae, rfl, hcs1⟩ := Enc.cell_at (Kd.C_below HR1.out hbl) i _ hx
      clear hx hbl
      generalize l[i] = x at hcs0 hcs1
      simp only [encTexts_sz, Nat.mul_one] at hcs0 hcs1
      have hc0_0 : wr.cell? (ad.add (i)) = some (.string x) := hcs0 0 _ rfl
      have hc1_0 : wr.cell? (ae.add (i)) = some (.string x) := hcs1 0 _ rfl
      clear hcs0 hcs1
      have hb1 : decide (i < l.length) = true := decide_eq_true hil
      go_wp2
      go_quiet (fail)
      go_wp2
      go_roundg (l.length - i)
      case measure => omega
      case rel => exact ⟨i + 1, by simp, by omega, by omega, ⟨by obtain ⟨nd, hnd⟩ := HD.out; exact ⟨_, by rw [hnd, World.drewN_drewN]⟩⟩⟩
    · obtain rfl : i = l.length := by omega
      go_wp2
      go_ret
      exact ⟨rfl, HD.out⟩
end Go.Proofs.YtkpedlhofalnjaaGreatDoor
end

section
/- storemankit's SameAsk of two commands with the same fields, KeptAsk of one that was lent and is as it was: true; OverAsk: its lists alone are written over. -/
namespace Go.Proofs.YtkpedlhofalnjaaGreatDoor
open Go.RowKit Go.Proofs.YtkpedlhofalnjaaGreatDoorW.PrintWords Go.Proofs.YtkpedlhofalnjaaGreatDoorW.PrintLast Go.Proofs.YtkpedlhofalnjaaGreatDoorW.PrintMore

set_option maxRecDepth 100000 in
set_option maxHeartbeats 4000000 in
theorem same_ask (x : Cmd) (A9 : Option Addr) (c9 : Nat) (A10 : Option Addr) (c10 : Nat) (B9 : Option Addr) (d9 : Nat) (B10 : Option Addr) (d10 : Nat) (w : World) (h9 : x.parts.length ≤ 1000000) (h10 : x.others.length ≤ 1000000)
    (hr9 : encParts.kd.C w A9 x.parts.length x.parts) (hr10 : encTexts.kd.C w A10 x.others.length x.others) (hs9 : encParts.kd.C w B9 x.parts.length x.parts) (hs10 : encTexts.kd.C w B10 x.others.length x.others) :
    Calls Tryz.prog 41 #[.agg #[.int .u8 x.kind, .int .i64 x.req, .string x.item, .int .i64 x.qty, .int .i64 x.day, .int .i64 x.days, .int .i64 x.rank, .int .i64 x.lot, .int .i64 x.line, .slice A9 x.parts.length c9, .slice A10 x.others.length c10],
      .agg #[.int .u8 x.kind, .int .i64 x.req, .string x.item, .int .i64 x.qty, .int .i64 x.day, .int .i64 x.days, .int .i64 x.rank, .int .i64 x.lot, .int .i64 x.line, .slice B9 x.parts.length d9, .slice B10 x.others.length d10]] w fun e w' => e = .returned (.bool true) ∧ Below w.heap.size w w' := by
  have HR9 := Aside0.mk hr9
  have HR10 := Aside0.mk hr10
  have HS9 := Aside0.mk hs9
  have HS10 := Aside0.mk hs10
  clear hr9 hr10 hs9 hs10
  have hb : ∀ o1 o2 : Obj, Below w.heap.size w ((w.alloc o1).alloc o2) := fun o1 o2 => ((Below.refl _ _).alloc (Nat.le_refl _) _).alloc (by simp) _
  have HBB := Aside0.mk hb
  clear hb
  go_enter Tryz.func41, Tryz.ntmps41
  go_wp2_with fail
  refine (same_parts x.parts A9 c9 B9 d9 _ h9 (Kd.C_below HR9.out (HBB.out _ _)) (Kd.C_below HS9.out (HBB.out _ _))).mono ?_
  rintro e w2 ⟨rfl, ⟨n2, rfl⟩⟩
  go_wp2_with fail
  refine (same_texts x.others A10 c10 B10 d10 _ h10 (Kd.C_below HR10.out (pw_below_drewN (HBB.out _ _) _)) (Kd.C_below HS10.out (pw_below_drewN (HBB.out _ _) _))).mono ?_
  rintro e w3 ⟨rfl, ⟨n3, rfl⟩⟩
  go_wp2_with fail
  go_ret
  exact ⟨rfl, pw_below_drewN (HBB.out _ _) _⟩

set_option maxRecDepth 100000 in
set_option maxHeartbeats 4000000 in
theorem kept_ask (x : Cmd) (g9 g10 : Nat) (A9 : Option Addr) (c9 : Nat) (A10 : Option Addr) (c10 : Nat) (base : Nat) (w : World) (h9 : x.parts.length ≤ 1000000) (h10 : x.others.length ≤ 1000000)
    (ho9 : w.ownsRow base 58 2 (.slice (some ⟨g9, 0, none⟩) (x.parts.length + 12) (x.parts.length + 12)) (x.parts.length + 12) (encParts.cells (x.parts ++ marksParts 1 0 12)))
    (ho10 : w.ownsRow base 9 1 (.slice (some ⟨g10, 0, none⟩) (x.others.length + 12) (x.others.length + 12)) (x.others.length + 12) (encTexts.cells (x.others ++ marksTexts 1 0 12)))
    (hr9 : encParts.kd.C w A9 x.parts.length x.parts) (hr10 : encTexts.kd.C w A10 x.others.length x.others) :
    Calls Tryz.prog 34 #[.agg #[.int .u8 x.kind, .int .i64 x.req, .string x.item, .int .i64 x.qty, .int .i64 x.day, .int .i64 x.days, .int .i64 x.rank, .int .i64 x.lot, .int .i64 x.line, .slice (some ⟨g9, 0, none⟩) x.parts.length (x.parts.length + 12), .slice (some ⟨g10, 0, none⟩) x.others.length (x.others.length + 12)],
      .agg #[.int .u8 x.kind, .int .i64 x.req, .string x.item, .int .i64 x.qty, .int .i64 x.day, .int .i64 x.days, .int .i64 x.rank, .int .i64 x.lot, .int .i64 x.line, .slice A9 x.parts.length c9, .slice A10 x.others.length c10]] w fun e w' => e = .returned (.bool true) ∧ Below w.heap.size w w' := by
  have HO9 := Aside0.mk ho9
  have HO10 := Aside0.mk ho10
  have HR9 := Aside0.mk hr9
  have HR10 := Aside0.mk hr10
  have HQ9 := Aside0.mk (Enc.own_reads (E := encParts) ho9 x.parts.length (by omega) (by omega) x.parts (List.take_left ..))
  have HQ10 := Aside0.mk (Enc.own_reads (E := encTexts) ho10 x.others.length (by omega) (by omega) x.others (List.take_left ..))
  clear ho9 ho10 hr9 hr10
  go_enter Tryz.func34, Tryz.ntmps34
  go_wp2_with (first
    | ((with_reducible refine gate_dst (N := 2) rfl ?_); refine box_event ?hg (N := 2) ?hd (cs := #[.int .u8 x.kind, .int .i64 x.req, .string x.item, .int .i64 x.qty, .int .i64 x.day, .int .i64 x.days, .int .i64 x.rank, .int .i64 x.lot, .int .i64 x.line, .slice (some ⟨g9, 0, none⟩) x.parts.length (x.parts.length + 12), .slice (some ⟨g10, 0, none⟩) x.others.length (x.others.length + 12)]) (t := 38) ?hr ?_; (case hd => rfl); (case hg => rfl); (case hr => first | (go_simp; done) | (go_simp; rfl)); intro g1 hg1 w1 hbox1 hb1; have HX1 := Aside0.mk hbox1; have HB1 := Aside0.mk hb1; clear hbox1 hb1 hg1)
    | ((with_reducible refine gate_dst (N := 3) rfl ?_); refine box_event ?hg (N := 3) ?hd (cs := #[.int .u8 x.kind, .int .i64 x.req, .string x.item, .int .i64 x.qty, .int .i64 x.day, .int .i64 x.days, .int .i64 x.rank, .int .i64 x.lot, .int .i64 x.line, .slice A9 x.parts.length c9, .slice A10 x.others.length c10]) (t := 38) ?hr ?_; (case hd => rfl); (case hg => rfl); (case hr => first | (go_simp; done) | (go_simp; rfl)); intro g2 hg2 w2 hbox2 hb2; have HY2 := Aside0.mk hbox2; have HX2 := Aside0.mk (blk_below HX1.out hb2); have HB2 := Aside0.mk (below_step HB1.out hb2); clear hbox2 hb2 hg2)
    | (refine gate_ (.load 38 (.tmp 2)) rfl ?_; refine wpList_load_row rfl 38 _ rfl g1 (by rfl) 38 #[.int .u8 x.kind, .int .i64 x.req, .string x.item, .int .i64 x.qty, .int .i64 x.day, .int .i64 x.days, .int .i64 x.rank, .int .i64 x.lot, .int .i64 x.line, .slice (some ⟨g9, 0, none⟩) x.parts.length (x.parts.length + 12), .slice (some ⟨g10, 0, none⟩) x.others.length (x.others.length + 12)] (0, 0) _ HX2.out Tryz.underlying38 rfl (by kernel_rfl) ?_)
    | (refine gate_ (.load 38 (.tmp 3)) rfl ?_; refine wpList_load_row rfl 38 _ rfl g2 (by rfl) 38 #[.int .u8 x.kind, .int .i64 x.req, .string x.item, .int .i64 x.qty, .int .i64 x.day, .int .i64 x.days, .int .i64 x.rank, .int .i64 x.lot, .int .i64 x.line, .slice A9 x.parts.length c9, .slice A10 x.others.length c10] (0, 0) _ HY2.out Tryz.underlying38 rfl (by kernel_rfl) ?_)
    | fail)
  refine (same_ask x _ _ _ _ A9 c9 A10 c10 _ h9 h10 (Kd.C_below HQ9.out HB2.out) (Kd.C_below HQ10.out HB2.out) (Kd.C_below HR9.out HB2.out) (Kd.C_below HR10.out HB2.out)).mono ?_
  rintro e w3 ⟨rfl, hb3⟩
  have HX3 := Aside0.mk (blk_below HX2.out hb3)
  have HY3 := Aside0.mk (blk_below HY2.out hb3)
  have HB3 := Aside0.mk (below_step HB2.out hb3)
  have hc0 : w3.cell? ⟨g1, 9, none⟩ = some (.slice (some ⟨g9, 0, none⟩) x.parts.length (x.parts.length + 12)) := blk_cell HX3.out 9
  have hc1 : w3.cell? ⟨g2, 9, none⟩ = some (.slice A9 x.parts.length c9) := blk_cell HY3.out 9
  clear hb3
  go_wp2_with fail
  refine (kept_parts g9 x.parts A9 c9 base _ h9 (ownS_below HO9.out HB3.out) (Kd.C_below HR9.out HB3.out)).mono ?_
  rintro e w4 ⟨rfl, hb4⟩
  have HX4 := Aside0.mk (blk_below HX3.out hb4)
  have HY4 := Aside0.mk (blk_below HY3.out hb4)
  have HB4 := Aside0.mk (below_step HB3.out hb4)
  have hc2 : w4.cell? ⟨g1, 10, none⟩ = some (.slice (some ⟨g10, 0, none⟩) x.others.length (x.others.length + 12)) := blk_cell HX4.out 10
  have hc3 : w4.cell? ⟨g2, 10, none⟩ = some (.slice A10 x.others.length c10) := blk_cell HY4.out 10
  clear hb4 hc0 hc1
  go_wp2_with fail
  refine (kept_texts g10 x.others A10 c10 base _ h10 (ownS_below HO10.out HB4.out) (Kd.C_below HR10.out HB4.out)).mono ?_
  rintro e w5 ⟨rfl, hb5⟩
  have HB5 := Aside0.mk (below_step HB4.out hb5)
  clear hb5 hc2 hc3
  go_wp2_with fail
  go_ret
  exact ⟨rfl, HB5.out⟩
end Go.Proofs.YtkpedlhofalnjaaGreatDoor
end
