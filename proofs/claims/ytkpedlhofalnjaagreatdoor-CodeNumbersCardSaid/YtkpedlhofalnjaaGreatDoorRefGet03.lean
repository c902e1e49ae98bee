/- storemanref03.Get answers as code.Get does. -/
import Derived.Test.YtkpedlhofalnjaaGreatDoorPure03
import Derived.Test.YtkpedlhofalnjaaGreatDoorC4
namespace Go.Proofs.YtkpedlhofalnjaaGreatDoor
open Go.RowKit Go.Proofs.YtkpedlhofalnjaaGreatDoorW.PrintWords Go.Proofs.YtkpedlhofalnjaaGreatDoorW.PrintLast Go.Proofs.YtkpedlhofalnjaaGreatDoorW.PrintMore

theorem right_ref (S : ByteArray) (h : S.size ≤ 9223372036854775807) (b : Bool) (hb : isCode S.data.toList = b) (w : World) :
    Calls Tryz.prog 60 #[.string S] w fun e w' => e = .returned (.bool b) ∧ Below w.heap.size w w' :=
  (C.storemanref03_Right.calls (S.size + 3) S b w (by rw [ref_right S h _ (by omega), hb])).mono fun e w' ⟨he, nd, hw⟩ => ⟨he, by subst hw; exact pw_below_drewN (Below.refl _ _) nd⟩

set_option maxRecDepth 100000 in
set_option maxHeartbeats 1000000 in
theorem ref_Get.calls (A0 : Option Addr) (c0 : Nat) (l0 : List Int) (r1 : ByteArray) (r2 : Int) (r3 : Bool) (w : World) (hr0 : Kd.C (Kd.int .u8) w A0 l0.length l0) (hc0 : l0.length ≤ c0) (h : code_Get.f l0 = some (r1, r2, r3)) :
    Calls Tryz.prog 18 #[.slice A0 l0.length c0] w fun e w' => e = .returned (.tuple #[.string r1, .int .i64 r2, .bool r3]) ∧ Below w.heap.size w w' := by
  unfold code_Get.f at h
  have hmax := hr0.2.1
  by_cases h0 : l0.length = 0
  · rw [if_pos h0] at h
    injection h with h
    injection h with h1 h
    injection h with h2 h3
    subst h1; subst h2; subst h3
    rw [h0]
    clear hr0 hc0 h0 hmax
    go_enter Tryz.func18, Tryz.ntmps18
    go_wp2_with fail
    go_ret3
    exact ⟨rfl, Below.refl _ _⟩
  · rw [if_neg h0] at h
    by_cases hb : 0 ≤ rd l0 0 ∧ rd l0 0 ≤ 255
    · rw [if_pos hb] at h
      injection h with h
      have hpos : 0 < l0.length := by omega
      have hz : ((l0.length : Int) == 0) = false := by simpa using h0
      obtain ⟨ad, rfl, hx⟩ := Kd.at_int hr0 0 (Int.le_refl _) (by omega)
      rw [show ((0 : Int)).toNat = 0 from rfl, Addr.add_zero'] at hx
      obtain ⟨n, hn, hn255⟩ : ∃ n : Nat, rd l0 0 = (n : Int) ∧ n ≤ 255 := ⟨(rd l0 0).toNat, by omega, by omega⟩
      rw [hn] at hx h
      rw [Int.toNat_natCast] at h
      unfold getCode at h
      clear hb hn h0
      obtain ⟨len, hlen⟩ : ∃ len, len = l0.length := ⟨_, rfl⟩
      by_cases hl : l0.length < 1 + n
      · rw [if_pos hl] at h
        injection h with h1 h
        injection h with h2 h3
        subst h1; subst h2; subst h3
        rw [← hlen] at hl hpos hz hmax ⊢
        have hl1 : decide ((len : Int) ≤ (n : Int)) = true := decide_eq_true (by omega)
        have hl2 : decide (0 < (n : Int)) = true := decide_eq_true (by omega)
        clear hr0 hc0 hlen
        go_enter Tryz.func18, Tryz.ntmps18
        go_wp2_with fail
        repeat (go_quiet (fail); try go_wp2_with fail)
        go_ret3
        exact ⟨rfl, (Below.refl _ _)⟩
      · rw [if_neg hl] at h
        obtain ⟨i0, hi, hz0, hz1, hz2⟩ := info_parts (Q.info5)
        obtain ⟨A', hcut, hA, hC⟩ := print_mid_of (P := Tryz.prog) (Value.int .u8) 0 22 5 .i64 .i64 Tryz.underlying22 hi hz1 (some ad) c0 l0 1 (1 + (n : Int)) (by omega) (by omega) (by omega) hc0
        have e1 : (1 + (n : Int)).toNat = 1 + n := by omega
        have e2 : ((l0.take (1 + (n : Int)).toNat).drop (1 : Int).toNat).length = n := by rw [List.length_drop, List.length_take, e1]; simp; omega
        have hR := hA w (Kd.reads_of_C hr0)
        rw [e2] at hcut hR hC
        obtain ⟨S, hS⟩ : ∃ S, S = codeIn l0 n := ⟨_, rfl⟩
        have hcv : ∀ W, Below w.heap.size w W → (convert 22 9 (.slice A' n (c0 - (1 : Int).toNat))).run Tryz.prog W = .ok (.string S) W := fun W hb => by
          have := Kd.C_string (P := Tryz.prog) (w := W) (A := A') (c := c0 - (1 : Int).toNat) Tryz.underlying22 Tryz.underlying5 Tryz.underlying9 (Kd.C_below (Kd.C_of_reads (h1 := fun _ => rfl) hR) hb)
          rw [this, hS, codeIn]
          rw [e1]
          rfl
        rw [← hS] at h
        have hSs : S.size ≤ n := by
          rw [hS, codeIn, strOfNums]
          show ((((l0.take (1 + n)).drop 1).map fun n => UInt8.ofNat n.toNat).toArray).size ≤ n
          simp
          omega
        rw [← hlen] at hl hpos hz hmax hcut ⊢
        have hSe : S.size = n := by
          rw [hS, codeIn, strOfNums]
          show ((((l0.take (1 + n)).drop 1).map fun n => UInt8.ofNat n.toNat).toArray).size = n
          simp
          omega
        have hSm : S.size ≤ 9223372036854775807 := by omega
        have hSn : 1 + (S.size : Int) = 1 + (n : Int) := by omega
        rw [hSn] at h
        have hl' : decide ((len : Int) ≤ (n : Int)) = false := decide_eq_false (by omega)
        have hcv0 : (convert 22 9 (.slice A' n (c0 - 1))).run Tryz.prog w = .ok (.string S) w := hcv w (Below.refl _ _)
        clear hr0 hc0 hlen hA hC hR e1 e2 hS hcv hi hz0 hz1 hz2
        by_cases e : S.data.toList = []
        · rw [if_pos (.inl e)] at h
          injection h with h1 h
          injection h with h2 h3
          subst h1; subst h2; subst h3
          have e' : S.toList = [] := by rw [Lib.toList_data]; exact e
          clear e
          go_enter Tryz.func18, Tryz.ntmps18
          go_wp2_with fail
          repeat (go_quiet (fail); try go_wp2_with fail)
          go_ret3
          exact ⟨rfl, Below.refl _ _⟩
        · have e' : S.toList.isEmpty = false := by rw [Lib.toList_data]; simpa using e
          by_cases hc : isCode S.data.toList = true
          · rw [if_pos (.inr hc)] at h
            injection h with h1 h
            injection h with h2 h3
            subst h1; subst h2; subst h3
            have HR : ∀ w : World, Calls Tryz.prog 60 #[.string S] w fun e w' => e = .returned (.bool true) ∧ Below w.heap.size w w' := fun w => right_ref S hSm true hc w
            have HR' := Lib.hid HR
            clear HR hc e
            go_enter Tryz.func18, Tryz.ntmps18
            go_wp2_with fail
            repeat (go_quiet (fail); try go_wp2_with fail)
            refine (HR'.out _).mono ?_
            rintro e w1 ⟨rfl, hb1⟩
            go_wp2_with fail
            go_ret3
            exact ⟨rfl, hb1⟩
          · have hc' : isCode S.data.toList = false := by simpa using hc
            rw [if_neg (by rw [hc']; simpa using e)] at h
            injection h with h1 h
            injection h with h2 h3
            subst h1; subst h2; subst h3
            have HR : ∀ w : World, Calls Tryz.prog 60 #[.string S] w fun e w' => e = .returned (.bool false) ∧ Below w.heap.size w w' := fun w => right_ref S hSm false hc' w
            have HR' := Lib.hid HR
            clear HR hc hc' e
            go_enter Tryz.func18, Tryz.ntmps18
            go_wp2_with fail
            repeat (go_quiet (fail); try go_wp2_with fail)
            refine (HR'.out _).mono ?_
            rintro e w1 ⟨rfl, hb1⟩
            go_wp2_with fail
            go_ret3
            exact ⟨rfl, hb1⟩
    · rw [if_neg hb] at h
      cases h
end Go.Proofs.YtkpedlhofalnjaaGreatDoor
