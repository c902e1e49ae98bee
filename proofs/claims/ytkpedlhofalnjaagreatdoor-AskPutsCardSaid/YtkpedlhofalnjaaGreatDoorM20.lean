/- A14, C5, Pure03, RefPure13. -/
import Derived.Test.YtkpedlhofalnjaaGreatDoorM4
import Derived.Test.YtkpedlhofalnjaaGreatDoorC4
import Derived.Test.YtkpedlhofalnjaaGreatDoorM5
import Derived.Test.YtkpedlhofalnjaaGreatDoorM6
import Derived.Test.YtkpedlhofalnjaaGreatDoorM7
import Derived.Test.YtkpedlhofalnjaaGreatDoorM18

section
-- Written by a program of this session (a turned copy of the kit's print): functions and their proofs.
namespace Go.Proofs.YtkpedlhofalnjaaGreatDoor.A
open Go.RowKit Go.Proofs.YtkpedlhofalnjaaGreatDoorW.PrintWords Go.Proofs.YtkpedlhofalnjaaGreatDoorW.PrintLast Go.Proofs.YtkpedlhofalnjaaGreatDoorW.PrintMore
attribute [local go_sem] max2_int min2_int max_two min_two max_three min_three max_four min_four   -- for this text's walks alone
set_option linter.unusedVariables false
set_option linter.unusedSimpArgs false

-- GIVEN: function 60 (storemanref03_Right)

/-! ### storemanref13_parts: function 96 -/
mutual
def storemanref13_parts.l0 : Nat → List (S58) → Int → Option (Bool)
  | 0, _, _ => none
  | k + 1, x0, x3 => if x3 < (x0.length : Int) then (if 0 ≤ x3 then ((C.storemanref03_Right.f k ((rd_T58 x0 x3).f0)).bind fun t162 => (if t162 = true then (if ((rd_T58 x0 x3).f1) < 1 then (storemanref13_parts.j1 k x0 x3 true) else (storemanref13_parts.j1 k x0 x3 (decide (((rd_T58 x0 x3).f1) > 1073741824)))) else (storemanref13_parts.j1 k x0 x3 true))) else (none)) else (if (x0.length : Int) ≥ 1 then (some (decide ((x0.length : Int) ≤ 8))) else (some false))
def storemanref13_parts.j1 : Nat → List (S58) → Int → Bool → Option (Bool)
  | 0, _, _, _ => none
  | k + 1, x0, x3, x33 => if x33 = true then (some false) else (storemanref13_parts.l1 k x0 x3 0)
def storemanref13_parts.l1 : Nat → List (S58) → Int → Int → Option (Bool)
  | 0, _, _, _ => none
  | k + 1, x0, x3, x4 => if x4 < x3 then (if 0 ≤ x4 then (if x4 < (x0.length : Int) then (if 0 ≤ x3 then (if x3 < (x0.length : Int) then (if ((rd_T58 x0 x4).f0).toList = ((rd_T58 x0 x3).f0).toList then (some false) else (storemanref13_parts.l1 k x0 x3 (wrap64 (x4 + 1)))) else (none)) else (none)) else (none)) else (none)) else (storemanref13_parts.l0 k x0 (wrap64 (x3 + 1)))
end
def storemanref13_parts.f (k : Nat) (l0 : List (S58)) : Option (Bool) := storemanref13_parts.l0 k l0 0
set_option maxHeartbeats 8000000 in
set_option maxRecDepth 100000 in
theorem storemanref13_parts.calls (k : Nat) (A0 : Option Addr) (c0 : Nat) (l0 : List (S58)) (r : Bool) (w : World) (hr0 : Kd.C k58 w A0 l0.length l0) (hc0 : l0.length ≤ c0) (h : storemanref13_parts.f k l0 = some r) :
    Calls Tryz.prog 96 #[.slice A0 l0.length c0] w fun e w' => e = .returned (.bool r) ∧ Drawn0 w w' := by
  have HR0 := Aside0.mk hr0
  have HC0 := Aside0.mk hc0
  clear hr0 hc0
  have H : (storemanref13_parts.l0 k l0 0) = some r := h
  clear h
  have H' := Aside0.mk H
  clear H
  go_enter Tryz.func96, Tryz.ntmps96
  go_wp2
  repeat (go_quiet (fail); try go_wp2)
  go_loopg [3] k (fun kq v3 w' => ∃ (x3_1 : Int), v3 = .int .i64 x3_1 ∧ Aside0 (storemanref13_parts.l0 kq l0 x3_1 = some r) ∧ Aside0 (kq ≤ k) ∧ Drawn0 w w')
  case atStart => exact ⟨(0), (by first | rfl | (simp; done) | (simp [*]; done)), H', ⟨Nat.le_refl _⟩, by repeat (first | exact Drawn0.refl _ | apply Drawn0.step)⟩
  case round =>
    clear H'
    obtain ⟨x3_1, rfl, HA, HK1, ⟨m1, rfl⟩⟩ := hrel
    cases gk with
    | zero => exact absurd HA.out (by simp [storemanref13_parts.l0])
    | succ k1 =>
      have H := HA.out
      clear HA
      simp only [storemanref13_parts.l0] at H
      by_cases c2 : x3_1 < (l0.length : Int)
      · rw [if_pos c2] at H
        have c2b0 : decide (x3_1 < (l0.length : Int)) = true := decide_eq_true c2
        clear c2
        have HC3 := Aside0.mk H
        clear H
        go_upto_region 4 with (fail)
        repeat (go_quiet (fail); go_upto_region 4 with (fail))
        go_cut [33] (fun v33 wc => ∃ (kq : Nat) (x33_2 : Bool), v33 = .bool x33_2 ∧ Aside0 (storemanref13_parts.j1 kq l0 x3_1 x33_2 = some r) ∧ Aside0 (kq ≤ k1) ∧ Drawn0 w wc)
        case first =>
          have H := HC3.out
          clear HC3
          by_cases c4 : 0 ≤ x3_1
          · rw [if_pos c4] at H
            have c4b0 : decide (0 ≤ x3_1) = true := decide_eq_true c4
            clear c4
            (first | rw [c4b0] | (simp only [i64_w, i32_w]; rw [c4b0]) | rw [c4b1] | skip)
            replace H := Option.bind_eq_some_iff.mp H
            obtain ⟨t162, A50, H⟩ := H
            replace H : (if t162 = true then (if ((rd_T58 l0 x3_1).f1) < 1 then (storemanref13_parts.j1 k1 l0 x3_1 true) else (storemanref13_parts.j1 k1 l0 x3_1 (decide (((rd_T58 l0 x3_1).f1) > 1073741824)))) else (storemanref13_parts.j1 k1 l0 x3_1 true)) = some r := H
            have A5 := Aside0.mk A50
            clear A50
            by_cases c6 : t162 = true
            · subst c6
              have H1 : (if ((rd_T58 l0 x3_1).f1) < 1 then (storemanref13_parts.j1 k1 l0 x3_1 true) else (storemanref13_parts.j1 k1 l0 x3_1 (decide (((rd_T58 l0 x3_1).f1) > 1073741824)))) = some r := by rw [if_pos rfl] at H; exact H
              clear H
              have H := H1
              clear H1
              by_cases c7 : ((rd_T58 l0 x3_1).f1) < 1
              · rw [if_pos c7] at H
                have c7b0 : decide (((rd_T58 l0 x3_1).f1) < 1) = true := decide_eq_true c7
                clear c7
                have H' := Aside0.mk H
                clear H
                have p161 : 0 ≤ (x3_1 : Int) := of_decide_eq_true (by first | (with_reducible assumption) | assumption)
                have q161 : x3_1 < (l0.length : Int) := of_decide_eq_true (by first | (with_reducible assumption) | assumption)
                obtain ⟨ad161, e161, hx161_0, hx161_1⟩ := at_T58 HR0.out x3_1 p161 q161
                cases e161
                replace p161 := eq_true p161
                replace q161 := eq_true q161
                go_wp2_with (first | (go_at_call 60; (with_reducible refine (C.storemanref03_Right.calls k1 ((rd_T58 l0 x3_1).f0) true _ A5.out).mono ?_); rintro e w' ⟨rfl, ⟨nd, rfl⟩⟩; (try first | exact ⟨rfl, _, World.drewN_drewN _ _ _⟩ | exact ⟨rfl, _, Eq.trans (World.drewN_drewN _ _ _) (congrArg (World.drewN _) (Nat.add_assoc _ _ _))⟩); have p163 : 0 ≤ (x3_1 : Int) := of_decide_eq_true (by first | (with_reducible assumption) | assumption); have q163 : x3_1 < (l0.length : Int) := of_decide_eq_true (by first | (with_reducible assumption) | assumption); obtain ⟨ad163, e163, hx163_0, hx163_1⟩ := at_T58 HR0.out x3_1 p163 q163; obtain rfl : ad161 = ad163 := (by injection e163); replace p163 := eq_true p163; replace q163 := eq_true q163))
                repeat (go_quiet (first | (go_at_call 60; (with_reducible refine (C.storemanref03_Right.calls k1 ((rd_T58 l0 x3_1).f0) true _ A5.out).mono ?_); rintro e w' ⟨rfl, ⟨nd, rfl⟩⟩; (try first | exact ⟨rfl, _, World.drewN_drewN _ _ _⟩ | exact ⟨rfl, _, Eq.trans (World.drewN_drewN _ _ _) (congrArg (World.drewN _) (Nat.add_assoc _ _ _))⟩); have p163 : 0 ≤ (x3_1 : Int) := of_decide_eq_true (by first | (with_reducible assumption) | assumption); have q163 : x3_1 < (l0.length : Int) := of_decide_eq_true (by first | (with_reducible assumption) | assumption); obtain ⟨ad163, e163, hx163_0, hx163_1⟩ := at_T58 HR0.out x3_1 p163 q163; obtain rfl : ad161 = ad163 := (by injection e163); replace p163 := eq_true p163; replace q163 := eq_true q163)); try go_wp2_with (first | (go_at_call 60; (with_reducible refine (C.storemanref03_Right.calls k1 ((rd_T58 l0 x3_1).f0) true _ A5.out).mono ?_); rintro e w' ⟨rfl, ⟨nd, rfl⟩⟩; (try first | exact ⟨rfl, _, World.drewN_drewN _ _ _⟩ | exact ⟨rfl, _, Eq.trans (World.drewN_drewN _ _ _) (congrArg (World.drewN _) (Nat.add_assoc _ _ _))⟩); have p163 : 0 ≤ (x3_1 : Int) := of_decide_eq_true (by first | (with_reducible assumption) | assumption); have q163 : x3_1 < (l0.length : Int) := of_decide_eq_true (by first | (with_reducible assumption) | assumption); obtain ⟨ad163, e163, hx163_0, hx163_1⟩ := at_T58 HR0.out x3_1 p163 q163; obtain rfl : ad161 = ad163 := (by injection e163); replace p163 := eq_true p163; replace q163 := eq_true q163)))
                go_meet
                case rel => exact ⟨_, (true), (by first | rfl | (simp; done) | (simp [*]; done)), H', ⟨by have := HK1.out; first | omega | exact Nat.le_refl _⟩, by repeat (first | exact Drawn0.refl _ | apply Drawn0.step)⟩
              · rw [if_neg c7] at H
                have c7b0 : decide (((rd_T58 l0 x3_1).f1) < 1) = false := decide_eq_false c7
                clear c7
                have H' := Aside0.mk H
                clear H
                have p161 : 0 ≤ (x3_1 : Int) := of_decide_eq_true (by first | (with_reducible assumption) | assumption)
                have q161 : x3_1 < (l0.length : Int) := of_decide_eq_true (by first | (with_reducible assumption) | assumption)
                obtain ⟨ad161, e161, hx161_0, hx161_1⟩ := at_T58 HR0.out x3_1 p161 q161
                cases e161
                replace p161 := eq_true p161
                replace q161 := eq_true q161
                go_wp2_with (first | (go_at_call 60; (with_reducible refine (C.storemanref03_Right.calls k1 ((rd_T58 l0 x3_1).f0) true _ A5.out).mono ?_); rintro e w' ⟨rfl, ⟨nd, rfl⟩⟩; (try first | exact ⟨rfl, _, World.drewN_drewN _ _ _⟩ | exact ⟨rfl, _, Eq.trans (World.drewN_drewN _ _ _) (congrArg (World.drewN _) (Nat.add_assoc _ _ _))⟩); have p163 : 0 ≤ (x3_1 : Int) := of_decide_eq_true (by first | (with_reducible assumption) | assumption); have q163 : x3_1 < (l0.length : Int) := of_decide_eq_true (by first | (with_reducible assumption) | assumption); obtain ⟨ad163, e163, hx163_0, hx163_1⟩ := at_T58 HR0.out x3_1 p163 q163; obtain rfl : ad161 = ad163 := (by injection e163); replace p163 := eq_true p163; replace q163 := eq_true q163; have p164 : 0 ≤ (x3_1 : Int) := of_decide_eq_true (by first | (with_reducible assumption) | assumption); have q164 : x3_1 < (l0.length : Int) := of_decide_eq_true (by first | (with_reducible assumption) | assumption); obtain ⟨ad164, e164, hx164_0, hx164_1⟩ := at_T58 HR0.out x3_1 p164 q164; obtain rfl : ad161 = ad164 := (by injection e164); replace p164 := eq_true p164; replace q164 := eq_true q164))
                repeat (go_quiet (first | (go_at_call 60; (with_reducible refine (C.storemanref03_Right.calls k1 ((rd_T58 l0 x3_1).f0) true _ A5.out).mono ?_); rintro e w' ⟨rfl, ⟨nd, rfl⟩⟩; (try first | exact ⟨rfl, _, World.drewN_drewN _ _ _⟩ | exact ⟨rfl, _, Eq.trans (World.drewN_drewN _ _ _) (congrArg (World.drewN _) (Nat.add_assoc _ _ _))⟩); have p163 : 0 ≤ (x3_1 : Int) := of_decide_eq_true (by first | (with_reducible assumption) | assumption); have q163 : x3_1 < (l0.length : Int) := of_decide_eq_true (by first | (with_reducible assumption) | assumption); obtain ⟨ad163, e163, hx163_0, hx163_1⟩ := at_T58 HR0.out x3_1 p163 q163; obtain rfl : ad161 = ad163 := (by injection e163); replace p163 := eq_true p163; replace q163 := eq_true q163; have p164 : 0 ≤ (x3_1 : Int) := of_decide_eq_true (by first | (with_reducible assumption) | assumption); have q164 : x3_1 < (l0.length : Int) := of_decide_eq_true (by first | (with_reducible assumption) | assumption); obtain ⟨ad164, e164, hx164_0, hx164_1⟩ := at_T58 HR0.out x3_1 p164 q164; obtain rfl : ad161 = ad164 := (by injection e164); replace p164 := eq_true p164; replace q164 := eq_true q164)); try go_wp2_with (first | (go_at_call 60; (with_reducible refine (C.storemanref03_Right.calls k1 ((rd_T58 l0 x3_1).f0) true _ A5.out).mono ?_); rintro e w' ⟨rfl, ⟨nd, rfl⟩⟩; (try first | exact ⟨rfl, _, World.drewN_drewN _ _ _⟩ | exact ⟨rfl, _, Eq.trans (World.drewN_drewN _ _ _) (congrArg (World.drewN _) (Nat.add_assoc _ _ _))⟩); have p163 : 0 ≤ (x3_1 : Int) := of_decide_eq_true (by first | (with_reducible assumption) | assumption); have q163 : x3_1 < (l0.length : Int) := of_decide_eq_true (by first | (with_reducible assumption) | assumption); obtain ⟨ad163, e163, hx163_0, hx163_1⟩ := at_T58 HR0.out x3_1 p163 q163; obtain rfl : ad161 = ad163 := (by injection e163); replace p163 := eq_true p163; replace q163 := eq_true q163; have p164 : 0 ≤ (x3_1 : Int) := of_decide_eq_true (by first | (with_reducible assumption) | assumption); have q164 : x3_1 < (l0.length : Int) := of_decide_eq_true (by first | (with_reducible assumption) | assumption); obtain ⟨ad164, e164, hx164_0, hx164_1⟩ := at_T58 HR0.out x3_1 p164 q164; obtain rfl : ad161 = ad164 := (by injection e164); replace p164 := eq_true p164; replace q164 := eq_true q164)))
                go_meet
                case rel => exact ⟨_, (decide (((rd_T58 l0 x3_1).f1) > 1073741824)), (by first | rfl | (simp; done) | (simp [*]; done)), H', ⟨by have := HK1.out; first | omega | exact Nat.le_refl _⟩, by repeat (first | exact Drawn0.refl _ | apply Drawn0.step)⟩
            · replace c6 := Bool.eq_false_iff.mpr c6
              subst c6
              have H1 : (storemanref13_parts.j1 k1 l0 x3_1 true) = some r := by rw [if_neg (show ¬ (false = true) by decide)] at H; exact H
              clear H
              have H := H1
              clear H1
              have H' := Aside0.mk H
              clear H
              have p161 : 0 ≤ (x3_1 : Int) := of_decide_eq_true (by first | (with_reducible assumption) | assumption)
              have q161 : x3_1 < (l0.length : Int) := of_decide_eq_true (by first | (with_reducible assumption) | assumption)
              obtain ⟨ad161, e161, hx161_0, hx161_1⟩ := at_T58 HR0.out x3_1 p161 q161
              cases e161
              replace p161 := eq_true p161
              replace q161 := eq_true q161
              go_wp2_with (first | (go_at_call 60; (with_reducible refine (C.storemanref03_Right.calls k1 ((rd_T58 l0 x3_1).f0) false _ A5.out).mono ?_); rintro e w' ⟨rfl, ⟨nd, rfl⟩⟩; (try first | exact ⟨rfl, _, World.drewN_drewN _ _ _⟩ | exact ⟨rfl, _, Eq.trans (World.drewN_drewN _ _ _) (congrArg (World.drewN _) (Nat.add_assoc _ _ _))⟩)))
              repeat (go_quiet (first | (go_at_call 60; (with_reducible refine (C.storemanref03_Right.calls k1 ((rd_T58 l0 x3_1).f0) false _ A5.out).mono ?_); rintro e w' ⟨rfl, ⟨nd, rfl⟩⟩; (try first | exact ⟨rfl, _, World.drewN_drewN _ _ _⟩ | exact ⟨rfl, _, Eq.trans (World.drewN_drewN _ _ _) (congrArg (World.drewN _) (Nat.add_assoc _ _ _))⟩))); try go_wp2_with (first | (go_at_call 60; (with_reducible refine (C.storemanref03_Right.calls k1 ((rd_T58 l0 x3_1).f0) false _ A5.out).mono ?_); rintro e w' ⟨rfl, ⟨nd, rfl⟩⟩; (try first | exact ⟨rfl, _, World.drewN_drewN _ _ _⟩ | exact ⟨rfl, _, Eq.trans (World.drewN_drewN _ _ _) (congrArg (World.drewN _) (Nat.add_assoc _ _ _))⟩))))
              go_meet
              case rel => exact ⟨_, (true), (by first | rfl | (simp; done) | (simp [*]; done)), H', ⟨by have := HK1.out; first | omega | exact Nat.le_refl _⟩, by repeat (first | exact Drawn0.refl _ | apply Drawn0.step)⟩
          · rw [if_neg c4] at H
            exact absurd H (by simp)
        case rest =>
          clear HC3
          try clear p1
          try clear q1
          try clear hx1
          try clear c2
          try clear c2b0
          try clear p2
          try clear c4
          try clear c4b0
          try clear c4b1
          try clear c6
          try clear c7
          try clear c7b0
          try clear hx161_0
          try clear hx161_1
          try clear hx163_0
          try clear hx163_1
          try clear hx164_0
          try clear hx164_1
          try clear p161
          try clear p163
          try clear p164
          try clear q161
          try clear q163
          try clear q164
          obtain ⟨kq, x33_2, rfl, HA, HJ2, ⟨mc2, rfl⟩⟩ := hcut
          cases kq with
          | zero => exact absurd HA.out (by simp [storemanref13_parts.j1])
          | succ kj2 =>
            have H := HA.out
            clear HA
            simp only [storemanref13_parts.j1] at H
            by_cases c8 : x33_2 = true
            · subst c8
              have H1 : (some false) = some r := by rw [if_pos rfl] at H; exact H
              clear H
              have H := H1
              clear H1
              obtain rfl := Option.some.inj H
              go_wp2
              repeat (go_quiet (fail); try go_wp2)
              go_ret
              exact ⟨by first | rfl | (simp; done) | (simp [*]; done), by repeat (first | exact Drawn0.refl _ | apply Drawn0.step)⟩
            · replace c8 := Bool.eq_false_iff.mpr c8
              subst c8
              have H1 : (storemanref13_parts.l1 kj2 l0 x3_1 0) = some r := by rw [if_neg (show ¬ (false = true) by decide)] at H; exact H
              clear H
              have H := H1
              clear H1
              have H' := Aside0.mk H
              clear H
              go_wp2
              repeat (go_quiet (fail); try go_wp2)
              go_loopg [4] kj2 (fun kq v4 w' => ∃ (x4_3 : Int), v4 = .int .i64 x4_3 ∧ Aside0 (storemanref13_parts.l1 kq l0 x3_1 x4_3 = some r) ∧ Aside0 (kq ≤ kj2) ∧ Drawn0 w w')
              case atStart => exact ⟨(0), (by first | rfl | (simp; done) | (simp [*]; done)), H', ⟨Nat.le_refl _⟩, by repeat (first | exact Drawn0.refl _ | apply Drawn0.step)⟩
              case round =>
                clear H'
                try clear p1
                try clear q1
                try clear hx1
                try clear c2
                try clear c2b0
                try clear p2
                try clear c4
                try clear c4b0
                try clear c4b1
                try clear c6
                try clear c7
                try clear c7b0
                try clear c8
                try clear hx161_0
                try clear hx161_1
                try clear hx163_0
                try clear hx163_1
                try clear hx164_0
                try clear hx164_1
                try clear p1
                try clear p161
                try clear p163
                try clear p164
                try clear p2
                try clear q1
                try clear q161
                try clear q163
                try clear q164
                obtain ⟨x4_3, rfl, HA, HK3, ⟨m3, rfl⟩⟩ := hrel
                cases gk with
                | zero => exact absurd HA.out (by simp [storemanref13_parts.l1])
                | succ k3 =>
                  have H := HA.out
                  clear HA
                  simp only [storemanref13_parts.l1] at H
                  by_cases c9 : x4_3 < x3_1
                  · rw [if_pos c9] at H
                    have c9b0 : decide (x4_3 < x3_1) = true := decide_eq_true c9
                    clear c9
                    by_cases c10 : 0 ≤ x4_3
                    · rw [if_pos c10] at H
                      have c10b0 : decide (0 ≤ x4_3) = true := decide_eq_true c10
                      clear c10
                      by_cases c11 : x4_3 < (l0.length : Int)
                      · rw [if_pos c11] at H
                        have c11b0 : decide (x4_3 < (l0.length : Int)) = true := decide_eq_true c11
                        clear c11
                        by_cases c12 : 0 ≤ x3_1
                        · rw [if_pos c12] at H
                          have c12b0 : decide (0 ≤ x3_1) = true := decide_eq_true c12
                          clear c12
                          by_cases c13 : x3_1 < (l0.length : Int)
                          · rw [if_pos c13] at H
                            have c13b0 : decide (x3_1 < (l0.length : Int)) = true := decide_eq_true c13
                            clear c13
                            by_cases c14 : ((rd_T58 l0 x4_3).f0).toList = ((rd_T58 l0 x3_1).f0).toList
                            · rw [if_pos c14] at H
                              have c14b0 : (((rd_T58 l0 x4_3).f0).toList == ((rd_T58 l0 x3_1).f0).toList) = true := beq_iff_eq.mpr c14
                              have c14b1 : (((rd_T58 l0 x4_3).f0).toList != ((rd_T58 l0 x3_1).f0).toList) = false := bne_eq_false_iff_eq.mpr c14
                              clear c14
                              obtain rfl := Option.some.inj H
                              have p165 : 0 ≤ (x4_3 : Int) := of_decide_eq_true (by first | (with_reducible assumption) | assumption)
                              have q165 : x4_3 < (l0.length : Int) := of_decide_eq_true (by first | (with_reducible assumption) | assumption)
                              obtain ⟨ad165, e165, hx165_0, hx165_1⟩ := at_T58 HR0.out x4_3 p165 q165
                              cases e165
                              replace p165 := eq_true p165
                              replace q165 := eq_true q165
                              have p166 : 0 ≤ (x3_1 : Int) := of_decide_eq_true (by first | (with_reducible assumption) | assumption)
                              have q166 : x3_1 < (l0.length : Int) := of_decide_eq_true (by first | (with_reducible assumption) | assumption)
                              obtain ⟨ad166, e166, hx166_0, hx166_1⟩ := at_T58 HR0.out x3_1 p166 q166
                              obtain rfl : ad165 = ad166 := (by injection e166)
                              replace p166 := eq_true p166
                              replace q166 := eq_true q166
                              go_wp2
                              repeat (go_quiet (fail); try go_wp2)
                              go_ret
                              exact ⟨by first | rfl | (simp; done) | (simp [*]; done), by repeat (first | exact Drawn0.refl _ | apply Drawn0.step)⟩
                            · rw [if_neg c14] at H
                              have c14b0 : (((rd_T58 l0 x4_3).f0).toList == ((rd_T58 l0 x3_1).f0).toList) = false := beq_eq_false_iff_ne.mpr c14
                              have c14b1 : (((rd_T58 l0 x4_3).f0).toList != ((rd_T58 l0 x3_1).f0).toList) = true := bne_iff_ne.mpr c14
                              have H' := Aside0.mk H
                              clear H
                              have p165 : 0 ≤ (x4_3 : Int) := of_decide_eq_true (by first | (with_reducible assumption) | assumption)
                              have q165 : x4_3 < (l0.length : Int) := of_decide_eq_true (by first | (with_reducible assumption) | assumption)
                              obtain ⟨ad165, e165, hx165_0, hx165_1⟩ := at_T58 HR0.out x4_3 p165 q165
                              cases e165
                              replace p165 := eq_true p165
                              replace q165 := eq_true q165
                              have p166 : 0 ≤ (x3_1 : Int) := of_decide_eq_true (by first | (with_reducible assumption) | assumption)
                              have q166 : x3_1 < (l0.length : Int) := of_decide_eq_true (by first | (with_reducible assumption) | assumption)
                              obtain ⟨ad166, e166, hx166_0, hx166_1⟩ := at_T58 HR0.out x3_1 p166 q166
                              obtain rfl : ad165 = ad166 := (by injection e166)
                              replace p166 := eq_true p166
                              replace q166 := eq_true q166
                              go_wp2
                              repeat (go_quiet (fail); try go_wp2)
                              go_roundg k3
                              case measure => have := HK1.out; have := HJ2.out; have := HK3.out; omega
                              case rel => exact ⟨(wrap64 (x4_3 + 1)), (by first | rfl | (simp; done) | (simp [*]; done)), H', ⟨by have := HK1.out; have := HJ2.out; have := HK3.out; omega⟩, by repeat (first | exact Drawn0.refl _ | apply Drawn0.step)⟩
                          · rw [if_neg c13] at H
                            exact absurd H (by simp)
                        · rw [if_neg c12] at H
                          exact absurd H (by simp)
                      · rw [if_neg c11] at H
                        exact absurd H (by simp)
                    · rw [if_neg c10] at H
                      exact absurd H (by simp)
                  · rw [if_neg c9] at H
                    have c9b0 : decide (x4_3 < x3_1) = false := decide_eq_false c9
                    clear c9
                    have H' := Aside0.mk H
                    clear H
                    go_wp2
                    repeat (go_quiet (fail); try go_wp2)
                    go_roundg k3
                    case measure => have := HK1.out; have := HJ2.out; have := HK3.out; omega
                    case rel => exact ⟨(wrap64 (x3_1 + 1)), (by first | rfl | (simp; done) | (simp [*]; done)), H', ⟨by have := HK1.out; have := HJ2.out; have := HK3.out; omega⟩, by repeat (first | exact Drawn0.refl _ | apply Drawn0.step)⟩
      · rw [if_neg c2] at H
        have c2b0 : decide (x3_1 < (l0.length : Int)) = false := decide_eq_false c2
        clear c2
        by_cases c15 : (l0.length : Int) ≥ 1
        · rw [if_pos c15] at H
          have c15b0 : decide (1 ≤ (l0.length : Int)) = true := decide_eq_true c15
          have c15b1 : decide (1 ≤ l0.length) = true := decide_eq_true (by omega)
          clear c15
          obtain rfl := Option.some.inj H
          go_wp2
          repeat (go_quiet (fail); try go_wp2)
          go_ret
          exact ⟨by first | rfl | (simp; done) | (simp [*]; done), by repeat (first | exact Drawn0.refl _ | apply Drawn0.step)⟩
        · rw [if_neg c15] at H
          have c15b0 : decide (1 ≤ (l0.length : Int)) = false := decide_eq_false c15
          have c15b1 : decide (1 ≤ l0.length) = false := decide_eq_false (by omega)
          clear c15
          obtain rfl := Option.some.inj H
          go_wp2
          repeat (go_quiet (fail); try go_wp2)
          go_ret
          exact ⟨by first | rfl | (simp; done) | (simp [*]; done), by repeat (first | exact Drawn0.refl _ | apply Drawn0.step)⟩

/-! ### storemanref13_others: function 97 -/
mutual
def storemanref13_others.l0 : Nat → List ByteArray → ByteArray → Int → Option (Bool)
  | 0, _, _, _ => none
  | k + 1, x0, x1, x5 => if x5 < (x0.length : Int) then (if 0 ≤ x5 then ((C.storemanref03_Right.f k (rdOf ByteArray.empty x0 x5)).bind fun t168 => (if t168 = true then (storemanref13_others.j1 k x0 x1 x5 ((rdOf ByteArray.empty x0 x5).toList == x1.toList)) else (storemanref13_others.j1 k x0 x1 x5 true))) else (none)) else (some (decide ((x0.length : Int) ≤ 4)))
def storemanref13_others.j1 : Nat → List ByteArray → ByteArray → Int → Bool → Option (Bool)
  | 0, _, _, _, _ => none
  | k + 1, x0, x1, x5, x26 => if x26 = true then (some false) else (storemanref13_others.l1 k x0 x1 x5 0)
def storemanref13_others.l1 : Nat → List ByteArray → ByteArray → Int → Int → Option (Bool)
  | 0, _, _, _, _ => none
  | k + 1, x0, x1, x5, x6 => if x6 < x5 then (if 0 ≤ x6 then (if x6 < (x0.length : Int) then (if 0 ≤ x5 then (if x5 < (x0.length : Int) then (if (rdOf ByteArray.empty x0 x6).toList = (rdOf ByteArray.empty x0 x5).toList then (some false) else (storemanref13_others.l1 k x0 x1 x5 (wrap64 (x6 + 1)))) else (none)) else (none)) else (none)) else (none)) else (storemanref13_others.l0 k x0 x1 (wrap64 (x5 + 1)))
end
def storemanref13_others.f (k : Nat) (l0 : List ByteArray) (a1 : ByteArray) : Option (Bool) := storemanref13_others.l0 k l0 a1 0
set_option maxHeartbeats 8000000 in
set_option maxRecDepth 100000 in
theorem storemanref13_others.calls (k : Nat) (A0 : Option Addr) (c0 : Nat) (l0 : List ByteArray) (a1 : ByteArray) (r : Bool) (w : World) (hr0 : Kd.C Kd.string w A0 l0.length l0) (hc0 : l0.length ≤ c0) (h : storemanref13_others.f k l0 a1 = some r) :
    Calls Tryz.prog 97 #[.slice A0 l0.length c0, .string a1] w fun e w' => e = .returned (.bool r) ∧ Drawn0 w w' := by
  have HR0 := Aside0.mk hr0
  have HC0 := Aside0.mk hc0
  clear hr0 hc0
  have H : (storemanref13_others.l0 k l0 a1 0) = some r := h
  clear h
  have H' := Aside0.mk H
  clear H
  go_enter Tryz.func97, Tryz.ntmps97
  go_wp2
  repeat (go_quiet (fail); try go_wp2)
  go_loopg [5] k (fun kq v5 w' => ∃ (x5_1 : Int), v5 = .int .i64 x5_1 ∧ Aside0 (storemanref13_others.l0 kq l0 a1 x5_1 = some r) ∧ Aside0 (kq ≤ k) ∧ Drawn0 w w')
  case atStart => exact ⟨(0), (by first | rfl | (simp; done) | (simp [*]; done)), H', ⟨Nat.le_refl _⟩, by repeat (first | exact Drawn0.refl _ | apply Drawn0.step)⟩
  case round =>
    clear H'
    try clear p2
    obtain ⟨x5_1, rfl, HA, HK1, ⟨m1, rfl⟩⟩ := hrel
    cases gk with
    | zero => exact absurd HA.out (by simp [storemanref13_others.l0])
    | succ k1 =>
      have H := HA.out
      clear HA
      simp only [storemanref13_others.l0] at H
      by_cases c3 : x5_1 < (l0.length : Int)
      · rw [if_pos c3] at H
        have c3b0 : decide (x5_1 < (l0.length : Int)) = true := decide_eq_true c3
        clear c3
        have HC4 := Aside0.mk H
        clear H
        go_upto_region 4 with (fail)
        repeat (go_quiet (fail); go_upto_region 4 with (fail))
        go_cut [26] (fun v26 wc => ∃ (kq : Nat) (x26_3 : Bool), v26 = .bool x26_3 ∧ Aside0 (storemanref13_others.j1 kq l0 a1 x5_1 x26_3 = some r) ∧ Aside0 (kq ≤ k1) ∧ Drawn0 w wc)
        case first =>
          have H := HC4.out
          clear HC4
          by_cases c5 : 0 ≤ x5_1
          · rw [if_pos c5] at H
            have c5b0 : decide (0 ≤ x5_1) = true := decide_eq_true c5
            clear c5
            (first | rw [c5b0] | (simp only [i64_w, i32_w]; rw [c5b0]) | rw [c5b1] | skip)
            replace H := Option.bind_eq_some_iff.mp H
            obtain ⟨t168, A60, H⟩ := H
            replace H : (if t168 = true then (storemanref13_others.j1 k1 l0 a1 x5_1 ((rdOf ByteArray.empty l0 x5_1).toList == a1.toList)) else (storemanref13_others.j1 k1 l0 a1 x5_1 true)) = some r := H
            have A6 := Aside0.mk A60
            clear A60
            by_cases c7 : t168 = true
            · subst c7
              have H1 : (storemanref13_others.j1 k1 l0 a1 x5_1 ((rdOf ByteArray.empty l0 x5_1).toList == a1.toList)) = some r := by rw [if_pos rfl] at H; exact H
              clear H
              have H := H1
              clear H1
              have H' := Aside0.mk H
              clear H
              have p167 : 0 ≤ (x5_1 : Int) := of_decide_eq_true (by first | (with_reducible assumption) | assumption)
              have q167 : x5_1 < (l0.length : Int) := of_decide_eq_true (by first | (with_reducible assumption) | assumption)
              obtain ⟨ad167, e167, hx167_0⟩ := Kd.at_string HR0.out x5_1 p167 q167
              cases e167
              replace p167 := eq_true p167
              replace q167 := eq_true q167
              go_wp2_with (first | (go_at_call 60; (with_reducible refine (C.storemanref03_Right.calls k1 (rdOf ByteArray.empty l0 x5_1) true _ A6.out).mono ?_); rintro e w' ⟨rfl, ⟨nd, rfl⟩⟩; (try first | exact ⟨rfl, _, World.drewN_drewN _ _ _⟩ | exact ⟨rfl, _, Eq.trans (World.drewN_drewN _ _ _) (congrArg (World.drewN _) (Nat.add_assoc _ _ _))⟩); have p169 : 0 ≤ (x5_1 : Int) := of_decide_eq_true (by first | (with_reducible assumption) | assumption); have q169 : x5_1 < (l0.length : Int) := of_decide_eq_true (by first | (with_reducible assumption) | assumption); obtain ⟨ad169, e169, hx169_0⟩ := Kd.at_string HR0.out x5_1 p169 q169; obtain rfl : ad167 = ad169 := (by injection e169); replace p169 := eq_true p169; replace q169 := eq_true q169))
              repeat (go_quiet (first | (go_at_call 60; (with_reducible refine (C.storemanref03_Right.calls k1 (rdOf ByteArray.empty l0 x5_1) true _ A6.out).mono ?_); rintro e w' ⟨rfl, ⟨nd, rfl⟩⟩; (try first | exact ⟨rfl, _, World.drewN_drewN _ _ _⟩ | exact ⟨rfl, _, Eq.trans (World.drewN_drewN _ _ _) (congrArg (World.drewN _) (Nat.add_assoc _ _ _))⟩); have p169 : 0 ≤ (x5_1 : Int) := of_decide_eq_true (by first | (with_reducible assumption) | assumption); have q169 : x5_1 < (l0.length : Int) := of_decide_eq_true (by first | (with_reducible assumption) | assumption); obtain ⟨ad169, e169, hx169_0⟩ := Kd.at_string HR0.out x5_1 p169 q169; obtain rfl : ad167 = ad169 := (by injection e169); replace p169 := eq_true p169; replace q169 := eq_true q169)); try go_wp2_with (first | (go_at_call 60; (with_reducible refine (C.storemanref03_Right.calls k1 (rdOf ByteArray.empty l0 x5_1) true _ A6.out).mono ?_); rintro e w' ⟨rfl, ⟨nd, rfl⟩⟩; (try first | exact ⟨rfl, _, World.drewN_drewN _ _ _⟩ | exact ⟨rfl, _, Eq.trans (World.drewN_drewN _ _ _) (congrArg (World.drewN _) (Nat.add_assoc _ _ _))⟩); have p169 : 0 ≤ (x5_1 : Int) := of_decide_eq_true (by first | (with_reducible assumption) | assumption); have q169 : x5_1 < (l0.length : Int) := of_decide_eq_true (by first | (with_reducible assumption) | assumption); obtain ⟨ad169, e169, hx169_0⟩ := Kd.at_string HR0.out x5_1 p169 q169; obtain rfl : ad167 = ad169 := (by injection e169); replace p169 := eq_true p169; replace q169 := eq_true q169)))
              go_meet
              case rel => exact ⟨_, (((rdOf ByteArray.empty l0 x5_1).toList == a1.toList)), (by first | rfl | (simp; done) | (simp [*]; done)), H', ⟨by have := HK1.out; first | omega | exact Nat.le_refl _⟩, by repeat (first | exact Drawn0.refl _ | apply Drawn0.step)⟩
            · replace c7 := Bool.eq_false_iff.mpr c7
              subst c7
              have H1 : (storemanref13_others.j1 k1 l0 a1 x5_1 true) = some r := by rw [if_neg (show ¬ (false = true) by decide)] at H; exact H
              clear H
              have H := H1
              clear H1
              have H' := Aside0.mk H
              clear H
              have p167 : 0 ≤ (x5_1 : Int) := of_decide_eq_true (by first | (with_reducible assumption) | assumption)
              have q167 : x5_1 < (l0.length : Int) := of_decide_eq_true (by first | (with_reducible assumption) | assumption)
              obtain ⟨ad167, e167, hx167_0⟩ := Kd.at_string HR0.out x5_1 p167 q167
              cases e167
              replace p167 := eq_true p167
              replace q167 := eq_true q167
              go_wp2_with (first | (go_at_call 60; (with_reducible refine (C.storemanref03_Right.calls k1 (rdOf ByteArray.empty l0 x5_1) false _ A6.out).mono ?_); rintro e w' ⟨rfl, ⟨nd, rfl⟩⟩; (try first | exact ⟨rfl, _, World.drewN_drewN _ _ _⟩ | exact ⟨rfl, _, Eq.trans (World.drewN_drewN _ _ _) (congrArg (World.drewN _) (Nat.add_assoc _ _ _))⟩)))
              repeat (go_quiet (first | (go_at_call 60; (with_reducible refine (C.storemanref03_Right.calls k1 (rdOf ByteArray.empty l0 x5_1) false _ A6.out).mono ?_); rintro e w' ⟨rfl, ⟨nd, rfl⟩⟩; (try first | exact ⟨rfl, _, World.drewN_drewN _ _ _⟩ | exact ⟨rfl, _, Eq.trans (World.drewN_drewN _ _ _) (congrArg (World.drewN _) (Nat.add_assoc _ _ _))⟩))); try go_wp2_with (first | (go_at_call 60; (with_reducible refine (C.storemanref03_Right.calls k1 (rdOf ByteArray.empty l0 x5_1) false _ A6.out).mono ?_); rintro e w' ⟨rfl, ⟨nd, rfl⟩⟩; (try first | exact ⟨rfl, _, World.drewN_drewN _ _ _⟩ | exact ⟨rfl, _, Eq.trans (World.drewN_drewN _ _ _) (congrArg (World.drewN _) (Nat.add_assoc _ _ _))⟩))))
              go_meet
              case rel => exact ⟨_, (true), (by first | rfl | (simp; done) | (simp [*]; done)), H', ⟨by have := HK1.out; first | omega | exact Nat.le_refl _⟩, by repeat (first | exact Drawn0.refl _ | apply Drawn0.step)⟩
          · rw [if_neg c5] at H
            exact absurd H (by simp)
        case rest =>
          clear HC4
          try clear p1
          try clear q1
          try clear hx1
          try clear p2
          try clear c3
          try clear c3b0
          try clear c5
          try clear c5b0
          try clear c5b1
          try clear c7
          try clear hx167_0
          try clear hx169_0
          try clear p167
          try clear p169
          try clear p2
          try clear q167
          try clear q169
          obtain ⟨kq, x26_3, rfl, HA, HJ3, ⟨mc3, rfl⟩⟩ := hcut
          cases kq with
          | zero => exact absurd HA.out (by simp [storemanref13_others.j1])
          | succ kj3 =>
            have H := HA.out
            clear HA
            simp only [storemanref13_others.j1] at H
            by_cases c8 : x26_3 = true
            · subst c8
              have H1 : (some false) = some r := by rw [if_pos rfl] at H; exact H
              clear H
              have H := H1
              clear H1
              obtain rfl := Option.some.inj H
              go_wp2
              repeat (go_quiet (fail); try go_wp2)
              go_ret
              exact ⟨by first | rfl | (simp; done) | (simp [*]; done), by repeat (first | exact Drawn0.refl _ | apply Drawn0.step)⟩
            · replace c8 := Bool.eq_false_iff.mpr c8
              subst c8
              have H1 : (storemanref13_others.l1 kj3 l0 a1 x5_1 0) = some r := by rw [if_neg (show ¬ (false = true) by decide)] at H; exact H
              clear H
              have H := H1
              clear H1
              have H' := Aside0.mk H
              clear H
              go_wp2
              repeat (go_quiet (fail); try go_wp2)
              go_loopg [6] kj3 (fun kq v6 w' => ∃ (x6_3 : Int), v6 = .int .i64 x6_3 ∧ Aside0 (storemanref13_others.l1 kq l0 a1 x5_1 x6_3 = some r) ∧ Aside0 (kq ≤ kj3) ∧ Drawn0 w w')
              case atStart => exact ⟨(0), (by first | rfl | (simp; done) | (simp [*]; done)), H', ⟨Nat.le_refl _⟩, by repeat (first | exact Drawn0.refl _ | apply Drawn0.step)⟩
              case round =>
                clear H'
                try clear p1
                try clear q1
                try clear hx1
                try clear p2
                try clear c3
                try clear c3b0
                try clear c5
                try clear c5b0
                try clear c5b1
                try clear c7
                try clear c8
                try clear hx167_0
                try clear hx169_0
                try clear p1
                try clear p167
                try clear p169
                try clear p2
                try clear q1
                try clear q167
                try clear q169
                obtain ⟨x6_3, rfl, HA, HK3, ⟨m3, rfl⟩⟩ := hrel
                cases gk with
                | zero => exact absurd HA.out (by simp [storemanref13_others.l1])
                | succ k3 =>
                  have H := HA.out
                  clear HA
                  simp only [storemanref13_others.l1] at H
                  by_cases c9 : x6_3 < x5_1
                  · rw [if_pos c9] at H
                    have c9b0 : decide (x6_3 < x5_1) = true := decide_eq_true c9
                    clear c9
                    by_cases c10 : 0 ≤ x6_3
                    · rw [if_pos c10] at H
                      have c10b0 : decide (0 ≤ x6_3) = true := decide_eq_true c10
                      clear c10
                      by_cases c11 : x6_3 < (l0.length : Int)
                      · rw [if_pos c11] at H
                        have c11b0 : decide (x6_3 < (l0.length : Int)) = true := decide_eq_true c11
                        clear c11
                        by_cases c12 : 0 ≤ x5_1
                        · rw [if_pos c12] at H
                          have c12b0 : decide (0 ≤ x5_1) = true := decide_eq_true c12
                          clear c12
                          by_cases c13 : x5_1 < (l0.length : Int)
                          · rw [if_pos c13] at H
                            have c13b0 : decide (x5_1 < (l0.length : Int)) = true := decide_eq_true c13
                            clear c13
                            by_cases c14 : (rdOf ByteArray.empty l0 x6_3).toList = (rdOf ByteArray.empty l0 x5_1).toList
                            · rw [if_pos c14] at H
                              have c14b0 : ((rdOf ByteArray.empty l0 x6_3).toList == (rdOf ByteArray.empty l0 x5_1).toList) = true := beq_iff_eq.mpr c14
                              have c14b1 : ((rdOf ByteArray.empty l0 x6_3).toList != (rdOf ByteArray.empty l0 x5_1).toList) = false := bne_eq_false_iff_eq.mpr c14
                              clear c14
                              obtain rfl := Option.some.inj H
                              have p170 : 0 ≤ (x6_3 : Int) := of_decide_eq_true (by first | (with_reducible assumption) | assumption)
                              have q170 : x6_3 < (l0.length : Int) := of_decide_eq_true (by first | (with_reducible assumption) | assumption)
                              obtain ⟨ad170, e170, hx170_0⟩ := Kd.at_string HR0.out x6_3 p170 q170
                              cases e170
                              replace p170 := eq_true p170
                              replace q170 := eq_true q170
                              have p171 : 0 ≤ (x5_1 : Int) := of_decide_eq_true (by first | (with_reducible assumption) | assumption)
                              have q171 : x5_1 < (l0.length : Int) := of_decide_eq_true (by first | (with_reducible assumption) | assumption)
                              obtain ⟨ad171, e171, hx171_0⟩ := Kd.at_string HR0.out x5_1 p171 q171
                              obtain rfl : ad170 = ad171 := (by injection e171)
                              replace p171 := eq_true p171
                              replace q171 := eq_true q171
                              go_wp2
                              repeat (go_quiet (fail); try go_wp2)
                              go_ret
                              exact ⟨by first | rfl | (simp; done) | (simp [*]; done), by repeat (first | exact Drawn0.refl _ | apply Drawn0.step)⟩
                            · rw [if_neg c14] at H
                              have c14b0 : ((rdOf ByteArray.empty l0 x6_3).toList == (rdOf ByteArray.empty l0 x5_1).toList) = false := beq_eq_false_iff_ne.mpr c14
                              have c14b1 : ((rdOf ByteArray.empty l0 x6_3).toList != (rdOf ByteArray.empty l0 x5_1).toList) = true := bne_iff_ne.mpr c14
                              have H' := Aside0.mk H
                              clear H
                              have p170 : 0 ≤ (x6_3 : Int) := of_decide_eq_true (by first | (with_reducible assumption) | assumption)
                              have q170 : x6_3 < (l0.length : Int) := of_decide_eq_true (by first | (with_reducible assumption) | assumption)
                              obtain ⟨ad170, e170, hx170_0⟩ := Kd.at_string HR0.out x6_3 p170 q170
                              cases e170
                              replace p170 := eq_true p170
                              replace q170 := eq_true q170
                              have p171 : 0 ≤ (x5_1 : Int) := of_decide_eq_true (by first | (with_reducible assumption) | assumption)
                              have q171 : x5_1 < (l0.length : Int) := of_decide_eq_true (by first | (with_reducible assumption) | assumption)
                              obtain ⟨ad171, e171, hx171_0⟩ := Kd.at_string HR0.out x5_1 p171 q171
                              obtain rfl : ad170 = ad171 := (by injection e171)
                              replace p171 := eq_true p171
                              replace q171 := eq_true q171
                              go_wp2
                              repeat (go_quiet (fail); try go_wp2)
                              go_roundg k3
                              case measure => have := HK1.out; have := HJ3.out; have := HK3.out; omega
                              case rel => exact ⟨(wrap64 (x6_3 + 1)), (by first | rfl | (simp; done) | (simp [*]; done)), H', ⟨by have := HK1.out; have := HJ3.out; have := HK3.out; omega⟩, by repeat (first | exact Drawn0.refl _ | apply Drawn0.step)⟩
                          · rw [if_neg c13] at H
                            exact absurd H (by simp)
                        · rw [if_neg c12] at H
                          exact absurd H (by simp)
                      · rw [if_neg c11] at H
                        exact absurd H (by simp)
                    · rw [if_neg c10] at H
                      exact absurd H (by simp)
                  · rw [if_neg c9] at H
                    have c9b0 : decide (x6_3 < x5_1) = false := decide_eq_false c9
                    clear c9
                    have H' := Aside0.mk H
                    clear H
                    go_wp2
                    repeat (go_quiet (fail); try go_wp2)
                    go_roundg k3
                    case measure => have := HK1.out; have := HJ3.out; have := HK3.out; omega
                    case rel => exact ⟨(wrap64 (x5_1 + 1)), (by first | rfl | (simp; done) | (simp [*]; done)), H', ⟨by have := HK1.out; have := HJ3.out; have := HK3.out; omega⟩, by repeat (first | exact Drawn0.refl _ | apply Drawn0.step)⟩
      · rw [if_neg c3] at H
        have c3b0 : decide (x5_1 < (l0.length : Int)) = false := decide_eq_false c3
        clear c3
        obtain rfl := Option.some.inj H
        go_wp2
        repeat (go_quiet (fail); try go_wp2)
        go_ret
        exact ⟨by first | rfl | (simp; done) | (simp [*]; done), by repeat (first | exact Drawn0.refl _ | apply Drawn0.step)⟩

end Go.Proofs.YtkpedlhofalnjaaGreatDoor.A
end

section
-- Written by a program of this session (a turned copy of the kit's print): functions and their proofs.
namespace Go.Proofs.YtkpedlhofalnjaaGreatDoor.C
open Go.RowKit Go.Proofs.YtkpedlhofalnjaaGreatDoorW.PrintWords Go.Proofs.YtkpedlhofalnjaaGreatDoorW.PrintLast Go.Proofs.YtkpedlhofalnjaaGreatDoorW.PrintMore
attribute [local go_sem] max2_int min2_int max_two min_two max_three min_three max_four min_four   -- for this text's walks alone
set_option linter.unusedVariables false
set_option linter.unusedSimpArgs false

/-! ### storemanref03_Number: function 107 -/
mutual
def storemanref03_Number.j0 : Nat → ByteArray → Bool → Option (Int × Bool)
  | 0, _, _ => none
  | k + 1, x0, x4 => if x4 = true then (if 1 ≤ (x0.size : Int) then (storemanref03_Number.j1 k x4 (x0.extract 1 x0.size)) else (none)) else (storemanref03_Number.j1 k x4 x0)
def storemanref03_Number.j1 : Nat → Bool → ByteArray → Option (Int × Bool)
  | 0, _, _ => none
  | k + 1, x4, x5 => if (x5.size : Int) = 0 then (storemanref03_Number.j2 k x4 x5 true) else (if (x5.size : Int) > 19 then (storemanref03_Number.j2 k x4 x5 true) else (if 0 < (x5.size : Int) then (if (bt x5 0) = 48 then (if (x5.size : Int) > 1 then (storemanref03_Number.j2 k x4 x5 true) else (storemanref03_Number.j2 k x4 x5 x4)) else (storemanref03_Number.j2 k x4 x5 false)) else (none)))
def storemanref03_Number.j2 : Nat → Bool → ByteArray → Bool → Option (Int × Bool)
  | 0, _, _, _ => none
  | k + 1, x4, x5, x40 => if x40 = true then (some (0, false)) else (storemanref03_Number.l0 k x4 x5 0 0)
def storemanref03_Number.l0 : Nat → Bool → ByteArray → Int → Int → Option (Int × Bool)
  | 0, _, _, _, _ => none
  | k + 1, x4, x5, x6, x7 => if x7 < (x5.size : Int) then (if 0 ≤ x7 then (if (bt x5 x7) < 48 then (some (0, false)) else (if (bt x5 x7) > 57 then (some (0, false)) else (storemanref03_Number.l0 k x4 x5 (IntKind.u64.wrap ((IntKind.u64.wrap (10 * x6)) + (((bt x5 x7) - 48) % 256))) (wrap64 (x7 + 1))))) else (none)) else (if x4 = true then (storemanref03_Number.j4 k x4 x6 (decide (x6 ≤ 9223372036854775808))) else (storemanref03_Number.j4 k x4 x6 false))
def storemanref03_Number.j4 : Nat → Bool → Int → Bool → Option (Int × Bool)
  | 0, _, _, _ => none
  | k + 1, x4, x6, x65 => if x65 = true then (some (wrap64 (IntKind.u64.wrap (-x6)), true)) else (if x4 = true then (some (0, false)) else (if x6 < 9223372036854775808 then (some (wrap64 (x6), true)) else (some (0, false))))
end

end Go.Proofs.YtkpedlhofalnjaaGreatDoor.C
end

section
/- The references of layer 3, as printed, answer as the plain words say: codes, their bytes, numbers' texts. -/
namespace Go.Proofs.YtkpedlhofalnjaaGreatDoor
open Go.RowKit Go.Proofs.YtkpedlhofalnjaaGreatDoorW.PrintWords Go.Proofs.YtkpedlhofalnjaaGreatDoorW.PrintLast Go.Proofs.YtkpedlhofalnjaaGreatDoorW.PrintMore

theorem wrap_step {i : Nat} {n : Nat} (h : i < n) (hn : n ≤ 9223372036854775807) : wrap64 ((i : Int) + 1) = ((i + 1 : Nat) : Int) := by
  unfold wrap64; omega

theorem bt_nat (s : ByteArray) (i : Nat) (h : i < s.size) : bt s (i : Int) = ((s.data.toList[i]'(by simpa using h)).toNat : Int) := by
  unfold bt
  rw [dif_pos (by simpa using h)]
  simp
  rfl

theorem right_loop (s : ByteArray) (hn : s.size ≤ 9223372036854775807) : ∀ (d k i : Nat), s.size - i = d → i ≤ s.size → d < k → C.storemanref03_Right.l0 k s i = some (goodFrom i (s.data.toList.drop i)) := by
  intro d
  induction d with
  | zero =>
    intro k i hd hi hk
    obtain ⟨k, rfl⟩ : ∃ m, k = m + 1 := ⟨k - 1, by omega⟩
    simp only [C.storemanref03_Right.l0]
    rw [if_neg (by omega), goodFrom_end _ _ (by simp; omega)]
  | succ d ih =>
    intro k i hd hi hk
    obtain ⟨k, rfl⟩ : ∃ m, k = m + 1 := ⟨k - 1, by omega⟩
    simp only [C.storemanref03_Right.l0]
    have hlt : i < s.size := by omega
    have hlt' : i < s.data.toList.length := by simpa using hlt
    rw [if_pos (by omega), if_pos (by omega), bt_nat s i hlt, wrap_step hlt hn, ih k (i + 1) (by omega) (by omega) (by omega), goodFrom_drop _ _ hlt']
    generalize hc : (s.data.toList[i]'hlt') = c
    generalize goodFrom (i + 1) (s.data.toList.drop (i + 1)) = g
    by_cases hg : good i c = true
    · have hg' := hg
      unfold good at hg'
      simp only [Bool.or_eq_true, Bool.and_eq_true, decide_eq_true_eq] at hg'
      rw [hg]
      repeat' split
      all_goals first
        | rfl
        | (exfalso; omega)
    · have hg2 : good i c = false := by simpa using hg
      have hg' := hg2
      unfold good at hg'
      simp only [Bool.or_eq_false_iff, Bool.and_eq_false_iff, decide_eq_false_iff_not] at hg'
      rw [hg2]
      repeat' split
      all_goals first
        | rfl
        | (exfalso; omega)

theorem ref_right (s : ByteArray) (hn : s.size ≤ 9223372036854775807) (k : Nat) (hk : s.size + 2 < k) : C.storemanref03_Right.f k s = some (isCode s.data.toList) := by
  obtain ⟨k, rfl⟩ : ∃ m, k = m + 1 := ⟨k - 1, by omega⟩
  unfold C.storemanref03_Right.f
  have hl := data_length s
  by_cases h1 : s.size < 1
  · rw [if_pos (by omega)]
    simp only [C.storemanref03_Right.j0, if_true]
    have : s.data.toList = [] := List.length_eq_zero_iff.1 (by omega)
    rw [this]; rfl
  · rw [if_neg (by omega)]
    by_cases h2 : s.size > 12
    · rw [decide_eq_true (by omega)]
      simp only [C.storemanref03_Right.j0, if_true]
      unfold isCode
      rw [decide_eq_false (by omega : ¬ s.data.toList.length ≤ 12)]
      simp
    · rw [decide_eq_false (by omega)]
      simp only [C.storemanref03_Right.j0]
      rw [if_neg (by decide)]
      have := right_loop s hn s.size k 0 (by omega) (by omega) (by omega)
      rw [show ((0 : Nat) : Int) = 0 from rfl] at this
      rw [this]
      unfold isCode
      rw [decide_eq_true (by omega : s.data.toList.length ≤ 12)]
      have hne : s.data.toList.isEmpty = false := by
        rw [List.isEmpty_eq_false_iff]; intro e; rw [e] at hl; simp at hl; omega
      rw [hne]
      simp

theorem ref_put (s : ByteArray) (hn : s.size ≤ 140737488351232) (k : Nat) (hk : s.size + 2 < k) : C.storemanref03_Put.f k s = some (ints (putCode s.data.toList)) := by
  unfold C.storemanref03_Put.f
  rw [ref_right s (by omega) k hk, Lib.toList_data]
  have hb : [((s.size : Int)) % 256] ++ bytesOf s = ints (UInt8.ofNat s.data.toList.length :: s.data.toList) := by
    unfold ints bytesOf
    simp
  simp only [Option.bind_some]
  have hlim : ([((s.size : Int)) % 256] : List Int).length + s.size < 140737488355328 := by simp only [List.length_cons, List.length_nil]; omega
  rw [if_pos hlim, hb]
  unfold putCode
  by_cases e : s.data.toList = []
  · rw [if_pos e, if_pos (.inl e)]
  · rw [if_neg e]
    by_cases c : isCode s.data.toList = true
    · rw [if_pos c, if_pos (.inr c)]
    · rw [if_neg c, if_neg (by simp only [not_or]; exact ⟨e, c⟩)]; rfl

/-! numbers -/

end Go.Proofs.YtkpedlhofalnjaaGreatDoor
end

section
/- What the document's answer for layer 13 computes of parts and others, in plain Lean: as the program's. -/
namespace Go.Proofs.YtkpedlhofalnjaaGreatDoor
open Go.RowKit Go.Proofs.YtkpedlhofalnjaaGreatDoorW.PrintWords Go.Proofs.YtkpedlhofalnjaaGreatDoorW.PrintLast Go.Proofs.YtkpedlhofalnjaaGreatDoorW.PrintMore

theorem ref_right_any (s : ByteArray) (k : Nat) (hk : 20 < k) : C.storemanref03_Right.f k s = some (isRight s) := by
  by_cases h : s.size ≤ 12
  · exact ref_right s (by omega) k (by omega)
  · unfold C.storemanref03_Right.f
    obtain ⟨k, rfl⟩ : ∃ m, k = m + 1 := ⟨k - 1, by omega⟩
    rw [if_neg (by omega), decide_eq_true (by omega)]
    simp only [C.storemanref03_Right.j0, if_true]
    have hl := data_length s
    unfold isRight isCode
    rw [decide_eq_false (by omega : ¬ s.data.toList.length ≤ 12)]
    simp

/-! ### parts -/
theorem refp_inner (l : List Part) (hn : l.length ≤ 1000000) (i : Nat) (hi : i < l.length) (R : Bool) (k0 : Nat) (hl0 : ∀ k, k0 ≤ k → A.storemanref13_parts.l0 k l ((i + 1 : Nat) : Int) = some R) :
    ∀ (d k j : Nat), i - j = d → j ≤ i → d + k0 < k → A.storemanref13_parts.l1 k l (i : Int) (j : Int) = some (!isIn (((l.map (·.f0)).take i).drop j) l[i].f0 && R) := by
  intro d
  have hrd : ∀ j (h : j < l.length), A.rd_T58 l (j : Int) = l[j] := fun j h => by
    unfold A.rd_T58; simp [List.getD_eq_getElem?_getD, List.getElem?_eq_getElem h]
  induction d with
  | zero =>
    intro k j hd hj hk
    obtain ⟨k, rfl⟩ : ∃ m, k = m + 1 := ⟨k - 1, by omega⟩
    obtain rfl : j = i := by omega
    simp only [A.storemanref13_parts.l1]
    refine (if_neg (by omega)).trans ?_
    rw [wrap_up hi (by omega), hl0 k (by omega), List.drop_of_length_le (by rw [List.length_take]; omega)]
    rfl
  | succ d ih =>
    intro k j hd hj hk
    obtain ⟨k, rfl⟩ : ∃ m, k = m + 1 := ⟨k - 1, by omega⟩
    have hjl : j < l.length := by omega
    simp only [A.storemanref13_parts.l1]
    refine (if_pos (by omega)).trans ?_
    refine (if_pos (by omega)).trans ?_
    refine (if_pos (by omega)).trans ?_
    refine (if_pos (by omega)).trans ?_
    refine (if_pos (by omega)).trans ?_
    rw [hrd j hjl, hrd i hi]
    have hdrop : ((l.map (·.f0)).take i).drop j = l[j].f0 :: ((l.map (·.f0)).take i).drop (j + 1) := by
      rw [List.drop_eq_getElem_cons (by rw [List.length_take, List.length_map]; omega)]
      simp
    rw [hdrop]
    by_cases e : l[j].f0.toList = l[i].f0.toList
    · refine (if_pos e).trans ?_
      rw [Lib.toList_data, Lib.toList_data] at e
      have e2 : isIn (l[j].f0 :: ((l.map (·.f0)).take i).drop (j + 1)) l[i].f0 = true := by
        unfold isIn; rw [List.any_cons]; rw [show (l[j].f0.data.toList == l[i].f0.data.toList) = true by simpa using e]; rfl
      rw [e2]; rfl
    · refine (if_neg e).trans ?_
      rw [Lib.toList_data, Lib.toList_data] at e
      have e2 : isIn (l[j].f0 :: ((l.map (·.f0)).take i).drop (j + 1)) l[i].f0 = isIn (((l.map (·.f0)).take i).drop (j + 1)) l[i].f0 := by
        unfold isIn; rw [List.any_cons]; rw [show (l[j].f0.data.toList == l[i].f0.data.toList) = false by simpa using e]; rfl
      rw [e2, wrap_up (show j < l.length from hjl) (by omega)]
      exact ih k (j + 1) (by omega) (by omega) (by omega)

def partsEnd (l : List Part) : Bool := decide (0 < l.length) && decide (l.length ≤ 8)
theorem refp_outer (l : List Part) (hn : l.length ≤ 1000000) : ∀ (d k i : Nat), l.length - i = d → i ≤ l.length → d * (l.length + 3) + 30 < k →
    A.storemanref13_parts.l0 k l (i : Int) = some ((l.drop i).all qtyOk && unlikeFrom (l.map (·.f0)) i && partsEnd l) := by
  intro d
  induction d with
  | zero =>
    intro k i hd hi hk
    obtain ⟨k, rfl⟩ : ∃ m, k = m + 1 := ⟨k - 1, by omega⟩
    obtain rfl : i = l.length := by omega
    simp only [A.storemanref13_parts.l0]
    refine (if_neg (by omega)).trans ?_
    rw [List.drop_of_length_le (Nat.le_refl _)]
    have hu : unlikeFrom (l.map (·.f0)) l.length = true := by unfold unlikeFrom; rw [List.length_map, Nat.sub_self]; rfl
    rw [hu]
    unfold partsEnd
    by_cases h : 0 < l.length
    · refine (if_pos (by omega)).trans ?_
      rw [decide_eq_true h]
      simp
      omega
    · refine (if_neg (by omega)).trans ?_
      rw [decide_eq_false h]; rfl
  | succ d ih =>
    intro k i hd hi hk
    obtain ⟨k, rfl⟩ : ∃ m, k = m + 1 := ⟨k - 1, by omega⟩
    have hil : i < l.length := by omega
    have hmul : (d + 1) * (l.length + 3) = d * (l.length + 3) + (l.length + 3) := Nat.succ_mul _ _
    have hrd : A.rd_T58 l (i : Int) = l[i] := by
      unfold A.rd_T58; simp [List.getD_eq_getElem?_getD, List.getElem?_eq_getElem hil]
    have hall : (l.drop i).all qtyOk = (qtyOk l[i] && (l.drop (i + 1)).all qtyOk) := by rw [List.drop_eq_getElem_cons hil, List.all_cons]
    have hun : unlikeFrom (l.map (·.f0)) i = (isRight l[i].f0 && !isIn ((l.map (·.f0)).take i) l[i].f0 && unlikeFrom (l.map (·.f0)) (i + 1)) := by
      rw [unlikeFrom_step _ i (by rw [List.length_map]; exact hil)]; simp
    have hin := refp_inner l hn i hil _ (d * (l.length + 3) + 31) (fun k' hk' => ih k' (i + 1) (by omega) (by omega) (by omega)) i
    rw [hall, hun]
    have fls : ∀ k', 1 ≤ k' → A.storemanref13_parts.j1 k' l (i : Int) true = some false := fun k' hk' => by
      obtain ⟨k', rfl⟩ : ∃ m, k' = m + 1 := ⟨k' - 1, by omega⟩
      simp only [A.storemanref13_parts.j1, if_true]
    simp only [A.storemanref13_parts.l0]
    refine (if_pos (by omega)).trans ?_
    refine (if_pos (by omega)).trans ?_
    rw [hrd]
    refine (bind_is (ref_right_any l[i].f0 k (by omega))).trans ?_
    cases hr : isRight l[i].f0 with
    | false =>
      refine (if_neg (by decide)).trans ?_
      rw [fls k (by omega)]
      simp
    | true =>
      refine (if_pos rfl).trans ?_
      have hq : qtyOk l[i] = (decide (1 ≤ l[i].f1) && decide (l[i].f1 ≤ 1073741824)) := rfl
      by_cases h1 : l[i].f1 < 1
      · refine (if_pos h1).trans ?_
        rw [fls k (by omega), hq, decide_eq_false (show ¬ 1 ≤ l[i].f1 by omega)]; rfl
      · refine (if_neg h1).trans ?_
        by_cases h2 : l[i].f1 > 1073741824
        · rw [decide_eq_true h2, fls k (by omega), hq, decide_eq_false (show ¬ l[i].f1 ≤ 1073741824 by omega), Bool.and_false]; rfl
        · rw [decide_eq_false h2, hq, decide_eq_true (show 1 ≤ l[i].f1 by omega), decide_eq_true (show l[i].f1 ≤ 1073741824 by omega)]
          obtain ⟨k, rfl⟩ : ∃ m, k = m + 1 := ⟨k - 1, by omega⟩
          simp only [A.storemanref13_parts.j1]
          refine (if_neg (by decide)).trans ?_
          have h0 := hin k 0 (by omega) (by omega) (by omega)
          rw [show ((0 : Nat) : Int) = 0 from rfl, List.drop_zero] at h0
          rw [h0]
          generalize isIn ((l.map (·.f0)).take i) l[i].f0 = q1
          generalize (l.drop (i + 1)).all qtyOk = q2
          generalize unlikeFrom (l.map (·.f0)) (i + 1) = q3
          generalize partsEnd l = q4
          cases q1 <;> cases q2 <;> cases q3 <;> cases q4 <;> rfl

theorem unlikeFrom_zero (l : List ByteArray) : unlikeFrom l 0 = unlikeOk l := by
  have h := unlikeFrom_pre l []
  rw [List.nil_append, show ([] : List ByteArray).length = 0 from rfl] at h
  rw [h]
  have : (l.all fun s => !isIn [] s) = true := by rw [List.all_eq_true]; intro s _; rfl
  rw [this, Bool.and_true]
theorem ref_parts (l : List Part) (hn : l.length ≤ 1000000) (k : Nat) (hk : l.length * (l.length + 3) + 30 < k) : A.storemanref13_parts.f k l = some (partedOk l) := by
  unfold A.storemanref13_parts.f
  have h := refp_outer l hn l.length k 0 (by omega) (by omega) (by omega)
  rw [show ((0 : Nat) : Int) = 0 from rfl, List.drop_zero, unlikeFrom_zero] at h
  rw [h]
  unfold partedOk partsEnd qtyOk
  generalize (l.all fun p => decide (1 ≤ p.f1) && decide (p.f1 ≤ 1073741824)) = q1
  generalize unlikeOk (l.map (·.f0)) = q2
  generalize decide (0 < l.length) = q3
  generalize decide (l.length ≤ 8) = q4
  cases q1 <;> cases q2 <;> cases q3 <;> cases q4 <;> rfl

/-! ### others -/
theorem refo_inner (l : List ByteArray) (hn : l.length ≤ 1000000) (it : ByteArray) (i : Nat) (hi : i < l.length) (R : Bool) (k0 : Nat) (hl0 : ∀ k, k0 ≤ k → A.storemanref13_others.l0 k l it ((i + 1 : Nat) : Int) = some R) :
    ∀ (d k j : Nat), i - j = d → j ≤ i → d + k0 < k → A.storemanref13_others.l1 k l it (i : Int) (j : Int) = some (!isIn ((l.take i).drop j) l[i] && R) := by
  intro d
  induction d with
  | zero =>
    intro k j hd hj hk
    obtain ⟨k, rfl⟩ : ∃ m, k = m + 1 := ⟨k - 1, by omega⟩
    obtain rfl : j = i := by omega
    simp only [A.storemanref13_others.l1]
    refine (if_neg (by omega)).trans ?_
    rw [wrap_up hi (by omega), hl0 k (by omega), List.drop_of_length_le (by rw [List.length_take]; omega)]
    rfl
  | succ d ih =>
    intro k j hd hj hk
    obtain ⟨k, rfl⟩ : ∃ m, k = m + 1 := ⟨k - 1, by omega⟩
    have hjl : j < l.length := by omega
    simp only [A.storemanref13_others.l1]
    refine (if_pos (by omega)).trans ?_
    refine (if_pos (by omega)).trans ?_
    refine (if_pos (by omega)).trans ?_
    refine (if_pos (by omega)).trans ?_
    refine (if_pos (by omega)).trans ?_
    rw [rdOf_at _ l j hjl, rdOf_at _ l i hi]
    have hdrop : (l.take i).drop j = l[j] :: (l.take i).drop (j + 1) := by
      rw [List.drop_eq_getElem_cons (by rw [List.length_take]; omega)]
      simp
    rw [hdrop]
    by_cases e : l[j].toList = l[i].toList
    · refine (if_pos e).trans ?_
      rw [Lib.toList_data, Lib.toList_data] at e
      have e2 : isIn (l[j] :: (l.take i).drop (j + 1)) l[i] = true := by
        unfold isIn; rw [List.any_cons]; rw [show (l[j].data.toList == l[i].data.toList) = true by simpa using e]; rfl
      rw [e2]; rfl
    · refine (if_neg e).trans ?_
      rw [Lib.toList_data, Lib.toList_data] at e
      have e2 : isIn (l[j] :: (l.take i).drop (j + 1)) l[i] = isIn ((l.take i).drop (j + 1)) l[i] := by
        unfold isIn; rw [List.any_cons]; rw [show (l[j].data.toList == l[i].data.toList) = false by simpa using e]; rfl
      rw [e2, wrap_up (show j < l.length from hjl) (by omega)]
      exact ih k (j + 1) (by omega) (by omega) (by omega)

theorem refo_outer (l : List ByteArray) (hn : l.length ≤ 1000000) (it : ByteArray) : ∀ (d k i : Nat), l.length - i = d → i ≤ l.length → d * (l.length + 3) + 30 < k →
    A.storemanref13_others.l0 k l it (i : Int) = some (unlikeFrom l i && !isIn (l.drop i) it && decide (l.length ≤ 4)) := by
  intro d
  induction d with
  | zero =>
    intro k i hd hi hk
    obtain ⟨k, rfl⟩ : ∃ m, k = m + 1 := ⟨k - 1, by omega⟩
    obtain rfl : i = l.length := by omega
    simp only [A.storemanref13_others.l0]
    refine (if_neg (by omega)).trans ?_
    have hu : unlikeFrom l l.length = true := by unfold unlikeFrom; rw [Nat.sub_self]; rfl
    rw [hu, List.drop_of_length_le (Nat.le_refl _)]
    simp [isIn]
    omega
  | succ d ih =>
    intro k i hd hi hk
    obtain ⟨k, rfl⟩ : ∃ m, k = m + 1 := ⟨k - 1, by omega⟩
    have hil : i < l.length := by omega
    have hmul : (d + 1) * (l.length + 3) = d * (l.length + 3) + (l.length + 3) := Nat.succ_mul _ _
    have hisin : isIn (l.drop i) it = ((l[i].data.toList == it.data.toList) || isIn (l.drop (i + 1)) it) := by unfold isIn; rw [List.drop_eq_getElem_cons hil, List.any_cons]
    have hun := unlikeFrom_step l i hil
    have hin := refo_inner l hn it i hil _ (d * (l.length + 3) + 31) (fun k' hk' => ih k' (i + 1) (by omega) (by omega) (by omega)) i
    rw [hisin, hun]
    have fls : ∀ k', 1 ≤ k' → A.storemanref13_others.j1 k' l it (i : Int) true = some false := fun k' hk' => by
      obtain ⟨k', rfl⟩ : ∃ m, k' = m + 1 := ⟨k' - 1, by omega⟩
      simp only [A.storemanref13_others.j1, if_true]
    simp only [A.storemanref13_others.l0]
    refine (if_pos (by omega)).trans ?_
    refine (if_pos (by omega)).trans ?_
    rw [rdOf_at _ l i hil]
    refine (bind_is (ref_right_any l[i] k (by omega))).trans ?_
    cases hr : isRight l[i] with
    | false =>
      refine (if_neg (by decide)).trans ?_
      rw [fls k (by omega)]
      simp
    | true =>
      refine (if_pos rfl).trans ?_
      rw [Lib.toList_data, Lib.toList_data]
      cases he : (l[i].data.toList == it.data.toList) with
      | true =>
        rw [fls k (by omega)]
        simp
      | false =>
        obtain ⟨k, rfl⟩ : ∃ m, k = m + 1 := ⟨k - 1, by omega⟩
        simp only [A.storemanref13_others.j1]
        refine (if_neg (by decide)).trans ?_
        have h0 := hin k 0 (by omega) (by omega) (by omega)
        rw [show ((0 : Nat) : Int) = 0 from rfl, List.drop_zero] at h0
        rw [h0]
        generalize isIn (l.take i) l[i] = q1
        generalize isIn (l.drop (i + 1)) it = q2
        generalize unlikeFrom l (i + 1) = q3
        generalize decide (l.length ≤ 4) = q4
        cases q1 <;> cases q2 <;> cases q3 <;> cases q4 <;> rfl
theorem ref_others (l : List ByteArray) (hn : l.length ≤ 1000000) (it : ByteArray) (k : Nat) (hk : l.length * (l.length + 3) + 30 < k) : A.storemanref13_others.f k l it = some (othersOk l it) := by
  unfold A.storemanref13_others.f
  have h := refo_outer l hn it l.length k 0 (by omega) (by omega) (by omega)
  rw [show ((0 : Nat) : Int) = 0 from rfl, List.drop_zero, unlikeFrom_zero] at h
  rw [h]
  unfold othersOk isIn
  generalize (l.any fun t => t.data.toList == it.data.toList) = q1
  generalize unlikeOk l = q2
  generalize decide (l.length ≤ 4) = q3
  cases q1 <;> cases q2 <;> cases q3 <;> rfl
end Go.Proofs.YtkpedlhofalnjaaGreatDoor
end
