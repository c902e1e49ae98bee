/- The layer ask's three functions as contracts, in the form that the print takes. -/
import Derived.Test.YtkpedlhofalnjaaGreatDoorM5
import Derived.Test.YtkpedlhofalnjaaGreatDoorPut13
import Derived.Test.YtkpedlhofalnjaaGreatDoorGet13
namespace Go.Proofs.YtkpedlhofalnjaaGreatDoor
open Go.RowKit Go.Proofs.YtkpedlhofalnjaaGreatDoorW.PrintWords Go.Proofs.YtkpedlhofalnjaaGreatDoorW.PrintLast Go.Proofs.YtkpedlhofalnjaaGreatDoorW.PrintMore
open Go (Addr Value World Program)

theorem ask_Right.calls (a0_0 a0_1 : Int) (a0_2 : ByteArray) (a0_3 a0_4 a0_5 a0_6 a0_7 a0_8 : Int) (A9 : Option Addr) (c9 : Nat) (l9 : List Part) (A10 : Option Addr) (c10 : Nat) (l10 : List ByteArray) (r : Bool) (w : World) (hr9 : Kd.C A.k58 w A9 l9.length l9) (hc9 : l9.length ≤ c9) (hr10 : Kd.C Kd.string w A10 l10.length l10) (hc10 : l10.length ≤ c10) (h : ask_Right.f a0_0 a0_1 a0_2 a0_3 a0_4 a0_5 a0_6 a0_7 a0_8 l9 l10 = some r) (hL : Laid13 w) :
    Calls Tryz.prog 33 #[.agg #[.int .u8 a0_0, .int .i64 a0_1, .string a0_2, .int .i64 a0_3, .int .i64 a0_4, .int .i64 a0_5, .int .i64 a0_6, .int .i64 a0_7, .int .i64 a0_8, .slice A9 l9.length c9, .slice A10 l10.length c10]] w fun e w' => e = .returned (.bool r) ∧ Below w.heap.size w w' := by
  unfold ask_Right.f at h
  split at h
  · obtain rfl := Option.some.inj h
    exact right_calls (Cmd.mk a0_0 a0_1 a0_2 a0_3 a0_4 a0_5 a0_6 a0_7 a0_8 l9 l10) A9 c9 A10 c10 w hr9 hc9 hr10 hc10 ‹_› hL
  · cases h
theorem ask_Put.calls (a0_0 a0_1 : Int) (a0_2 : ByteArray) (a0_3 a0_4 a0_5 a0_6 a0_7 a0_8 : Int) (A9 : Option Addr) (c9 : Nat) (l9 : List Part) (A10 : Option Addr) (c10 : Nat) (l10 : List ByteArray) (r1 : List Int) (r2 : Int) (w : World) (hr9 : Kd.C A.k58 w A9 l9.length l9) (hc9 : l9.length ≤ c9) (hr10 : Kd.C Kd.string w A10 l10.length l10) (hc10 : l10.length ≤ c10) (h : ask_Put.f a0_0 a0_1 a0_2 a0_3 a0_4 a0_5 a0_6 a0_7 a0_8 l9 l10 = some (r1, r2)) (hL : Laid13 w) :
    Calls Tryz.prog 32 #[.agg #[.int .u8 a0_0, .int .i64 a0_1, .string a0_2, .int .i64 a0_3, .int .i64 a0_4, .int .i64 a0_5, .int .i64 a0_6, .int .i64 a0_7, .int .i64 a0_8, .slice A9 l9.length c9, .slice A10 l10.length c10]] w fun e w' => ∃ v, e = .returned (.tuple #[v, .int .i64 r2]) ∧ Kd.R (Kd.int .u8) 5 w' w.heap.size (fun _ => True) v r1 ∧ Below w.heap.size w w' := by
  unfold ask_Put.f at h
  split at h
  · have h2 := Option.some.inj h
    have h3 : (putCmd (Cmd.mk a0_0 a0_1 a0_2 a0_3 a0_4 a0_5 a0_6 a0_7 a0_8 l9 l10)).1 = r1 := congrArg Prod.fst h2
    have h4 : (putCmd (Cmd.mk a0_0 a0_1 a0_2 a0_3 a0_4 a0_5 a0_6 a0_7 a0_8 l9 l10)).2 = r2 := congrArg Prod.snd h2
    subst h3 h4
    exact put_calls (Cmd.mk a0_0 a0_1 a0_2 a0_3 a0_4 a0_5 a0_6 a0_7 a0_8 l9 l10) A9 c9 A10 c10 w hr9 hc9 hr10 hc10 ‹_› hL
  · cases h
theorem ask_Get.calls (A0 : Option Addr) (c0 : Nat) (l0 : List Int) (r1 r2 : Int) (r3 : ByteArray) (r4 r5 r6 r7 r8 r9 : Int) (r10 : List Part) (r11 : List ByteArray) (r12 r13 : Int) (w : World) (hr0 : Kd.C (Kd.int .u8) w A0 l0.length l0) (hc0 : l0.length ≤ c0) (h : ask_Get.f l0 = some (r1, r2, r3, r4, r5, r6, r7, r8, r9, r10, r11, r12, r13)) (hL : Laid13 w) :
    Calls Tryz.prog 39 #[.slice A0 l0.length c0] w fun e w' => ∃ v10 v11, e = .returned (.tuple #[.agg #[.int .u8 r1, .int .i64 r2, .string r3, .int .i64 r4, .int .i64 r5, .int .i64 r6, .int .i64 r7, .int .i64 r8, .int .i64 r9, v10, v11], .int .i64 r12, .int .i64 r13]) ∧ Kd.R A.k58 58 w' w.heap.size (fun _ => True) v10 r10 ∧ Kd.R Kd.string 9 w' w.heap.size (fun _ => True) v11 r11 ∧ Below w.heap.size w w' := by
  unfold ask_Get.f at h
  split at h
  · rename_i hb
    have h2 := Option.some.inj h
    have g := get_calls A0 c0 l0 w hr0 hc0 hb.2 hb.1 hL
    generalize getCmd l0 = x at g h2
    obtain ⟨⟨k0, k1, k2, k3, k4, k5, k6, k7, k8, k9, k10⟩, k11, k12⟩ := x
    simp only [gotOf, Prod.mk.injEq] at h2
    obtain ⟨rfl, rfl, rfl, rfl, rfl, rfl, rfl, rfl, rfl, rfl, rfl, rfl, rfl⟩ := h2
    exact g
  · cases h
end Go.Proofs.YtkpedlhofalnjaaGreatDoor
