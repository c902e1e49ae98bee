-- Written by a program of this session (a turned copy of the kit's print): functions and their proofs.
import Derived.Test.YtkpedlhofalnjaaGreatDoorC0
namespace Go.Proofs.YtkpedlhofalnjaaGreatDoor.C
open Go.RowKit Go.Proofs.YtkpedlhofalnjaaGreatDoorW.PrintWords Go.Proofs.YtkpedlhofalnjaaGreatDoorW.PrintLast Go.Proofs.YtkpedlhofalnjaaGreatDoorW.PrintMore
attribute [local go_sem] max2_int min2_int max_two min_two max_three min_three max_four min_four   -- for this text's walks alone
set_option linter.unusedVariables false
set_option linter.unusedSimpArgs false

/-! ### storemankit_mark: function 123 -/
def storemankit_mark.f (a0 : Int) (a1 : Int) : Option (Int) := some (wrap64 ((wrap64 (1000003 * (wrap64 (a0 + 7)))) + a1))
set_option maxHeartbeats 8000000 in
set_option maxRecDepth 100000 in
theorem storemankit_mark.calls (a0 : Int) (a1 : Int) (r : Int) (w : World) (h : storemankit_mark.f a0 a1 = some r) :
    Calls Tryz.prog 123 #[.int .i64 a0, .int .i64 a1] w fun e w' => e = .returned (.int .i64 r) ∧ Drawn0 w w' := by
  have H : (some (wrap64 ((wrap64 (1000003 * (wrap64 (a0 + 7)))) + a1))) = some r := h
  clear h
  obtain rfl := Option.some.inj H
  go_enter Tryz.func123, Tryz.ntmps123
  go_wp2
  go_ret
  exact ⟨by first | rfl | (simp; done) | (simp [*]; done), by repeat (first | exact Drawn0.refl _ | apply Drawn0.step)⟩

/-! ### storemankit_markByte: function 59 -/
def storemankit_markByte.f (a0 : Int) (a1 : Int) : Option (Int) := (storemankit_mark.f a0 a1).bind fun t150 => (some (((IntKind.u64.wrap ((IntKind.u64.wrap (t150)) * 11400714819323198485)) / 72057594037927936) % 256))
set_option maxHeartbeats 8000000 in
set_option maxRecDepth 100000 in
theorem storemankit_markByte.calls (a0 : Int) (a1 : Int) (r : Int) (w : World) (h : storemankit_markByte.f a0 a1 = some r) :
    Calls Tryz.prog 59 #[.int .i64 a0, .int .i64 a1] w fun e w' => e = .returned (.int .u8 r) ∧ Drawn0 w w' := by
  have H : ((storemankit_mark.f a0 a1).bind fun t150 => (some (((IntKind.u64.wrap ((IntKind.u64.wrap (t150)) * 11400714819323198485)) / 72057594037927936) % 256))) = some r := h
  clear h
  replace H := Option.bind_eq_some_iff.mp H
  obtain ⟨t150, A30, H⟩ := H
  replace H : (some (((IntKind.u64.wrap ((IntKind.u64.wrap (t150)) * 11400714819323198485)) / 72057594037927936) % 256)) = some r := H
  have A3 := Aside0.mk A30
  clear A30
  obtain rfl := Option.some.inj H
  go_enter Tryz.func59, Tryz.ntmps59
  go_wp2_with (first | ((with_reducible refine gate_callee (f := 123) rfl ?_); refine goesL_ (some 7) rfl rfl Tryz.func123 (by kernel_rfl) rfl #[.int .i64 a0, .int .i64 a1] rfl (by (try simp only [List.map_toArray, List.map_cons, List.map_nil]); first | done | rfl | (simp only [List.length_drop, List.length_take]; rfl)) ?_; (with_reducible refine (storemankit_mark.calls a0 a1 t150 _ A3.out).mono ?_); rintro e w' ⟨rfl, ⟨nd, rfl⟩⟩; refine ⟨_, rfl, ?_⟩))
  go_ret
  exact ⟨by first | rfl | (simp; done) | (simp [*]; done), by repeat (first | exact Drawn0.refl _ | apply Drawn0.step)⟩

end Go.Proofs.YtkpedlhofalnjaaGreatDoor.C
