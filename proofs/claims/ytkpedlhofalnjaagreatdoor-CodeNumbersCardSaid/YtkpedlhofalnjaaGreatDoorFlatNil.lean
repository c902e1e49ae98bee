/- Each flat.. of storemankit, of nil, is true: nothing lies anywhere. -/
import Derived.Test.YtkpedlhofalnjaaGreatDoorProg
import Derived.WalkKit
import Derived.KernelRfl
import Derived.OwnWalk
import Derived.LoopN
namespace Go.Proofs.YtkpedlhofalnjaaGreatDoor
open Go

set_option maxRecDepth 100000 in
theorem nil_Words (w : World) : Calls Tryz.prog 124 #[.slice none 0 0] w fun e w' => e = .returned (.bool true) ∧ w.grownBy w' none := by
  have hmk : ∀ w : World, (Instr.makeSlice 94 (.int .i64 0) (.int .i64 0)).run Tryz.prog w = .ok (.slice (some ⟨w.heap.size, 0, none⟩) 0 0) (w.alloc (.cells #[] 242)) := fun _ => by kernel_rfl
  go_enter Tryz.func124, Tryz.ntmps124
  go_wp2
  iterate 5
    refine wp_loop_rounds 1 ?_
    rw [rounds_succ]
    go_wp2
  go_ret
  exact ⟨rfl, World.grownBy_alloc w _ none⟩

set_option maxRecDepth 100000 in
theorem nil_Ints (w : World) : Calls Tryz.prog 125 #[.slice none 0 0] w fun e w' => e = .returned (.bool true) ∧ w.grownBy w' none := by
  have hmk : ∀ w : World, (Instr.makeSlice 95 (.int .i64 0) (.int .i64 0)).run Tryz.prog w = .ok (.slice (some ⟨w.heap.size, 0, none⟩) 0 0) (w.alloc (.cells #[] 243)) := fun _ => by kernel_rfl
  go_enter Tryz.func125, Tryz.ntmps125
  go_wp2
  iterate 5
    refine wp_loop_rounds 1 ?_
    rw [rounds_succ]
    go_wp2
  go_ret
  exact ⟨rfl, World.grownBy_alloc w _ none⟩

set_option maxRecDepth 100000 in
theorem nil_Longs (w : World) : Calls Tryz.prog 126 #[.slice none 0 0] w fun e w' => e = .returned (.bool true) ∧ w.grownBy w' none := by
  have hmk : ∀ w : World, (Instr.makeSlice 96 (.int .i64 0) (.int .i64 0)).run Tryz.prog w = .ok (.slice (some ⟨w.heap.size, 0, none⟩) 0 0) (w.alloc (.cells #[] 83)) := fun _ => by kernel_rfl
  go_enter Tryz.func126, Tryz.ntmps126
  go_wp2
  iterate 5
    refine wp_loop_rounds 1 ?_
    rw [rounds_succ]
    go_wp2
  go_ret
  exact ⟨rfl, World.grownBy_alloc w _ none⟩

set_option maxRecDepth 100000 in
theorem nil_Texts (w : World) : Calls Tryz.prog 127 #[.slice none 0 0] w fun e w' => e = .returned (.bool true) ∧ w.grownBy w' none := by
  have hmk : ∀ w : World, (Instr.makeSlice 97 (.int .i64 0) (.int .i64 0)).run Tryz.prog w = .ok (.slice (some ⟨w.heap.size, 0, none⟩) 0 0) (w.alloc (.cells #[] 36)) := fun _ => by kernel_rfl
  go_enter Tryz.func127, Tryz.ntmps127
  go_wp2
  iterate 5
    refine wp_loop_rounds 1 ?_
    rw [rounds_succ]
    go_wp2
  go_ret
  exact ⟨rfl, World.grownBy_alloc w _ none⟩

set_option maxRecDepth 100000 in
theorem nil_Bytes (w : World) : Calls Tryz.prog 128 #[.slice none 0 0] w fun e w' => e = .returned (.bool true) ∧ w.grownBy w' none := by
  have hmk : ∀ w : World, (Instr.makeSlice 31 (.int .i64 0) (.int .i64 0)).run Tryz.prog w = .ok (.slice (some ⟨w.heap.size, 0, none⟩) 0 0) (w.alloc (.cells #[] 22)) := fun _ => by kernel_rfl
  go_enter Tryz.func128, Tryz.ntmps128
  go_wp2
  iterate 5
    refine wp_loop_rounds 1 ?_
    rw [rounds_succ]
    go_wp2
  go_ret
  exact ⟨rfl, World.grownBy_alloc w _ none⟩

set_option maxRecDepth 100000 in
theorem nil_Windows (w : World) : Calls Tryz.prog 129 #[.slice none 0 0] w fun e w' => e = .returned (.bool true) ∧ w.grownBy w' none := by
  have hmk : ∀ w : World, (Instr.makeSlice 98 (.int .i64 0) (.int .i64 0)).run Tryz.prog w = .ok (.slice (some ⟨w.heap.size, 0, none⟩) 0 0) (w.alloc (.cells #[] 244)) := fun _ => by kernel_rfl
  go_enter Tryz.func129, Tryz.ntmps129
  go_wp2
  iterate 5
    refine wp_loop_rounds 1 ?_
    rw [rounds_succ]
    go_wp2
  go_ret
  exact ⟨rfl, World.grownBy_alloc w _ none⟩

set_option maxRecDepth 100000 in
theorem nil_Lots (w : World) : Calls Tryz.prog 130 #[.slice none 0 0] w fun e w' => e = .returned (.bool true) ∧ w.grownBy w' none := by
  have hmk : ∀ w : World, (Instr.makeSlice 99 (.int .i64 0) (.int .i64 0)).run Tryz.prog w = .ok (.slice (some ⟨w.heap.size, 0, none⟩) 0 0) (w.alloc (.cells #[] 59)) := fun _ => by kernel_rfl
  go_enter Tryz.func130, Tryz.ntmps130
  go_wp2
  iterate 5
    refine wp_loop_rounds 1 ?_
    rw [rounds_succ]
    go_wp2
  go_ret
  exact ⟨rfl, World.grownBy_alloc w _ none⟩

set_option maxRecDepth 100000 in
theorem nil_Wants (w : World) : Calls Tryz.prog 131 #[.slice none 0 0] w fun e w' => e = .returned (.bool true) ∧ w.grownBy w' none := by
  have hmk : ∀ w : World, (Instr.makeSlice 100 (.int .i64 0) (.int .i64 0)).run Tryz.prog w = .ok (.slice (some ⟨w.heap.size, 0, none⟩) 0 0) (w.alloc (.cells #[] 247)) := fun _ => by kernel_rfl
  go_enter Tryz.func131, Tryz.ntmps131
  go_wp2
  iterate 5
    refine wp_loop_rounds 1 ?_
    rw [rounds_succ]
    go_wp2
  go_ret
  exact ⟨rfl, World.grownBy_alloc w _ none⟩

set_option maxRecDepth 100000 in
theorem nil_Uses (w : World) : Calls Tryz.prog 132 #[.slice none 0 0] w fun e w' => e = .returned (.bool true) ∧ w.grownBy w' none := by
  have hmk : ∀ w : World, (Instr.makeSlice 101 (.int .i64 0) (.int .i64 0)).run Tryz.prog w = .ok (.slice (some ⟨w.heap.size, 0, none⟩) 0 0) (w.alloc (.cells #[] 62)) := fun _ => by kernel_rfl
  go_enter Tryz.func132, Tryz.ntmps132
  go_wp2
  iterate 5
    refine wp_loop_rounds 1 ?_
    rw [rounds_succ]
    go_wp2
  go_ret
  exact ⟨rfl, World.grownBy_alloc w _ none⟩

set_option maxRecDepth 100000 in
theorem nil_Parts (w : World) : Calls Tryz.prog 133 #[.slice none 0 0] w fun e w' => e = .returned (.bool true) ∧ w.grownBy w' none := by
  have hmk : ∀ w : World, (Instr.makeSlice 102 (.int .i64 0) (.int .i64 0)).run Tryz.prog w = .ok (.slice (some ⟨w.heap.size, 0, none⟩) 0 0) (w.alloc (.cells #[] 35)) := fun _ => by kernel_rfl
  go_enter Tryz.func133, Tryz.ntmps133
  go_wp2
  iterate 5
    refine wp_loop_rounds 1 ?_
    rw [rounds_succ]
    go_wp2
  go_ret
  exact ⟨rfl, World.grownBy_alloc w _ none⟩

set_option maxRecDepth 100000 in
theorem nil_Items (w : World) : Calls Tryz.prog 134 #[.slice none 0 0] w fun e w' => e = .returned (.bool true) ∧ w.grownBy w' none := by
  have hmk : ∀ w : World, (Instr.makeSlice 103 (.int .i64 0) (.int .i64 0)).run Tryz.prog w = .ok (.slice (some ⟨w.heap.size, 0, none⟩) 0 0) (w.alloc (.cells #[] 252)) := fun _ => by kernel_rfl
  go_enter Tryz.func134, Tryz.ntmps134
  go_wp2
  iterate 5
    refine wp_loop_rounds 1 ?_
    rw [rounds_succ]
    go_wp2
  go_ret
  exact ⟨rfl, World.grownBy_alloc w _ none⟩

set_option maxRecDepth 100000 in
theorem nil_Lines (w : World) : Calls Tryz.prog 135 #[.slice none 0 0] w fun e w' => e = .returned (.bool true) ∧ w.grownBy w' none := by
  have hmk : ∀ w : World, (Instr.makeSlice 104 (.int .i64 0) (.int .i64 0)).run Tryz.prog w = .ok (.slice (some ⟨w.heap.size, 0, none⟩) 0 0) (w.alloc (.cells #[] 257)) := fun _ => by kernel_rfl
  go_enter Tryz.func135, Tryz.ntmps135
  go_wp2
  iterate 5
    refine wp_loop_rounds 1 ?_
    rw [rounds_succ]
    go_wp2
  go_ret
  exact ⟨rfl, World.grownBy_alloc w _ none⟩

set_option maxRecDepth 100000 in
theorem nil_Asks (w : World) : Calls Tryz.prog 136 #[.slice none 0 0] w fun e w' => e = .returned (.bool true) ∧ w.grownBy w' none := by
  have hmk : ∀ w : World, (Instr.makeSlice 80 (.int .i64 0) (.int .i64 0)).run Tryz.prog w = .ok (.slice (some ⟨w.heap.size, 0, none⟩) 0 0) (w.alloc (.cells #[] 79)) := fun _ => by kernel_rfl
  go_enter Tryz.func136, Tryz.ntmps136
  go_wp2
  iterate 5
    refine wp_loop_rounds 1 ?_
    rw [rounds_succ]
    go_wp2
  go_ret
  exact ⟨rfl, World.grownBy_alloc w _ none⟩

set_option maxRecDepth 100000 in
theorem nil_Tells (w : World) : Calls Tryz.prog 137 #[.slice none 0 0] w fun e w' => e = .returned (.bool true) ∧ w.grownBy w' none := by
  have hmk : ∀ w : World, (Instr.makeSlice 105 (.int .i64 0) (.int .i64 0)).run Tryz.prog w = .ok (.slice (some ⟨w.heap.size, 0, none⟩) 0 0) (w.alloc (.cells #[] 262)) := fun _ => by kernel_rfl
  go_enter Tryz.func137, Tryz.ntmps137
  go_wp2
  iterate 5
    refine wp_loop_rounds 1 ?_
    rw [rounds_succ]
    go_wp2
  go_ret
  exact ⟨rfl, World.grownBy_alloc w _ none⟩

set_option maxRecDepth 100000 in
theorem nil_States (w : World) : Calls Tryz.prog 138 #[.slice none 0 0] w fun e w' => e = .returned (.bool true) ∧ w.grownBy w' none := by
  have hmk : ∀ w : World, (Instr.makeSlice 106 (.int .i64 0) (.int .i64 0)).run Tryz.prog w = .ok (.slice (some ⟨w.heap.size, 0, none⟩) 0 0) (w.alloc (.cells #[] 264)) := fun _ => by kernel_rfl
  go_enter Tryz.func138, Tryz.ntmps138
  go_wp2
  iterate 5
    refine wp_loop_rounds 1 ?_
    rw [rounds_succ]
    go_wp2
  go_ret
  exact ⟨rfl, World.grownBy_alloc w _ none⟩

set_option maxRecDepth 100000 in
theorem nil_Rows (w : World) : Calls Tryz.prog 139 #[.slice none 0 0] w fun e w' => e = .returned (.bool true) ∧ w.grownBy w' none := by
  have hmk : ∀ w : World, (Instr.makeSlice 107 (.int .i64 0) (.int .i64 0)).run Tryz.prog w = .ok (.slice (some ⟨w.heap.size, 0, none⟩) 0 0) (w.alloc (.cells #[] 269)) := fun _ => by kernel_rfl
  go_enter Tryz.func139, Tryz.ntmps139
  go_wp2
  iterate 5
    refine wp_loop_rounds 1 ?_
    rw [rounds_succ]
    go_wp2
  go_ret
  exact ⟨rfl, World.grownBy_alloc w _ none⟩

set_option maxRecDepth 100000 in
theorem nil_Turns (w : World) : Calls Tryz.prog 140 #[.slice none 0 0] w fun e w' => e = .returned (.bool true) ∧ w.grownBy w' none := by
  have hmk : ∀ w : World, (Instr.makeSlice 108 (.int .i64 0) (.int .i64 0)).run Tryz.prog w = .ok (.slice (some ⟨w.heap.size, 0, none⟩) 0 0) (w.alloc (.cells #[] 274)) := fun _ => by kernel_rfl
  go_enter Tryz.func140, Tryz.ntmps140
  go_wp2
  iterate 5
    refine wp_loop_rounds 1 ?_
    rw [rounds_succ]
    go_wp2
  go_ret
  exact ⟨rfl, World.grownBy_alloc w _ none⟩

set_option maxRecDepth 100000 in
theorem nil_Fates (w : World) : Calls Tryz.prog 141 #[.slice none 0 0] w fun e w' => e = .returned (.bool true) ∧ w.grownBy w' none := by
  have hmk : ∀ w : World, (Instr.makeSlice 109 (.int .i64 0) (.int .i64 0)).run Tryz.prog w = .ok (.slice (some ⟨w.heap.size, 0, none⟩) 0 0) (w.alloc (.cells #[] 39)) := fun _ => by kernel_rfl
  go_enter Tryz.func141, Tryz.ntmps141
  go_wp2
  iterate 5
    refine wp_loop_rounds 1 ?_
    rw [rounds_succ]
    go_wp2
  go_ret
  exact ⟨rfl, World.grownBy_alloc w _ none⟩

set_option maxRecDepth 100000 in
theorem nil_Dirties (w : World) : Calls Tryz.prog 142 #[.slice none 0 0] w fun e w' => e = .returned (.bool true) ∧ w.grownBy w' none := by
  have hmk : ∀ w : World, (Instr.makeSlice 110 (.int .i64 0) (.int .i64 0)).run Tryz.prog w = .ok (.slice (some ⟨w.heap.size, 0, none⟩) 0 0) (w.alloc (.cells #[] 280)) := fun _ => by kernel_rfl
  go_enter Tryz.func142, Tryz.ntmps142
  go_wp2
  iterate 5
    refine wp_loop_rounds 1 ?_
    rw [rounds_succ]
    go_wp2
  go_ret
  exact ⟨rfl, World.grownBy_alloc w _ none⟩

set_option maxRecDepth 100000 in
theorem nil_Opens (w : World) : Calls Tryz.prog 143 #[.slice none 0 0] w fun e w' => e = .returned (.bool true) ∧ w.grownBy w' none := by
  have hmk : ∀ w : World, (Instr.makeSlice 111 (.int .i64 0) (.int .i64 0)).run Tryz.prog w = .ok (.slice (some ⟨w.heap.size, 0, none⟩) 0 0) (w.alloc (.cells #[] 284)) := fun _ => by kernel_rfl
  go_enter Tryz.func143, Tryz.ntmps143
  go_wp2
  iterate 5
    refine wp_loop_rounds 1 ?_
    rw [rounds_succ]
    go_wp2
  go_ret
  exact ⟨rfl, World.grownBy_alloc w _ none⟩

set_option maxRecDepth 100000 in
theorem nil_Records (w : World) : Calls Tryz.prog 144 #[.slice none 0 0] w fun e w' => e = .returned (.bool true) ∧ w.grownBy w' none := by
  have hmk : ∀ w : World, (Instr.makeSlice 112 (.int .i64 0) (.int .i64 0)).run Tryz.prog w = .ok (.slice (some ⟨w.heap.size, 0, none⟩) 0 0) (w.alloc (.cells #[] 288)) := fun _ => by kernel_rfl
  go_enter Tryz.func144, Tryz.ntmps144
  go_wp2
  iterate 5
    refine wp_loop_rounds 1 ?_
    rw [rounds_succ]
    go_wp2
  go_ret
  exact ⟨rfl, World.grownBy_alloc w _ none⟩

set_option maxRecDepth 100000 in
theorem nil_Steps (w : World) : Calls Tryz.prog 145 #[.slice none 0 0] w fun e w' => e = .returned (.bool true) ∧ w.grownBy w' none := by
  have hmk : ∀ w : World, (Instr.makeSlice 113 (.int .i64 0) (.int .i64 0)).run Tryz.prog w = .ok (.slice (some ⟨w.heap.size, 0, none⟩) 0 0) (w.alloc (.cells #[] 294)) := fun _ => by kernel_rfl
  go_enter Tryz.func145, Tryz.ntmps145
  go_wp2
  iterate 5
    refine wp_loop_rounds 1 ?_
    rw [rounds_succ]
    go_wp2
  go_ret
  exact ⟨rfl, World.grownBy_alloc w _ none⟩

set_option maxRecDepth 100000 in
theorem nil_Tales (w : World) : Calls Tryz.prog 146 #[.slice none 0 0] w fun e w' => e = .returned (.bool true) ∧ w.grownBy w' none := by
  have hmk : ∀ w : World, (Instr.makeSlice 114 (.int .i64 0) (.int .i64 0)).run Tryz.prog w = .ok (.slice (some ⟨w.heap.size, 0, none⟩) 0 0) (w.alloc (.cells #[] 296)) := fun _ => by kernel_rfl
  go_enter Tryz.func146, Tryz.ntmps146
  go_wp2
  iterate 5
    refine wp_loop_rounds 1 ?_
    rw [rounds_succ]
    go_wp2
  go_ret
  exact ⟨rfl, World.grownBy_alloc w _ none⟩

end Go.Proofs.YtkpedlhofalnjaaGreatDoor
