/- FlatNil, FlatBytes, Apart, ApartBytes. -/
import Derived.Test.YtkpedlhofalnjaaGreatDoorProg
import Derived.WalkKit
import Derived.KernelRfl
import Derived.OwnWalk
import Derived.LoopN
import Derived.Test.YtkpedlhofalnjaaGreatDoorFlat

section
/- Each flat.. of storemankit, of nil, is true: nothing lies anywhere. -/
namespace Go.Proofs.YtkpedlhofalnjaaGreatDoor
open Go

set_option maxRecDepth 100000 in
theorem nil_Words (w : World) : Calls Tryz.prog 124 #[.slice none 0 0] w fun e w' => e = .returned (.bool true) ∧ w.grownBy w' none := by
  have hmk : ∀ w : World, (Instr.makeSlice 94 (.int .i64 0) (.int .i64 0)).run Tryz.prog w = .ok (.slice (some ⟨w.heap.size, 0, none⟩) 0 0) (w.alloc (.cells #[] 242)) := fun _ => by kernel_rfl
  go_enter Tryz.func124, Tryz.ntmps124
  go_wp2
  iterate 5
    refine wp_loop_rounds 1 ?_
    rw [rounds_succ]
    go_wp2
  go_ret
  exact ⟨rfl, World.grownBy_alloc w _ none⟩

set_option maxRecDepth 100000 in
theorem nil_Ints (w : World) : Calls Tryz.prog 125 #[.slice none 0 0] w fun e w' => e = .returned (.bool true) ∧ w.grownBy w' none := by
  have hmk : ∀ w : World, (Instr.makeSlice 95 (.int .i64 0) (.int .i64 0)).run Tryz.prog w = .ok (.slice (some ⟨w.heap.size, 0, none⟩) 0 0) (w.alloc (.cells #[] 243)) := fun _ => by kernel_rfl
  go_enter Tryz.func125, Tryz.ntmps125
  go_wp2
  iterate 5
    refine wp_loop_rounds 1 ?_
    rw [rounds_succ]
    go_wp2
  go_ret
  exact ⟨rfl, World.grownBy_alloc w _ none⟩

set_option maxRecDepth 100000 in
theorem nil_Longs (w : World) : Calls Tryz.prog 126 #[.slice none 0 0] w fun e w' => e = .returned (.bool true) ∧ w.grownBy w' none := by
  have hmk : ∀ w : World, (Instr.makeSlice 96 (.int .i64 0) (.int .i64 0)).run Tryz.prog w = .ok (.slice (some ⟨w.heap.size, 0, none⟩) 0 0) (w.alloc (.cells #[] 83)) := fun _ => by kernel_rfl
  go_enter Tryz.func126, Tryz.ntmps126
  go_wp2
  iterate 5
    refine wp_loop_rounds 1 ?_
    rw [rounds_succ]
    go_wp2
  go_ret
  exact ⟨rfl, World.grownBy_alloc w _ none⟩

set_option maxRecDepth 100000 in
theorem nil_Texts (w : World) : Calls Tryz.prog 127 #[.slice none 0 0] w fun e w' => e = .returned (.bool true) ∧ w.grownBy w' none := by
  have hmk : ∀ w : World, (Instr.makeSlice 97 (.int .i64 0) (.int .i64 0)).run Tryz.prog w = .ok (.slice (some ⟨w.heap.size, 0, none⟩) 0 0) (w.alloc (.cells #[] 36)) := fun _ => by kernel_rfl
  go_enter Tryz.func127, Tryz.ntmps127
  go_wp2
  iterate 5
    refine wp_loop_rounds 1 ?_
    rw [rounds_succ]
    go_wp2
  go_ret
  exact ⟨rfl, World.grownBy_alloc w _ none⟩

set_option maxRecDepth 100000 in
theorem nil_Windows (w : World) : Calls Tryz.prog 129 #[.slice none 0 0] w fun e w' => e = .returned (.bool true) ∧ w.grownBy w' none := by
  have hmk : ∀ w : World, (Instr.makeSlice 98 (.int .i64 0) (.int .i64 0)).run Tryz.prog w = .ok (.slice (some ⟨w.heap.size, 0, none⟩) 0 0) (w.alloc (.cells #[] 244)) := fun _ => by kernel_rfl
  go_enter Tryz.func129, Tryz.ntmps129
  go_wp2
  iterate 5
    refine wp_loop_rounds 1 ?_
    rw [rounds_succ]
    go_wp2
  go_ret
  exact ⟨rfl, World.grownBy_alloc w _ none⟩

set_option maxRecDepth 100000 in
theorem nil_Lots (w : World) : Calls Tryz.prog 130 #[.slice none 0 0] w fun e w' => e = .returned (.bool true) ∧ w.grownBy w' none := by
  have hmk : ∀ w : World, (Instr.makeSlice 99 (.int .i64 0) (.int .i64 0)).run Tryz.prog w = .ok (.slice (some ⟨w.heap.size, 0, none⟩) 0 0) (w.alloc (.cells #[] 59)) := fun _ => by kernel_rfl
  go_enter Tryz.func130, Tryz.ntmps130
  go_wp2
  iterate 5
    refine wp_loop_rounds 1 ?_
    rw [rounds_succ]
    go_wp2
  go_ret
  exact ⟨rfl, World.grownBy_alloc w _ none⟩

set_option maxRecDepth 100000 in
theorem nil_Wants (w : World) : Calls Tryz.prog 131 #[.slice none 0 0] w fun e w' => e = .returned (.bool true) ∧ w.grownBy w' none := by
  have hmk : ∀ w : World, (Instr.makeSlice 100 (.int .i64 0) (.int .i64 0)).run Tryz.prog w = .ok (.slice (some ⟨w.heap.size, 0, none⟩) 0 0) (w.alloc (.cells #[] 247)) := fun _ => by kernel_rfl
  go_enter Tryz.func131, Tryz.ntmps131
  go_wp2
  iterate 5
    refine wp_loop_rounds 1 ?_
    rw [rounds_succ]
    go_wp2
  go_ret
  exact ⟨rfl, World.grownBy_alloc w _ none⟩

set_option maxRecDepth 100000 in
theorem nil_Uses (w : World) : Calls Tryz.prog 132 #[.slice none 0 0] w fun e w' => e = .returned (.bool true) ∧ w.grownBy w' none := by
  have hmk : ∀ w : World, (Instr.makeSlice 101 (.int .i64 0) (.int .i64 0)).run Tryz.prog w = .ok (.slice (some ⟨w.heap.size, 0, none⟩) 0 0) (w.alloc (.cells #[] 62)) := fun _ => by kernel_rfl
  go_enter Tryz.func132, Tryz.ntmps132
  go_wp2
  iterate 5
    refine wp_loop_rounds 1 ?_
    rw [rounds_succ]
    go_wp2
  go_ret
  exact ⟨rfl, World.grownBy_alloc w _ none⟩

set_option maxRecDepth 100000 in
theorem nil_Parts (w : World) : Calls Tryz.prog 133 #[.slice none 0 0] w fun e w' => e = .returned (.bool true) ∧ w.grownBy w' none := by
  have hmk : ∀ w : World, (Instr.makeSlice 102 (.int .i64 0) (.int .i64 0)).run Tryz.prog w = .ok (.slice (some ⟨w.heap.size, 0, none⟩) 0 0) (w.alloc (.cells #[] 35)) := fun _ => by kernel_rfl
  go_enter Tryz.func133, Tryz.ntmps133
  go_wp2
  iterate 5
    refine wp_loop_rounds 1 ?_
    rw [rounds_succ]
    go_wp2
  go_ret
  exact ⟨rfl, World.grownBy_alloc w _ none⟩

set_option maxRecDepth 100000 in
theorem nil_Items (w : World) : Calls Tryz.prog 134 #[.slice none 0 0] w fun e w' => e = .returned (.bool true) ∧ w.grownBy w' none := by
  have hmk : ∀ w : World, (Instr.makeSlice 103 (.int .i64 0) (.int .i64 0)).run Tryz.prog w = .ok (.slice (some ⟨w.heap.size, 0, none⟩) 0 0) (w.alloc (.cells #[] 252)) := fun _ => by kernel_rfl
  go_enter Tryz.func134, Tryz.ntmps134
  go_wp2
  iterate 5
    refine wp_loop_rounds 1 ?_
    rw [rounds_succ]
    go_wp2
  go_ret
  exact ⟨rfl, World.grownBy_alloc w _ none⟩

set_option maxRecDepth 100000 in
theorem nil_Lines (w : World) : Calls Tryz.prog 135 #[.slice none 0 0] w fun e w' => e = .returned (.bool true) ∧ w.grownBy w' none := by
  have hmk : ∀ w : World, (Instr.makeSlice 104 (.int .i64 0) (.int .i64 0)).run Tryz.prog w = .ok (.slice (some ⟨w.heap.size, 0, none⟩) 0 0) (w.alloc (.cells #[] 257)) := fun _ => by kernel_rfl
  go_enter Tryz.func135, Tryz.ntmps135
  go_wp2
  iterate 5
    refine wp_loop_rounds 1 ?_
    rw [rounds_succ]
    go_wp2
  go_ret
  exact ⟨rfl, World.grownBy_alloc w _ none⟩

set_option maxRecDepth 100000 in
theorem nil_Asks (w : World) : Calls Tryz.prog 136 #[.slice none 0 0] w fun e w' => e = .returned (.bool true) ∧ w.grownBy w' none := by
  have hmk : ∀ w : World, (Instr.makeSlice 80 (.int .i64 0) (.int .i64 0)).run Tryz.prog w = .ok (.slice (some ⟨w.heap.size, 0, none⟩) 0 0) (w.alloc (.cells #[] 79)) := fun _ => by kernel_rfl
  go_enter Tryz.func136, Tryz.ntmps136
  go_wp2
  iterate 5
    refine wp_loop_rounds 1 ?_
    rw [rounds_succ]
    go_wp2
  go_ret
  exact ⟨rfl, World.grownBy_alloc w _ none⟩

set_option maxRecDepth 100000 in
theorem nil_Tells (w : World) : Calls Tryz.prog 137 #[.slice none 0 0] w fun e w' => e = .returned (.bool true) ∧ w.grownBy w' none := by
  have hmk : ∀ w : World, (Instr.makeSlice 105 (.int .i64 0) (.int .i64 0)).run Tryz.prog w = .ok (.slice (some ⟨w.heap.size, 0, none⟩) 0 0) (w.alloc (.cells #[] 262)) := fun _ => by kernel_rfl
  go_enter Tryz.func137, Tryz.ntmps137
  go_wp2
  iterate 5
    refine wp_loop_rounds 1 ?_
    rw [rounds_succ]
    go_wp2
  go_ret
  exact ⟨rfl, World.grownBy_alloc w _ none⟩

set_option maxRecDepth 100000 in
theorem nil_States (w : World) : Calls Tryz.prog 138 #[.slice none 0 0] w fun e w' => e = .returned (.bool true) ∧ w.grownBy w' none := by
  have hmk : ∀ w : World, (Instr.makeSlice 106 (.int .i64 0) (.int .i64 0)).run Tryz.prog w = .ok (.slice (some ⟨w.heap.size, 0, none⟩) 0 0) (w.alloc (.cells #[] 264)) := fun _ => by kernel_rfl
  go_enter Tryz.func138, Tryz.ntmps138
  go_wp2
  iterate 5
    refine wp_loop_rounds 1 ?_
    rw [rounds_succ]
    go_wp2
  go_ret
  exact ⟨rfl, World.grownBy_alloc w _ none⟩

set_option maxRecDepth 100000 in
theorem nil_Rows (w : World) : Calls Tryz.prog 139 #[.slice none 0 0] w fun e w' => e = .returned (.bool true) ∧ w.grownBy w' none := by
  have hmk : ∀ w : World, (Instr.makeSlice 107 (.int .i64 0) (.int .i64 0)).run Tryz.prog w = .ok (.slice (some ⟨w.heap.size, 0, none⟩) 0 0) (w.alloc (.cells #[] 269)) := fun _ => by kernel_rfl
  go_enter Tryz.func139, Tryz.ntmps139
  go_wp2
  iterate 5
    refine wp_loop_rounds 1 ?_
    rw [rounds_succ]
    go_wp2
  go_ret
  exact ⟨rfl, World.grownBy_alloc w _ none⟩

set_option maxRecDepth 100000 in
theorem nil_Turns (w : World) : Calls Tryz.prog 140 #[.slice none 0 0] w fun e w' => e = .returned (.bool true) ∧ w.grownBy w' none := by
  have hmk : ∀ w : World, (Instr.makeSlice 108 (.int .i64 0) (.int .i64 0)).run Tryz.prog w = .ok (.slice (some ⟨w.heap.size, 0, none⟩) 0 0) (w.alloc (.cells #[] 274)) := fun _ => by kernel_rfl
  go_enter Tryz.func140, Tryz.ntmps140
  go_wp2
  iterate 5
    refine wp_loop_rounds 1 ?_
    rw [rounds_succ]
    go_wp2
  go_ret
  exact ⟨rfl, World.grownBy_alloc w _ none⟩

set_option maxRecDepth 100000 in
theorem nil_Fates (w : World) : Calls Tryz.prog 141 #[.slice none 0 0] w fun e w' => e = .returned (.bool true) ∧ w.grownBy w' none := by
  have hmk : ∀ w : World, (Instr.makeSlice 109 (.int .i64 0) (.int .i64 0)).run Tryz.prog w = .ok (.slice (some ⟨w.heap.size, 0, none⟩) 0 0) (w.alloc (.cells #[] 39)) := fun _ => by kernel_rfl
  go_enter Tryz.func141, Tryz.ntmps141
  go_wp2
  iterate 5
    refine wp_loop_rounds 1 ?_
    rw [rounds_succ]
    go_wp2
  go_ret
  exact ⟨rfl, World.grownBy_alloc w _ none⟩

set_option maxRecDepth 100000 in
theorem nil_Dirties (w : World) : Calls Tryz.prog 142 #[.slice none 0 0] w fun e w' => e = .returned (.bool true) ∧ w.grownBy w' none := by
  have hmk : ∀ w : World, (Instr.makeSlice 110 (.int .i64 0) (.int .i64 0)).run Tryz.prog w = .ok (.slice (some ⟨w.heap.size, 0, none⟩) 0 0) (w.alloc (.cells #[] 280)) := fun _ => by kernel_rfl
  go_enter Tryz.func142, Tryz.ntmps142
  go_wp2
  iterate 5
    refine wp_loop_rounds 1 ?_
    rw [rounds_succ]
    go_wp2
  go_ret
  exact ⟨rfl, World.grownBy_alloc w _ none⟩

set_option maxRecDepth 100000 in
theorem nil_Opens (w : World) : Calls Tryz.prog 143 #[.slice none 0 0] w fun e w' => e = .returned (.bool true) ∧ w.grownBy w' none := by
  have hmk : ∀ w : World, (Instr.makeSlice 111 (.int .i64 0) (.int .i64 0)).run Tryz.prog w = .ok (.slice (some ⟨w.heap.size, 0, none⟩) 0 0) (w.alloc (.cells #[] 284)) := fun _ => by kernel_rfl
  go_enter Tryz.func143, Tryz.ntmps143
  go_wp2
  iterate 5
    refine wp_loop_rounds 1 ?_
    rw [rounds_succ]
    go_wp2
  go_ret
  exact ⟨rfl, World.grownBy_alloc w _ none⟩

set_option maxRecDepth 100000 in
theorem nil_Records (w : World) : Calls Tryz.prog 144 #[.slice none 0 0] w fun e w' => e = .returned (.bool true) ∧ w.grownBy w' none := by
  have hmk : ∀ w : World, (Instr.makeSlice 112 (.int .i64 0) (.int .i64 0)).run Tryz.prog w = .ok (.slice (some ⟨w.heap.size, 0, none⟩) 0 0) (w.alloc (.cells #[] 288)) := fun _ => by kernel_rfl
  go_enter Tryz.func144, Tryz.ntmps144
  go_wp2
  iterate 5
    refine wp_loop_rounds 1 ?_
    rw [rounds_succ]
    go_wp2
  go_ret
  exact ⟨rfl, World.grownBy_alloc w _ none⟩

set_option maxRecDepth 100000 in
theorem nil_Steps (w : World) : Calls Tryz.prog 145 #[.slice none 0 0] w fun e w' => e = .returned (.bool true) ∧ w.grownBy w' none := by
  have hmk : ∀ w : World, (Instr.makeSlice 113 (.int .i64 0) (.int .i64 0)).run Tryz.prog w = .ok (.slice (some ⟨w.heap.size, 0, none⟩) 0 0) (w.alloc (.cells #[] 294)) := fun _ => by kernel_rfl
  go_enter Tryz.func145, Tryz.ntmps145
  go_wp2
  iterate 5
    refine wp_loop_rounds 1 ?_
    rw [rounds_succ]
    go_wp2
  go_ret
  exact ⟨rfl, World.grownBy_alloc w _ none⟩

set_option maxRecDepth 100000 in
theorem nil_Tales (w : World) : Calls Tryz.prog 146 #[.slice none 0 0] w fun e w' => e = .returned (.bool true) ∧ w.grownBy w' none := by
  have hmk : ∀ w : World, (Instr.makeSlice 114 (.int .i64 0) (.int .i64 0)).run Tryz.prog w = .ok (.slice (some ⟨w.heap.size, 0, none⟩) 0 0) (w.alloc (.cells #[] 296)) := fun _ => by kernel_rfl
  go_enter Tryz.func146, Tryz.ntmps146
  go_wp2
  iterate 5
    refine wp_loop_rounds 1 ?_
    rw [rounds_succ]
    go_wp2
  go_ret
  exact ⟨rfl, World.grownBy_alloc w _ none⟩

end Go.Proofs.YtkpedlhofalnjaaGreatDoor
end

section
/- storemankit.flatBytes: rows that lie apart are told so. -/
namespace Go.Proofs.YtkpedlhofalnjaaGreatDoor
open Go.RowKit Go.Proofs.YtkpedlhofalnjaaGreatDoorW.PrintWords Go.Proofs.YtkpedlhofalnjaaGreatDoorW.PrintLast Go.Proofs.YtkpedlhofalnjaaGreatDoorW.PrintMore

set_option linter.unusedSimpArgs false
set_option linter.unusedVariables false
namespace flatBytes
noncomputable def T7 : Bool × List (List Nat × List Nat) := rtab .any (opsOf Tryz.f128 7)
def B7 : List Nat := [0, 0, 3, 7, 0, 0, 0, 96, 255, 511]
theorem tab7 : rtab .any (opsOf Tryz.f128 7) = T7 := rfl
theorem bits7 : waitsOk T7.2 B7 = true := by kernel_rfl
end flatBytes

theorem drawn_trans {a b c : World} (h : Drawn0 a b) (k : Drawn0 b c) : Drawn0 a c := by
  obtain ⟨n, rfl⟩ := h
  obtain ⟨m, rfl⟩ := k
  exact ⟨n + m, World.drewN_drewN _ _ _⟩
theorem take_set {xs : List Int} {l i : Nat} {k : Int} (hl : xs.length = l) (hi : i < l) (h : xs.take i = marks k 0 i) : (xs.set i (markOf k (i : Nat))).take (i + 1) = marks k 0 (i + 1) := by
  rw [marks, Nat.zero_add, ← h, List.take_add_one]
  rw [List.take_set_of_le (Nat.le_refl _), List.getElem?_set_self (by omega)]
  rfl

theorem cells_one (w : World) (e : TypeId) (v : Value) : ∀ j u, ([v] : List Value)[j]? = some u → (w.alloc (.cells #[v] e)).cell? ((⟨w.heap.size, 0, none⟩ : Addr).add j) = some u := by
  intro j u hu
  have hj : j = 0 := by have := (List.getElem?_eq_some_iff.1 hu).1; simpa using this
  subst hj
  rw [Addr.add_lit, (World.ownsRow_lit (base := 0) (e := e) (size := 1) w #[v] 1 (Nat.zero_le _) (by decide) rfl).cellAt 0 (by decide)]
  exact hu
theorem own_cells {w : World} {base : Nat} {e : TypeId} {g l c : Nat} {xs : List Value} (h : w.ownsRow base e 1 (.slice (some ⟨g, 0, none⟩) l c) l xs) : ∀ j u, xs[j]? = some u → w.cell? ((⟨g, 0, none⟩ : Addr).add j) = some u := by
  intro j u hu
  have hj : j < l := by have := (List.getElem?_eq_some_iff.1 hu).1; have := h.1; omega
  rw [Addr.add_lit, Nat.zero_add, h.cellAt j (by omega)]; exact hu
theorem ints_one (ys : List Int) : ∀ u ∈ nums .u8 ys, u.oneCell' = true := by
  intro u hu
  obtain ⟨z, _, rfl⟩ := List.mem_map.1 hu
  rfl
theorem made64 : (madeCells #[Value.int .u8 0] 64).toList = nums .u8 (List.replicate 64 0) := by kernel_rfl
theorem info_row : (Tryz.prog.info? 22).map (fun i => (i.zero, i.size, i.bytes)) = some (some (.slice none 0 0), 1, 24) := by kernel_rfl

set_option maxRecDepth 100000 in
set_option maxHeartbeats 4000000 in
theorem flat_bytes (m B cL : Nat) (ad : Nat → Option Addr) (n cp : Nat → Nat) (f0 : Nat → List Int) (w : World) (hm0 : 0 < m) (hm : m ≤ 1000) (hn : ∀ j, n j ≤ 1000000) (HR : RowsB w m B ad n cp f0) (HA : Lies m B ad) (hcL : m ≤ cL) :
    Calls Tryz.prog 128 #[.slice (some ⟨B, 0, none⟩) m cL] w fun e w' => e = .returned (.bool true) ∧ But (blocks m ad) w w' := by
  obtain ⟨i0, hi, hz0, hz1, hz2⟩ := info_parts info_u8
  have HA' := Aside0.mk HA
  have HN' := Aside0.mk hn
  clear HA hn
  go_enter Tryz.func128, Tryz.ntmps128
  go_wp2
  go_loopg [3] (m + 1) (fun kq v3 wr => ∃ (k : Nat), v3 = .int .i64 k ∧ k + kq = m + 1 ∧ 0 < kq ∧ ∃ f : Nat → List Int, Aside0 (RowsB wr m B ad n cp f) ∧ Aside0 (∀ j, j < k → f j = marks j 0 (n j)) ∧ Aside0 (But (blocks m ad) w wr))
  case atStart => exact ⟨0, rfl, by omega, by omega, f0, ⟨HR⟩, ⟨fun j hj => by omega⟩, ⟨But.refl⟩⟩
  case round =>
    clear HR
    obtain ⟨k, rfl, hk, hk0, f, HR, HF, HB⟩ := hrel
    by_cases hkm : k < m
    · go_wp2
      go_loopg [4] (n k + 1) (fun kq v4 wr => ∃ (i : Nat), v4 = .int .i64 i ∧ i + kq = n k + 1 ∧ 0 < kq ∧ ∃ f : Nat → List Int, Aside0 (RowsB wr m B ad n cp f) ∧ Aside0 (∀ j, j < k → f j = marks j 0 (n j)) ∧ Aside0 ((f k).take i = marks k 0 i) ∧ Aside0 (But (blocks m ad) w wr))
      case atStart => exact ⟨0, rfl, by omega, by omega, f, HR, HF, ⟨by simp [marks]⟩, HB⟩
      case round =>
        clear HR HF HB f
        obtain ⟨i, rfl, hi1, hi0, f, HR, HF, HT, HB⟩ := hrel
        have hls := HR.out.ls k hkm
        by_cases hin : i < n k
        · obtain ⟨g, hgk, hgl⟩ := HR.out.addr hkm (by omega)
          rw [hgk] at hls
          have ho := HR.out.own k hkm
          rw [hgk] at ho
          have hlen := HR.out.len hkm
          have hcv : wr.cell? ⟨g, i, none⟩ = some (.int .u8 ((f k).getD i 0)) := by
            rw [ho.cellAt i (by omega)]
            simp [nums, List.getD, show i < (f k).length by omega]
          have hla : ∀ w', Drawn0 wr w' → w'.cell? ⟨B, k, none⟩ = some (.slice (some ⟨g, 0, none⟩) (n k) (cp k)) := fun w' h => by obtain ⟨nd, rfl⟩ := h; exact hls
          have hfa : ∀ w', Drawn0 wr w' → w'.cell? ⟨g, i, none⟩ = some (.int .u8 ((f k).getD i 0)) := fun w' h => by obtain ⟨nd, rfl⟩ := h; exact hcv
          have hfz : ∀ w', Drawn0 wr w' → w'.frozen? ⟨g, i, none⟩ = false := fun w' h => by obtain ⟨nd, rfl⟩ := h; exact ho.frozenAt i
          go_wp2
          refine start_ (n := 10) (S := fun w' => Drawn0 wr w') (ds := [9]) #[false, false, false, false, false, false, false, false, false, false] (by kernel_rfl) rfl rfl ⟨1, rfl⟩ (fun hHeld => ?_); refine with_tabW flatBytes.tab7 flatBytes.bits7 (fun HT_ HW_ => ?_)
          generalize wr.drew = w15 at hHeld ⊢
          refine pure_ (i := 0) (N := some 31) (v := ?_) (a' := ?_) #[true, false, false, false, false, false, false, false, false, false] rfl rfl (any_of HT_.out (by kernel_rfl)) (fun _ _ _ h => h) (Or.inl ⟨by rfl, ?_⟩) ?_ ?_
          rotate_left
          · intro w'
            go_simp
            with_reducible rfl
          rotate_left
          · simp only [Act.put, List.setIfInBounds_toArray, List.set_cons_zero, List.set_cons_succ, i64_w, i32_w]
            rfl
          refine pure_ (i := 1) (N := some 32) (v := ?_) (a' := ?_) #[true, true, false, false, false, false, false, false, false, false] rfl rfl (any_of HT_.out (by kernel_rfl)) (fun _ _ _ h => h) (Or.inl ⟨by rfl, ?_⟩) ?_ ?_
          rotate_left
          · intro w'
            go_simp
            with_reducible rfl
          rotate_left
          · simp only [Act.put, List.setIfInBounds_toArray, List.set_cons_zero, List.set_cons_succ, i64_w, i32_w]
            rfl
          refine pure_ (i := 4) (N := some 35) (v := ?_) (a' := ?_) #[true, true, false, false, true, false, false, false, false, false] rfl rfl (any_of HT_.out (by kernel_rfl)) (fun _ _ _ h => h) (Or.inl ⟨by rfl, ?_⟩) ?_ ?_
          rotate_left
          · intro w'
            go_simp
            with_reducible rfl
          rotate_left
          · simp only [Act.put, List.setIfInBounds_toArray, List.set_cons_zero, List.set_cons_succ, i64_w, i32_w]
            rfl
          refine pure_ (i := 5) (N := some 36) (v := ?_) (a' := ?_) #[true, true, false, false, true, true, false, false, false, false] rfl rfl (any_of HT_.out (by kernel_rfl)) (fun _ _ _ h => h) (Or.inl ⟨by rfl, ?_⟩) ?_ ?_
          rotate_left
          · intro w'
            go_simp
            with_reducible rfl
          rotate_left
          · simp only [Act.put, List.setIfInBounds_toArray, List.set_cons_zero, List.set_cons_succ, i64_w, i32_w]
            rfl
          refine pure_ (i := 6) (N := some 37) (v := ?_) (a' := ?_) #[true, true, false, false, true, true, true, false, false, false] rfl rfl (any_of HT_.out (by kernel_rfl)) (fun _ _ _ h => h) (Or.inl ⟨by rfl, ?_⟩) ?_ ?_
          rotate_left
          · intro w'
            go_simp
            with_reducible rfl
          rotate_left
          · simp only [Act.put, List.setIfInBounds_toArray, List.set_cons_zero, List.set_cons_succ, i64_w, i32_w]
            rfl
          refine pure_ (i := 2) (N := some 33) (v := ?_) (a' := ?_) #[true, true, true, false, true, true, true, false, false, false] rfl rfl (any_of HT_.out (by kernel_rfl)) (fun _ _ _ h => h) (Or.inl ⟨by rfl, ?_⟩) ?_ ?_
          rotate_left
          · intro w'
            go_simp
            with_reducible rfl
          rotate_left
          · simp only [Act.put, List.setIfInBounds_toArray, List.set_cons_zero, List.set_cons_succ, i64_w, i32_w]
            rfl
          refine take_ (i := 3) (N := some 34) (v := ?_) (a' := ?_) #[true, true, true, true, true, true, true, false, false, false] rfl rfl (take_ofW HT_.out HW_.out (by kernel_rfl)) (fun _ _ _ h => h) (Or.inl ⟨by rfl, ?_⟩) hHeld ?_ ?_
          rotate_left
          · rintro w' hS
            have hc := hla w' hS
            go_simp
            with_reducible rfl
          rotate_left
          · simp only [Act.put, List.setIfInBounds_toArray, List.set_cons_zero, List.set_cons_succ, i64_w, i32_w]
            rfl
          refine one_ (i := 7) (N := some 38) #[true, true, true, true, true, true, true, true, false, false] rfl rfl (one_of HT_.out (by kernel_rfl)) (by decide) (fun K hK => ?_)
          refine goes_ Tryz.func59 (by kernel_rfl) rfl #[.int .i64 k, .int .i64 i] (by rfl) rfl rfl (by (try simp only [List.map_toArray, List.map_cons, List.map_nil]); first | done | rfl) ?_
          refine (mark_calls k i _).mono ?_
          rintro e w16 ⟨rfl, hd⟩
          refine ⟨_, rfl, ?_⟩
          have hHeld2 : Drawn0 wr w16 := drawn_trans hHeld hd
          refine hK.out _ _ hHeld2 (fun hHeld => ?_)
          clear hK K
          refine norm_ (a' := ?_) ?_ ?_
          rotate_left
          · show Act.put _ (some 38) _ = _
            simp only [Act.put, List.setIfInBounds_toArray, List.set_cons_zero, List.set_cons_succ, i64_w, i32_w]
            rfl
          refine pure_ (i := 8) (N := some 39) (v := ?_) (a' := ?_) #[true, true, true, true, true, true, true, true, true, false] rfl rfl (any_of HT_.out (by kernel_rfl)) (fun _ _ _ h => h) (Or.inl ⟨by rfl, ?_⟩) ?_ ?_
          rotate_left
          · intro w'
            go_simp
            with_reducible rfl
          rotate_left
          · simp only [Act.put, List.setIfInBounds_toArray, List.set_cons_zero, List.set_cons_succ, i64_w, i32_w]
            rfl
          refine last_ (i := 9) (N := none) #[true, true, true, true, true, true, true, true, true, true] rfl rfl (one_of HT_.out (by kernel_rfl)) (by decide) (fun K hK => ?_)
          have hcell := hfa w16 hHeld
          have hfr := hfz w16 hHeld
          refine skip_ (by rfl) rfl (w1 := w16.setCell ⟨g, i, none⟩ (.int .u8 (markOf k i))) (by go_simp) ?_
          refine hK.out _ _ ?_
          refine done_ (done_of HT_.out (by kernel_rfl)) ?_
          have hst := own_store (own_drawn ho hHeld) i (markOf k i)
          rw [show ((i : Int)).toNat = i from rfl] at hst
          have HST := Lib.hid hst
          clear hst ho hls hcell hfr hcv hla hfa hfz
          go_wp2
          go_roundg (n k - i)
          case measure => omega
          case rel =>
            have hnk := HN'.out k
            refine ⟨i + 1, by rw [show wrap64 ((i : Int) + 1) = ((i + 1 : Nat) : Int) from by unfold wrap64; omega], by omega, by omega, _, ⟨(HR.out.drawn hHeld).turn HA'.out hkm hgk HST.out.2 (by rw [hgk]; exact HST.out.1)⟩, ⟨fun j hj => ?_⟩, ⟨?_⟩, ⟨(HB.out.drawn hHeld).grown HST.out.2 (fun g' e => .inl ⟨k, hkm, by rw [hgk]; cases e; rfl⟩)⟩⟩
            · rw [if_neg (by omega)]; exact HF.out j hj
            · rw [if_pos rfl]
              exact take_set hlen hin HT.out
        · obtain rfl : i = n k := by omega
          go_wp2
          go_roundg (m - k)
          case measure => omega
          case rel =>
            refine ⟨k + 1, by simp, by omega, by omega, f, HR, ⟨fun j hj => ?_⟩, HB⟩
            by_cases e : j = k
            · subst e; rw [← HT.out, List.take_of_length_le (by rw [HR.out.len hkm]; exact Nat.le_refl _)]
            · exact HF.out j (by omega)
    · obtain rfl : m = k := by omega
      have hrows := HR.out.congr (f' := fun j => marks j 0 (n j)) (fun j hj => (HF.out j hj).symm)
      clear HR HF f f0 hk hk0 hkm
      obtain ⟨i1, hi1, hy0, hy1, hy2⟩ := info_parts info_row
      go_wp2_with (first
        | (at_make; refine wpList_make_full _ rfl _ _ 31 rfl 0 22 i1 _ 1 Tryz.underlying31 hi1 hy0 hy1 _ _ _ _ m rfl rfl rfl rfl ?b1 ?b2 ?b3 ?_)
        | fail)
      case b1 => rw [hy2]; omega
      case b2 => simp only [maxLen]; omega
      case b3 => exact Nat.zero_le _
      intro w2 hown2 hgrow2
      have hwG := HB.out.old.size
      have hst2 : St w2 m B wr.heap.size ad n cp 0 _ (fun _ => 0) (fun _ => 0) (fun _ => []) :=
        ⟨hrows.keep hgrow2 (by simp) (fun _ _ _ _ => by simp), hown2, fun j hj => by omega, fun j hj => by omega, fun j hj => by omega, fun j hj => by omega, fun j hj => by omega, fun j hj => by omega,
          fun e => by have := hrows.ltB hm0; omega, fun j hj e => by have := hrows.lt hj e; omega⟩
      have HB2 := Aside0.mk (HB.out.grown hgrow2 (fun g e => by cases e))
      have HST := Aside0.mk hst2
      clear hst2 hown2 hgrow2 hrows HB
      generalize wr.heap.size = G at hwG HST ⊢
      go_wp2
      go_loopg [6] (m + 1) (fun kq v6 wr => ∃ (k : Nat), v6 = .int .i64 k ∧ k + kq = m + 1 ∧ 0 < kq ∧ ∃ (gl : List Value) (gb gc : Nat → Nat), Aside0 (St wr m B G ad n cp k gl gb gc (fun j => marks j 0 (n j + 64))) ∧ Aside0 (But (blocks m ad) w wr))
      case atStart => exact ⟨0, rfl, by omega, by omega, _, fun _ => 0, fun _ => 0, ⟨⟨HST.out.rows, HST.out.gs, fun j hj => by omega, fun j hj => by omega, fun j hj => by omega, fun j hj => by omega, fun j hj => by omega, fun j hj => by omega, HST.out.GB, HST.out.GA⟩⟩, HB2⟩
      case round =>
        clear HST HB2
        obtain ⟨k, rfl, hk, hk0, gl, gb, gc, HS, HB⟩ := hrel
        by_cases hkm : k < m
        · have hls := HS.out.rows.ls k hkm
          go_wp2
          clear hls
          go_loopg [7, 8] 65 (fun kq v7 v8 wr => ∃ (i : Nat) (ga : Option Addr) (gc' : Nat), v7 = .slice ga (n k + i) gc' ∧ v8 = .int .i64 i ∧ i + kq = 65 ∧ 0 < kq ∧
            Aside0 (St wr m B G ad n cp k gl gb gc (fun j => marks j 0 (n j + 64))) ∧ Aside0 (wr.ownsRow 0 5 1 (.slice ga (n k + i) gc') (n k + i) (nums .u8 (marks k 0 (n k + i)))) ∧
            Aside0 ((ga = ad k ∧ gc' = cp k) ∨ (∃ g, ga = some ⟨g, 0, none⟩ ∧ Out m B G ad k gb g ∧ (∀ j, j < m → ad j ≠ some ⟨g, 0, none⟩) ∧ w.heap.size ≤ g)) ∧ Aside0 (But (blocks m ad) w wr))
          case atStart => exact ⟨0, ad k, cp k, rfl, rfl, by omega, by omega, HS, ⟨HS.out.rows.own k hkm⟩, ⟨.inl ⟨rfl, rfl⟩⟩, HB⟩
          case round =>
            clear HS HB
            obtain ⟨i, ga, gc', rfl, rfl, hi1, hi0, HS, HO, HC, HB⟩ := hrel
            have hnk := HN'.out k
            by_cases hin : i < 64
            · have hls := HS.out.rows.ls k hkm
              go_wp2_with fail
              refine (mark_calls k (n k + i) wr).mono ?_
              rintro e w3 ⟨rfl, hd⟩
              clear hls
              go_wp2_with (first
                | (at_builtin; refine wp_append_two _ rfl _ _ 22 rfl 0 5 i0 _ 1 Tryz.underlying22 hi hz0 hz1 hz2 rfl _ (n k + i) _ rfl (own_alloc (own_drawn HO.out hd) _) _ 1 1 [.int .u8 (markOf k (n k + i))] rfl (by decide) rfl (cells_one _ _ _) (by simp [Value.oneCell']) ?b1 ?b2 ?_)
                | fail)
              case b1 => simp only [maxLen]; omega
              case b2 => omega
              intro v' w4 hown4 hor
              have HS3 := Aside0.mk ((HS.out.drawn hd).keep (World.grownBy_alloc w3 (.cells #[.int .u8 (markOf k (n k + i))] 5) none) (fun _ e => by cases e))
              have HB3 := Aside0.mk ((HB.out.drawn hd).grown (World.grownBy_alloc w3 (.cells #[.int .u8 (markOf k (n k + i))] 5) none) (fun _ e => by cases e))
              have hcont : nums .u8 (marks k 0 (n k + i)) ++ [Value.int .u8 (markOf k (n k + i))] = nums .u8 (marks k 0 (n k + (i + 1))) := by
                rw [show n k + (i + 1) = (n k + i) + 1 from rfl, marks, Nat.zero_add, nums_append]; push_cast; rfl
              rw [hcont] at hown4
              have HO4 := Aside0.mk (own_base hown4 (Nat.zero_le _))
              clear hown4 hcont HS HO
              rcases hor with ⟨g, c, e1, rfl, hg⟩ | ⟨g, c, hge, hgl, rfl, hg⟩
              · simp only [Value.slice.injEq, true_and] at e1
                obtain ⟨e1, e2⟩ := e1
                go_wp2
                go_roundg (64 - i)
                case measure => omega
                case rel =>
                  refine ⟨i + 1, some ⟨g, 0, none⟩, c, by rw [Nat.add_assoc], by simp, by omega, by omega, ?_, HO4, ?_, ?_⟩
                  · rcases HC.out with ⟨q1, q2⟩ | ⟨g', q1, q2, q3, q4⟩
                    · refine ⟨HS3.out.turn HA'.out hkm (by rw [← q1, e1]) hg ?_⟩
                      have := own_head HO4.out (n k) (by omega)
                      rw [show (nums .u8 (marks k 0 (n k + (i + 1)))).take (n k) = nums .u8 (marks k 0 (n k)) by rw [nums, ← List.map_take, marks_take _ _ _ _ (by omega)]; rfl] at this
                      rw [← q1, e1, ← q2, e2]; exact this
                    · obtain rfl : g' = g := by rw [q1] at e1; simpa using e1
                      exact ⟨HS3.out.keep hg (fun g2 e => by cases e; exact ⟨q2, q3⟩)⟩
                  · rcases HC.out with ⟨q1, q2⟩ | ⟨g', q1, q2, q3, q4⟩
                    · exact ⟨.inl ⟨by rw [← q1, e1], by rw [← q2, e2]⟩⟩
                    · obtain rfl : g' = g := by rw [q1] at e1; simpa using e1
                      exact ⟨.inr ⟨g', rfl, q2, q3, q4⟩⟩
                  · refine ⟨HB3.out.grown hg (fun g2 e => ?_)⟩
                    cases e
                    rcases HC.out with ⟨q1, q2⟩ | ⟨g', q1, q2, q3, q4⟩
                    · exact .inl ⟨k, hkm, by rw [← q1, e1]⟩
                    · obtain rfl : g' = g := by rw [q1] at e1; simpa using e1
                      exact .inr q4
              · go_wp2
                go_roundg (64 - i)
                case measure => omega
                case rel =>
                  refine ⟨i + 1, some ⟨g, 0, none⟩, c, by rw [Nat.add_assoc], by simp, by omega, by omega, ⟨HS3.out.keep hg (fun _ e => by cases e)⟩, HO4, ⟨.inr ⟨g, rfl, ?_, ?_, ?_⟩⟩, ⟨HB3.out.grown hg (fun _ e => by cases e)⟩⟩
                  · exact (HS3.out.fresh hkm hge).1
                  · exact (HS3.out.fresh hkm hge).2
                  · have := HB3.out.old.size; omega
            · obtain rfl : i = 64 := by omega
              obtain ⟨g, rfl, _, hgl, _⟩ := own_addr HO.out (by omega)
              have hgs := HS.out.gs
              have hgln : gl.length = m := by have := hgs.1; omega
              have hcell : wr.cell? ⟨G, k, none⟩ = some (gl[k]'(by omega)) := by
                rw [hgs.cellAt k (by omega)]
                exact List.getElem?_eq_getElem (by omega)
              have hfr := hgs.frozenAt k
              have HSTO := Lib.hid (hgs.stored k (.slice (some ⟨g, 0, none⟩) (n k + 64) gc'))
              clear hgs
              go_wp2
              go_roundg (m - k)
              case measure => omega
              case rel =>
                have hO : Out m B G ad k gb g := by
                  rcases HC.out with ⟨q1, q2⟩ | ⟨g', q1, q2, q3, q4⟩
                  · exact HS.out.outK HA'.out hkm q1.symm
                  · obtain rfl : g = g' := by simpa using q1
                    exact q2
                have hp := HS.out.put HA'.out hkm HO.out hO HSTO.out.2 HSTO.out.1
                rw [show (fun j => if j = k then marks k 0 (n k + 64) else marks j 0 (n j + 64)) = fun (j : Nat) => marks j 0 (n j + 64) by funext j; split <;> simp_all] at hp
                exact ⟨k + 1, by simp, by omega, by omega, _, _, _, ⟨hp⟩, ⟨HB.out.grown HSTO.out.2 (fun g2 e => by cases e; exact .inr hwG)⟩⟩
        · have hkm2 : m = k := by omega
          clear hkm hk hk0
          subst hkm2
          generalize wr = wr4 at HS HB ⊢
          go_wp2
          go_loopg [9] (m + 1) (fun kq v9 wr => ∃ (i : Nat), v9 = .int .i64 i ∧ i + kq = m + 1 ∧ 0 < kq ∧ Aside0 (Drawn0 wr4 wr))
          case atStart => exact ⟨0, rfl, by omega, by omega, ⟨⟨0, rfl⟩⟩⟩
          case round =>
            obtain ⟨j, rfl, hj, hj0, HD⟩ := hrel
            by_cases hjm : j < m
            · go_wp2
              go_loopg [10] (n j + 65) (fun kq v10 wr => ∃ (i : Nat), v10 = .int .i64 i ∧ i + kq = n j + 65 ∧ 0 < kq ∧ Aside0 (Drawn0 wr4 wr))
              case atStart => exact ⟨0, rfl, by omega, by omega, HD⟩
              case round =>
                clear HD
                obtain ⟨i, rfl, hi1, hi0, HD⟩ := hrel
                have hnj := HN'.out j
                have HS1 := Aside0.mk (HS.out.drawn HD.out)
                have hat := HS1.out.gs.cellAt j (by omega)
                rw [HS1.out.at_ j hjm] at hat
                by_cases hin : i < n j + 64
                · have hgc := (HS1.out.own j hjm).cellAt i (by omega)
                  rw [show (nums .u8 (marks j 0 (n j + 64)))[i]? = some (.int .u8 (markOf j i)) by rw [nums, List.getElem?_map, marks_get _ _ _ _ hin, Nat.zero_add]; rfl] at hgc
                  have hls := HS1.out.rows.ls j hjm
                  by_cases hin2 : i < n j
                  · obtain ⟨g, hgk, hgl⟩ := HS1.out.rows.addr hjm (by omega)
                    have hlc := HS1.out.rows.own j hjm
                    rw [hgk] at hls hlc
                    have hlc := hlc.cellAt i (by omega)
                    rw [show (nums .u8 (marks j 0 (n j)))[i]? = some (.int .u8 (markOf j i)) by rw [nums, List.getElem?_map, marks_get _ _ _ _ hin2, Nat.zero_add]; rfl] at hlc
                    go_wp2
                    go_quiet (first | (go_at_call 59; (with_reducible refine (mark_calls _ _ _).mono ?_); rintro e w' ⟨rfl, ⟨nd, rfl⟩⟩; exact ⟨rfl, _, World.drewN_drewN _ _ _⟩))
                    go_wp2
                    go_roundg (n j + 64 - i)
                    case measure => omega
                    case rel => exact ⟨i + 1, by simp, by omega, by omega, ⟨drawn_trans HD.out ⟨nq, rfl⟩⟩⟩
                  · have hin3 : decide ((i : Int) < (n j : Int)) = false := decide_eq_false (by omega)
                    go_wp2
                    go_quiet (first | (go_at_call 59; (with_reducible refine (mark_calls _ _ _).mono ?_); rintro e w' ⟨rfl, ⟨nd, rfl⟩⟩; exact ⟨rfl, _, World.drewN_drewN _ _ _⟩))
                    go_wp2
                    go_roundg (n j + 64 - i)
                    case measure => omega
                    case rel => exact ⟨i + 1, by simp, by omega, by omega, ⟨drawn_trans HD.out ⟨nq, rfl⟩⟩⟩
                · go_wp2
                  go_roundg (m - j)
                  case measure => omega
                  case rel => exact ⟨j + 1, by simp, by omega, by omega, HD⟩
            · go_wp2
              have HS2 := Aside0.mk (HS.out.drawn HD.out)
              have HB2 := Aside0.mk (HB.out.drawn HD.out)
              have hz : St wr m B G ad n cp 0 gl gb gc (fun j => marks j 0 (n j + 64)) := ⟨HS2.out.rows, HS2.out.gs, fun j hj => by omega, fun j hj => by omega, fun j hj => by omega, fun j hj => by omega, fun j hj => by omega, fun j hj => by omega, HS2.out.GB, HS2.out.GA⟩
              clear hj hj0 HD hjm HS2 HB HS
              go_loopg [11] (m + 1) (fun kq v11 wr => ∃ (k : Nat), v11 = .int .i64 k ∧ k + kq = m + 1 ∧ 0 < kq ∧ ∃ (gl : List Value) (gb gc : Nat → Nat) (f : Nat → List Int), Aside0 (St wr m B G ad n cp k gl gb gc f) ∧ Aside0 (∀ j, j < k → (f j).take (n j) = marks j 0 (n j)) ∧ Aside0 (But (blocks m ad) w wr))
              case atStart => exact ⟨0, rfl, by omega, by omega, _, _, _, _, ⟨hz⟩, ⟨fun j hj => by omega⟩, HB2⟩
              case round =>
                clear hz HB2 gl gb gc
                obtain ⟨k, rfl, hk, hk0, gl, gb, gc, f, HS, HF, HB⟩ := hrel
                by_cases hkm : k < m
                · go_wp2_with (first
                    | (at_make; refine wpList_make_full _ rfl _ _ 22 rfl 0 5 i0 _ 1 Tryz.underlying22 hi hz0 hz1 _ _ _ _ 64 rfl rfl rfl rfl ?b1 ?b2 ?b3 ?_)
                    | fail)
                  case b1 => rw [hz2]; decide
                  case b2 => decide
                  case b3 => exact Nat.zero_le _
                  intro w5 hown5 hgrow5
                  have HM := Lib.hid (HS.out.fresh hkm (Nat.le_refl _))
                  have hwM := HB.out.old.size
                  have HS5 := Aside0.mk (HS.out.keep hgrow5 (fun _ e => by cases e))
                  have HB5 := Aside0.mk (HB.out.grown hgrow5 (fun _ e => by cases e))
                  have hown5' : w5.ownsRow 0 5 1 (.slice (some ⟨wr.heap.size, 0, none⟩) 64 64) 64 (nums .u8 (List.replicate 64 0)) := by rw [← made64]; exact hown5
                  have HO5 := Aside0.mk hown5'
                  clear hown5 hown5' hgrow5 HS HB
                  generalize wr.heap.size = M at HM hwM HO5 ⊢
                  go_wp2
                  go_loopg [13] 65 (fun kq v13 wr => ∃ (i : Nat), v13 = .int .i64 i ∧ i + kq = 65 ∧ 0 < kq ∧ ∃ ys : List Int, ys.length = 64 ∧ Aside0 (wr.ownsRow 0 5 1 (.slice (some ⟨M, 0, none⟩) 64 64) 64 (nums .u8 ys)) ∧ Aside0 (St wr m B G ad n cp k gl gb gc f) ∧ Aside0 (But (blocks m ad) w wr))
                  case atStart => exact ⟨0, rfl, by omega, by omega, _, List.length_replicate .., HO5, HS5, HB5⟩
                  case round =>
                    clear HO5 HS5 HB5
                    obtain ⟨i, rfl, hi1, hi0, ys, hy, HO, HS, HB⟩ := hrel
                    by_cases hin : i < 64
                    · go_wp2_with fail
                      refine (mark_calls (k + m) i wr).mono ?_
                      rintro e w3 ⟨rfl, hd⟩
                      have ho3 := own_drawn HO.out hd
                      have hcell : w3.cell? ⟨M, i, none⟩ = some (.int .u8 (ys.getD i 0)) := by
                        rw [ho3.cellAt i (by omega)]
                        simp [nums, List.getD, show i < ys.length by omega]
                      have hst := own_store ho3 i (markOf (k + m) i)
                      rw [show ((i : Int)).toNat = i from rfl] at hst
                      have hfr := ho3.frozenAt i
                      have HSTO := Lib.hid hst
                      clear hst ho3
                      go_wp2
                      go_roundg (64 - i)
                      case measure => omega
                      case rel => exact ⟨i + 1, by simp, by omega, by omega, _, by simpa using hy, ⟨HSTO.out.1⟩, ⟨(HS.out.drawn hd).keep HSTO.out.2 (fun g e => by cases e; exact HM.out)⟩, ⟨(HB.out.drawn hd).grown HSTO.out.2 (fun g e => by cases e; exact .inr hwM)⟩⟩
                    · have hls := HS.out.rows.ls k hkm
                      have hnk := HN'.out k
                      have HRO := HS.out.rows.own k hkm
                      go_wp2_with (first
                        | (at_builtin; refine wp_append_two _ rfl _ _ 22 rfl 0 5 i0 _ 1 Tryz.underlying22 hi hz0 hz1 hz2 rfl _ (n k) _ rfl HRO _ 64 64 (nums .u8 ys) rfl (by decide) (by simp [nums, hy]) (own_cells HO.out) (ints_one ys) ?b1 ?b2 ?_)
                        | fail)
                      case b1 => simp only [maxLen]; omega
                      case b2 => omega
                      intro v' w4 hown4 hor
                      rw [← nums_append] at hown4
                      have HO4 := Aside0.mk (own_base hown4 (Nat.zero_le _))
                      have htake : (marks k 0 (n k) ++ ys).take (n k) = marks k 0 (n k) := by
                        rw [List.take_append_of_le_length (by rw [marks_length]; exact Nat.le_refl _), List.take_of_length_le (by rw [marks_length]; exact Nat.le_refl _)]
                      have HT := Lib.hid htake
                      clear hown4 hls HRO htake
                      obtain ⟨g, c, rfl, HS4, HB4, HO'⟩ : ∃ g c, v' = .slice (some ⟨g, 0, none⟩) (n k + 64) c ∧ Aside0 (St w4 m B G ad n cp k gl gb gc f) ∧ Aside0 (But (blocks m ad) w w4) ∧ Aside0 (Out m B G ad k gb g) := by
                        rcases hor with ⟨g, c, e1, rfl, hg⟩ | ⟨g, c, hge, hgl, rfl, hg⟩
                        · simp only [Value.slice.injEq, true_and] at e1
                          refine ⟨g, c, rfl, ⟨HS.out.turn HA'.out hkm e1.1 hg ?_⟩, ⟨HB.out.grown hg (fun g2 e => by cases e; exact .inl ⟨k, hkm, e1.1⟩)⟩, ⟨HS.out.outK HA'.out hkm e1.1⟩⟩
                          have := own_head HO4.out (n k) (by omega)
                          rw [show (nums .u8 (marks k 0 (n k) ++ ys)).take (n k) = nums .u8 (marks k 0 (n k)) by rw [nums, ← List.map_take, HT.out]; rfl] at this
                          rw [e1.1, e1.2]; exact this
                        · exact ⟨g, c, rfl, ⟨HS.out.keep hg (fun _ e => by cases e)⟩, ⟨HB.out.grown hg (fun _ e => by cases e)⟩, ⟨(HS.out.fresh hkm hge).1⟩⟩
                      clear hor HS HB HO
                      have hgs := HS4.out.gs
                      have hgln : gl.length = m := by have := hgs.1; omega
                      have hcell : w4.cell? ⟨G, k, none⟩ = some (gl[k]'(by omega)) := by
                        rw [hgs.cellAt k (by omega)]
                        exact List.getElem?_eq_getElem (by omega)
                      have hfr := hgs.frozenAt k
                      have HSTO := Lib.hid (hgs.stored k (.slice (some ⟨g, 0, none⟩) (n k + 64) c))
                      clear hgs
                      go_wp2
                      go_roundg (m - k)
                      case measure => omega
                      case rel =>
                        refine ⟨k + 1, by simp, by omega, by omega, _, _, _, _, ⟨HS4.out.put HA'.out hkm HO4.out HO'.out HSTO.out.2 HSTO.out.1⟩, ⟨fun j hj => ?_⟩, ⟨HB4.out.grown HSTO.out.2 (fun g2 e => by cases e; exact .inr hwG)⟩⟩
                        by_cases e : j = k
                        · subst e; simpa using HT.out
                        · simpa [e] using HF.out j (by omega)
                · have hkm2 : m = k := by omega
                  clear hkm hk hk0
                  subst hkm2
                  generalize wr = wr4 at HS HB ⊢
                  go_wp2
                  go_loopg [14] (m + 1) (fun kq v14 wr => ∃ (i : Nat), v14 = .int .i64 i ∧ i + kq = m + 1 ∧ 0 < kq ∧ Aside0 (Drawn0 wr4 wr))
                  case atStart => exact ⟨0, rfl, by omega, by omega, ⟨⟨0, rfl⟩⟩⟩
                  case round =>
                    obtain ⟨j, rfl, hj, hj0, HD⟩ := hrel
                    by_cases hjm : j < m
                    · have hls := HS.out.rows.ls j hjm
                      go_wp2
                      clear hls
                      go_loopg [15] (n j + 1) (fun kq v15 wr => ∃ (i : Nat), v15 = .int .i64 i ∧ i + kq = n j + 1 ∧ 0 < kq ∧ Aside0 (Drawn0 wr4 wr))
                      case atStart => exact ⟨0, rfl, by omega, by omega, HD⟩
                      case round =>
                        clear HD
                        obtain ⟨i, rfl, hi1, hi0, HD⟩ := hrel
                        have hnj := HN'.out j
                        have HS1 := Aside0.mk (HS.out.drawn HD.out)
                        have hls := HS1.out.rows.ls j hjm
                        by_cases hin2 : i < n j
                        · have hat := HS1.out.gs.cellAt j (by omega)
                          rw [HS1.out.at_ j hjm] at hat
                          have hgc := (HS1.out.own j hjm).cellAt i (by omega)
                          have hfj : (f j)[i]? = some (markOf j i) := by
                            have := marks_get j 0 (n j) i hin2
                            rw [← HF.out j hjm, List.getElem?_take, if_pos hin2, Nat.zero_add] at this
                            exact this
                          rw [show (nums .u8 (f j))[i]? = some (.int .u8 (markOf j i)) by rw [nums, List.getElem?_map, hfj]; rfl] at hgc
                          obtain ⟨g, hgk, hgl⟩ := HS1.out.rows.addr hjm (by omega)
                          have hlc := HS1.out.rows.own j hjm
                          rw [hgk] at hls hlc
                          have hlc := hlc.cellAt i (by omega)
                          rw [show (nums .u8 (marks j 0 (n j)))[i]? = some (.int .u8 (markOf j i)) by rw [nums, List.getElem?_map, marks_get _ _ _ _ hin2, Nat.zero_add]; rfl] at hlc
                          go_wp2
                          go_quiet (first | (go_at_call 59; (with_reducible refine (mark_calls _ _ _).mono ?_); rintro e w' ⟨rfl, ⟨nd, rfl⟩⟩; exact ⟨rfl, _, World.drewN_drewN _ _ _⟩))
                          go_wp2
                          go_roundg (n j - i)
                          case measure => omega
                          case rel => exact ⟨i + 1, by simp, by omega, by omega, ⟨drawn_trans HD.out ⟨nq, rfl⟩⟩⟩
                        · go_wp2
                          go_roundg (m - j)
                          case measure => omega
                          case rel => exact ⟨j + 1, by simp, by omega, by omega, HD⟩
                    · go_wp2
                      go_ret
                      exact ⟨rfl, HB.out.drawn HD.out⟩
end Go.Proofs.YtkpedlhofalnjaaGreatDoor
end

section
/- A bag whose byte rows lie apart is told so. -/
namespace Go.Proofs.YtkpedlhofalnjaaGreatDoor
open Go.RowKit Go.Proofs.YtkpedlhofalnjaaGreatDoorW.PrintWords Go.Proofs.YtkpedlhofalnjaaGreatDoorW.PrintLast Go.Proofs.YtkpedlhofalnjaaGreatDoorW.PrintMore

/-- A bag at bg in which nothing lies but the byte rows v. -/
def Bag (w : World) (bg : Nat) (v : Value) : Prop := ∀ i, i < 23 → w.cell? ⟨bg, i, none⟩ = some (if i = 4 then v else .slice none 0 0)
theorem Bag.but {w w' : World} {bg : Nat} {v : Value} {S : Nat → Prop} (h : Bag w bg v) (hb : But S w w') (hS : ¬ S bg) : Bag w' bg v := by
  intro i hi
  rw [cell_block (hb.block bg (World.block_lt_of_cell? w _ (h 0 (by decide))) hS) i]
  exact h i hi
theorem Bag.grown {w w' : World} {bg : Nat} {v : Value} (h : Bag w bg v) (hg : w.grownBy w' none) : Bag w' bg v :=
  h.but (S := fun _ => False) (But.refl.grown hg (fun _ e => by cases e)) (fun e => e)

theorem but_trans {S : Nat → Prop} {a b c : World} (h : But S a b) (k : But S b c) : But S a c :=
  ⟨h.old.trans k.old, fun x hx hS => by rw [k.block x (by have := h.old.size; omega) hS]; exact h.block x hx hS⟩

set_option maxRecDepth 100000 in
set_option maxHeartbeats 8000000 in
theorem bag_apart (bg m B cL : Nat) (ad : Nat → Option Addr) (n cp : Nat → Nat) (f0 : Nat → List Int) (w : World) (hm0 : 0 < m) (hm : m ≤ 1000) (hn : ∀ j, n j ≤ 1000000) (HR : RowsB w m B ad n cp f0) (HA : Lies m B ad) (hcL : m ≤ cL)
    (hbag : Bag w bg (.slice (some ⟨B, 0, none⟩) m cL)) (hbB : bg ≠ B) (hba : ∀ j, j < m → ad j ≠ some ⟨bg, 0, none⟩) :
    Calls Tryz.prog 62 #[.pointer (some ⟨bg, 0, none⟩)] w fun e w' => e = .returned (.bool true) ∧ But (blocks m ad) w w' := by
  have FB := fun w' (h : RowsB w' m B ad n cp f0) => flat_bytes m B cL ad n cp f0 w' hm0 hm hn h HA hcL
  have FB' := Lib.hid FB
  have HB0 := Lib.hid hbag
  have HR0 := Lib.hid HR
  have HU0 := Lib.hid (But.refl (S := blocks m ad) (w := w))
  have HK := Lib.hid hba
  have HBB := Lib.hid hbB
  clear FB HA hn hbag HR hba hbB
  go_enter Tryz.func62, Tryz.ntmps62
  have c0 := HB0.out 0 (by decide)
  rw [if_neg (by decide)] at c0
  go_wp2_with fail
  refine (nil_Words _).mono ?_
  rintro e w1 ⟨rfl, hg⟩
  have HB1 := Lib.hid (HB0.out.grown hg)
  have HR1 := Lib.hid (HR0.out.keep hg (by simp) (fun _ _ _ _ => by simp))
  have HU1 := Lib.hid (HU0.out.grown hg (fun _ e => by cases e))
  clear c0 HB0 HR0 HU0 hg
  have c1 := HB1.out 1 (by decide)
  rw [if_neg (by decide)] at c1
  go_wp2_with fail
  refine (nil_Ints _).mono ?_
  rintro e w2 ⟨rfl, hg⟩
  have HB2 := Lib.hid (HB1.out.grown hg)
  have HR2 := Lib.hid (HR1.out.keep hg (by simp) (fun _ _ _ _ => by simp))
  have HU2 := Lib.hid (HU1.out.grown hg (fun _ e => by cases e))
  clear c1 HB1 HR1 HU1 hg
  have c2 := HB2.out 2 (by decide)
  rw [if_neg (by decide)] at c2
  go_wp2_with fail
  refine (nil_Longs _).mono ?_
  rintro e w3 ⟨rfl, hg⟩
  have HB3 := Lib.hid (HB2.out.grown hg)
  have HR3 := Lib.hid (HR2.out.keep hg (by simp) (fun _ _ _ _ => by simp))
  have HU3 := Lib.hid (HU2.out.grown hg (fun _ e => by cases e))
  clear c2 HB2 HR2 HU2 hg
  have c3 := HB3.out 3 (by decide)
  rw [if_neg (by decide)] at c3
  go_wp2_with fail
  refine (nil_Texts _).mono ?_
  rintro e w4 ⟨rfl, hg⟩
  have HB4 := Lib.hid (HB3.out.grown hg)
  have HR4 := Lib.hid (HR3.out.keep hg (by simp) (fun _ _ _ _ => by simp))
  have HU4 := Lib.hid (HU3.out.grown hg (fun _ e => by cases e))
  clear c3 HB3 HR3 HU3 hg
  have c4 := HB4.out 4 (by decide)
  rw [if_pos rfl] at c4
  go_wp2_with fail
  refine (FB'.out _ HR4.out).mono ?_
  rintro e w5 ⟨rfl, hu⟩
  have HB5 := Lib.hid (HB4.out.but hu (fun ⟨j, hj, e⟩ => HK.out j hj e))
  have HU5 := Lib.hid (but_trans HU4.out hu)
  clear c4 HB4 HR4 HU4 hu
  have c5 := HB5.out 5 (by decide)
  rw [if_neg (by decide)] at c5
  go_wp2_with fail
  refine (nil_Windows _).mono ?_
  rintro e w6 ⟨rfl, hg⟩
  have HB6 := Lib.hid (HB5.out.grown hg)
  have HU6 := Lib.hid (HU5.out.grown hg (fun _ e => by cases e))
  clear c5 HB5 HU5 hg
  have c6 := HB6.out 6 (by decide)
  rw [if_neg (by decide)] at c6
  go_wp2_with fail
  refine (nil_Lots _).mono ?_
  rintro e w7 ⟨rfl, hg⟩
  have HB7 := Lib.hid (HB6.out.grown hg)
  have HU7 := Lib.hid (HU6.out.grown hg (fun _ e => by cases e))
  clear c6 HB6 HU6 hg
  have c7 := HB7.out 7 (by decide)
  rw [if_neg (by decide)] at c7
  go_wp2_with fail
  refine (nil_Wants _).mono ?_
  rintro e w8 ⟨rfl, hg⟩
  have HB8 := Lib.hid (HB7.out.grown hg)
  have HU8 := Lib.hid (HU7.out.grown hg (fun _ e => by cases e))
  clear c7 HB7 HU7 hg
  have c8 := HB8.out 8 (by decide)
  rw [if_neg (by decide)] at c8
  go_wp2_with fail
  refine (nil_Uses _).mono ?_
  rintro e w9 ⟨rfl, hg⟩
  have HB9 := Lib.hid (HB8.out.grown hg)
  have HU9 := Lib.hid (HU8.out.grown hg (fun _ e => by cases e))
  clear c8 HB8 HU8 hg
  have c9 := HB9.out 9 (by decide)
  rw [if_neg (by decide)] at c9
  go_wp2_with fail
  refine (nil_Parts _).mono ?_
  rintro e w10 ⟨rfl, hg⟩
  have HB10 := Lib.hid (HB9.out.grown hg)
  have HU10 := Lib.hid (HU9.out.grown hg (fun _ e => by cases e))
  clear c9 HB9 HU9 hg
  have c10 := HB10.out 10 (by decide)
  rw [if_neg (by decide)] at c10
  go_wp2_with fail
  refine (nil_Items _).mono ?_
  rintro e w11 ⟨rfl, hg⟩
  have HB11 := Lib.hid (HB10.out.grown hg)
  have HU11 := Lib.hid (HU10.out.grown hg (fun _ e => by cases e))
  clear c10 HB10 HU10 hg
  have c11 := HB11.out 11 (by decide)
  rw [if_neg (by decide)] at c11
  go_wp2_with fail
  refine (nil_Lines _).mono ?_
  rintro e w12 ⟨rfl, hg⟩
  have HB12 := Lib.hid (HB11.out.grown hg)
  have HU12 := Lib.hid (HU11.out.grown hg (fun _ e => by cases e))
  clear c11 HB11 HU11 hg
  have c12 := HB12.out 12 (by decide)
  rw [if_neg (by decide)] at c12
  go_wp2_with fail
  refine (nil_Asks _).mono ?_
  rintro e w13 ⟨rfl, hg⟩
  have HB13 := Lib.hid (HB12.out.grown hg)
  have HU13 := Lib.hid (HU12.out.grown hg (fun _ e => by cases e))
  clear c12 HB12 HU12 hg
  have c13 := HB13.out 13 (by decide)
  rw [if_neg (by decide)] at c13
  go_wp2_with fail
  refine (nil_Tells _).mono ?_
  rintro e w14 ⟨rfl, hg⟩
  have HB14 := Lib.hid (HB13.out.grown hg)
  have HU14 := Lib.hid (HU13.out.grown hg (fun _ e => by cases e))
  clear c13 HB13 HU13 hg
  have c14 := HB14.out 14 (by decide)
  rw [if_neg (by decide)] at c14
  go_wp2_with fail
  refine (nil_States _).mono ?_
  rintro e w15 ⟨rfl, hg⟩
  have HB15 := Lib.hid (HB14.out.grown hg)
  have HU15 := Lib.hid (HU14.out.grown hg (fun _ e => by cases e))
  clear c14 HB14 HU14 hg
  have c15 := HB15.out 15 (by decide)
  rw [if_neg (by decide)] at c15
  go_wp2_with fail
  refine (nil_Rows _).mono ?_
  rintro e w16 ⟨rfl, hg⟩
  have HB16 := Lib.hid (HB15.out.grown hg)
  have HU16 := Lib.hid (HU15.out.grown hg (fun _ e => by cases e))
  clear c15 HB15 HU15 hg
  have c16 := HB16.out 16 (by decide)
  rw [if_neg (by decide)] at c16
  go_wp2_with fail
  refine (nil_Turns _).mono ?_
  rintro e w17 ⟨rfl, hg⟩
  have HB17 := Lib.hid (HB16.out.grown hg)
  have HU17 := Lib.hid (HU16.out.grown hg (fun _ e => by cases e))
  clear c16 HB16 HU16 hg
  have c17 := HB17.out 17 (by decide)
  rw [if_neg (by decide)] at c17
  go_wp2_with fail
  refine (nil_Fates _).mono ?_
  rintro e w18 ⟨rfl, hg⟩
  have HB18 := Lib.hid (HB17.out.grown hg)
  have HU18 := Lib.hid (HU17.out.grown hg (fun _ e => by cases e))
  clear c17 HB17 HU17 hg
  have c18 := HB18.out 18 (by decide)
  rw [if_neg (by decide)] at c18
  go_wp2_with fail
  refine (nil_Dirties _).mono ?_
  rintro e w19 ⟨rfl, hg⟩
  have HB19 := Lib.hid (HB18.out.grown hg)
  have HU19 := Lib.hid (HU18.out.grown hg (fun _ e => by cases e))
  clear c18 HB18 HU18 hg
  have c19 := HB19.out 19 (by decide)
  rw [if_neg (by decide)] at c19
  go_wp2_with fail
  refine (nil_Opens _).mono ?_
  rintro e w20 ⟨rfl, hg⟩
  have HB20 := Lib.hid (HB19.out.grown hg)
  have HU20 := Lib.hid (HU19.out.grown hg (fun _ e => by cases e))
  clear c19 HB19 HU19 hg
  have c20 := HB20.out 20 (by decide)
  rw [if_neg (by decide)] at c20
  go_wp2_with fail
  refine (nil_Records _).mono ?_
  rintro e w21 ⟨rfl, hg⟩
  have HB21 := Lib.hid (HB20.out.grown hg)
  have HU21 := Lib.hid (HU20.out.grown hg (fun _ e => by cases e))
  clear c20 HB20 HU20 hg
  have c21 := HB21.out 21 (by decide)
  rw [if_neg (by decide)] at c21
  go_wp2_with fail
  refine (nil_Steps _).mono ?_
  rintro e w22 ⟨rfl, hg⟩
  have HB22 := Lib.hid (HB21.out.grown hg)
  have HU22 := Lib.hid (HU21.out.grown hg (fun _ e => by cases e))
  clear c21 HB21 HU21 hg
  have c22 := HB22.out 22 (by decide)
  rw [if_neg (by decide)] at c22
  go_wp2_with fail
  refine (nil_Tales _).mono ?_
  rintro e w23 ⟨rfl, hg⟩
  have HB23 := Lib.hid (HB22.out.grown hg)
  have HU23 := Lib.hid (HU22.out.grown hg (fun _ e => by cases e))
  clear c22 HB22 HU22 hg
  go_wp2
  go_ret
  exact ⟨rfl, HU23.out⟩
end Go.Proofs.YtkpedlhofalnjaaGreatDoor
end

section
/- storemankit.ApartBytes, of two rows that lie apart: true. -/
namespace Go.Proofs.YtkpedlhofalnjaaGreatDoor
open Go.RowKit Go.Proofs.YtkpedlhofalnjaaGreatDoorW.PrintWords Go.Proofs.YtkpedlhofalnjaaGreatDoorW.PrintLast Go.Proofs.YtkpedlhofalnjaaGreatDoorW.PrintMore

def bagCells (v : Value) : List Value := [.slice none 0 0, .slice none 0 0, .slice none 0 0, .slice none 0 0, v, .slice none 0 0, .slice none 0 0, .slice none 0 0, .slice none 0 0, .slice none 0 0, .slice none 0 0, .slice none 0 0, .slice none 0 0, .slice none 0 0, .slice none 0 0, .slice none 0 0, .slice none 0 0, .slice none 0 0, .slice none 0 0, .slice none 0 0, .slice none 0 0, .slice none 0 0, .slice none 0 0]
/-- A bag as a row of one's own. -/
def BagO (w : World) (bg : Nat) (e : TypeId) (v : Value) : Prop := w.ownsRow 0 e 1 (.slice (some ⟨bg, 0, none⟩) 23 23) 23 (bagCells v)
theorem bagCells_get (v : Value) (i : Nat) (hi : i < 23) : (bagCells v)[i]? = some (if i = 4 then v else .slice none 0 0) :=
  match i, hi with
  | 0, _ => rfl | 1, _ => rfl | 2, _ => rfl | 3, _ => rfl | 4, _ => rfl | 5, _ => rfl | 6, _ => rfl | 7, _ => rfl | 8, _ => rfl | 9, _ => rfl | 10, _ => rfl | 11, _ => rfl
  | 12, _ => rfl | 13, _ => rfl | 14, _ => rfl | 15, _ => rfl | 16, _ => rfl | 17, _ => rfl | 18, _ => rfl | 19, _ => rfl | 20, _ => rfl | 21, _ => rfl | 22, _ => rfl
  | _ + 23, h => by omega
theorem BagO.bag {w : World} {bg : Nat} {e : TypeId} {v : Value} (h : BagO w bg e v) : Bag w bg v := fun i hi => by
  rw [World.ownsRow.cellAt h i (by omega)]; exact bagCells_get v i hi
theorem BagO.but {w w' : World} {bg : Nat} {e : TypeId} {v : Value} {S : Nat → Prop} (h : BagO w bg e v) (hb : But S w w') (hS : ¬ S bg) : BagO w' bg e v :=
  own_but h hb (fun g hg => by cases hg; exact hS)

set_option maxRecDepth 100000 in
set_option maxHeartbeats 4000000 in
theorem put_bytes (bg : Nat) (e : TypeId) (n0 : Nat) (v : Value) (xs : List Value) (A : Option Addr) (ln cn : Nat) (w : World) (hbag : BagO w bg e v) (ho : w.ownsRow 0 22 1 v n0 xs) (hvb : v.ownBlock ≠ some bg) (hn : n0 ≤ 100) :
    Calls Tryz.prog 61 #[.pointer (some ⟨bg, 0, none⟩), .slice A ln cn] w fun e' w' => e' = .returned undef ∧ ∃ g c, BagO w' bg e (.slice (some ⟨g, 0, none⟩) (n0 + 1) c) ∧
      w'.ownsRow 0 22 1 (.slice (some ⟨g, 0, none⟩) (n0 + 1) c) (n0 + 1) (xs ++ [.slice A ln cn]) ∧ g ≠ bg ∧ (v.ownBlock = some g ∨ w.heap.size ≤ g) ∧ But (fun b => b = bg ∨ v.ownBlock = some b) w w' := by
  obtain ⟨i1, hi1, hy0, hy1, hy2⟩ := info_parts info_row
  have hc := World.ownsRow.cellAt hbag 4 (by decide)
  rw [bagCells_get v 4 (by decide), if_pos rfl] at hc
  have HBAG := Lib.hid hbag
  have HO := Lib.hid ho
  have HVB := Lib.hid hvb
  clear hbag hvb
  go_enter Tryz.func61, Tryz.ntmps61
  go_wp2_with (first
    | (at_builtin; (refine wp_append_two _ rfl _ _ 31 rfl 0 22 i1 _ 24 Tryz.underlying31 hi1 hy0 hy1 hy2 rfl _ n0 _ rfl (own_alloc ho _) _ 1 1 [.slice A ln cn] rfl (by decide) rfl (cells_one _ _ _) (by simp [Value.oneCell']) ?b1 ?b2 ?_))
    | fail)
  case b1 => simp only [maxLen]; omega
  case b2 => omega
  intro v' w4 hown4 hor
  clear ho hc
  have hbag1 : BagO (w.alloc (.cells #[.slice A ln cn] 22)) bg e v := own_alloc HBAG.out _
  obtain ⟨g, c, rfl, hbag4, hg1, hg2, hbut⟩ : ∃ g c, v' = .slice (some ⟨g, 0, none⟩) (n0 + 1) c ∧ BagO w4 bg e v ∧ g ≠ bg ∧ (v.ownBlock = some g ∨ w.heap.size ≤ g) ∧ But (fun b => b = bg ∨ v.ownBlock = some b) w w4 := by
    have hu : But (fun b => b = bg ∨ v.ownBlock = some b) w (w.alloc (.cells #[.slice A ln cn] 22)) := But.refl.grown (World.grownBy_alloc w _ none) (fun _ e => by cases e)
    rcases hor with ⟨g, c, e1, rfl, hg⟩ | ⟨g, c, hge, hgl, rfl, hg⟩
    · have e2 : v.ownBlock = some g := by rw [e1]; rfl
      exact ⟨g, c, rfl, own_other hbag1 hg (fun e3 => HVB.out (by rw [e2]; simpa [Value.ownBlock] using e3.symm)), fun e3 => HVB.out (by rw [e2, e3]), .inl e2, hu.grown hg (fun g2 e3 => by cases e3; exact .inl (.inr e2))⟩
    · have hlt : bg < (w.alloc (.cells #[.slice A ln cn] 22)).heap.size := by
        obtain ⟨g', h1, _, h3, _⟩ := own_addr hbag1 (by decide)
        simp only [Option.some.injEq, Addr.mk.injEq, and_true] at h1
        omega
      exact ⟨g, c, rfl, own_fresh hbag1 hg, by omega, .inr (by have := hu.old.size; omega), hu.grown hg (fun _ e => by cases e)⟩
  have hc := World.ownsRow.cellAt hbag4 4 (by decide)
  rw [bagCells_get v 4 (by decide), if_pos rfl] at hc
  have hfr := World.ownsRow.frozenAt hbag4 4
  have HST := Lib.hid (World.ownsRow.stored hbag4 4 (.slice (some ⟨g, 0, none⟩) (n0 + 1) c))
  have HO4 := Lib.hid hown4
  have HUT := Lib.hid hbut
  clear hbag4 hown4 hor hbut hbag1
  go_wp2
  first | go_end0 | go_ret2
  refine ⟨rfl, g, c, HST.out.1, ?_, hg1, hg2, HUT.out.grown HST.out.2 (fun g2 e => by cases e; exact .inl (.inl rfl))⟩
  exact own_base (own_other HO4.out HST.out.2 (fun e => hg1 (by simpa [Value.ownBlock] using e))) (Nat.zero_le _)

theorem But.weak {S S' : Nat → Prop} {a b : World} (h : But S a b) (hS : ∀ x, x < a.heap.size → S x → S' x) : But S' a b := ⟨h.old, fun x hx hn => h.block x hx (fun s => hn (hS x hx s))⟩
theorem own_cap {w : World} {base : Nat} {e : TypeId} {g l c n : Nat} {xs : List Value} (h : w.ownsRow base e 1 (.slice (some ⟨g, 0, none⟩) l c) n xs) : n ≤ c := by
  rcases h.2 with ⟨h2, _⟩ | ⟨b, cap, cur, h1, h2, h3, h4, h5, h6, h7⟩
  · cases h2
  · simp only [Value.slice.injEq] at h1
    omega
theorem RowsB.cells_but {w w' : World} {m B : Nat} {ad : Nat → Option Addr} {n cp : Nat → Nat} {f : Nat → List Int} {S : Nat → Prop} (h : RowsB w m B ad n cp f) (hm : 0 < m) (hb : But S w w') (hS : ∀ x, x < w.heap.size → ¬ S x) : ∀ j, j < m → w'.cell? ⟨B, j, none⟩ = some (.slice (ad j) (n j) (cp j)) := fun j hj => by
  have hB := h.ltB hm
  rw [cell_block (hb.block B hB (hS B hB)) j]; exact h.ls j hj

set_option maxRecDepth 100000 in
set_option maxHeartbeats 4000000 in
theorem apart_bytes (L cL : Nat) (ad : Nat → Option Addr) (n cp : Nat → Nat) (f0 : Nat → List Int) (w : World) (hn : ∀ j, n j ≤ 1000000) (HR : RowsB w 2 L ad n cp f0) (HA : Lies 2 L ad) :
    Calls Tryz.prog 19 #[.slice (some ⟨L, 0, none⟩) 2 cL] w fun e w' => e = .returned (.bool true) ∧ But (blocks 2 ad) w w' := by
  have hl0 : ∀ o : Obj, (w.alloc o).cell? ⟨L, 0, none⟩ = some (.slice (ad 0) (n 0) (cp 0)) := fun o => HR.cells_but (by decide) (But.refl.grown (S := fun _ => False) (World.grownBy_alloc w o none) (fun _ e => by cases e)) (fun _ _ e => e) 0 (by decide)
  have HR0 := Lib.hid HR
  have HA0 := Lib.hid HA
  have HN := Lib.hid hn
  clear HR HA hn
  go_enter Tryz.func19, Tryz.ntmps19
  go_wp2
  refine wp_loop_rounds 3 ?_
  rw [rounds_succ]
  go_wp2_with fail
  refine (put_bytes w.heap.size _ 0 (.slice none 0 0) [] _ _ _ _ (World.ownsRow_lit (base := 0) (size := 1) w _ 23 (Nat.zero_le _) (by decide) rfl) (World.ownsRow_nil _ _ _ _) (by simp [Value.ownBlock]) (by decide)).mono ?_
  rintro e w2 ⟨rfl, g, c, hb2, ho2, hg1, hg2, hu2⟩
  have hge : w.heap.size + 1 ≤ g := by
    rcases hg2 with h | h
    · cases h
    · have := World.grownBy_alloc w (.cells #[] 0) none
      simpa using h
  have hu2' : But (fun b => w.heap.size ≤ b) w w2 := by
    refine but_trans ((But.refl (S := fun b => w.heap.size ≤ b)).grown (World.grownBy_alloc w _ none) (fun _ e => by cases e)) (hu2.weak ?_)
    intro x _ h
    rcases h with h | h
    · omega
    · cases h
  have hl1 := HR0.out.cells_but (by decide) hu2' (fun x hx h => by omega) 1 (by decide)
  have HB2 := Lib.hid hb2
  have HO2 := Lib.hid ho2
  have HU2 := Lib.hid hu2'
  clear hl0 hb2 ho2 hu2 hu2' hg2
  go_wp2
  rw [rounds_succ]
  go_wp2_with fail
  refine (put_bytes w.heap.size _ 1 (.slice (some ⟨g, 0, none⟩) 1 c) _ _ _ _ _ HB2.out HO2.out (fun e => hg1 (by simpa [Value.ownBlock] using e)) (by decide)).mono ?_
  rintro e w3 ⟨rfl, g', c', hb3, ho3, hg3, hg4, hu3⟩
  have hge' : w.heap.size ≤ g' := by
    rcases hg4 with h | h
    · simp only [Value.ownBlock, Option.some.injEq] at h; omega
    · have := HU2.out.old.size; omega
  have hu3' : But (fun b => w.heap.size ≤ b) w w3 := by
    refine but_trans HU2.out (hu3.weak ?_)
    intro x _ h
    rcases h with h | h
    · omega
    · simp only [Value.ownBlock, Option.some.injEq] at h; omega
  have HB3 := Lib.hid hb3
  have HO3 := Lib.hid ho3
  have HU3 := Lib.hid hu3'
  clear hl1 hb3 ho3 hu3 hu3' hg4
  go_wp2
  rw [rounds_succ]
  go_wp2_with fail
  have hrows : RowsB w3 2 g' ad n cp f0 := by
    refine ⟨fun j hj => own_but (HR0.out.own j hj) HU3.out (fun b hb => ?_), fun j hj => ?_⟩
    · have := HR0.out.lt hj (HR0.out.hd hj hb); omega
    · rw [HO3.out.cellAt j (by omega)]
      match j, hj with
      | 0, _ => rfl
      | 1, _ => rfl
      | _ + 2, h => omega
  have hlies : Lies 2 g' ad := ⟨HA0.out.ne, fun i hi e => by have := HR0.out.lt hi e; omega⟩
  have hbb : ∀ j, j < 2 → ad j ≠ some ⟨w.heap.size, 0, none⟩ := fun j hj e => by have := HR0.out.lt hj e; omega
  refine (bag_apart w.heap.size 2 g' c' ad n cp f0 w3 (by decide) (by decide) HN.out hrows hlies (own_cap HO3.out) (BagO.bag HB3.out) (fun e => hg3 e.symm) hbb).mono ?_
  rintro e w4 ⟨rfl, hu4⟩
  clear hrows hlies hbb
  go_wp2
  go_ret
  exact ⟨rfl, but_trans (HU3.out.weak (fun x hx h => by omega)) hu4⟩
end Go.Proofs.YtkpedlhofalnjaaGreatDoor
end
