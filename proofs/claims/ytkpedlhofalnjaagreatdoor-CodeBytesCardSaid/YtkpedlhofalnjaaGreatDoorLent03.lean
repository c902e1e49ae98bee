/- What storemankit lends, and writes over: a list with twelve marks in its spare room. -/
import Derived.Test.YtkpedlhofalnjaaGreatDoorKept03
import Derived.Test.YtkpedlhofalnjaaGreatDoorExt03
import Derived.Test.YtkpedlhofalnjaaGreatDoorC7
namespace Go.Proofs.YtkpedlhofalnjaaGreatDoor
open Go.RowKit Go.Proofs.YtkpedlhofalnjaaGreatDoorW.PrintWords Go.Proofs.YtkpedlhofalnjaaGreatDoorW.PrintLast Go.Proofs.YtkpedlhofalnjaaGreatDoorW.PrintMore

def markOf (k i : Int) : Int := ((IntKind.u64.wrap ((IntKind.u64.wrap (wrap64 ((wrap64 (1000003 * (wrap64 (k + 7)))) + i))) * 11400714819323198485)) / 72057594037927936) % 256
theorem mark_calls (k i : Int) (w : World) : Calls Tryz.prog 59 #[.int .i64 k, .int .i64 i] w fun e w' => e = .returned (.int .u8 (markOf k i)) ∧ Drawn0 w w' :=
  C.storemankit_markByte.calls k i _ w rfl
/-- n marks of the k-th list, from its i-th place on. -/
def marks (k : Int) (i : Nat) : Nat → List Int
  | 0 => []
  | n + 1 => marks k i n ++ [markOf k ((i + n : Nat) : Int)]
theorem marks_length (k : Int) (i n : Nat) : (marks k i n).length = n := by
  induction n with
  | zero => rfl
  | succ n ih => simp [marks, ih]

theorem info_u8 : (Tryz.prog.info? 5).map (fun i => (i.zero, i.size, i.bytes)) = some (some (.int .u8 0), 1, 1) := by kernel_rfl

/-- append within the room, whatever the shape of what is appended. -/
theorem wp_append_room {P : Program} (w : World) {ops : Array Oper} {rest : List Oper} {o : Oper} {a : Act} {Q : Exit → Act → World → Prop}
    (hg : o.guard = none) (s x : Operand) (t : TypeId) (hop : o.op = Op.call { callee := Callee.builtin Builtin.append, args := #[s, x], argTypes := #[t, t] })
    (base : Nat) (e : TypeId) (i : TypeInfo) (h1 : P.underlying t = some (.slice e)) (h2 : P.info? e = some i) (h4 : i.size = 1)
    (g k cap : Nat) (xs : List Value) (hs : a.eval s = .slice (some ⟨g, 0, none⟩) k cap) (hown : w.ownsRow base e 1 (.slice (some ⟨g, 0, none⟩) k cap) k xs) (A : Option Addr) (m c : Nat) (kd : IntKind) (ys : List Int)
    (hx : a.eval x = .slice A m c) (HR : ReadsInt w kd A m ys) (b1 : k + m ≤ cap)
    (hK : ∀ w', w'.ownsRow base e 1 (.slice (some ⟨g, 0, none⟩) (k + m) cap) (k + m) (xs ++ nums kd ys) → w.grownBy w' (some g) → wpList P ops Q rest (a.put o.dst (.slice (some ⟨g, 0, none⟩) (k + m) cap)) w') :
    wpList P ops Q (o :: rest) a w := by
  cases A with
  | some ad =>
    refine wpList_append_fits w hg s x t hop base e i 1 h1 h2 h4 g k cap xs hs hown ad m c (nums kd ys) hx (by simp [nums, HR.1]) ?_ ?_ b1 hK
    · intro j u hu
      have hj : j < m := by
        have := (List.getElem?_eq_some_iff.1 hu).1
        simpa [nums, HR.1] using this
      obtain ⟨ad', e', hc⟩ := HR.2.2 (by omega)
      cases e'
      rw [hc j hj]
      have hj2 : j < ys.length := by rw [HR.1]; exact hj
      rw [← hu]
      simp [nums, hj2]
    · intro u hu
      obtain ⟨z, _, rfl⟩ := List.mem_map.1 hu
      rfl
  | none =>
    have h0 : m = 0 := by
      rcases Nat.eq_zero_or_pos m with h | h
      · exact h
      · obtain ⟨ad, e', _⟩ := HR.2.2 h
        cases e'
    subst h0
    obtain rfl : ys = [] := List.eq_nil_of_length_eq_zero HR.1
    refine wpList_plain hg fun K hK' => ?_
    have hrun : (Builtin.append_ #[t, t] o.type #[.slice (some ⟨g, 0, none⟩) k cap, .slice none 0 c]).run P w = .ok (.slice (some ⟨g, 0, none⟩) k cap) w := by
      have hh := h4
      simp [Builtin.append_, run_underlying h1, sizeOf, typeInfo, h2, Builtin.lenOf, Builtin.firstCells, show k ≤ cap by omega, storeCells]
    unfold Oper.wp
    simp [execOp, hop, resolve, invoke, builtin, hs, hx, hrun, Result.andThen]
    exact hK' _ _ (by simpa [nums] using hK w (by simpa [nums] using hown) (World.grownBy.refl _ _))

theorem reads_one (w : World) (k : IntKind) (v : Int) (e : TypeId) : ReadsInt (w.alloc (.cells #[.int k v] e)) k (some ⟨w.heap.size, 0, none⟩) 1 [v] :=
  ⟨rfl, by decide, fun _ => ⟨_, rfl, fun j hj => by
    obtain rfl : j = 0 := by omega
    have h0 := (own_lit w w.heap.size e k [v] (Nat.le_refl _) (by simp)).cellAt 0 (by simp)
    rw [Addr.add_lit]
    exact h0⟩⟩

theorem own_alloc {w : World} {base : Nat} {e : TypeId} {v : Value} {n : Nat} {xs : List Value} (h : w.ownsRow base e 1 v n xs) (o : Obj) : (w.alloc o).ownsRow base e 1 v n xs := by
  refine ⟨h.1, ?_⟩
  rcases h.2 with h2 | ⟨g, cap, cur, h1, h2, h3, h4⟩
  · exact .inl h2
  · refine .inr ⟨g, cap, cur, h1, h2, ?_, h4⟩
    rw [Below.heap_alloc w o g (Array.getElem?_eq_some_iff.1 h3).1]
    exact h3

theorem own_drawn {w w' : World} {base : Nat} {e : TypeId} {v : Value} {n : Nat} {xs : List Value} (h : w.ownsRow base e 1 v n xs) (hd : Drawn0 w w') : w'.ownsRow base e 1 v n xs := by
  obtain ⟨nd, rfl⟩ := hd
  exact h

set_option maxRecDepth 100000 in
set_option maxHeartbeats 2000000 in
theorem lent_bytes (A0 : Option Addr) (c0 : Nat) (l : List Int) (w : World) (hr : ReadsInt w .u8 A0 l.length l) (hn : l.length ≤ 1000000) :
    Calls Tryz.prog 14 #[.slice A0 l.length c0] w fun e w' => e = .returned (.slice (some ⟨w.heap.size, 0, none⟩) l.length (l.length + 12)) ∧
      w'.ownsRow w.heap.size 5 1 (.slice (some ⟨w.heap.size, 0, none⟩) (l.length + 12) (l.length + 12)) (l.length + 12) (nums .u8 (l ++ marks 1 0 12)) ∧ Below w.heap.size w w' := by
  obtain ⟨i0, hi, hz0, hz1, hz2⟩ := info_parts info_u8
  go_enter Tryz.func14, Tryz.ntmps14
  go_wp2_with (first
    | (at_make; refine wpList_make_own _ rfl _ _ 22 rfl w.heap.size 5 i0 _ 1 Tryz.underlying22 hi hz0 hz1 _ _ _ (l.length + 12) rfl rfl ?b1 ?b2 ?b3 ?b4 ?_)
    | fail)
  case b1 => omega
  case b2 => rw [hz2]; omega
  case b3 => simp only [maxLen]; omega
  case b4 => exact Nat.le_refl _
  intro w1 hown hgrow
  have hb1 : Below w.heap.size w w1 := (Below.refl _ _).grown hgrow (Nat.le_refl _) (fun _ h => by cases h)
  have hr1 := hr.below hb1
  go_wp2_with (first
    | (at_builtin; refine wp_append_room _ rfl _ _ 22 rfl w.heap.size 5 i0 Tryz.underlying22 hi hz1 w.heap.size 0 (l.length + 12) [] rfl hown A0 l.length c0 .u8 l rfl hr1 ?c1 ?_)
    | fail)
  case c1 => omega
  intro w2 hown2 hgrow2
  have hb2 : Below w.heap.size w w2 := hb1.grown hgrow2 (by have := hb1.size; omega) (fun _ h => by cases h; exact Nat.le_refl _)
  clear hr1 hr hown hgrow hgrow2 hb1
  go_wp2
  go_loopg [3, 4] 13 (fun kq v3 v4 wr => ∃ (k : Nat), v3 = .slice (some ⟨w.heap.size, 0, none⟩) (l.length + k) (l.length + 12) ∧ v4 = .int .i64 k ∧ k + kq = 13 ∧ 0 < kq ∧
    Aside0 (wr.ownsRow w.heap.size 5 1 (.slice (some ⟨w.heap.size, 0, none⟩) (l.length + k) (l.length + 12)) (l.length + k) (nums .u8 (l ++ marks 1 0 k))) ∧ Aside0 (Below w.heap.size w wr))
  case atStart => exact ⟨0, by simp, rfl, by omega, by omega, ⟨by simpa [marks] using hown2⟩, ⟨hb2⟩⟩
  case round =>
    obtain ⟨k, rfl, rfl, hk, hk0, HO, HB⟩ := hrel
    by_cases h12 : k < 12
    · have h12b : decide ((k : Int) < 12) = true := decide_eq_true (by omega)
      go_wp2_with fail
      refine (mark_calls 1 k wr).mono ?_
      rintro e w3 ⟨rfl, hd⟩
      go_wp2_with (first
        | (at_builtin; refine wp_append_room _ rfl _ _ 22 rfl w.heap.size 5 i0 Tryz.underlying22 hi hz1 w.heap.size (l.length + k) (l.length + 12) _ rfl (own_alloc (own_drawn HO.out hd) _) _ 1 1 .u8 [markOf 1 k] rfl (reads_one _ _ _ _) ?d1 ?_)
        | fail)
      case d1 => omega
      intro w4 hown4 hgrow4
      have hb3 : Below w.heap.size w w3 := by obtain ⟨nd, rfl⟩ := hd; exact pw_below_drewN HB.out nd
      have hb4 : Below w.heap.size w w4 := (hb3.alloc hb3.size _).grown hgrow4 (by have := (hb3.alloc hb3.size (.cells #[.int .u8 (markOf 1 k)] 5)).size; omega) (fun _ h => by cases h; exact Nat.le_refl _)
      go_wp2
      go_roundg (12 - k)
      case measure => omega
      case rel => exact ⟨k + 1, by rw [Nat.add_assoc], by simp, by omega, by omega, ⟨by simpa [marks, nums, Nat.add_assoc] using hown4⟩, ⟨hb4⟩⟩
    · obtain rfl : k = 12 := by omega
      go_wp2
      go_ret
      exact ⟨rfl, HO.out, HB.out⟩

/-- Where a row has been stored into, another row is as it was. -/
theorem own_other {w w' : World} {base g : Nat} {e : TypeId} {v : Value} {n : Nat} {xs : List Value} (h : w.ownsRow base e 1 v n xs) (hg : w.grownBy w' (some g)) (hne : v.ownBlock ≠ some g) : w'.ownsRow base e 1 v n xs := by
  refine ⟨h.1, ?_⟩
  rcases h.2 with h2 | ⟨b, cap, cur, h1, h2, h3, h4⟩
  · exact .inl h2
  · refine .inr ⟨b, cap, cur, h1, h2, ?_, h4⟩
    rw [hg.block b (Array.getElem?_eq_some_iff.1 h3).1 (by subst h1; simpa [Value.ownBlock] using hne)]
    exact h3

set_option maxRecDepth 100000 in
set_option maxHeartbeats 2000000 in
theorem over_bytes (g n : Nat) (hn : n ≤ 1000000) (xs : List Int) (hx : xs.length = n + 12) (base : Nat) (w : World)
    (ho : w.ownsRow base 5 1 (.slice (some ⟨g, 0, none⟩) (n + 12) (n + 12)) (n + 12) (nums .u8 xs)) (hB : base ≤ g) :
    Calls Tryz.prog 17 #[.slice (some ⟨g, 0, none⟩) n (n + 12)] w fun e w' => e = .returned undef ∧ Below base w w' := by
  obtain ⟨i0, hi, hz0, hz1, hz2⟩ := info_parts info_u8
  have hcut : ∀ W : World, (Instr.slice 22 (.slice (some ⟨g, 0, none⟩) n (n + 12)) none (some (.int .i64 ((n : Int) + 12))) none).run Tryz.prog W = .ok (.slice (some ⟨g, 0, none⟩) (n + 12) (n + 12)) W := by
    intro W
    have hel : Tryz.prog.elem 22 = 5 := by simp [Program.elem, Tryz.underlying22]
    have hu : Tryz.prog.underlying 22 = some (.slice (Tryz.prog.elem 22)) := by rw [hel]; exact Tryz.underlying22
    rw [run_slice_h W 22 (some ⟨g, 0, none⟩) n (n + 12) hu .i64 ((n : Int) + 12) (by omega) (by omega), hel, show ((n : Int) + 12).toNat = n + 12 by omega]
    simp [sizeOf, typeInfo, hi, hz1, sliced, Result.andThen, Addr.add]
  go_enter Tryz.func17, Tryz.ntmps17
  go_wp2
  go_loopg [3] (n + 13) (fun kq v3 wr => ∃ (k : Nat), v3 = .int .i64 k ∧ k + kq = n + 13 ∧ 0 < kq ∧ ∃ ys : List Int, ys.length = n + 12 ∧
    Aside0 (wr.ownsRow base 5 1 (.slice (some ⟨g, 0, none⟩) (n + 12) (n + 12)) (n + 12) (nums .u8 ys)) ∧ Aside0 (Below base w wr))
  case atStart => exact ⟨0, rfl, by omega, by omega, xs, hx, ⟨ho⟩, ⟨Below.refl _ _⟩⟩
  case round =>
    obtain ⟨k, rfl, hk, hk0, ys, hy, HO, HB⟩ := hrel
    by_cases h12 : k < n + 12
    · go_wp2_with fail
      refine (mark_calls 2 k wr).mono ?_
      rintro e w3 ⟨rfl, hd⟩
      have ho3 := own_drawn HO.out hd
      have hb3 : Below base w w3 := by obtain ⟨nd, rfl⟩ := hd; exact pw_below_drewN HB.out nd
      have hcell : w3.cell? ⟨g, k, none⟩ = some (.int .u8 (ys.getD k 0)) := by
        rw [ho3.cellAt k (by omega)]
        simp [nums, List.getD, show k < ys.length by omega]
      have hst := own_store ho3 k (markOf 2 k)
      rw [show ((k : Int)).toNat = k from rfl] at hst
      have hfr := ho3.frozenAt k
      have HST := Lib.hid hst
      clear hst ho3
      go_wp2
      go_roundg (n + 12 - k)
      case measure => omega
      case rel => exact ⟨k + 1, by simp, by omega, by omega, ys.set k (markOf 2 k), by simpa using hy, ⟨HST.out.1⟩, ⟨hb3.setCell hB _⟩⟩
    · obtain rfl : k = n + 12 := by omega
      go_wp2
      first | go_end0 | go_ret2
      exact ⟨rfl, HB.out⟩
end Go.Proofs.YtkpedlhofalnjaaGreatDoor
