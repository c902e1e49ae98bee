/- What ask.Right computes, for every command: whether it is right. -/
import Derived.Test.YtkpedlhofalnjaaGreatDoorM5
import Derived.Test.YtkpedlhofalnjaaGreatDoorM7
import Derived.Lib.OthersKept
import Derived.Test.YtkpedlhofalnjaaGreatDoorM6
namespace Go.Proofs.YtkpedlhofalnjaaGreatDoor
set_option linter.unusedVariables false
set_option linter.unusedSimpArgs false
open Go.RowKit Go.Proofs.YtkpedlhofalnjaaGreatDoorW.PrintWords Go.Proofs.YtkpedlhofalnjaaGreatDoorW.PrintLast Go.Proofs.YtkpedlhofalnjaaGreatDoorW.PrintMore

theorem within_calls (n a b : Int) (w : World) : Calls Tryz.prog 82 #[.int .i64 n, .int .i64 a, .int .i64 b] w fun e w' => e = .returned (.bool (decide (a ≤ n) && decide (n ≤ b))) ∧ Below w.heap.size w w' :=
  (A.ask_within.calls n a b _ w (within_says n a b)).mono fun e w' ⟨he, hd⟩ => ⟨he, hd.below⟩

theorem fld_at {s : ByteArray} {P r : List Fld} {c : Fld} (hs : s.data.toList = (P ++ c :: r).map Fld.byte) : ∃ h : P.length < s.size, s[P.length] = c.byte := by
  have hl : s.size = (P ++ c :: r).length := by rw [← data_length, hs, List.length_map]
  have h : P.length < s.size := by rw [hl]; simp
  refine ⟨h, ?_⟩
  have e : s.data.toList[P.length]? = some c.byte := by rw [hs]; simp
  have e2 : s.data.toList[P.length]? = some (s[P.length]) := by
    rw [List.getElem?_eq_getElem (by rw [data_length]; exact h)]; rfl
  rw [e2] at e
  exact Option.some.inj e
theorem next_fld (wr : World) (k : Nat) (s : ByteArray) (P r : List Fld) (c : Fld) (hs : s.data.toList = (P ++ c :: r).map Fld.byte) (hk : wr.heap[k]? = some (.stringIter s P.length)) (ty : TypeId) :
    (Instr.next (.pointer (some ⟨k, 0, none⟩)) true ty).run Tryz.prog wr = .ok (.tuple #[.bool true, .int .i64 P.length, .int .i32 c.byte.toNat]) (wr.iterAt k s (P.length + 1)) := by
  obtain ⟨h, e⟩ := fld_at hs
  have ha : (s[P.length]).toNat < 128 := by rw [e]; cases c <;> decide
  rw [Lib.run_next_ascii_at wr k s P.length ty hk h ha, e]
theorem next_fld_end (wr : World) (k : Nat) (s : ByteArray) (P : List Fld) (hs : s.data.toList = P.map Fld.byte) (hk : wr.heap[k]? = some (.stringIter s P.length)) (ty : TypeId) :
    (Instr.next (.pointer (some ⟨k, 0, none⟩)) true ty).run Tryz.prog wr = .ok (.tuple #[.bool false]) wr := by
  have hl : s.size = P.length := by rw [← data_length, hs, List.length_map]
  exact Lib.run_next_end_at wr k s P.length ty hk (by omega)

/-- A command's cells. -/
abbrev cellsOf13 (a : Cmd) (A9 : Option Addr) (c9 : Nat) (A10 : Option Addr) (c10 : Nat) : Array Value :=
  #[.int .u8 a.kind, .int .i64 a.req, .string a.item, .int .i64 a.qty, .int .i64 a.day, .int .i64 a.days, .int .i64 a.rank, .int .i64 a.lot, .int .i64 a.line, .slice A9 a.parts.length c9, .slice A10 a.others.length c10]

/-- The bare command's cells: just the fields that were gone through, and no lists. -/
abbrev bareCells (P : List Fld) (a : Cmd) : Array Value :=
  #[.int .u8 a.kind, .int .i64 a.req, .string (mask P a).item, .int .i64 (mask P a).qty, .int .i64 (mask P a).day, .int .i64 (mask P a).days, .int .i64 (mask P a).rank, .int .i64 (mask P a).lot, .int .i64 (mask P a).line, .slice none 0 0, .slice none 0 0]
theorem bare_i (P : List Fld) (a : Cmd) : (bareCells P a).setIfInBounds 2 (.string a.item) = bareCells (P ++ [.i]) a := by simp [bareCells, mask]
theorem bare_q (P : List Fld) (a : Cmd) : (bareCells P a).setIfInBounds 3 (.int .i64 a.qty) = bareCells (P ++ [.q]) a := by simp [bareCells, mask]
theorem bare_d (P : List Fld) (a : Cmd) : (bareCells P a).setIfInBounds 4 (.int .i64 a.day) = bareCells (P ++ [.d]) a := by simp [bareCells, mask]
theorem bare_l (P : List Fld) (a : Cmd) : (bareCells P a).setIfInBounds 5 (.int .i64 a.days) = bareCells (P ++ [.l]) a := by simp [bareCells, mask]
theorem bare_r (P : List Fld) (a : Cmd) : (bareCells P a).setIfInBounds 6 (.int .i64 a.rank) = bareCells (P ++ [.r]) a := by simp [bareCells, mask]
theorem bare_t (P : List Fld) (a : Cmd) : (bareCells P a).setIfInBounds 7 (.int .i64 a.lot) = bareCells (P ++ [.t]) a := by simp [bareCells, mask]
theorem bare_n (P : List Fld) (a : Cmd) : (bareCells P a).setIfInBounds 8 (.int .i64 a.line) = bareCells (P ++ [.n]) a := by simp [bareCells, mask]
theorem bare_p (P : List Fld) (a : Cmd) : bareCells (P ++ [.p]) a = bareCells P a := by simp [bareCells, mask]
theorem bare_o (P : List Fld) (a : Cmd) : bareCells (P ++ [.o]) a = bareCells P a := by simp [bareCells, mask]

/-! ### What stands behind the loop -/

theorem byte_inj {a b : Fld} (h : a.byte = b.byte) : a = b := by revert h; cases a <;> cases b <;> decide
theorem index_ge : ∀ (l : List UInt8) (c : UInt8), -1 ≤ Lib.indexByte l c
  | [], c => by simp [Lib.indexByte]
  | x :: l, c => by
    have := index_ge l c
    unfold Lib.indexByte
    split
    · decide
    · split <;> omega
theorem has_index (c : Fld) : ∀ f : List Fld, decide (0 ≤ Lib.indexByte (f.map Fld.byte) c.byte) = decide (c ∈ f)
  | [] => by simp [Lib.indexByte]
  | x :: f => by
    have ih := has_index c f
    by_cases e : x = c
    · subst e
      simp [Lib.indexByte]
    · have hne : (x.byte == c.byte) = false := beq_eq_false_iff_ne.2 fun h => e (byte_inj h)
      have hm : (c ∈ x :: f) = (c ∈ f) := by rw [List.mem_cons]; exact propext ⟨fun h => h.resolve_left (fun h => e h.symm), .inr⟩
      rw [decide_eq_decide.2 (Iff.of_eq hm), ← ih, List.map_cons]
      have e1 : Lib.indexByte (x.byte :: f.map Fld.byte) c.byte = if (x.byte == c.byte) = true then 0 else if (Lib.indexByte (f.map Fld.byte) c.byte == -1) = true then -1 else Lib.indexByte (f.map Fld.byte) c.byte + 1 := rfl
      rw [e1, if_neg (by rw [hne]; decide)]
      by_cases h1 : Lib.indexByte (f.map Fld.byte) c.byte = -1
      · rw [if_pos (by rw [h1]; rfl), h1]
      · rw [if_neg (by simpa using h1)]
        have hge : -1 ≤ Lib.indexByte (f.map Fld.byte) c.byte := index_ge _ _
        exact decide_eq_decide.2 (by omega)
theorem has_calls (s : ByteArray) (f : List Fld) (c : Fld) (hs : s.data.toList = f.map Fld.byte) (w : World) : Calls Tryz.prog 86 #[.string s, .string ⟨#[c.byte]⟩] w fun e w' => e = .returned (.bool (decide (c ∈ f))) ∧ w = w' :=
  (Tryz.strings_Contains_one s c.byte w).mono fun e w' ⟨he, hw⟩ => ⟨by rw [he, hs, has_index], hw.symm⟩

/-- Two commands' keys are compared. -/
def keyEq (x0 y0 x1 y1 x2 y2 : Int) (x3 y3 : ByteArray) (x4 y4 x5 y5 x6 y6 x7 y7 x8 y8 : Int) : Bool :=
  (x0 == y0) && ((x1 == y1) && ((x2 == y2) && ((x3.toList == y3.toList) && ((x4 == y4) && ((x5 == y5) && ((x6 == y6) && ((x7 == y7) && (x8 == y8))))))))
theorem eqKey (d : Nat) (w : World) (x0 y0 x1 y1 x2 y2 : Int) (x3 y3 : ByteArray) (x4 y4 x5 y5 x6 y6 x7 y7 x8 y8 : Int) :
    (Op.equalIn (d + 2) 155 (.agg #[.int .u8 x0, .int .i64 x1, .int .i64 x2, .string x3, .int .i64 x4, .int .i64 x5, .int .i64 x6, .int .i64 x7, .int .i64 x8]) (.agg #[.int .u8 y0, .int .i64 y1, .int .i64 y2, .string y3, .int .i64 y4, .int .i64 y5, .int .i64 y6, .int .i64 y7, .int .i64 y8])).run Tryz.prog w = .ok (keyEq x0 y0 x1 y1 x2 y2 x3 y3 x4 y4 x5 y5 x6 y6 x7 y7 x8 y8) w := by
  refine eqA_of Tryz.underlying155 (by kernel_rfl) ?_
  refine eqf_cons (by rfl) (by go_simp; rfl) (by go_simp; rfl) (by go_simp) ?_
  refine eqf_cons (by rfl) (by go_simp; rfl) (by go_simp; rfl) (by go_simp) ?_
  refine eqf_cons (by rfl) (by go_simp; rfl) (by go_simp; rfl) (by go_simp) ?_
  refine eqf_cons (by rfl) (by go_simp; rfl) (by go_simp; rfl) (by go_simp) ?_
  refine eqf_cons (by rfl) (by go_simp; rfl) (by go_simp; rfl) (by go_simp) ?_
  refine eqf_cons (by rfl) (by go_simp; rfl) (by go_simp; rfl) (by go_simp) ?_
  refine eqf_cons (by rfl) (by go_simp; rfl) (by go_simp; rfl) (by go_simp) ?_
  refine eqf_cons (by rfl) (by go_simp; rfl) (by go_simp; rfl) (by go_simp) ?_
  exact eqf_last (by rfl) (by go_simp; rfl) (by go_simp; rfl) (by go_simp)
attribute [local go_sem high] eqKey

/-- The key of a command, against that of its listed fields. -/
def keyOk (P : List Fld) (a : Cmd) : Bool := keyEq a.kind a.kind a.req a.req a.qty (mask P a).qty a.item (mask P a).item a.day (mask P a).day a.days (mask P a).days a.rank (mask P a).rank a.lot (mask P a).lot a.line (mask P a).line
theorem keyOk_only (f : List Fld) (a : Cmd) : a.only f = (keyOk f a && (decide (.p ∈ f) || a.parts.isEmpty) && (decide (.o ∈ f) || a.others.isEmpty)) := by
  have hi : ∀ (m : Prop) [Decidable m] (x : Int), (x == if m then x else 0) = (decide m || decide (x = 0)) := by
    intro m _ x
    by_cases h : m
    · rw [if_pos h, decide_eq_true h]; simp
    · rw [if_neg h, decide_eq_false h]; simp only [Bool.false_or]; rfl
  have ht : (a.item.toList == (if Fld.i ∈ f then a.item else noText).toList) = (decide (.i ∈ f) || a.item.data.toList.isEmpty) := by
    by_cases h : Fld.i ∈ f
    · rw [if_pos h, decide_eq_true h]; simp
    · rw [if_neg h, decide_eq_false h, Bool.false_or, Lib.toList_data, Lib.toList_data]
      show (a.item.data.toList == []) = _
      cases a.item.data.toList <;> rfl
  unfold Cmd.only keyOk keyEq
  simp only [mask]
  rw [hi, hi, hi, hi, hi, hi, ht]
  simp only [BEq.rfl, Bool.true_and]
  generalize (decide (Fld.i ∈ f) || a.item.data.toList.isEmpty) = b1
  generalize (decide (Fld.q ∈ f) || decide (a.qty = 0)) = b2
  generalize (decide (Fld.d ∈ f) || decide (a.day = 0)) = b3
  generalize (decide (Fld.l ∈ f) || decide (a.days = 0)) = b4
  generalize (decide (Fld.r ∈ f) || decide (a.rank = 0)) = b5
  generalize (decide (Fld.t ∈ f) || decide (a.lot = 0)) = b6
  generalize (decide (Fld.n ∈ f) || decide (a.line = 0)) = b7
  generalize (decide (Fld.p ∈ f) || a.parts.isEmpty) = b8
  generalize (decide (Fld.o ∈ f) || a.others.isEmpty) = b9
  cases b1 <;> cases b2 <;> cases b3 <;> cases b4 <;> cases b5 <;> cases b6 <;> cases b7 <;> cases b8 <;> cases b9 <;> rfl
theorem right_says {a : Cmd} {f : List Fld} (hf : fieldsOf a.kind = some f) (hq : 0 ≤ a.req ∧ a.req ≤ 4611686018427387904) :
    rightCmd a = (f.all a.ok && (keyOk f a && (decide (.p ∈ f) || a.parts.isEmpty) && (decide (.o ∈ f) || a.others.isEmpty))) := by
  unfold rightCmd
  rw [hf]
  show (decide (0 ≤ a.req) && decide (a.req ≤ 4611686018427387904) && f.all a.ok && a.only f) = _
  rw [decide_eq_true hq.1, decide_eq_true hq.2, keyOk_only]
  rfl
theorem right_no {a : Cmd} {f : List Fld} (hf : fieldsOf a.kind = some f) (hq : 0 ≤ a.req ∧ a.req ≤ 4611686018427387904) (h : f.all a.ok = false ∨ (decide (.p ∈ f) || a.parts.isEmpty) = false ∨ (decide (.o ∈ f) || a.others.isEmpty) = false) : rightCmd a = false := by
  rw [right_says hf hq]
  rcases h with h | h | h <;> rw [h]
  · rfl
  · rw [Bool.and_false, Bool.false_and, Bool.and_false]
  · rw [Bool.and_false, Bool.and_false]
theorem right_yes {a : Cmd} {f P : List Fld} (hf : fieldsOf a.kind = some f) (hq : 0 ≤ a.req ∧ a.req ≤ 4611686018427387904) (hP : f = P) (ho : P.all a.ok = true) (hp : (decide (.p ∈ f) || a.parts.isEmpty) = true) (hoo : (decide (.o ∈ f) || a.others.isEmpty) = true) :
    rightCmd a = keyOk P a := by
  rw [right_says hf hq, hp, hoo, hP, ho, Bool.true_and, Bool.and_true, Bool.and_true]
theorem no_ok {a : Cmd} {f P : List Fld} (hP : f = P) (h : P.all a.ok = false) : f.all a.ok = false ∨ (decide (.p ∈ f) || a.parts.isEmpty) = false ∨ (decide (.o ∈ f) || a.others.isEmpty) = false := .inl (by rw [hP]; exact h)
theorem empty_not {α : Type} {l : List α} (h : ¬ l.length = 0) : l.isEmpty = false := by cases l <;> simp_all
theorem no_parts {a : Cmd} {f : List Fld} (h : ¬ a.parts.length = 0) (hb : decide (Fld.p ∈ f) = false) : f.all a.ok = false ∨ (decide (.p ∈ f) || a.parts.isEmpty) = false ∨ (decide (.o ∈ f) || a.others.isEmpty) = false := .inr (.inl (by rw [hb, empty_not h]; rfl))
theorem no_others {a : Cmd} {f : List Fld} (h : ¬ a.others.length = 0) (hb : decide (Fld.o ∈ f) = false) : f.all a.ok = false ∨ (decide (.p ∈ f) || a.parts.isEmpty) = false ∨ (decide (.o ∈ f) || a.others.isEmpty) = false := .inr (.inr (by rw [hb, empty_not h]; rfl))
theorem lists_nil {a : Cmd} {f : List Fld} (h : a.parts.length = 0) : (decide (Fld.p ∈ f) || a.parts.isEmpty) = true := by rw [List.length_eq_zero_iff.1 h]; simp
theorem lists_nil2 {a : Cmd} {f : List Fld} (h : a.others.length = 0) : (decide (Fld.o ∈ f) || a.others.isEmpty) = true := by rw [List.length_eq_zero_iff.1 h]; simp
theorem lists_in {a : Cmd} {f : List Fld} (h : decide (Fld.p ∈ f) = true) : (decide (Fld.p ∈ f) || a.parts.isEmpty) = true := by rw [h]; rfl
theorem lists_in2 {a : Cmd} {f : List Fld} (h : decide (Fld.o ∈ f) = true) : (decide (Fld.o ∈ f) || a.others.isEmpty) = true := by rw [h]; rfl

namespace right13
noncomputable def T36 : Bool × List (List Nat × List Nat) := rtab .any (opsOf Tryz.f33 36)
def B36 : List Nat := [0, 1, 3, 7, 15, 31, 63, 127, 255, 511, 255, 2047, 4095, 8191, 16383]
theorem tab36 : rtab .any (opsOf Tryz.f33 36) = T36 := rfl
theorem bits36 : waitsOk T36.2 B36 = true := by kernel_rfl
end right13

set_option maxRecDepth 100000 in
set_option maxHeartbeats 16000000 in
theorem right_calls (a : Cmd) (A9 : Option Addr) (c9 : Nat) (A10 : Option Addr) (c10 : Nat) (w : World) (hr9 : Kd.C A.k58 w A9 a.parts.length a.parts) (hc9 : a.parts.length ≤ c9) (hr10 : Kd.C Kd.string w A10 a.others.length a.others) (hc10 : a.others.length ≤ c10) (hf : a.fits) (hL : Laid13 w) :
    Calls Tryz.prog 33 #[.agg (cellsOf13 a A9 c9 A10 c10)] w fun e w' => e = .returned (.bool (rightCmd a)) ∧ Below w.heap.size w w' := by
  have HR9 := Lib.hid hr9
  have HC9 := Lib.hid hc9
  have HR10 := Lib.hid hr10
  have HC10 := Lib.hid hc10
  have HFits := Lib.hid hf
  have HL := Lib.hid hL
  have hk := hf.1.1
  clear hr9 hc9 hr10 hc10 hf hL
  have HF : Hid (∀ w, Laid13 w → Calls Tryz.prog 81 #[.int .u8 a.kind] w fun e w' => e = .returned (.tuple #[.string (textOf a.kind), .bool (fieldsOf a.kind).isSome]) ∧ Below w.heap.size w w') := Lib.hid fun w hL => fields_any a.kind hk.1 hk.2 w hL
  clear hk
  cases hfo : fieldsOf a.kind with
  | none =>
    have HR : Hid (rightCmd a = false) := Lib.hid (by unfold rightCmd; rw [hfo])
    rw [hfo, Option.isSome_none] at HF
    clear hfo
    go_enter Tryz.func33, Tryz.ntmps33
    go_wp2_with fail
    refine (HF.out _ (HL.out.below ((Below.refl _ _).alloc (Nat.le_refl _) _))).mono ?_
    rintro e w1 ⟨rfl, hb⟩
    have HB1 := Aside0.mk (((Below.refl w.heap.size w).alloc (Nat.le_refl _) (.cells (cellsOf13 a A9 c9 A10 c10) 38)).trans (hb.mono (by simp)))
    clear hb
    go_wp2_with fail
    go_ret
    exact ⟨by rw [HR.out]; rfl, HB1.out⟩
  | some f =>
    have HTX : Hid ((textOf a.kind).data.toList = f.map Fld.byte) := Lib.hid (by unfold textOf fieldsIn; rw [hfo]; simp)
    have HFO := Lib.hid hfo
    rw [hfo, Option.isSome_some] at HF
    clear hfo
    generalize textOf a.kind = s at HTX HF
    by_cases hq : 0 ≤ a.req ∧ a.req ≤ 4611686018427387904
    · have HQ := Lib.hid hq
      have HW : Hid (∀ w, Calls Tryz.prog 82 #[.int .i64 a.req, .int .i64 0, .int .i64 4611686018427387904] w fun e w' => e = .returned (.bool true) ∧ Below w.heap.size w w') := Lib.hid fun w => by
        have := within_calls a.req 0 4611686018427387904 w
        rw [decide_eq_true hq.1, decide_eq_true hq.2] at this
        exact this
      clear hq
      go_enter Tryz.func33, Tryz.ntmps33
      go_wp2_with fail
      refine (HF.out _ (HL.out.below ((Below.refl _ _).alloc (Nat.le_refl _) _))).mono ?_
      rintro e w1 ⟨rfl, hb⟩
      have HB1 := Aside0.mk (((Below.refl w.heap.size w).alloc (Nat.le_refl _) (.cells (cellsOf13 a A9 c9 A10 c10) 38)).trans (hb.mono (by simp)))
      have HA1 := Aside0.mk (blk_below (blk_new w (.cells (cellsOf13 a A9 c9 A10 c10) 38)) hb)
      clear hb
      have k1 : w1.cell? ⟨w.heap.size, 1, none⟩ = some (.int .i64 a.req) := blk_cell HA1.out 1
      go_wp2_with fail
      refine (HW.out _).mono ?_
      rintro e w2 ⟨rfl, hb⟩
      have HB2 := Aside0.mk (HB1.out.trans (hb.mono HB1.out.size))
      have HA2 := Aside0.mk (blk_below HA1.out hb)
      clear hb HB1 HA1 k1
      have k0 : w2.cell? ⟨w.heap.size, 0, none⟩ = some (.int .u8 a.kind) := blk_cell HA2.out 0
      have k1 : w2.cell? ⟨w.heap.size, 1, none⟩ = some (.int .i64 a.req) := blk_cell HA2.out 1
      go_wp2_with fail
      have HB3 := Aside0.mk ((HB2.out.alloc HB2.out.size (.cells (bareCells [] a) 38)).alloc (by have := HB2.out.size; simp; omega) (.stringIter s 0))
      have HA3 := Aside0.mk (blk_alloc (blk_alloc HA2.out (.cells (bareCells [] a) 38)) (.stringIter s 0))
      have HC3 := Aside0.mk (blk_alloc (blk_new w2 (.cells (bareCells [] a) 38)) (.stringIter s 0))
      have HI3 := Aside0.mk (blk_new (w2.alloc (.cells (bareCells [] a) 38)) (.stringIter s 0))
      have HAB := Aside0.mk (blk_lt HA2.out)
      have HGB := Aside0.mk HB2.out.size
      have es : (w2.alloc (.cells (bareCells [] a) 38)).heap.size = w2.heap.size + 1 := by simp
      rw [es] at HI3
      clear k0 k1 es
      generalize hgb : w2.heap.size = gb at HC3 HI3 HAB HGB ⊢
      clear hgb
      go_loopg [4] (f.length + 1) (fun kq v4 wr => ∃ (P r : List Fld), f = P ++ r ∧ kq = r.length + 1 ∧ v4 = .bool (P.all a.ok) ∧ Aside0 (Below w.heap.size w wr) ∧ Aside0 (wr.heap[w.heap.size]? = some (.cells (cellsOf13 a A9 c9 A10 c10) 38 (0, 0))) ∧ Aside0 (wr.heap[gb]? = some (.cells (bareCells P a) 38 (0, 0))) ∧ Aside0 (wr.heap[gb + 1]? = some (.stringIter s P.length)))
      case atStart => exact ⟨[], f, rfl, rfl, rfl, HB3, HA3, HC3, HI3⟩
      case round =>
        clear HB3 HA3 HC3 HI3
        obtain ⟨P, r, hfP, hkq, rfl, HB, HA, HC, HI⟩ := hrel
        have HFP := Lib.hid hfP
        clear hfP
        subst hkq
        cases r with
        | nil =>
          have hP : f = P := by rw [HFP.out, List.append_nil]
          have HP := Lib.hid hP
          clear hP
          have hnx : ∀ ty, (Instr.next (.pointer (some ⟨gb + 1, 0, none⟩)) true ty).run Tryz.prog wr = .ok (.tuple #[.bool false]) wr := fun ty => next_fld_end wr (gb + 1) s P (by rw [HTX.out, HP.out]) HI.out ty
          have k9 : wr.cell? ⟨w.heap.size, 9, none⟩ = some (.slice A9 a.parts.length c9) := blk_cell HA.out 9
          have k10 : wr.cell? ⟨w.heap.size, 10, none⟩ = some (.slice A10 a.others.length c10) := blk_cell HA.out 10
          have HCP : Hid (∀ w, Calls Tryz.prog 86 #[.string s, .string ⟨#[112]⟩] w fun e w' => e = .returned (.bool (decide (Fld.p ∈ f))) ∧ w = w') := Lib.hid fun w => has_calls s f .p HTX.out w
          have HCO : Hid (∀ w, Calls Tryz.prog 86 #[.string s, .string ⟨#[111]⟩] w fun e w' => e = .returned (.bool (decide (Fld.o ∈ f))) ∧ w = w') := Lib.hid fun w => has_calls s f .o HTX.out w
          obtain ⟨bo, hbo⟩ : ∃ bo, P.all a.ok = bo := ⟨_, rfl⟩
          rw [hbo]
          have HBO := Lib.hid hbo
          clear hbo
          obtain ⟨bp, hbp⟩ : ∃ bp, decide (Fld.p ∈ f) = bp := ⟨_, rfl⟩
          rw [hbp] at HCP
          have HBP := Lib.hid hbp
          clear hbp
          obtain ⟨bq, hbq⟩ : ∃ bq, decide (Fld.o ∈ f) = bq := ⟨_, rfl⟩
          rw [hbq] at HCO
          have HBQ := Lib.hid hbq
          clear hbq
          by_cases h9 : a.parts.length = 0
          · by_cases h10 : a.others.length = 0
            · have hpe : ((a.parts.length : Int) == 0) = true := by simpa using h9
              have H9 := Lib.hid h9
              clear h9
              have hoe : ((a.others.length : Int) == 0) = true := by simpa using h10
              have H10 := Lib.hid h10
              clear h10
              cases bo with
              | false =>
                go_wp2_with fail
                repeat (go_quiet (fail); try go_wp2_with fail)
                go_ret
                exact ⟨by rw [right_no HFO.out HQ.out (no_ok HP.out HBO.out)]; rfl, pw_below_drewN HB.out _⟩
              | true =>
                go_wp2_with fail
                refine start_ (n := 15) (S := fun w' => w'.heap[w.heap.size]? = some (.cells (cellsOf13 a A9 c9 A10 c10) 38 (0, 0)) ∧ w'.heap[gb]? = some (.cells (bareCells P a) 38 (0, 0))) (ds := []) #[false, false, false, false, false, false, false, false, false, false, false, false, false, false, false] (by kernel_rfl) rfl rfl ⟨HA.out, HC.out⟩ (fun hHeld => ?_); refine with_tabW right13.tab36 right13.bits36 (fun HT_ HW_ => ?_)
                have HB4 := Aside0.mk (below_drew1 HB.out)
                generalize wr.drew = w4 at HB4 hHeld ⊢
                refine pure_ (i := 0) (N := some 158) (v := ?_) (a' := ?_) #[true, false, false, false, false, false, false, false, false, false, false, false, false, false, false] rfl rfl (any_of HT_.out (by kernel_rfl)) (fun _ _ _ h => h) (Or.inl ⟨by rfl, ?_⟩) ?_ ?_
                rotate_left
                · intro w'
                  go_simp
                  with_reducible rfl
                rotate_left
                · simp only [Act.put, List.setIfInBounds_toArray, List.set_cons_zero, List.set_cons_succ, i64_w, i32_w]
                  rfl
                refine pure_ (i := 1) (N := some 159) (v := ?_) (a' := ?_) #[true, true, false, false, false, false, false, false, false, false, false, false, false, false, false] rfl rfl (any_of HT_.out (by kernel_rfl)) (fun _ _ _ h => h) (Or.inl ⟨by rfl, ?_⟩) ?_ ?_
                rotate_left
                · intro w'
                  go_simp
                  with_reducible rfl
                rotate_left
                · simp only [Act.put, List.setIfInBounds_toArray, List.set_cons_zero, List.set_cons_succ, i64_w, i32_w]
                  rfl
                refine pure_ (i := 2) (N := some 160) (v := ?_) (a' := ?_) #[true, true, true, false, false, false, false, false, false, false, false, false, false, false, false] rfl rfl (any_of HT_.out (by kernel_rfl)) (fun _ _ _ h => h) (Or.inl ⟨by rfl, ?_⟩) ?_ ?_
                rotate_left
                · intro w'
                  go_simp
                  with_reducible rfl
                rotate_left
                · simp only [Act.put, List.setIfInBounds_toArray, List.set_cons_zero, List.set_cons_succ, i64_w, i32_w]
                  rfl
                refine pure_ (i := 3) (N := some 161) (v := ?_) (a' := ?_) #[true, true, true, true, false, false, false, false, false, false, false, false, false, false, false] rfl rfl (any_of HT_.out (by kernel_rfl)) (fun _ _ _ h => h) (Or.inl ⟨by rfl, ?_⟩) ?_ ?_
                rotate_left
                · intro w'
                  go_simp
                  with_reducible rfl
                rotate_left
                · simp only [Act.put, List.setIfInBounds_toArray, List.set_cons_zero, List.set_cons_succ, i64_w, i32_w]
                  rfl
                refine pure_ (i := 4) (N := some 162) (v := ?_) (a' := ?_) #[true, true, true, true, true, false, false, false, false, false, false, false, false, false, false] rfl rfl (any_of HT_.out (by kernel_rfl)) (fun _ _ _ h => h) (Or.inl ⟨by rfl, ?_⟩) ?_ ?_
                rotate_left
                · intro w'
                  go_simp
                  with_reducible rfl
                rotate_left
                · simp only [Act.put, List.setIfInBounds_toArray, List.set_cons_zero, List.set_cons_succ, i64_w, i32_w]
                  rfl
                refine pure_ (i := 5) (N := some 163) (v := ?_) (a' := ?_) #[true, true, true, true, true, true, false, false, false, false, false, false, false, false, false] rfl rfl (any_of HT_.out (by kernel_rfl)) (fun _ _ _ h => h) (Or.inl ⟨by rfl, ?_⟩) ?_ ?_
                rotate_left
                · intro w'
                  go_simp
                  with_reducible rfl
                rotate_left
                · simp only [Act.put, List.setIfInBounds_toArray, List.set_cons_zero, List.set_cons_succ, i64_w, i32_w]
                  rfl
                refine pure_ (i := 6) (N := some 164) (v := ?_) (a' := ?_) #[true, true, true, true, true, true, true, false, false, false, false, false, false, false, false] rfl rfl (any_of HT_.out (by kernel_rfl)) (fun _ _ _ h => h) (Or.inl ⟨by rfl, ?_⟩) ?_ ?_
                rotate_left
                · intro w'
                  go_simp
                  with_reducible rfl
                rotate_left
                · simp only [Act.put, List.setIfInBounds_toArray, List.set_cons_zero, List.set_cons_succ, i64_w, i32_w]
                  rfl
                refine pure_ (i := 7) (N := some 165) (v := ?_) (a' := ?_) #[true, true, true, true, true, true, true, true, false, false, false, false, false, false, false] rfl rfl (any_of HT_.out (by kernel_rfl)) (fun _ _ _ h => h) (Or.inl ⟨by rfl, ?_⟩) ?_ ?_
                rotate_left
                · intro w'
                  go_simp
                  with_reducible rfl
                rotate_left
                · simp only [Act.put, List.setIfInBounds_toArray, List.set_cons_zero, List.set_cons_succ, i64_w, i32_w]
                  rfl
                refine take_ (i := 8) (N := some 166) (v := ?_) (a' := ?_) #[true, true, true, true, true, true, true, true, true, false, false, false, false, false, false] rfl rfl (take_ofW HT_.out HW_.out (by kernel_rfl)) (fun _ _ _ h => h) (Or.inl ⟨by rfl, ?_⟩) hHeld ?_ ?_
                rotate_left
                · rintro w' hS
                  have hc := blk_cell hS.1 0
                  have hc1 := blk_cell hS.1 1
                  have hc2 := blk_cell hS.1 2
                  have hc3 := blk_cell hS.1 3
                  have hc4 := blk_cell hS.1 4
                  have hc5 := blk_cell hS.1 5
                  have hc6 := blk_cell hS.1 6
                  have hc7 := blk_cell hS.1 7
                  have hc8 := blk_cell hS.1 8
                  have hc9 := blk_cell hS.1 9
                  have hc10 := blk_cell hS.1 10
                  go_simp
                  with_reducible rfl
                rotate_left
                · simp only [Act.put, List.setIfInBounds_toArray, List.set_cons_zero, List.set_cons_succ, i64_w, i32_w]
                  rfl
                refine take_ (i := 10) (N := some 168) (v := ?_) (a' := ?_) #[true, true, true, true, true, true, true, true, true, false, true, false, false, false, false] rfl rfl (take_ofW HT_.out HW_.out (by kernel_rfl)) (fun _ _ _ h => h) (Or.inl ⟨by rfl, ?_⟩) hHeld ?_ ?_
                rotate_left
                · rintro w' hS
                  have hc := blk_cell hS.2 0
                  have hc1 := blk_cell hS.2 1
                  have hc2 := blk_cell hS.2 2
                  have hc3 := blk_cell hS.2 3
                  have hc4 := blk_cell hS.2 4
                  have hc5 := blk_cell hS.2 5
                  have hc6 := blk_cell hS.2 6
                  have hc7 := blk_cell hS.2 7
                  have hc8 := blk_cell hS.2 8
                  have hc9 := blk_cell hS.2 9
                  have hc10 := blk_cell hS.2 10
                  go_simp
                  with_reducible rfl
                rotate_left
                · simp only [Act.put, List.setIfInBounds_toArray, List.set_cons_zero, List.set_cons_succ, i64_w, i32_w]
                  rfl
                refine one_ (i := 9) (N := some 167) #[true, true, true, true, true, true, true, true, true, true, true, false, false, false, false] rfl rfl (one_of HT_.out (by kernel_rfl)) (by decide) (fun K hK => ?_)
                refine goes_ Tryz.func87 (by kernel_rfl) rfl #[.agg (cellsOf13 a A9 c9 A10 c10)] (by rfl) rfl rfl (by (try simp only [List.map_toArray, List.map_cons, List.map_nil]); first | done | rfl) ?_
                refine (A.ask_plain.calls a.kind a.req a.item a.qty a.day a.days a.rank a.lot a.line A9 c9 a.parts A10 c10 a.others _ _ _ _ _ _ _ _ _ w4 (Kd.C_below HR9.out HB4.out) HC9.out (Kd.C_below HR10.out HB4.out) HC10.out rfl).mono ?_
                rintro e w5 ⟨rfl, hb⟩
                refine ⟨_, rfl, ?_⟩
                have HB5 := Aside0.mk (HB4.out.trans (hb.mono HB4.out.size))
                refine hK.out _ _ ⟨blk_below hHeld.1 hb, blk_below hHeld.2 hb⟩ (fun hHeld => ?_)
                clear hK K
                refine norm_ (a' := ?_) ?_ ?_
                rotate_left
                · show Act.put _ (some 167) _ = _
                  simp only [Act.put, List.setIfInBounds_toArray, List.set_cons_zero, List.set_cons_succ, i64_w, i32_w]
                  rfl
                refine one_ (i := 11) (N := some 169) #[true, true, true, true, true, true, true, true, true, true, true, true, false, false, false] rfl rfl (one_of HT_.out (by kernel_rfl)) (by decide) (fun K hK => ?_)
                refine goes_ Tryz.func87 (by kernel_rfl) rfl #[.agg (bareCells P a)] (by rfl) rfl rfl (by (try simp only [List.map_toArray, List.map_cons, List.map_nil]); first | done | rfl) ?_
                refine (A.ask_plain.calls a.kind a.req (mask P a).item (mask P a).qty (mask P a).day (mask P a).days (mask P a).rank (mask P a).lot (mask P a).line none 0 [] none 0 [] _ _ _ _ _ _ _ _ _ w5 (Kd.C_nil _ _) (Nat.le_refl _) (Kd.C_nil _ _) (Nat.le_refl _) rfl).mono ?_
                rintro e w6 ⟨rfl, hb⟩
                refine ⟨_, rfl, ?_⟩
                have HB6 := Aside0.mk (HB5.out.trans (hb.mono HB5.out.size))
                refine hK.out _ _ ⟨blk_below hHeld.1 hb, blk_below hHeld.2 hb⟩ (fun hHeld => ?_)
                clear hK K
                refine norm_ (a' := ?_) ?_ ?_
                rotate_left
                · show Act.put _ (some 169) _ = _
                  simp only [Act.put, List.setIfInBounds_toArray, List.set_cons_zero, List.set_cons_succ, i64_w, i32_w]
                  rfl
                refine pure_ (i := 12) (N := some 170) (v := ?_) (a' := ?_) #[true, true, true, true, true, true, true, true, true, true, true, true, true, false, false] rfl rfl (any_of HT_.out (by kernel_rfl)) (fun _ _ _ h => h) (Or.inl ⟨by rfl, ?_⟩) ?_ ?_
                rotate_left
                · intro w'
                  go_simp
                  with_reducible rfl
                rotate_left
                · simp only [Act.put, List.setIfInBounds_toArray, List.set_cons_zero, List.set_cons_succ, i64_w, i32_w]
                  rfl
                refine pure_ (i := 13) (N := some 171) (v := ?_) (a' := ?_) #[true, true, true, true, true, true, true, true, true, true, true, true, true, true, false] rfl rfl (any_of HT_.out (by kernel_rfl)) (fun _ _ _ h => h) (Or.inl ⟨by rfl, ?_⟩) ?_ ?_
                rotate_left
                · intro w'
                  go_simp
                  with_reducible rfl
                rotate_left
                · simp only [Act.put, List.setIfInBounds_toArray, List.set_cons_zero, List.set_cons_succ, i64_w, i32_w]
                  rfl
                refine pure_ (i := 14) (N := some 2) (v := ?_) (a' := ?_) #[true, true, true, true, true, true, true, true, true, true, true, true, true, true, true] rfl rfl (any_of HT_.out (by kernel_rfl)) (fun _ _ _ h => h) (Or.inl ⟨by rfl, ?_⟩) ?_ ?_
                rotate_left
                · intro w'
                  go_simp
                  with_reducible rfl
                rotate_left
                · simp only [Act.put, List.setIfInBounds_toArray, List.set_cons_zero, List.set_cons_succ, i64_w, i32_w]
                  rfl
                refine done_ (done_of HT_.out (by kernel_rfl)) ?_
                go_wp2
                go_ret
                exact ⟨by rw [right_yes HFO.out HQ.out HP.out HBO.out (lists_nil H9.out) (lists_nil2 H10.out)]; rfl, HB6.out⟩
            · have hpe : ((a.parts.length : Int) == 0) = true := by simpa using h9
              have H9 := Lib.hid h9
              clear h9
              have hoe : ((a.others.length : Int) == 0) = false := by simpa using h10
              have H10 := Lib.hid h10
              clear h10
              cases bo with
              | false =>
                go_wp2_with fail
                refine (HCO.out _).mono ?_
                rintro e w5 ⟨rfl, rfl⟩
                go_wp2_with fail
                repeat (go_quiet (fail); try go_wp2_with fail)
                go_ret
                exact ⟨by rw [right_no HFO.out HQ.out (no_ok HP.out HBO.out)]; rfl, pw_below_drewN HB.out _⟩
              | true =>
                cases bq with
                | false =>
                  go_wp2_with fail
                  refine (HCO.out _).mono ?_
                  rintro e w5 ⟨rfl, rfl⟩
                  go_wp2_with fail
                  repeat (go_quiet (fail); try go_wp2_with fail)
                  go_ret
                  exact ⟨by rw [right_no HFO.out HQ.out (no_others H10.out HBQ.out)]; rfl, pw_below_drewN HB.out _⟩
                | true =>
                  go_wp2_with fail
                  refine (HCO.out _).mono ?_
                  rintro e w5 ⟨rfl, rfl⟩
                  go_wp2_with fail
                  refine start_ (n := 15) (S := fun w' => w'.heap[w.heap.size]? = some (.cells (cellsOf13 a A9 c9 A10 c10) 38 (0, 0)) ∧ w'.heap[gb]? = some (.cells (bareCells P a) 38 (0, 0))) (ds := []) #[false, false, false, false, false, false, false, false, false, false, false, false, false, false, false] (by kernel_rfl) rfl rfl ⟨HA.out, HC.out⟩ (fun hHeld => ?_); refine with_tabW right13.tab36 right13.bits36 (fun HT_ HW_ => ?_)
                  have HB4 := Aside0.mk (below_drew1 HB.out)
                  generalize wr.drew = w4 at HB4 hHeld ⊢
                  refine pure_ (i := 0) (N := some 158) (v := ?_) (a' := ?_) #[true, false, false, false, false, false, false, false, false, false, false, false, false, false, false] rfl rfl (any_of HT_.out (by kernel_rfl)) (fun _ _ _ h => h) (Or.inl ⟨by rfl, ?_⟩) ?_ ?_
                  rotate_left
                  · intro w'
                    go_simp
                    with_reducible rfl
                  rotate_left
                  · simp only [Act.put, List.setIfInBounds_toArray, List.set_cons_zero, List.set_cons_succ, i64_w, i32_w]
                    rfl
                  refine pure_ (i := 1) (N := some 159) (v := ?_) (a' := ?_) #[true, true, false, false, false, false, false, false, false, false, false, false, false, false, false] rfl rfl (any_of HT_.out (by kernel_rfl)) (fun _ _ _ h => h) (Or.inl ⟨by rfl, ?_⟩) ?_ ?_
                  rotate_left
                  · intro w'
                    go_simp
                    with_reducible rfl
                  rotate_left
                  · simp only [Act.put, List.setIfInBounds_toArray, List.set_cons_zero, List.set_cons_succ, i64_w, i32_w]
                    rfl
                  refine pure_ (i := 2) (N := some 160) (v := ?_) (a' := ?_) #[true, true, true, false, false, false, false, false, false, false, false, false, false, false, false] rfl rfl (any_of HT_.out (by kernel_rfl)) (fun _ _ _ h => h) (Or.inl ⟨by rfl, ?_⟩) ?_ ?_
                  rotate_left
                  · intro w'
                    go_simp
                    with_reducible rfl
                  rotate_left
                  · simp only [Act.put, List.setIfInBounds_toArray, List.set_cons_zero, List.set_cons_succ, i64_w, i32_w]
                    rfl
                  refine pure_ (i := 3) (N := some 161) (v := ?_) (a' := ?_) #[true, true, true, true, false, false, false, false, false, false, false, false, false, false, false] rfl rfl (any_of HT_.out (by kernel_rfl)) (fun _ _ _ h => h) (Or.inl ⟨by rfl, ?_⟩) ?_ ?_
                  rotate_left
                  · intro w'
                    go_simp
                    with_reducible rfl
                  rotate_left
                  · simp only [Act.put, List.setIfInBounds_toArray, List.set_cons_zero, List.set_cons_succ, i64_w, i32_w]
                    rfl
                  refine pure_ (i := 4) (N := some 162) (v := ?_) (a' := ?_) #[true, true, true, true, true, false, false, false, false, false, false, false, false, false, false] rfl rfl (any_of HT_.out (by kernel_rfl)) (fun _ _ _ h => h) (Or.inl ⟨by rfl, ?_⟩) ?_ ?_
                  rotate_left
                  · intro w'
                    go_simp
                    with_reducible rfl
                  rotate_left
                  · simp only [Act.put, List.setIfInBounds_toArray, List.set_cons_zero, List.set_cons_succ, i64_w, i32_w]
                    rfl
                  refine pure_ (i := 5) (N := some 163) (v := ?_) (a' := ?_) #[true, true, true, true, true, true, false, false, false, false, false, false, false, false, false] rfl rfl (any_of HT_.out (by kernel_rfl)) (fun _ _ _ h => h) (Or.inl ⟨by rfl, ?_⟩) ?_ ?_
                  rotate_left
                  · intro w'
                    go_simp
                    with_reducible rfl
                  rotate_left
                  · simp only [Act.put, List.setIfInBounds_toArray, List.set_cons_zero, List.set_cons_succ, i64_w, i32_w]
                    rfl
                  refine pure_ (i := 6) (N := some 164) (v := ?_) (a' := ?_) #[true, true, true, true, true, true, true, false, false, false, false, false, false, false, false] rfl rfl (any_of HT_.out (by kernel_rfl)) (fun _ _ _ h => h) (Or.inl ⟨by rfl, ?_⟩) ?_ ?_
                  rotate_left
                  · intro w'
                    go_simp
                    with_reducible rfl
                  rotate_left
                  · simp only [Act.put, List.setIfInBounds_toArray, List.set_cons_zero, List.set_cons_succ, i64_w, i32_w]
                    rfl
                  refine pure_ (i := 7) (N := some 165) (v := ?_) (a' := ?_) #[true, true, true, true, true, true, true, true, false, false, false, false, false, false, false] rfl rfl (any_of HT_.out (by kernel_rfl)) (fun _ _ _ h => h) (Or.inl ⟨by rfl, ?_⟩) ?_ ?_
                  rotate_left
                  · intro w'
                    go_simp
                    with_reducible rfl
                  rotate_left
                  · simp only [Act.put, List.setIfInBounds_toArray, List.set_cons_zero, List.set_cons_succ, i64_w, i32_w]
                    rfl
                  refine take_ (i := 8) (N := some 166) (v := ?_) (a' := ?_) #[true, true, true, true, true, true, true, true, true, false, false, false, false, false, false] rfl rfl (take_ofW HT_.out HW_.out (by kernel_rfl)) (fun _ _ _ h => h) (Or.inl ⟨by rfl, ?_⟩) hHeld ?_ ?_
                  rotate_left
                  · rintro w' hS
                    have hc := blk_cell hS.1 0
                    have hc1 := blk_cell hS.1 1
                    have hc2 := blk_cell hS.1 2
                    have hc3 := blk_cell hS.1 3
                    have hc4 := blk_cell hS.1 4
                    have hc5 := blk_cell hS.1 5
                    have hc6 := blk_cell hS.1 6
                    have hc7 := blk_cell hS.1 7
                    have hc8 := blk_cell hS.1 8
                    have hc9 := blk_cell hS.1 9
                    have hc10 := blk_cell hS.1 10
                    go_simp
                    with_reducible rfl
                  rotate_left
                  · simp only [Act.put, List.setIfInBounds_toArray, List.set_cons_zero, List.set_cons_succ, i64_w, i32_w]
                    rfl
                  refine take_ (i := 10) (N := some 168) (v := ?_) (a' := ?_) #[true, true, true, true, true, true, true, true, true, false, true, false, false, false, false] rfl rfl (take_ofW HT_.out HW_.out (by kernel_rfl)) (fun _ _ _ h => h) (Or.inl ⟨by rfl, ?_⟩) hHeld ?_ ?_
                  rotate_left
                  · rintro w' hS
                    have hc := blk_cell hS.2 0
                    have hc1 := blk_cell hS.2 1
                    have hc2 := blk_cell hS.2 2
                    have hc3 := blk_cell hS.2 3
                    have hc4 := blk_cell hS.2 4
                    have hc5 := blk_cell hS.2 5
                    have hc6 := blk_cell hS.2 6
                    have hc7 := blk_cell hS.2 7
                    have hc8 := blk_cell hS.2 8
                    have hc9 := blk_cell hS.2 9
                    have hc10 := blk_cell hS.2 10
                    go_simp
                    with_reducible rfl
                  rotate_left
                  · simp only [Act.put, List.setIfInBounds_toArray, List.set_cons_zero, List.set_cons_succ, i64_w, i32_w]
                    rfl
                  refine one_ (i := 9) (N := some 167) #[true, true, true, true, true, true, true, true, true, true, true, false, false, false, false] rfl rfl (one_of HT_.out (by kernel_rfl)) (by decide) (fun K hK => ?_)
                  refine goes_ Tryz.func87 (by kernel_rfl) rfl #[.agg (cellsOf13 a A9 c9 A10 c10)] (by rfl) rfl rfl (by (try simp only [List.map_toArray, List.map_cons, List.map_nil]); first | done | rfl) ?_
                  refine (A.ask_plain.calls a.kind a.req a.item a.qty a.day a.days a.rank a.lot a.line A9 c9 a.parts A10 c10 a.others _ _ _ _ _ _ _ _ _ w4 (Kd.C_below HR9.out HB4.out) HC9.out (Kd.C_below HR10.out HB4.out) HC10.out rfl).mono ?_
                  rintro e w5 ⟨rfl, hb⟩
                  refine ⟨_, rfl, ?_⟩
                  have HB5 := Aside0.mk (HB4.out.trans (hb.mono HB4.out.size))
                  refine hK.out _ _ ⟨blk_below hHeld.1 hb, blk_below hHeld.2 hb⟩ (fun hHeld => ?_)
                  clear hK K
                  refine norm_ (a' := ?_) ?_ ?_
                  rotate_left
                  · show Act.put _ (some 167) _ = _
                    simp only [Act.put, List.setIfInBounds_toArray, List.set_cons_zero, List.set_cons_succ, i64_w, i32_w]
                    rfl
                  refine one_ (i := 11) (N := some 169) #[true, true, true, true, true, true, true, true, true, true, true, true, false, false, false] rfl rfl (one_of HT_.out (by kernel_rfl)) (by decide) (fun K hK => ?_)
                  refine goes_ Tryz.func87 (by kernel_rfl) rfl #[.agg (bareCells P a)] (by rfl) rfl rfl (by (try simp only [List.map_toArray, List.map_cons, List.map_nil]); first | done | rfl) ?_
                  refine (A.ask_plain.calls a.kind a.req (mask P a).item (mask P a).qty (mask P a).day (mask P a).days (mask P a).rank (mask P a).lot (mask P a).line none 0 [] none 0 [] _ _ _ _ _ _ _ _ _ w5 (Kd.C_nil _ _) (Nat.le_refl _) (Kd.C_nil _ _) (Nat.le_refl _) rfl).mono ?_
                  rintro e w6 ⟨rfl, hb⟩
                  refine ⟨_, rfl, ?_⟩
                  have HB6 := Aside0.mk (HB5.out.trans (hb.mono HB5.out.size))
                  refine hK.out _ _ ⟨blk_below hHeld.1 hb, blk_below hHeld.2 hb⟩ (fun hHeld => ?_)
                  clear hK K
                  refine norm_ (a' := ?_) ?_ ?_
                  rotate_left
                  · show Act.put _ (some 169) _ = _
                    simp only [Act.put, List.setIfInBounds_toArray, List.set_cons_zero, List.set_cons_succ, i64_w, i32_w]
                    rfl
                  refine pure_ (i := 12) (N := some 170) (v := ?_) (a' := ?_) #[true, true, true, true, true, true, true, true, true, true, true, true, true, false, false] rfl rfl (any_of HT_.out (by kernel_rfl)) (fun _ _ _ h => h) (Or.inl ⟨by rfl, ?_⟩) ?_ ?_
                  rotate_left
                  · intro w'
                    go_simp
                    with_reducible rfl
                  rotate_left
                  · simp only [Act.put, List.setIfInBounds_toArray, List.set_cons_zero, List.set_cons_succ, i64_w, i32_w]
                    rfl
                  refine pure_ (i := 13) (N := some 171) (v := ?_) (a' := ?_) #[true, true, true, true, true, true, true, true, true, true, true, true, true, true, false] rfl rfl (any_of HT_.out (by kernel_rfl)) (fun _ _ _ h => h) (Or.inl ⟨by rfl, ?_⟩) ?_ ?_
                  rotate_left
                  · intro w'
                    go_simp
                    with_reducible rfl
                  rotate_left
                  · simp only [Act.put, List.setIfInBounds_toArray, List.set_cons_zero, List.set_cons_succ, i64_w, i32_w]
                    rfl
                  refine pure_ (i := 14) (N := some 2) (v := ?_) (a' := ?_) #[true, true, true, true, true, true, true, true, true, true, true, true, true, true, true] rfl rfl (any_of HT_.out (by kernel_rfl)) (fun _ _ _ h => h) (Or.inl ⟨by rfl, ?_⟩) ?_ ?_
                  rotate_left
                  · intro w'
                    go_simp
                    with_reducible rfl
                  rotate_left
                  · simp only [Act.put, List.setIfInBounds_toArray, List.set_cons_zero, List.set_cons_succ, i64_w, i32_w]
                    rfl
                  refine done_ (done_of HT_.out (by kernel_rfl)) ?_
                  go_wp2
                  go_ret
                  exact ⟨by rw [right_yes HFO.out HQ.out HP.out HBO.out (lists_nil H9.out) (lists_in2 HBQ.out)]; rfl, HB6.out⟩
          · by_cases h10 : a.others.length = 0
            · have hpe : ((a.parts.length : Int) == 0) = false := by simpa using h9
              have H9 := Lib.hid h9
              clear h9
              have hoe : ((a.others.length : Int) == 0) = true := by simpa using h10
              have H10 := Lib.hid h10
              clear h10
              cases bo with
              | false =>
                go_wp2_with fail
                refine (HCP.out _).mono ?_
                rintro e w5 ⟨rfl, rfl⟩
                go_wp2_with fail
                repeat (go_quiet (fail); try go_wp2_with fail)
                go_ret
                exact ⟨by rw [right_no HFO.out HQ.out (no_ok HP.out HBO.out)]; rfl, pw_below_drewN HB.out _⟩
              | true =>
                cases bp with
                | false =>
                  go_wp2_with fail
                  refine (HCP.out _).mono ?_
                  rintro e w5 ⟨rfl, rfl⟩
                  go_wp2_with fail
                  repeat (go_quiet (fail); try go_wp2_with fail)
                  go_ret
                  exact ⟨by rw [right_no HFO.out HQ.out (no_parts H9.out HBP.out)]; rfl, pw_below_drewN HB.out _⟩
                | true =>
                  go_wp2_with fail
                  refine (HCP.out _).mono ?_
                  rintro e w5 ⟨rfl, rfl⟩
                  go_wp2_with fail
                  refine start_ (n := 15) (S := fun w' => w'.heap[w.heap.size]? = some (.cells (cellsOf13 a A9 c9 A10 c10) 38 (0, 0)) ∧ w'.heap[gb]? = some (.cells (bareCells P a) 38 (0, 0))) (ds := []) #[false, false, false, false, false, false, false, false, false, false, false, false, false, false, false] (by kernel_rfl) rfl rfl ⟨HA.out, HC.out⟩ (fun hHeld => ?_); refine with_tabW right13.tab36 right13.bits36 (fun HT_ HW_ => ?_)
                  have HB4 := Aside0.mk (below_drew1 HB.out)
                  generalize wr.drew = w4 at HB4 hHeld ⊢
                  refine pure_ (i := 0) (N := some 158) (v := ?_) (a' := ?_) #[true, false, false, false, false, false, false, false, false, false, false, false, false, false, false] rfl rfl (any_of HT_.out (by kernel_rfl)) (fun _ _ _ h => h) (Or.inl ⟨by rfl, ?_⟩) ?_ ?_
                  rotate_left
                  · intro w'
                    go_simp
                    with_reducible rfl
                  rotate_left
                  · simp only [Act.put, List.setIfInBounds_toArray, List.set_cons_zero, List.set_cons_succ, i64_w, i32_w]
                    rfl
                  refine pure_ (i := 1) (N := some 159) (v := ?_) (a' := ?_) #[true, true, false, false, false, false, false, false, false, false, false, false, false, false, false] rfl rfl (any_of HT_.out (by kernel_rfl)) (fun _ _ _ h => h) (Or.inl ⟨by rfl, ?_⟩) ?_ ?_
                  rotate_left
                  · intro w'
                    go_simp
                    with_reducible rfl
                  rotate_left
                  · simp only [Act.put, List.setIfInBounds_toArray, List.set_cons_zero, List.set_cons_succ, i64_w, i32_w]
                    rfl
                  refine pure_ (i := 2) (N := some 160) (v := ?_) (a' := ?_) #[true, true, true, false, false, false, false, false, false, false, false, false, false, false, false] rfl rfl (any_of HT_.out (by kernel_rfl)) (fun _ _ _ h => h) (Or.inl ⟨by rfl, ?_⟩) ?_ ?_
                  rotate_left
                  · intro w'
                    go_simp
                    with_reducible rfl
                  rotate_left
                  · simp only [Act.put, List.setIfInBounds_toArray, List.set_cons_zero, List.set_cons_succ, i64_w, i32_w]
                    rfl
                  refine pure_ (i := 3) (N := some 161) (v := ?_) (a' := ?_) #[true, true, true, true, false, false, false, false, false, false, false, false, false, false, false] rfl rfl (any_of HT_.out (by kernel_rfl)) (fun _ _ _ h => h) (Or.inl ⟨by rfl, ?_⟩) ?_ ?_
                  rotate_left
                  · intro w'
                    go_simp
                    with_reducible rfl
                  rotate_left
                  · simp only [Act.put, List.setIfInBounds_toArray, List.set_cons_zero, List.set_cons_succ, i64_w, i32_w]
                    rfl
                  refine pure_ (i := 4) (N := some 162) (v := ?_) (a' := ?_) #[true, true, true, true, true, false, false, false, false, false, false, false, false, false, false] rfl rfl (any_of HT_.out (by kernel_rfl)) (fun _ _ _ h => h) (Or.inl ⟨by rfl, ?_⟩) ?_ ?_
                  rotate_left
                  · intro w'
                    go_simp
                    with_reducible rfl
                  rotate_left
                  · simp only [Act.put, List.setIfInBounds_toArray, List.set_cons_zero, List.set_cons_succ, i64_w, i32_w]
                    rfl
                  refine pure_ (i := 5) (N := some 163) (v := ?_) (a' := ?_) #[true, true, true, true, true, true, false, false, false, false, false, false, false, false, false] rfl rfl (any_of HT_.out (by kernel_rfl)) (fun _ _ _ h => h) (Or.inl ⟨by rfl, ?_⟩) ?_ ?_
                  rotate_left
                  · intro w'
                    go_simp
                    with_reducible rfl
                  rotate_left
                  · simp only [Act.put, List.setIfInBounds_toArray, List.set_cons_zero, List.set_cons_succ, i64_w, i32_w]
                    rfl
                  refine pure_ (i := 6) (N := some 164) (v := ?_) (a' := ?_) #[true, true, true, true, true, true, true, false, false, false, false, false, false, false, false] rfl rfl (any_of HT_.out (by kernel_rfl)) (fun _ _ _ h => h) (Or.inl ⟨by rfl, ?_⟩) ?_ ?_
                  rotate_left
                  · intro w'
                    go_simp
                    with_reducible rfl
                  rotate_left
                  · simp only [Act.put, List.setIfInBounds_toArray, List.set_cons_zero, List.set_cons_succ, i64_w, i32_w]
                    rfl
                  refine pure_ (i := 7) (N := some 165) (v := ?_) (a' := ?_) #[true, true, true, true, true, true, true, true, false, false, false, false, false, false, false] rfl rfl (any_of HT_.out (by kernel_rfl)) (fun _ _ _ h => h) (Or.inl ⟨by rfl, ?_⟩) ?_ ?_
                  rotate_left
                  · intro w'
                    go_simp
                    with_reducible rfl
                  rotate_left
                  · simp only [Act.put, List.setIfInBounds_toArray, List.set_cons_zero, List.set_cons_succ, i64_w, i32_w]
                    rfl
                  refine take_ (i := 8) (N := some 166) (v := ?_) (a' := ?_) #[true, true, true, true, true, true, true, true, true, false, false, false, false, false, false] rfl rfl (take_ofW HT_.out HW_.out (by kernel_rfl)) (fun _ _ _ h => h) (Or.inl ⟨by rfl, ?_⟩) hHeld ?_ ?_
                  rotate_left
                  · rintro w' hS
                    have hc := blk_cell hS.1 0
                    have hc1 := blk_cell hS.1 1
                    have hc2 := blk_cell hS.1 2
                    have hc3 := blk_cell hS.1 3
                    have hc4 := blk_cell hS.1 4
                    have hc5 := blk_cell hS.1 5
                    have hc6 := blk_cell hS.1 6
                    have hc7 := blk_cell hS.1 7
                    have hc8 := blk_cell hS.1 8
                    have hc9 := blk_cell hS.1 9
                    have hc10 := blk_cell hS.1 10
                    go_simp
                    with_reducible rfl
                  rotate_left
                  · simp only [Act.put, List.setIfInBounds_toArray, List.set_cons_zero, List.set_cons_succ, i64_w, i32_w]
                    rfl
                  refine take_ (i := 10) (N := some 168) (v := ?_) (a' := ?_) #[true, true, true, true, true, true, true, true, true, false, true, false, false, false, false] rfl rfl (take_ofW HT_.out HW_.out (by kernel_rfl)) (fun _ _ _ h => h) (Or.inl ⟨by rfl, ?_⟩) hHeld ?_ ?_
                  rotate_left
                  · rintro w' hS
                    have hc := blk_cell hS.2 0
                    have hc1 := blk_cell hS.2 1
                    have hc2 := blk_cell hS.2 2
                    have hc3 := blk_cell hS.2 3
                    have hc4 := blk_cell hS.2 4
                    have hc5 := blk_cell hS.2 5
                    have hc6 := blk_cell hS.2 6
                    have hc7 := blk_cell hS.2 7
                    have hc8 := blk_cell hS.2 8
                    have hc9 := blk_cell hS.2 9
                    have hc10 := blk_cell hS.2 10
                    go_simp
                    with_reducible rfl
                  rotate_left
                  · simp only [Act.put, List.setIfInBounds_toArray, List.set_cons_zero, List.set_cons_succ, i64_w, i32_w]
                    rfl
                  refine one_ (i := 9) (N := some 167) #[true, true, true, true, true, true, true, true, true, true, true, false, false, false, false] rfl rfl (one_of HT_.out (by kernel_rfl)) (by decide) (fun K hK => ?_)
                  refine goes_ Tryz.func87 (by kernel_rfl) rfl #[.agg (cellsOf13 a A9 c9 A10 c10)] (by rfl) rfl rfl (by (try simp only [List.map_toArray, List.map_cons, List.map_nil]); first | done | rfl) ?_
                  refine (A.ask_plain.calls a.kind a.req a.item a.qty a.day a.days a.rank a.lot a.line A9 c9 a.parts A10 c10 a.others _ _ _ _ _ _ _ _ _ w4 (Kd.C_below HR9.out HB4.out) HC9.out (Kd.C_below HR10.out HB4.out) HC10.out rfl).mono ?_
                  rintro e w5 ⟨rfl, hb⟩
                  refine ⟨_, rfl, ?_⟩
                  have HB5 := Aside0.mk (HB4.out.trans (hb.mono HB4.out.size))
                  refine hK.out _ _ ⟨blk_below hHeld.1 hb, blk_below hHeld.2 hb⟩ (fun hHeld => ?_)
                  clear hK K
                  refine norm_ (a' := ?_) ?_ ?_
                  rotate_left
                  · show Act.put _ (some 167) _ = _
                    simp only [Act.put, List.setIfInBounds_toArray, List.set_cons_zero, List.set_cons_succ, i64_w, i32_w]
                    rfl
                  refine one_ (i := 11) (N := some 169) #[true, true, true, true, true, true, true, true, true, true, true, true, false, false, false] rfl rfl (one_of HT_.out (by kernel_rfl)) (by decide) (fun K hK => ?_)
                  refine goes_ Tryz.func87 (by kernel_rfl) rfl #[.agg (bareCells P a)] (by rfl) rfl rfl (by (try simp only [List.map_toArray, List.map_cons, List.map_nil]); first | done | rfl) ?_
                  refine (A.ask_plain.calls a.kind a.req (mask P a).item (mask P a).qty (mask P a).day (mask P a).days (mask P a).rank (mask P a).lot (mask P a).line none 0 [] none 0 [] _ _ _ _ _ _ _ _ _ w5 (Kd.C_nil _ _) (Nat.le_refl _) (Kd.C_nil _ _) (Nat.le_refl _) rfl).mono ?_
                  rintro e w6 ⟨rfl, hb⟩
                  refine ⟨_, rfl, ?_⟩
                  have HB6 := Aside0.mk (HB5.out.trans (hb.mono HB5.out.size))
                  refine hK.out _ _ ⟨blk_below hHeld.1 hb, blk_below hHeld.2 hb⟩ (fun hHeld => ?_)
                  clear hK K
                  refine norm_ (a' := ?_) ?_ ?_
                  rotate_left
                  · show Act.put _ (some 169) _ = _
                    simp only [Act.put, List.setIfInBounds_toArray, List.set_cons_zero, List.set_cons_succ, i64_w, i32_w]
                    rfl
                  refine pure_ (i := 12) (N := some 170) (v := ?_) (a' := ?_) #[true, true, true, true, true, true, true, true, true, true, true, true, true, false, false] rfl rfl (any_of HT_.out (by kernel_rfl)) (fun _ _ _ h => h) (Or.inl ⟨by rfl, ?_⟩) ?_ ?_
                  rotate_left
                  · intro w'
                    go_simp
                    with_reducible rfl
                  rotate_left
                  · simp only [Act.put, List.setIfInBounds_toArray, List.set_cons_zero, List.set_cons_succ, i64_w, i32_w]
                    rfl
                  refine pure_ (i := 13) (N := some 171) (v := ?_) (a' := ?_) #[true, true, true, true, true, true, true, true, true, true, true, true, true, true, false] rfl rfl (any_of HT_.out (by kernel_rfl)) (fun _ _ _ h => h) (Or.inl ⟨by rfl, ?_⟩) ?_ ?_
                  rotate_left
                  · intro w'
                    go_simp
                    with_reducible rfl
                  rotate_left
                  · simp only [Act.put, List.setIfInBounds_toArray, List.set_cons_zero, List.set_cons_succ, i64_w, i32_w]
                    rfl
                  refine pure_ (i := 14) (N := some 2) (v := ?_) (a' := ?_) #[true, true, true, true, true, true, true, true, true, true, true, true, true, true, true] rfl rfl (any_of HT_.out (by kernel_rfl)) (fun _ _ _ h => h) (Or.inl ⟨by rfl, ?_⟩) ?_ ?_
                  rotate_left
                  · intro w'
                    go_simp
                    with_reducible rfl
                  rotate_left
                  · simp only [Act.put, List.setIfInBounds_toArray, List.set_cons_zero, List.set_cons_succ, i64_w, i32_w]
                    rfl
                  refine done_ (done_of HT_.out (by kernel_rfl)) ?_
                  go_wp2
                  go_ret
                  exact ⟨by rw [right_yes HFO.out HQ.out HP.out HBO.out (lists_in HBP.out) (lists_nil2 H10.out)]; rfl, HB6.out⟩
            · have hpe : ((a.parts.length : Int) == 0) = false := by simpa using h9
              have H9 := Lib.hid h9
              clear h9
              have hoe : ((a.others.length : Int) == 0) = false := by simpa using h10
              have H10 := Lib.hid h10
              clear h10
              cases bo with
              | false =>
                go_wp2_with fail
                refine (HCP.out _).mono ?_
                rintro e w5 ⟨rfl, rfl⟩
                go_wp2_with fail
                refine (HCO.out _).mono ?_
                rintro e w5 ⟨rfl, rfl⟩
                go_wp2_with fail
                repeat (go_quiet (fail); try go_wp2_with fail)
                go_ret
                exact ⟨by rw [right_no HFO.out HQ.out (no_ok HP.out HBO.out)]; rfl, pw_below_drewN HB.out _⟩
              | true =>
                cases bp with
                | false =>
                  go_wp2_with fail
                  refine (HCP.out _).mono ?_
                  rintro e w5 ⟨rfl, rfl⟩
                  go_wp2_with fail
                  refine (HCO.out _).mono ?_
                  rintro e w5 ⟨rfl, rfl⟩
                  go_wp2_with fail
                  repeat (go_quiet (fail); try go_wp2_with fail)
                  go_ret
                  exact ⟨by rw [right_no HFO.out HQ.out (no_parts H9.out HBP.out)]; rfl, pw_below_drewN HB.out _⟩
                | true =>
                  cases bq with
                  | false =>
                    go_wp2_with fail
                    refine (HCP.out _).mono ?_
                    rintro e w5 ⟨rfl, rfl⟩
                    go_wp2_with fail
                    refine (HCO.out _).mono ?_
                    rintro e w5 ⟨rfl, rfl⟩
                    go_wp2_with fail
                    repeat (go_quiet (fail); try go_wp2_with fail)
                    go_ret
                    exact ⟨by rw [right_no HFO.out HQ.out (no_others H10.out HBQ.out)]; rfl, pw_below_drewN HB.out _⟩
                  | true =>
                    go_wp2_with fail
                    refine (HCP.out _).mono ?_
                    rintro e w5 ⟨rfl, rfl⟩
                    go_wp2_with fail
                    refine (HCO.out _).mono ?_
                    rintro e w5 ⟨rfl, rfl⟩
                    go_wp2_with fail
                    refine start_ (n := 15) (S := fun w' => w'.heap[w.heap.size]? = some (.cells (cellsOf13 a A9 c9 A10 c10) 38 (0, 0)) ∧ w'.heap[gb]? = some (.cells (bareCells P a) 38 (0, 0))) (ds := []) #[false, false, false, false, false, false, false, false, false, false, false, false, false, false, false] (by kernel_rfl) rfl rfl ⟨HA.out, HC.out⟩ (fun hHeld => ?_); refine with_tabW right13.tab36 right13.bits36 (fun HT_ HW_ => ?_)
                    have HB4 := Aside0.mk (below_drew1 HB.out)
                    generalize wr.drew = w4 at HB4 hHeld ⊢
                    refine pure_ (i := 0) (N := some 158) (v := ?_) (a' := ?_) #[true, false, false, false, false, false, false, false, false, false, false, false, false, false, false] rfl rfl (any_of HT_.out (by kernel_rfl)) (fun _ _ _ h => h) (Or.inl ⟨by rfl, ?_⟩) ?_ ?_
                    rotate_left
                    · intro w'
                      go_simp
                      with_reducible rfl
                    rotate_left
                    · simp only [Act.put, List.setIfInBounds_toArray, List.set_cons_zero, List.set_cons_succ, i64_w, i32_w]
                      rfl
                    refine pure_ (i := 1) (N := some 159) (v := ?_) (a' := ?_) #[true, true, false, false, false, false, false, false, false, false, false, false, false, false, false] rfl rfl (any_of HT_.out (by kernel_rfl)) (fun _ _ _ h => h) (Or.inl ⟨by rfl, ?_⟩) ?_ ?_
                    rotate_left
                    · intro w'
                      go_simp
                      with_reducible rfl
                    rotate_left
                    · simp only [Act.put, List.setIfInBounds_toArray, List.set_cons_zero, List.set_cons_succ, i64_w, i32_w]
                      rfl
                    refine pure_ (i := 2) (N := some 160) (v := ?_) (a' := ?_) #[true, true, true, false, false, false, false, false, false, false, false, false, false, false, false] rfl rfl (any_of HT_.out (by kernel_rfl)) (fun _ _ _ h => h) (Or.inl ⟨by rfl, ?_⟩) ?_ ?_
                    rotate_left
                    · intro w'
                      go_simp
                      with_reducible rfl
                    rotate_left
                    · simp only [Act.put, List.setIfInBounds_toArray, List.set_cons_zero, List.set_cons_succ, i64_w, i32_w]
                      rfl
                    refine pure_ (i := 3) (N := some 161) (v := ?_) (a' := ?_) #[true, true, true, true, false, false, false, false, false, false, false, false, false, false, false] rfl rfl (any_of HT_.out (by kernel_rfl)) (fun _ _ _ h => h) (Or.inl ⟨by rfl, ?_⟩) ?_ ?_
                    rotate_left
                    · intro w'
                      go_simp
                      with_reducible rfl
                    rotate_left
                    · simp only [Act.put, List.setIfInBounds_toArray, List.set_cons_zero, List.set_cons_succ, i64_w, i32_w]
                      rfl
                    refine pure_ (i := 4) (N := some 162) (v := ?_) (a' := ?_) #[true, true, true, true, true, false, false, false, false, false, false, false, false, false, false] rfl rfl (any_of HT_.out (by kernel_rfl)) (fun _ _ _ h => h) (Or.inl ⟨by rfl, ?_⟩) ?_ ?_
                    rotate_left
                    · intro w'
                      go_simp
                      with_reducible rfl
                    rotate_left
                    · simp only [Act.put, List.setIfInBounds_toArray, List.set_cons_zero, List.set_cons_succ, i64_w, i32_w]
                      rfl
                    refine pure_ (i := 5) (N := some 163) (v := ?_) (a' := ?_) #[true, true, true, true, true, true, false, false, false, false, false, false, false, false, false] rfl rfl (any_of HT_.out (by kernel_rfl)) (fun _ _ _ h => h) (Or.inl ⟨by rfl, ?_⟩) ?_ ?_
                    rotate_left
                    · intro w'
                      go_simp
                      with_reducible rfl
                    rotate_left
                    · simp only [Act.put, List.setIfInBounds_toArray, List.set_cons_zero, List.set_cons_succ, i64_w, i32_w]
                      rfl
                    refine pure_ (i := 6) (N := some 164) (v := ?_) (a' := ?_) #[true, true, true, true, true, true, true, false, false, false, false, false, false, false, false] rfl rfl (any_of HT_.out (by kernel_rfl)) (fun _ _ _ h => h) (Or.inl ⟨by rfl, ?_⟩) ?_ ?_
                    rotate_left
                    · intro w'
                      go_simp
                      with_reducible rfl
                    rotate_left
                    · simp only [Act.put, List.setIfInBounds_toArray, List.set_cons_zero, List.set_cons_succ, i64_w, i32_w]
                      rfl
                    refine pure_ (i := 7) (N := some 165) (v := ?_) (a' := ?_) #[true, true, true, true, true, true, true, true, false, false, false, false, false, false, false] rfl rfl (any_of HT_.out (by kernel_rfl)) (fun _ _ _ h => h) (Or.inl ⟨by rfl, ?_⟩) ?_ ?_
                    rotate_left
                    · intro w'
                      go_simp
                      with_reducible rfl
                    rotate_left
                    · simp only [Act.put, List.setIfInBounds_toArray, List.set_cons_zero, List.set_cons_succ, i64_w, i32_w]
                      rfl
                    refine take_ (i := 8) (N := some 166) (v := ?_) (a' := ?_) #[true, true, true, true, true, true, true, true, true, false, false, false, false, false, false] rfl rfl (take_ofW HT_.out HW_.out (by kernel_rfl)) (fun _ _ _ h => h) (Or.inl ⟨by rfl, ?_⟩) hHeld ?_ ?_
                    rotate_left
                    · rintro w' hS
                      have hc := blk_cell hS.1 0
                      have hc1 := blk_cell hS.1 1
                      have hc2 := blk_cell hS.1 2
                      have hc3 := blk_cell hS.1 3
                      have hc4 := blk_cell hS.1 4
                      have hc5 := blk_cell hS.1 5
                      have hc6 := blk_cell hS.1 6
                      have hc7 := blk_cell hS.1 7
                      have hc8 := blk_cell hS.1 8
                      have hc9 := blk_cell hS.1 9
                      have hc10 := blk_cell hS.1 10
                      go_simp
                      with_reducible rfl
                    rotate_left
                    · simp only [Act.put, List.setIfInBounds_toArray, List.set_cons_zero, List.set_cons_succ, i64_w, i32_w]
                      rfl
                    refine take_ (i := 10) (N := some 168) (v := ?_) (a' := ?_) #[true, true, true, true, true, true, true, true, true, false, true, false, false, false, false] rfl rfl (take_ofW HT_.out HW_.out (by kernel_rfl)) (fun _ _ _ h => h) (Or.inl ⟨by rfl, ?_⟩) hHeld ?_ ?_
                    rotate_left
                    · rintro w' hS
                      have hc := blk_cell hS.2 0
                      have hc1 := blk_cell hS.2 1
                      have hc2 := blk_cell hS.2 2
                      have hc3 := blk_cell hS.2 3
                      have hc4 := blk_cell hS.2 4
                      have hc5 := blk_cell hS.2 5
                      have hc6 := blk_cell hS.2 6
                      have hc7 := blk_cell hS.2 7
                      have hc8 := blk_cell hS.2 8
                      have hc9 := blk_cell hS.2 9
                      have hc10 := blk_cell hS.2 10
                      go_simp
                      with_reducible rfl
                    rotate_left
                    · simp only [Act.put, List.setIfInBounds_toArray, List.set_cons_zero, List.set_cons_succ, i64_w, i32_w]
                      rfl
                    refine one_ (i := 9) (N := some 167) #[true, true, true, true, true, true, true, true, true, true, true, false, false, false, false] rfl rfl (one_of HT_.out (by kernel_rfl)) (by decide) (fun K hK => ?_)
                    refine goes_ Tryz.func87 (by kernel_rfl) rfl #[.agg (cellsOf13 a A9 c9 A10 c10)] (by rfl) rfl rfl (by (try simp only [List.map_toArray, List.map_cons, List.map_nil]); first | done | rfl) ?_
                    refine (A.ask_plain.calls a.kind a.req a.item a.qty a.day a.days a.rank a.lot a.line A9 c9 a.parts A10 c10 a.others _ _ _ _ _ _ _ _ _ w4 (Kd.C_below HR9.out HB4.out) HC9.out (Kd.C_below HR10.out HB4.out) HC10.out rfl).mono ?_
                    rintro e w5 ⟨rfl, hb⟩
                    refine ⟨_, rfl, ?_⟩
                    have HB5 := Aside0.mk (HB4.out.trans (hb.mono HB4.out.size))
                    refine hK.out _ _ ⟨blk_below hHeld.1 hb, blk_below hHeld.2 hb⟩ (fun hHeld => ?_)
                    clear hK K
                    refine norm_ (a' := ?_) ?_ ?_
                    rotate_left
                    · show Act.put _ (some 167) _ = _
                      simp only [Act.put, List.setIfInBounds_toArray, List.set_cons_zero, List.set_cons_succ, i64_w, i32_w]
                      rfl
                    refine one_ (i := 11) (N := some 169) #[true, true, true, true, true, true, true, true, true, true, true, true, false, false, false] rfl rfl (one_of HT_.out (by kernel_rfl)) (by decide) (fun K hK => ?_)
                    refine goes_ Tryz.func87 (by kernel_rfl) rfl #[.agg (bareCells P a)] (by rfl) rfl rfl (by (try simp only [List.map_toArray, List.map_cons, List.map_nil]); first | done | rfl) ?_
                    refine (A.ask_plain.calls a.kind a.req (mask P a).item (mask P a).qty (mask P a).day (mask P a).days (mask P a).rank (mask P a).lot (mask P a).line none 0 [] none 0 [] _ _ _ _ _ _ _ _ _ w5 (Kd.C_nil _ _) (Nat.le_refl _) (Kd.C_nil _ _) (Nat.le_refl _) rfl).mono ?_
                    rintro e w6 ⟨rfl, hb⟩
                    refine ⟨_, rfl, ?_⟩
                    have HB6 := Aside0.mk (HB5.out.trans (hb.mono HB5.out.size))
                    refine hK.out _ _ ⟨blk_below hHeld.1 hb, blk_below hHeld.2 hb⟩ (fun hHeld => ?_)
                    clear hK K
                    refine norm_ (a' := ?_) ?_ ?_
                    rotate_left
                    · show Act.put _ (some 169) _ = _
                      simp only [Act.put, List.setIfInBounds_toArray, List.set_cons_zero, List.set_cons_succ, i64_w, i32_w]
                      rfl
                    refine pure_ (i := 12) (N := some 170) (v := ?_) (a' := ?_) #[true, true, true, true, true, true, true, true, true, true, true, true, true, false, false] rfl rfl (any_of HT_.out (by kernel_rfl)) (fun _ _ _ h => h) (Or.inl ⟨by rfl, ?_⟩) ?_ ?_
                    rotate_left
                    · intro w'
                      go_simp
                      with_reducible rfl
                    rotate_left
                    · simp only [Act.put, List.setIfInBounds_toArray, List.set_cons_zero, List.set_cons_succ, i64_w, i32_w]
                      rfl
                    refine pure_ (i := 13) (N := some 171) (v := ?_) (a' := ?_) #[true, true, true, true, true, true, true, true, true, true, true, true, true, true, false] rfl rfl (any_of HT_.out (by kernel_rfl)) (fun _ _ _ h => h) (Or.inl ⟨by rfl, ?_⟩) ?_ ?_
                    rotate_left
                    · intro w'
                      go_simp
                      with_reducible rfl
                    rotate_left
                    · simp only [Act.put, List.setIfInBounds_toArray, List.set_cons_zero, List.set_cons_succ, i64_w, i32_w]
                      rfl
                    refine pure_ (i := 14) (N := some 2) (v := ?_) (a' := ?_) #[true, true, true, true, true, true, true, true, true, true, true, true, true, true, true] rfl rfl (any_of HT_.out (by kernel_rfl)) (fun _ _ _ h => h) (Or.inl ⟨by rfl, ?_⟩) ?_ ?_
                    rotate_left
                    · intro w'
                      go_simp
                      with_reducible rfl
                    rotate_left
                    · simp only [Act.put, List.setIfInBounds_toArray, List.set_cons_zero, List.set_cons_succ, i64_w, i32_w]
                      rfl
                    refine done_ (done_of HT_.out (by kernel_rfl)) ?_
                    go_wp2
                    go_ret
                    exact ⟨by rw [right_yes HFO.out HQ.out HP.out HBO.out (lists_in HBP.out) (lists_in2 HBQ.out)]; rfl, HB6.out⟩
        | cons c r =>
          have hwn0 : ∃ wn, wn = wr.iterAt (gb + 1) s (P.length + 1) := ⟨_, rfl⟩
          obtain ⟨wn, hwn0⟩ := hwn0
          have hwn := Lib.hid hwn0
          have HBn : Aside0 (Below w.heap.size w wn) := Aside0.mk (by rw [hwn0]; exact Lib.below_iterAt HB.out (k := gb + 1) (by have := HGB.out; omega) s _)
          have HAn : Aside0 (wn.heap[w.heap.size]? = some (.cells (cellsOf13 a A9 c9 A10 c10) 38 (0, 0))) := Aside0.mk (by rw [hwn0, Lib.iterAt_other _ _ _ _ _ (by have := HAB.out; omega)]; exact HA.out)
          have HCn : Aside0 (wn.heap[gb]? = some (.cells (bareCells P a) 38 (0, 0))) := Aside0.mk (by rw [hwn0, Lib.iterAt_other _ _ _ _ _ (by omega)]; exact HC.out)
          have HIn : Aside0 (wn.heap[gb + 1]? = some (.stringIter s (P.length + 1))) := Aside0.mk (by rw [hwn0]; exact Lib.iterAt_heap _ _ _ _ _ HI.out)
          clear hwn0 HB HA HC
          cases c with
          | i =>
            have hnx : ∀ ty, (Instr.next (.pointer (some ⟨gb + 1, 0, none⟩)) true ty).run Tryz.prog wr = .ok (.tuple #[.bool true, .int .i64 P.length, .int .i32 105]) wn := fun ty => by rw [hwn.out]; exact next_fld wr (gb + 1) s P r .i (by rw [HTX.out, HFP.out]) HI.out ty
            cases hok : P.all a.ok with
            | true =>
              have HOK := Lib.hid hok
              clear hok
              have HK : Hid (∀ w, Calls Tryz.prog 48 #[.string a.item] w fun e w' => e = .returned (.bool (a.ok .i)) ∧ Below w.heap.size w w') := Lib.hid fun w => right_any a.item w
              have k2 : wn.cell? ⟨w.heap.size, 2, none⟩ = some (.string a.item) := blk_cell HAn.out 2
              go_wp2_with fail
              refine (HK.out _).mono ?_
              rintro e w3 ⟨rfl, hb⟩
              have HB3 := Aside0.mk (HBn.out.trans (hb.mono HBn.out.size))
              have HA3 := Aside0.mk (blk_below HAn.out hb)
              have HC3 := Aside0.mk (blk_below HCn.out hb)
              have HI3 := Aside0.mk (blk_below HIn.out hb)
              clear hb HBn HAn HCn HIn
              clear k2
              have k2 : w3.cell? ⟨w.heap.size, 2, none⟩ = some (.string a.item) := blk_cell HA3.out 2
              have b2 : w3.cell? ⟨gb, 2, none⟩ = some (.string (mask P a).item) := blk_cell HC3.out 2
              have z2 : w3.frozen? ⟨gb, 2, none⟩ = false := blk_frozen HC3.out 2
              go_wp2
              go_roundg (r.length + 1)
              case measure => simp
              case rel => exact ⟨P ++ [.i], r, by rw [HFP.out]; simp, rfl, by first | rfl | simp [HOK.out], Aside0.mk (HB3.out.setCell HGB.out _), Aside0.mk (blk_far HA3.out (Nat.ne_of_lt HAB.out) _), Aside0.mk (blk_put HC3.out 2 (.string a.item) (bare_i P a)), Aside0.mk (((Below.heap_setCell _ _ _ _ (by show gb + 1 ≠ gb; omega)).trans HI3.out).trans (by simp))⟩
            | false =>
              have HOK := Lib.hid hok
              clear hok
              have k2 : wn.cell? ⟨w.heap.size, 2, none⟩ = some (.string a.item) := blk_cell HAn.out 2
              have b2 : wn.cell? ⟨gb, 2, none⟩ = some (.string (mask P a).item) := blk_cell HCn.out 2
              have z2 : wn.frozen? ⟨gb, 2, none⟩ = false := blk_frozen HCn.out 2
              go_wp2
              go_roundg (r.length + 1)
              case measure => simp
              case rel => exact ⟨P ++ [.i], r, by rw [HFP.out]; simp, rfl, by first | rfl | simp [HOK.out], Aside0.mk (HBn.out.setCell HGB.out _), Aside0.mk (blk_far HAn.out (Nat.ne_of_lt HAB.out) _), Aside0.mk (blk_put HCn.out 2 (.string a.item) (bare_i P a)), Aside0.mk (((Below.heap_setCell _ _ _ _ (by show gb + 1 ≠ gb; omega)).trans HIn.out).trans (by simp))⟩
          | q =>
            have hnx : ∀ ty, (Instr.next (.pointer (some ⟨gb + 1, 0, none⟩)) true ty).run Tryz.prog wr = .ok (.tuple #[.bool true, .int .i64 P.length, .int .i32 113]) wn := fun ty => by rw [hwn.out]; exact next_fld wr (gb + 1) s P r .q (by rw [HTX.out, HFP.out]) HI.out ty
            cases hok : P.all a.ok with
            | true =>
              have HOK := Lib.hid hok
              clear hok
              have HK : Hid (∀ w, Calls Tryz.prog 82 #[.int .i64 a.qty, .int .i64 1, .int .i64 1073741824] w fun e w' => e = .returned (.bool (a.ok .q)) ∧ Below w.heap.size w w') := Lib.hid fun w => within_calls a.qty 1 1073741824 w
              have k3 : wn.cell? ⟨w.heap.size, 3, none⟩ = some (.int .i64 a.qty) := blk_cell HAn.out 3
              go_wp2_with fail
              refine (HK.out _).mono ?_
              rintro e w3 ⟨rfl, hb⟩
              have HB3 := Aside0.mk (HBn.out.trans (hb.mono HBn.out.size))
              have HA3 := Aside0.mk (blk_below HAn.out hb)
              have HC3 := Aside0.mk (blk_below HCn.out hb)
              have HI3 := Aside0.mk (blk_below HIn.out hb)
              clear hb HBn HAn HCn HIn
              clear k3
              have k3 : w3.cell? ⟨w.heap.size, 3, none⟩ = some (.int .i64 a.qty) := blk_cell HA3.out 3
              have b3 : w3.cell? ⟨gb, 3, none⟩ = some (.int .i64 (mask P a).qty) := blk_cell HC3.out 3
              have z3 : w3.frozen? ⟨gb, 3, none⟩ = false := blk_frozen HC3.out 3
              go_wp2
              go_roundg (r.length + 1)
              case measure => simp
              case rel => exact ⟨P ++ [.q], r, by rw [HFP.out]; simp, rfl, by first | rfl | simp [HOK.out], Aside0.mk (HB3.out.setCell HGB.out _), Aside0.mk (blk_far HA3.out (Nat.ne_of_lt HAB.out) _), Aside0.mk (blk_put HC3.out 3 (.int .i64 a.qty) (bare_q P a)), Aside0.mk (((Below.heap_setCell _ _ _ _ (by show gb + 1 ≠ gb; omega)).trans HI3.out).trans (by simp))⟩
            | false =>
              have HOK := Lib.hid hok
              clear hok
              have k3 : wn.cell? ⟨w.heap.size, 3, none⟩ = some (.int .i64 a.qty) := blk_cell HAn.out 3
              have b3 : wn.cell? ⟨gb, 3, none⟩ = some (.int .i64 (mask P a).qty) := blk_cell HCn.out 3
              have z3 : wn.frozen? ⟨gb, 3, none⟩ = false := blk_frozen HCn.out 3
              go_wp2
              go_roundg (r.length + 1)
              case measure => simp
              case rel => exact ⟨P ++ [.q], r, by rw [HFP.out]; simp, rfl, by first | rfl | simp [HOK.out], Aside0.mk (HBn.out.setCell HGB.out _), Aside0.mk (blk_far HAn.out (Nat.ne_of_lt HAB.out) _), Aside0.mk (blk_put HCn.out 3 (.int .i64 a.qty) (bare_q P a)), Aside0.mk (((Below.heap_setCell _ _ _ _ (by show gb + 1 ≠ gb; omega)).trans HIn.out).trans (by simp))⟩
          | d =>
            have hnx : ∀ ty, (Instr.next (.pointer (some ⟨gb + 1, 0, none⟩)) true ty).run Tryz.prog wr = .ok (.tuple #[.bool true, .int .i64 P.length, .int .i32 100]) wn := fun ty => by rw [hwn.out]; exact next_fld wr (gb + 1) s P r .d (by rw [HTX.out, HFP.out]) HI.out ty
            cases hok : P.all a.ok with
            | true =>
              have HOK := Lib.hid hok
              clear hok
              have HK : Hid (∀ w, Calls Tryz.prog 82 #[.int .i64 a.day, .int .i64 0, .int .i64 4000] w fun e w' => e = .returned (.bool (a.ok .d)) ∧ Below w.heap.size w w') := Lib.hid fun w => within_calls a.day 0 4000 w
              have k4 : wn.cell? ⟨w.heap.size, 4, none⟩ = some (.int .i64 a.day) := blk_cell HAn.out 4
              go_wp2_with fail
              refine (HK.out _).mono ?_
              rintro e w3 ⟨rfl, hb⟩
              have HB3 := Aside0.mk (HBn.out.trans (hb.mono HBn.out.size))
              have HA3 := Aside0.mk (blk_below HAn.out hb)
              have HC3 := Aside0.mk (blk_below HCn.out hb)
              have HI3 := Aside0.mk (blk_below HIn.out hb)
              clear hb HBn HAn HCn HIn
              clear k4
              have k4 : w3.cell? ⟨w.heap.size, 4, none⟩ = some (.int .i64 a.day) := blk_cell HA3.out 4
              have b4 : w3.cell? ⟨gb, 4, none⟩ = some (.int .i64 (mask P a).day) := blk_cell HC3.out 4
              have z4 : w3.frozen? ⟨gb, 4, none⟩ = false := blk_frozen HC3.out 4
              go_wp2
              go_roundg (r.length + 1)
              case measure => simp
              case rel => exact ⟨P ++ [.d], r, by rw [HFP.out]; simp, rfl, by first | rfl | simp [HOK.out], Aside0.mk (HB3.out.setCell HGB.out _), Aside0.mk (blk_far HA3.out (Nat.ne_of_lt HAB.out) _), Aside0.mk (blk_put HC3.out 4 (.int .i64 a.day) (bare_d P a)), Aside0.mk (((Below.heap_setCell _ _ _ _ (by show gb + 1 ≠ gb; omega)).trans HI3.out).trans (by simp))⟩
            | false =>
              have HOK := Lib.hid hok
              clear hok
              have k4 : wn.cell? ⟨w.heap.size, 4, none⟩ = some (.int .i64 a.day) := blk_cell HAn.out 4
              have b4 : wn.cell? ⟨gb, 4, none⟩ = some (.int .i64 (mask P a).day) := blk_cell HCn.out 4
              have z4 : wn.frozen? ⟨gb, 4, none⟩ = false := blk_frozen HCn.out 4
              go_wp2
              go_roundg (r.length + 1)
              case measure => simp
              case rel => exact ⟨P ++ [.d], r, by rw [HFP.out]; simp, rfl, by first | rfl | simp [HOK.out], Aside0.mk (HBn.out.setCell HGB.out _), Aside0.mk (blk_far HAn.out (Nat.ne_of_lt HAB.out) _), Aside0.mk (blk_put HCn.out 4 (.int .i64 a.day) (bare_d P a)), Aside0.mk (((Below.heap_setCell _ _ _ _ (by show gb + 1 ≠ gb; omega)).trans HIn.out).trans (by simp))⟩
          | l =>
            have hnx : ∀ ty, (Instr.next (.pointer (some ⟨gb + 1, 0, none⟩)) true ty).run Tryz.prog wr = .ok (.tuple #[.bool true, .int .i64 P.length, .int .i32 108]) wn := fun ty => by rw [hwn.out]; exact next_fld wr (gb + 1) s P r .l (by rw [HTX.out, HFP.out]) HI.out ty
            cases hok : P.all a.ok with
            | true =>
              have HOK := Lib.hid hok
              clear hok
              have HK : Hid (∀ w, Calls Tryz.prog 82 #[.int .i64 a.days, .int .i64 1, .int .i64 2000] w fun e w' => e = .returned (.bool (a.ok .l)) ∧ Below w.heap.size w w') := Lib.hid fun w => within_calls a.days 1 2000 w
              have k5 : wn.cell? ⟨w.heap.size, 5, none⟩ = some (.int .i64 a.days) := blk_cell HAn.out 5
              go_wp2_with fail
              refine (HK.out _).mono ?_
              rintro e w3 ⟨rfl, hb⟩
              have HB3 := Aside0.mk (HBn.out.trans (hb.mono HBn.out.size))
              have HA3 := Aside0.mk (blk_below HAn.out hb)
              have HC3 := Aside0.mk (blk_below HCn.out hb)
              have HI3 := Aside0.mk (blk_below HIn.out hb)
              clear hb HBn HAn HCn HIn
              clear k5
              have k5 : w3.cell? ⟨w.heap.size, 5, none⟩ = some (.int .i64 a.days) := blk_cell HA3.out 5
              have b5 : w3.cell? ⟨gb, 5, none⟩ = some (.int .i64 (mask P a).days) := blk_cell HC3.out 5
              have z5 : w3.frozen? ⟨gb, 5, none⟩ = false := blk_frozen HC3.out 5
              go_wp2
              go_roundg (r.length + 1)
              case measure => simp
              case rel => exact ⟨P ++ [.l], r, by rw [HFP.out]; simp, rfl, by first | rfl | simp [HOK.out], Aside0.mk (HB3.out.setCell HGB.out _), Aside0.mk (blk_far HA3.out (Nat.ne_of_lt HAB.out) _), Aside0.mk (blk_put HC3.out 5 (.int .i64 a.days) (bare_l P a)), Aside0.mk (((Below.heap_setCell _ _ _ _ (by show gb + 1 ≠ gb; omega)).trans HI3.out).trans (by simp))⟩
            | false =>
              have HOK := Lib.hid hok
              clear hok
              have k5 : wn.cell? ⟨w.heap.size, 5, none⟩ = some (.int .i64 a.days) := blk_cell HAn.out 5
              have b5 : wn.cell? ⟨gb, 5, none⟩ = some (.int .i64 (mask P a).days) := blk_cell HCn.out 5
              have z5 : wn.frozen? ⟨gb, 5, none⟩ = false := blk_frozen HCn.out 5
              go_wp2
              go_roundg (r.length + 1)
              case measure => simp
              case rel => exact ⟨P ++ [.l], r, by rw [HFP.out]; simp, rfl, by first | rfl | simp [HOK.out], Aside0.mk (HBn.out.setCell HGB.out _), Aside0.mk (blk_far HAn.out (Nat.ne_of_lt HAB.out) _), Aside0.mk (blk_put HCn.out 5 (.int .i64 a.days) (bare_l P a)), Aside0.mk (((Below.heap_setCell _ _ _ _ (by show gb + 1 ≠ gb; omega)).trans HIn.out).trans (by simp))⟩
          | r =>
            have hnx : ∀ ty, (Instr.next (.pointer (some ⟨gb + 1, 0, none⟩)) true ty).run Tryz.prog wr = .ok (.tuple #[.bool true, .int .i64 P.length, .int .i32 114]) wn := fun ty => by rw [hwn.out]; exact next_fld wr (gb + 1) s P r .r (by rw [HTX.out, HFP.out]) HI.out ty
            cases hok : P.all a.ok with
            | true =>
              have HOK := Lib.hid hok
              clear hok
              have HK : Hid (∀ w, Calls Tryz.prog 82 #[.int .i64 a.rank, .int .i64 0, .int .i64 99] w fun e w' => e = .returned (.bool (a.ok .r)) ∧ Below w.heap.size w w') := Lib.hid fun w => within_calls a.rank 0 99 w
              have k6 : wn.cell? ⟨w.heap.size, 6, none⟩ = some (.int .i64 a.rank) := blk_cell HAn.out 6
              go_wp2_with fail
              refine (HK.out _).mono ?_
              rintro e w3 ⟨rfl, hb⟩
              have HB3 := Aside0.mk (HBn.out.trans (hb.mono HBn.out.size))
              have HA3 := Aside0.mk (blk_below HAn.out hb)
              have HC3 := Aside0.mk (blk_below HCn.out hb)
              have HI3 := Aside0.mk (blk_below HIn.out hb)
              clear hb HBn HAn HCn HIn
              clear k6
              have k6 : w3.cell? ⟨w.heap.size, 6, none⟩ = some (.int .i64 a.rank) := blk_cell HA3.out 6
              have b6 : w3.cell? ⟨gb, 6, none⟩ = some (.int .i64 (mask P a).rank) := blk_cell HC3.out 6
              have z6 : w3.frozen? ⟨gb, 6, none⟩ = false := blk_frozen HC3.out 6
              go_wp2
              go_roundg (r.length + 1)
              case measure => simp
              case rel => exact ⟨P ++ [.r], r, by rw [HFP.out]; simp, rfl, by first | rfl | simp [HOK.out], Aside0.mk (HB3.out.setCell HGB.out _), Aside0.mk (blk_far HA3.out (Nat.ne_of_lt HAB.out) _), Aside0.mk (blk_put HC3.out 6 (.int .i64 a.rank) (bare_r P a)), Aside0.mk (((Below.heap_setCell _ _ _ _ (by show gb + 1 ≠ gb; omega)).trans HI3.out).trans (by simp))⟩
            | false =>
              have HOK := Lib.hid hok
              clear hok
              have k6 : wn.cell? ⟨w.heap.size, 6, none⟩ = some (.int .i64 a.rank) := blk_cell HAn.out 6
              have b6 : wn.cell? ⟨gb, 6, none⟩ = some (.int .i64 (mask P a).rank) := blk_cell HCn.out 6
              have z6 : wn.frozen? ⟨gb, 6, none⟩ = false := blk_frozen HCn.out 6
              go_wp2
              go_roundg (r.length + 1)
              case measure => simp
              case rel => exact ⟨P ++ [.r], r, by rw [HFP.out]; simp, rfl, by first | rfl | simp [HOK.out], Aside0.mk (HBn.out.setCell HGB.out _), Aside0.mk (blk_far HAn.out (Nat.ne_of_lt HAB.out) _), Aside0.mk (blk_put HCn.out 6 (.int .i64 a.rank) (bare_r P a)), Aside0.mk (((Below.heap_setCell _ _ _ _ (by show gb + 1 ≠ gb; omega)).trans HIn.out).trans (by simp))⟩
          | t =>
            have hnx : ∀ ty, (Instr.next (.pointer (some ⟨gb + 1, 0, none⟩)) true ty).run Tryz.prog wr = .ok (.tuple #[.bool true, .int .i64 P.length, .int .i32 116]) wn := fun ty => by rw [hwn.out]; exact next_fld wr (gb + 1) s P r .t (by rw [HTX.out, HFP.out]) HI.out ty
            cases hok : P.all a.ok with
            | true =>
              have HOK := Lib.hid hok
              clear hok
              by_cases hl : 0 < a.lot
              · have hd : decide (0 < a.lot) = true := decide_eq_true hl
                have HLT := Lib.hid hl
                clear hl
                have k7 : wn.cell? ⟨w.heap.size, 7, none⟩ = some (.int .i64 a.lot) := blk_cell HAn.out 7
                have b7 : wn.cell? ⟨gb, 7, none⟩ = some (.int .i64 (mask P a).lot) := blk_cell HCn.out 7
                have z7 : wn.frozen? ⟨gb, 7, none⟩ = false := blk_frozen HCn.out 7
                go_wp2
                go_roundg (r.length + 1)
                case measure => simp
                case rel => exact ⟨P ++ [.t], r, by rw [HFP.out]; simp, rfl, by first | rfl | simp [HOK.out, Cmd.ok, HLT.out], Aside0.mk (HBn.out.setCell HGB.out _), Aside0.mk (blk_far HAn.out (Nat.ne_of_lt HAB.out) _), Aside0.mk (blk_put HCn.out 7 (.int .i64 a.lot) (bare_t P a)), Aside0.mk (((Below.heap_setCell _ _ _ _ (by show gb + 1 ≠ gb; omega)).trans HIn.out).trans (by simp))⟩
              · have hd : decide (0 < a.lot) = false := decide_eq_false hl
                have HLT := Lib.hid hl
                clear hl
                have k7 : wn.cell? ⟨w.heap.size, 7, none⟩ = some (.int .i64 a.lot) := blk_cell HAn.out 7
                have b7 : wn.cell? ⟨gb, 7, none⟩ = some (.int .i64 (mask P a).lot) := blk_cell HCn.out 7
                have z7 : wn.frozen? ⟨gb, 7, none⟩ = false := blk_frozen HCn.out 7
                go_wp2
                go_roundg (r.length + 1)
                case measure => simp
                case rel => exact ⟨P ++ [.t], r, by rw [HFP.out]; simp, rfl, by first | rfl | simp [HOK.out, Cmd.ok, HLT.out], Aside0.mk (HBn.out.setCell HGB.out _), Aside0.mk (blk_far HAn.out (Nat.ne_of_lt HAB.out) _), Aside0.mk (blk_put HCn.out 7 (.int .i64 a.lot) (bare_t P a)), Aside0.mk (((Below.heap_setCell _ _ _ _ (by show gb + 1 ≠ gb; omega)).trans HIn.out).trans (by simp))⟩
            | false =>
              have HOK := Lib.hid hok
              clear hok
              have k7 : wn.cell? ⟨w.heap.size, 7, none⟩ = some (.int .i64 a.lot) := blk_cell HAn.out 7
              have b7 : wn.cell? ⟨gb, 7, none⟩ = some (.int .i64 (mask P a).lot) := blk_cell HCn.out 7
              have z7 : wn.frozen? ⟨gb, 7, none⟩ = false := blk_frozen HCn.out 7
              go_wp2
              go_roundg (r.length + 1)
              case measure => simp
              case rel => exact ⟨P ++ [.t], r, by rw [HFP.out]; simp, rfl, by first | rfl | simp [HOK.out], Aside0.mk (HBn.out.setCell HGB.out _), Aside0.mk (blk_far HAn.out (Nat.ne_of_lt HAB.out) _), Aside0.mk (blk_put HCn.out 7 (.int .i64 a.lot) (bare_t P a)), Aside0.mk (((Below.heap_setCell _ _ _ _ (by show gb + 1 ≠ gb; omega)).trans HIn.out).trans (by simp))⟩
          | n =>
            have hnx : ∀ ty, (Instr.next (.pointer (some ⟨gb + 1, 0, none⟩)) true ty).run Tryz.prog wr = .ok (.tuple #[.bool true, .int .i64 P.length, .int .i32 110]) wn := fun ty => by rw [hwn.out]; exact next_fld wr (gb + 1) s P r .n (by rw [HTX.out, HFP.out]) HI.out ty
            cases hok : P.all a.ok with
            | true =>
              have HOK := Lib.hid hok
              clear hok
              by_cases hl : 0 < a.line
              · have hd : decide (0 < a.line) = true := decide_eq_true hl
                have HLT := Lib.hid hl
                clear hl
                have k8 : wn.cell? ⟨w.heap.size, 8, none⟩ = some (.int .i64 a.line) := blk_cell HAn.out 8
                have b8 : wn.cell? ⟨gb, 8, none⟩ = some (.int .i64 (mask P a).line) := blk_cell HCn.out 8
                have z8 : wn.frozen? ⟨gb, 8, none⟩ = false := blk_frozen HCn.out 8
                go_wp2
                go_roundg (r.length + 1)
                case measure => simp
                case rel => exact ⟨P ++ [.n], r, by rw [HFP.out]; simp, rfl, by first | rfl | simp [HOK.out, Cmd.ok, HLT.out], Aside0.mk (HBn.out.setCell HGB.out _), Aside0.mk (blk_far HAn.out (Nat.ne_of_lt HAB.out) _), Aside0.mk (blk_put HCn.out 8 (.int .i64 a.line) (bare_n P a)), Aside0.mk (((Below.heap_setCell _ _ _ _ (by show gb + 1 ≠ gb; omega)).trans HIn.out).trans (by simp))⟩
              · have hd : decide (0 < a.line) = false := decide_eq_false hl
                have HLT := Lib.hid hl
                clear hl
                have k8 : wn.cell? ⟨w.heap.size, 8, none⟩ = some (.int .i64 a.line) := blk_cell HAn.out 8
                have b8 : wn.cell? ⟨gb, 8, none⟩ = some (.int .i64 (mask P a).line) := blk_cell HCn.out 8
                have z8 : wn.frozen? ⟨gb, 8, none⟩ = false := blk_frozen HCn.out 8
                go_wp2
                go_roundg (r.length + 1)
                case measure => simp
                case rel => exact ⟨P ++ [.n], r, by rw [HFP.out]; simp, rfl, by first | rfl | simp [HOK.out, Cmd.ok, HLT.out], Aside0.mk (HBn.out.setCell HGB.out _), Aside0.mk (blk_far HAn.out (Nat.ne_of_lt HAB.out) _), Aside0.mk (blk_put HCn.out 8 (.int .i64 a.line) (bare_n P a)), Aside0.mk (((Below.heap_setCell _ _ _ _ (by show gb + 1 ≠ gb; omega)).trans HIn.out).trans (by simp))⟩
            | false =>
              have HOK := Lib.hid hok
              clear hok
              have k8 : wn.cell? ⟨w.heap.size, 8, none⟩ = some (.int .i64 a.line) := blk_cell HAn.out 8
              have b8 : wn.cell? ⟨gb, 8, none⟩ = some (.int .i64 (mask P a).line) := blk_cell HCn.out 8
              have z8 : wn.frozen? ⟨gb, 8, none⟩ = false := blk_frozen HCn.out 8
              go_wp2
              go_roundg (r.length + 1)
              case measure => simp
              case rel => exact ⟨P ++ [.n], r, by rw [HFP.out]; simp, rfl, by first | rfl | simp [HOK.out], Aside0.mk (HBn.out.setCell HGB.out _), Aside0.mk (blk_far HAn.out (Nat.ne_of_lt HAB.out) _), Aside0.mk (blk_put HCn.out 8 (.int .i64 a.line) (bare_n P a)), Aside0.mk (((Below.heap_setCell _ _ _ _ (by show gb + 1 ≠ gb; omega)).trans HIn.out).trans (by simp))⟩
          | p =>
            have hnx : ∀ ty, (Instr.next (.pointer (some ⟨gb + 1, 0, none⟩)) true ty).run Tryz.prog wr = .ok (.tuple #[.bool true, .int .i64 P.length, .int .i32 112]) wn := fun ty => by rw [hwn.out]; exact next_fld wr (gb + 1) s P r .p (by rw [HTX.out, HFP.out]) HI.out ty
            cases hok : P.all a.ok with
            | true =>
              have HOK := Lib.hid hok
              clear hok
              have HK : Hid (∀ w, Kd.C A.k58 w A9 a.parts.length a.parts → Calls Tryz.prog 83 #[.slice A9 a.parts.length c9] w fun e w' => e = .returned (.bool (a.ok .p)) ∧ Below w.heap.size w w') := Lib.hid fun w h => A.ask_parted.calls _ A9 c9 a.parts (partedOk a.parts) w h HC9.out (parted_says a.parts HFits.out.2 (a.parts.length + a.parts.length + a.parts.length + 2) (by omega))
              have k9 : wn.cell? ⟨w.heap.size, 9, none⟩ = some (.slice A9 a.parts.length c9) := blk_cell HAn.out 9
              go_wp2_with fail
              refine (HK.out _ (Kd.C_below HR9.out HBn.out)).mono ?_
              rintro e w3 ⟨rfl, hb⟩
              have HB3 := Aside0.mk (HBn.out.trans (hb.mono HBn.out.size))
              have HA3 := Aside0.mk (blk_below HAn.out hb)
              have HC3 := Aside0.mk (blk_below HCn.out hb)
              have HI3 := Aside0.mk (blk_below HIn.out hb)
              clear hb HBn HAn HCn HIn
              clear k9
              go_wp2
              go_roundg (r.length + 1)
              case measure => simp
              case rel => exact ⟨P ++ [.p], r, by rw [HFP.out]; simp, rfl, by first | rfl | simp [HOK.out], HB3, HA3, Aside0.mk (by rw [bare_p P a]; exact HC3.out), Aside0.mk (HI3.out.trans (by simp))⟩
            | false =>
              have HOK := Lib.hid hok
              clear hok
              have k9 : wn.cell? ⟨w.heap.size, 9, none⟩ = some (.slice A9 a.parts.length c9) := blk_cell HAn.out 9
              go_wp2
              go_roundg (r.length + 1)
              case measure => simp
              case rel => exact ⟨P ++ [.p], r, by rw [HFP.out]; simp, rfl, by first | rfl | simp [HOK.out], HBn, HAn, Aside0.mk (by rw [bare_p P a]; exact HCn.out), Aside0.mk (HIn.out.trans (by simp))⟩
          | o =>
            have hnx : ∀ ty, (Instr.next (.pointer (some ⟨gb + 1, 0, none⟩)) true ty).run Tryz.prog wr = .ok (.tuple #[.bool true, .int .i64 P.length, .int .i32 111]) wn := fun ty => by rw [hwn.out]; exact next_fld wr (gb + 1) s P r .o (by rw [HTX.out, HFP.out]) HI.out ty
            cases hok : P.all a.ok with
            | true =>
              have HOK := Lib.hid hok
              clear hok
              have HLEN : Hid (a.others.length ≤ 9223372036854775807) := Lib.hid HR10.out.2.1
              by_cases hl : a.others.length ≤ 4
              · have hd : decide ((a.others.length : Int) ≤ 4) = true := decide_eq_true (by omega)
                have HLT := Lib.hid hl
                clear hl
                cases hun : unlikeOk a.others with
                | true =>
                  have HUN := Lib.hid hun
                  clear hun
                  have HU : Hid (∀ w, Kd.C Kd.string w A10 a.others.length a.others → Calls Tryz.prog 84 #[.slice A10 a.others.length c10] w fun e w' => e = .returned (.bool true) ∧ Below w.heap.size w w') := Lib.hid fun w h => A.ask_unlike.calls _ A10 c10 a.others true w h HC10.out ((unlike_says a.others HLEN.out (a.others.length + a.others.length + 1) (by omega)).trans (by rw [HUN.out]))
                  have HN : Hid (∀ w, Kd.C Kd.string w A10 a.others.length a.others → Calls Tryz.prog 85 #[.slice A10 a.others.length c10, .string a.item] w fun e w' => e = .returned (.bool (isIn a.others a.item)) ∧ Below w.heap.size w w') := Lib.hid fun w h => (A.slices_Contains_string_string.calls _ A10 c10 a.others a.item (isIn a.others a.item) w h HC10.out (contains_says a.others a.item HLEN.out (a.others.length + 1) (by omega))).mono fun e w' ⟨he, hd⟩ => ⟨he, hd.below⟩
                  have k10 : wn.cell? ⟨w.heap.size, 10, none⟩ = some (.slice A10 a.others.length c10) := blk_cell HAn.out 10
                  go_wp2_with fail
                  refine (HU.out _ (Kd.C_below HR10.out HBn.out)).mono ?_
                  rintro e w3 ⟨rfl, hb⟩
                  have HB3 := Aside0.mk (HBn.out.trans (hb.mono HBn.out.size))
                  have HA3 := Aside0.mk (blk_below HAn.out hb)
                  have HC3 := Aside0.mk (blk_below HCn.out hb)
                  have HI3 := Aside0.mk (blk_below HIn.out hb)
                  clear hb HBn HAn HCn HIn
                  clear k10
                  have k10 : w3.cell? ⟨w.heap.size, 10, none⟩ = some (.slice A10 a.others.length c10) := blk_cell HA3.out 10
                  have k2 : w3.cell? ⟨w.heap.size, 2, none⟩ = some (.string a.item) := blk_cell HA3.out 2
                  go_wp2_with fail
                  refine (HN.out _ (Kd.C_below HR10.out HB3.out)).mono ?_
                  rintro e w4 ⟨rfl, hb⟩
                  have HB4 := Aside0.mk (HB3.out.trans (hb.mono HB3.out.size))
                  have HA4 := Aside0.mk (blk_below HA3.out hb)
                  have HC4 := Aside0.mk (blk_below HC3.out hb)
                  have HI4 := Aside0.mk (blk_below HI3.out hb)
                  clear hb HB3 HA3 HC3 HI3
                  clear k10 k2
                  go_wp2
                  go_roundg (r.length + 1)
                  case measure => simp
                  case rel => exact ⟨P ++ [.o], r, by rw [HFP.out]; simp, rfl, by first | rfl | simp [HOK.out, Cmd.ok, othersOk, HLT.out, HUN.out, isIn], HB4, HA4, Aside0.mk (by rw [bare_o P a]; exact HC4.out), Aside0.mk (HI4.out.trans (by simp))⟩
                | false =>
                  have HUN := Lib.hid hun
                  clear hun
                  have HU : Hid (∀ w, Kd.C Kd.string w A10 a.others.length a.others → Calls Tryz.prog 84 #[.slice A10 a.others.length c10] w fun e w' => e = .returned (.bool false) ∧ Below w.heap.size w w') := Lib.hid fun w h => A.ask_unlike.calls _ A10 c10 a.others false w h HC10.out ((unlike_says a.others HLEN.out (a.others.length + a.others.length + 1) (by omega)).trans (by rw [HUN.out]))
                  have k10 : wn.cell? ⟨w.heap.size, 10, none⟩ = some (.slice A10 a.others.length c10) := blk_cell HAn.out 10
                  go_wp2_with fail
                  refine (HU.out _ (Kd.C_below HR10.out HBn.out)).mono ?_
                  rintro e w3 ⟨rfl, hb⟩
                  have HB3 := Aside0.mk (HBn.out.trans (hb.mono HBn.out.size))
                  have HA3 := Aside0.mk (blk_below HAn.out hb)
                  have HC3 := Aside0.mk (blk_below HCn.out hb)
                  have HI3 := Aside0.mk (blk_below HIn.out hb)
                  clear hb HBn HAn HCn HIn
                  clear k10
                  go_wp2
                  go_roundg (r.length + 1)
                  case measure => simp
                  case rel => exact ⟨P ++ [.o], r, by rw [HFP.out]; simp, rfl, by first | rfl | simp [HOK.out, Cmd.ok, othersOk, HLT.out, HUN.out], HB3, HA3, Aside0.mk (by rw [bare_o P a]; exact HC3.out), Aside0.mk (HI3.out.trans (by simp))⟩
              · have hd : decide ((a.others.length : Int) ≤ 4) = false := decide_eq_false (by omega)
                have HLT := Lib.hid hl
                clear hl
                have k10 : wn.cell? ⟨w.heap.size, 10, none⟩ = some (.slice A10 a.others.length c10) := blk_cell HAn.out 10
                go_wp2
                go_roundg (r.length + 1)
                case measure => simp
                case rel => exact ⟨P ++ [.o], r, by rw [HFP.out]; simp, rfl, by first | rfl | simp [HOK.out, Cmd.ok, othersOk, HLT.out], HBn, HAn, Aside0.mk (by rw [bare_o P a]; exact HCn.out), Aside0.mk (HIn.out.trans (by simp))⟩
            | false =>
              have HOK := Lib.hid hok
              clear hok
              have k10 : wn.cell? ⟨w.heap.size, 10, none⟩ = some (.slice A10 a.others.length c10) := blk_cell HAn.out 10
              go_wp2
              go_roundg (r.length + 1)
              case measure => simp
              case rel => exact ⟨P ++ [.o], r, by rw [HFP.out]; simp, rfl, by first | rfl | simp [HOK.out], HBn, HAn, Aside0.mk (by rw [bare_o P a]; exact HCn.out), Aside0.mk (HIn.out.trans (by simp))⟩
    · have HR : Hid (rightCmd a = false) := Lib.hid (by
        unfold rightCmd; rw [HFO.out]
        by_cases h0 : 0 ≤ a.req
        · have h1 : ¬ a.req ≤ 4611686018427387904 := fun h => hq ⟨h0, h⟩
          simp only [decide_eq_false h1, Bool.and_false, Bool.false_and]
        · simp only [decide_eq_false h0, Bool.false_and])
      have HW : Hid (∀ w, Calls Tryz.prog 82 #[.int .i64 a.req, .int .i64 0, .int .i64 4611686018427387904] w fun e w' => e = .returned (.bool false) ∧ Below w.heap.size w w') := Lib.hid fun w => by
        have := within_calls a.req 0 4611686018427387904 w
        have e : (decide (0 ≤ a.req) && decide (a.req ≤ 4611686018427387904)) = false := by
          rw [Bool.eq_false_iff]; intro h; rw [Bool.and_eq_true, decide_eq_true_eq, decide_eq_true_eq] at h; exact hq h
        rw [e] at this
        exact this
      clear hq
      go_enter Tryz.func33, Tryz.ntmps33
      go_wp2_with fail
      refine (HF.out _ (HL.out.below ((Below.refl _ _).alloc (Nat.le_refl _) _))).mono ?_
      rintro e w1 ⟨rfl, hb⟩
      have HB1 := Aside0.mk (((Below.refl w.heap.size w).alloc (Nat.le_refl _) (.cells (cellsOf13 a A9 c9 A10 c10) 38)).trans (hb.mono (by simp)))
      have HA1 := Aside0.mk (blk_below (blk_new w (.cells (cellsOf13 a A9 c9 A10 c10) 38)) hb)
      clear hb
      have k1 : w1.cell? ⟨w.heap.size, 1, none⟩ = some (.int .i64 a.req) := blk_cell HA1.out 1
      go_wp2_with fail
      refine (HW.out _).mono ?_
      rintro e w2 ⟨rfl, hb⟩
      have HB2 := Aside0.mk (HB1.out.trans (hb.mono HB1.out.size))
      clear hb HB1 HA1 k1
      go_wp2_with fail
      go_ret
      exact ⟨by rw [HR.out]; rfl, HB2.out⟩
end Go.Proofs.YtkpedlhofalnjaaGreatDoor
