/- A1, A12, Pure13, RowsG, MarkNum, LentParts, K0, K1, MarkText, LentTexts, Kinds13, BlkG, LentAsk, C7, Kept03, Lent03. -/
import Derived.Test.YtkpedlhofalnjaaGreatDoorM4
import Derived.Test.YtkpedlhofalnjaaGreatDoorExt13
import Derived.Test.YtkpedlhofalnjaaGreatDoorA11
import Derived.Test.YtkpedlhofalnjaaGreatDoorM6
import Derived.Test.YtkpedlhofalnjaaGreatDoorWWords
import Derived.Test.YtkpedlhofalnjaaGreatDoorM1
import Derived.Test.YtkpedlhofalnjaaGreatDoorM2
import Derived.OwnWalk
import Derived.Test.YtkpedlhofalnjaaGreatDoorProg
import Derived.WalkKit
import Derived.Test.YtkpedlhofalnjaaGreatDoorM5
import Derived.LoopN
import Derived.Laws.Rows
import Derived.Below
import Derived.Deep.Draws
import Derived.Deep.AppendLies
import Derived.Maps.AppendAt
import Derived.Laws.BytesArg
import Derived.Laws.MakeOwn
import Derived.Laws.OwnMore
import Derived.Deep.OwnRows
import Derived.Tactics
import Derived.Lib.ConvBytes
import Derived.Laws.Slices
import Derived.KernelRfl
import Derived.RowKit3
import Derived.Deep.LoopGhost
import Derived.Deep.QuietTactic
import Derived.BigQuiet
import Derived.WideLaws
import Derived.Deep.DeepCutAuto
import Derived.Deep.CutBlock
import Derived.Deep.RegionHeld3
import Derived.Lib.AppendStr
import Derived.ArgAppend
import Derived.Laws.IdiomCopy
import Derived.OrdersHeld
import Derived.Laws.BitsLemmas
import Derived.RowKit
import Derived.Laws.Bits64

section
-- Written by a program of this session (a turned copy of the kit's print): functions and their proofs.
namespace Go.Proofs.YtkpedlhofalnjaaGreatDoor.A
open Go.RowKit Go.Proofs.YtkpedlhofalnjaaGreatDoorW.PrintWords Go.Proofs.YtkpedlhofalnjaaGreatDoorW.PrintLast Go.Proofs.YtkpedlhofalnjaaGreatDoorW.PrintMore
attribute [local go_sem] max2_int min2_int max_two min_two max_three min_three max_four min_four   -- for this text's walks alone
set_option linter.unusedVariables false
set_option linter.unusedSimpArgs false

theorem eqA58 (d : Nat) (w : World) (x0 y0 : ByteArray) (x1 y1 : Int) :
    (Op.equalIn (d + 2) 58 (.agg #[.string x0, .int .i64 x1]) (.agg #[.string y0, .int .i64 y1])).run Tryz.prog w = .ok (x0.toList == y0.toList && (x1 == y1)) w := by
  refine eqA_of Tryz.underlying58 (by kernel_rfl) ?_
  refine eqf_cons (by rfl) (by go_simp; rfl) (by go_simp; rfl) (by go_simp) ?_
  exact eqf_last (by rfl) (by go_simp; rfl) (by go_simp; rfl) (by go_simp)
end Go.Proofs.YtkpedlhofalnjaaGreatDoor.A
end

section
-- Written by a program of this session (a turned copy of the kit's print): functions and their proofs.
namespace Go.Proofs.YtkpedlhofalnjaaGreatDoor.A
open Go.RowKit Go.Proofs.YtkpedlhofalnjaaGreatDoorW.PrintWords Go.Proofs.YtkpedlhofalnjaaGreatDoorW.PrintLast Go.Proofs.YtkpedlhofalnjaaGreatDoorW.PrintMore
attribute [local go_sem] max2_int min2_int max_two min_two max_three min_three max_four min_four   -- for this text's walks alone
set_option linter.unusedVariables false
set_option linter.unusedSimpArgs false

attribute [local go_sem high] eqA58
/-! ### storemanlaw13_great: function 29 -/

/-! ### storemankit_SameParts: function 102 -/

/-! ### storemankit_SameTexts: function 103 -/

/-! ### storemankit_SameAsk: function 41 -/

end Go.Proofs.YtkpedlhofalnjaaGreatDoor.A
end

section
/- The examples of chapter 13, as the printed statements have them; sameness, as printed. -/
namespace Go.Proofs.YtkpedlhofalnjaaGreatDoor
open Go.RowKit Go.Proofs.YtkpedlhofalnjaaGreatDoorW.PrintWords Go.Proofs.YtkpedlhofalnjaaGreatDoorW.PrintLast Go.Proofs.YtkpedlhofalnjaaGreatDoorW.PrintMore

theorem wrap_step13 {i : Nat} {n : Nat} (h : i < n) (hn : n ≤ 9223372036854775807) : wrap64 ((i : Int) + 1) = ((i + 1 : Nat) : Int) := by
  unfold wrap64; omega

theorem sameB_loop (a : List Int) (hn : a.length ≤ 9223372036854775807) : ∀ (d k i : Nat), a.length - i = d → i ≤ a.length → d < k → A.storemankit_SameBytes.l0 k a a i = some true := by
  intro d
  induction d with
  | zero =>
    intro k i hd hi hk
    obtain ⟨k, rfl⟩ : ∃ m, k = m + 1 := ⟨k - 1, by omega⟩
    simp only [A.storemankit_SameBytes.l0]
    rw [if_neg (by omega)]
  | succ d ih =>
    intro k i hd hi hk
    obtain ⟨k, rfl⟩ : ∃ m, k = m + 1 := ⟨k - 1, by omega⟩
    simp only [A.storemankit_SameBytes.l0]
    rw [if_pos (by omega), if_pos (by omega), if_pos (by omega), if_pos trivial, wrap_step13 (show i < a.length by omega) hn]
    exact ih k (i + 1) (by omega) (by omega) (by omega)
theorem sameB (a : List Int) (hn : a.length ≤ 9223372036854775807) (k : Nat) (hk : a.length < k) : A.storemankit_SameBytes.f k a a = some true := by
  unfold A.storemankit_SameBytes.f
  rw [if_pos rfl]
  exact sameB_loop a hn a.length k 0 (by omega) (by omega) hk

/-! ### The chapter's examples -/

theorem get_tick : getCmd [12, 0, 0, 0, 0, 0, 0, 0, 1, 9] = ({ zeroCmd with kind := 12, req := 1 }, 9, 0) := by
  have hw : ({ zeroCmd with kind := 12, req := 1 } : Cmd).wf := ⟨⟨by decide, by decide⟩, ⟨by decide, by decide⟩, ⟨by decide, by decide⟩, ⟨by decide, by decide⟩⟩
  exact get_putCmd { zeroCmd with kind := 12, req := 1 } hw (by decide) [9]

theorem awake13 (k : Nat) (hk : 30 < k) : A.storemanlaw13_awake.f k = some true := by
  unfold A.storemanlaw13_awake.f
  have hp : ask_Put.f 6 0 (⟨#[]⟩ : ByteArray) 0 300 0 0 2 0 ([] : List Part) ([] : List ByteArray) = some ([6, 0, 0, 0, 0, 0, 0, 0, 0, 0, 0, 0, 0, 0, 0, 0, 2, 1, 44], 0) := by decide
  have hg : ask_Get.f [12, 0, 0, 0, 0, 0, 0, 0, 1, 9] = some (gotOf ({ zeroCmd with kind := 12, req := 1 }, 9, 0)) := by
    unfold ask_Get.f
    rw [if_pos ⟨by decide, by decide⟩, get_tick]
  have hr : ask_Right.f 0 0 (⟨#[]⟩ : ByteArray) 0 0 0 0 0 0 ([] : List Part) ([] : List ByteArray) = some false := by decide
  refine (bind_is hp).trans ?_
  refine (bind_is hg).trans ?_
  rw [if_pos rfl]
  refine (bind_if (sameB _ (by decide) k (by simp; omega))).trans ?_
  refine (if_pos rfl).trans ?_
  refine (if_pos rfl).trans ?_
  refine (if_pos rfl).trans ?_
  refine (if_pos rfl).trans ?_
  refine (bind_if_not hr).trans ?_
  exact bind_is (by decide)

/-! ### AskBack -/

end Go.Proofs.YtkpedlhofalnjaaGreatDoor
end

section
/- Rows of elements whose cells are told by the element alone (texts, structs of texts and numbers): owned, read, appended to within their room, stored into. -/
namespace Go.Proofs.YtkpedlhofalnjaaGreatDoor
open Go.RowKit Go.Proofs.YtkpedlhofalnjaaGreatDoorW.PrintWords Go.Proofs.YtkpedlhofalnjaaGreatDoorW.PrintLast Go.Proofs.YtkpedlhofalnjaaGreatDoorW.PrintMore

/-- An element's cells: sz of them, each one cell. -/
structure Enc (α : Type) where
  sz : Nat
  enc : α → List Value
  len : ∀ x, (enc x).length = sz
  one : ∀ x, ∀ u ∈ enc x, u.oneCell' = true
  pos : 0 < sz

namespace Enc
variable {α : Type} (E : Enc α)
/-- The cells of a list of elements, one element behind the other. -/
def cells : List α → List Value
  | [] => []
  | x :: xs => E.enc x ++ cells xs
theorem cells_append (xs ys : List α) : E.cells (xs ++ ys) = E.cells xs ++ E.cells ys := by
  induction xs with
  | nil => rfl
  | cons x xs ih => simp [cells, ih]
theorem cells_one (x : α) : E.cells [x] = E.enc x := by simp [cells]
theorem cells_length (xs : List α) : (E.cells xs).length = xs.length * E.sz := by
  induction xs with
  | nil => simp [cells]
  | cons x xs ih => rw [cells, List.length_append, E.len, ih, List.length_cons, Nat.succ_mul, Nat.add_comm]
theorem cells_oneCell (xs : List α) : ∀ u ∈ E.cells xs, u.oneCell' = true := by
  induction xs with
  | nil => intro u hu; cases hu
  | cons x xs ih =>
    intro u hu
    rcases List.mem_append.1 hu with h | h
    · exact E.one x u h
    · exact ih u h
theorem cells_get (xs : List α) (k i : Nat) (x : α) (hx : xs[k]? = some x) (hi : i < E.sz) : (E.cells xs)[k * E.sz + i]? = (E.enc x)[i]? := by
  induction xs generalizing k with
  | nil => simp at hx
  | cons y xs ih =>
    rw [cells]
    cases k with
    | zero =>
      obtain rfl : y = x := by simpa using hx
      rw [Nat.zero_mul, Nat.zero_add, List.getElem?_append_left (by rw [E.len]; exact hi)]
    | succ k =>
      rw [List.getElem?_append_right (by rw [E.len, Nat.succ_mul]; omega), E.len, Nat.succ_mul, show k * E.sz + E.sz + i - E.sz = k * E.sz + i by omega]
      exact ih k (by simpa using hx)

/-- The kind of such elements. -/
def kd : Kd α where
  sz := E.sz
  E := []
  K := fun _ x cs => cs = E.enc x
  M := fun _ _ _ x cs => cs = E.enc x
  K_len := fun h => by rw [h, E.len]
  K_one := fun h u hu => by rw [h] at hu; exact E.one _ u hu
  K_below := fun _ h => h
  K_of_M := fun h => h
  M_mono := fun _ h => h
  M_bound := fun h => h
  M_move := fun _ h => h
  M_lower := fun _ h => h
end Enc

/-- What reads as a row of another kind with the same cells. -/
theorem reads_of_kd {α : Type} (E : Enc α) {d : Kd α} (hs : d.sz = E.sz) (hK : ∀ w x cs, d.K w x cs → cs = E.enc x) {w : World} {A : Option Addr} {n : Nat} {xs : List α} (h : d.C w A n xs) : E.kd.C w A n xs := by
  refine ⟨h.1, h.2.1, fun hn => ?_⟩
  obtain ⟨ad, e, hc⟩ := h.2.2 hn
  refine ⟨ad, e, fun j p hj => ?_⟩
  obtain ⟨c, h1, h2, h3⟩ := hc j p hj
  rw [hs] at h1 h3
  exact ⟨c, h1, hK w p c h2, h3⟩
theorem kd_of_reads {α : Type} (E : Enc α) {d : Kd α} (hs : d.sz = E.sz) (hK : ∀ w x, d.K w x (E.enc x)) {w : World} {A : Option Addr} {n : Nat} {xs : List α} (h : E.kd.C w A n xs) : d.C w A n xs := by
  refine ⟨h.1, h.2.1, fun hn => ?_⟩
  obtain ⟨ad, e, hc⟩ := h.2.2 hn
  refine ⟨ad, e, fun j p hj => ?_⟩
  obtain ⟨c, h1, h2, h3⟩ := hc j p hj
  have h2' : c = E.enc p := h2
  refine ⟨c, by rw [hs]; exact h1, by rw [h2']; exact hK w p, fun i u hu => ?_⟩
  rw [hs]
  exact h3 i u hu

section
variable {α : Type} {E : Enc α}
theorem Enc.cell_at {w : World} {A : Option Addr} {n : Nat} {xs : List α} (h : E.kd.C w A n xs) (j : Nat) (x : α) (hx : xs[j]? = some x) : ∃ ad, A = some ad ∧ ∀ i u, (E.enc x)[i]? = some u → w.cell? (ad.add (j * E.sz + i)) = some u := by
  have hj := (List.getElem?_eq_some_iff.1 hx).1
  obtain ⟨ad, e, hc⟩ := h.2.2 (by have := h.1; omega)
  obtain ⟨c, h1, h2, h3⟩ := hc j x hx
  refine ⟨ad, e, fun i u hu => h3 i u ?_⟩
  have h2' : c = E.enc x := h2
  rw [h2']; exact hu
/-- All cells of a row that is read. -/
theorem Enc.cells_at {w : World} {ad : Addr} {n : Nat} {xs : List α} (h : E.kd.C w (some ad) n xs) : ∀ j u, (E.cells xs)[j]? = some u → w.cell? (ad.add j) = some u := by
  intro j u hu
  have hj : j < xs.length * E.sz := by rw [← E.cells_length]; exact (List.getElem?_eq_some_iff.1 hu).1
  have hp := E.pos
  have hk : j / E.sz < xs.length := (Nat.div_lt_iff_lt_mul hp).2 hj
  have hm : j % E.sz < E.sz := Nat.mod_lt _ hp
  have e : j = j / E.sz * E.sz + j % E.sz := by rw [Nat.mul_comm]; exact (Nat.div_add_mod j E.sz).symm
  have hx := List.getElem?_eq_getElem hk
  obtain ⟨ad', e', hc⟩ := Enc.cell_at h _ _ hx
  cases e'
  rw [e]
  apply hc
  rw [e, E.cells_get xs _ _ _ hx hm] at hu
  exact hu
/-- A row's head, read. -/
theorem Enc.own_reads {w : World} {base : Nat} {e : TypeId} {g l c : Nat} {xs : List α} (h : w.ownsRow base e E.sz (.slice (some ⟨g, 0, none⟩) l c) l (E.cells xs)) (n : Nat) (hn : n ≤ l) (hl : l ≤ 9223372036854775807) (ys : List α) (hy : xs.take n = ys) : E.kd.C w (some ⟨g, 0, none⟩) n ys := by
  have hp := E.pos
  have hx : xs.length = l := by
    have := h.1
    rw [E.cells_length] at this
    exact Nat.eq_of_mul_eq_mul_right hp this
  refine ⟨by rw [← hy, List.length_take]; omega, by omega, fun h0 => ⟨_, rfl, fun j p hj => ?_⟩⟩
  have hjn : j < n := by
    have := (List.getElem?_eq_some_iff.1 hj).1
    rw [← hy, List.length_take] at this
    omega
  have hxj : xs[j]? = some p := by
    rw [← hy, List.getElem?_take, if_pos hjn] at hj
    exact hj
  refine ⟨E.enc p, E.len p, rfl, fun i u hu => ?_⟩
  have hi : i < E.sz := by
    have := (List.getElem?_eq_some_iff.1 hu).1
    rw [E.len] at this
    exact this
  have hlt : j * E.sz + i < l * E.sz := by
    have : (j + 1) * E.sz ≤ l * E.sz := Nat.mul_le_mul_right _ (by omega)
    rw [Nat.succ_mul] at this
    omega
  have h2 := h.cellAt (j * E.sz + i) hlt
  rw [E.cells_get xs j i p hxj hi, hu] at h2
  show w.cell? ((⟨g, 0, none⟩ : Addr).add (j * E.sz + i)) = some u
  rw [Addr.add_lit, Nat.zero_add]
  exact h2
end

/-- append within the room, whatever the shape of what is appended. -/
theorem wp_append_roomE {α : Type} (E : Enc α) {P : Program} (w : World) {ops : Array Oper} {rest : List Oper} {o : Oper} {a : Act} {Q : Exit → Act → World → Prop}
    (hg : o.guard = none) (s x : Operand) (t : TypeId) (hop : o.op = Op.call { callee := Callee.builtin Builtin.append, args := #[s, x], argTypes := #[t, t] })
    (base : Nat) (e : TypeId) (i : TypeInfo) (h1 : P.underlying t = some (.slice e)) (h2 : P.info? e = some i) (h4 : i.size = E.sz)
    (g k cap : Nat) (xs : List Value) (hs : a.eval s = .slice (some ⟨g, 0, none⟩) k cap) (hown : w.ownsRow base e E.sz (.slice (some ⟨g, 0, none⟩) k cap) k xs) (A : Option Addr) (m c : Nat) (ys : List α)
    (hx : a.eval x = .slice A m c) (HR : E.kd.C w A m ys) (b1 : k + m ≤ cap)
    (hK : ∀ w', w'.ownsRow base e E.sz (.slice (some ⟨g, 0, none⟩) (k + m) cap) (k + m) (xs ++ E.cells ys) → w.grownBy w' (some g) → wpList P ops Q rest (a.put o.dst (.slice (some ⟨g, 0, none⟩) (k + m) cap)) w') :
    wpList P ops Q (o :: rest) a w := by
  cases A with
  | some ad => exact wpList_append_fits w hg s x t hop base e i E.sz h1 h2 h4 g k cap xs hs hown ad m c (E.cells ys) hx (by rw [E.cells_length, HR.1]) (Enc.cells_at HR) (E.cells_oneCell ys) b1 hK
  | none =>
    have h0 : m = 0 := by
      rcases Nat.eq_zero_or_pos m with h | h
      · exact h
      · obtain ⟨ad, e', _⟩ := HR.2.2 h
        cases e'
    subst h0
    obtain rfl : ys = [] := List.eq_nil_of_length_eq_zero HR.1
    refine wpList_plain hg fun K hK' => ?_
    have hrun : (Builtin.append_ #[t, t] o.type #[.slice (some ⟨g, 0, none⟩) k cap, .slice none 0 c]).run P w = .ok (.slice (some ⟨g, 0, none⟩) k cap) w := by
      simp [Builtin.append_, run_underlying h1, sizeOf, typeInfo, h2, Builtin.lenOf, Builtin.firstCells, show k ≤ cap by omega, storeCells]
    unfold Oper.wp
    simp [execOp, hop, resolve, invoke, builtin, hs, hx, hrun, Result.andThen]
    exact hK' _ _ (by simpa [Enc.cells] using hK w (by simpa [Enc.cells] using hown) (World.grownBy.refl _ _))

/-- One element, laid in a block of its own. -/
theorem Enc.reads_new {α : Type} (E : Enc α) (w : World) (x : α) (e : TypeId) (cs : Array Value) (h : cs.toList = E.enc x) : E.kd.C (w.alloc (.cells cs e)) (some ⟨w.heap.size, 0, none⟩) 1 [x] := by
  have hsz : cs.size = 1 * E.sz := by rw [← Array.length_toList, h, E.len, Nat.one_mul]
  have ho := World.ownsRow_lit (base := 0) (e := e) (size := E.sz) w cs 1 (Nat.zero_le _) (by decide) hsz
  rw [h, ← E.cells_one x] at ho
  exact Enc.own_reads ho 1 (Nat.le_refl _) (by decide) _ rfl

/-! ### Movers of owned rows, whatever the elements' size -/
section
variable {w w' : World} {base size : Nat} {e : TypeId} {v : Value} {n : Nat} {xs : List Value}
theorem ownS_alloc (h : w.ownsRow base e size v n xs) (o : Obj) : (w.alloc o).ownsRow base e size v n xs :=
  own_move h (fun k hk => Below.heap_alloc w o k (h.lt k hk).2)
theorem ownS_below (h : w.ownsRow base e size v n xs) (hb : Below w.heap.size w w') : w'.ownsRow base e size v n xs :=
  own_move h (fun k hk => hb.block k (h.lt k hk).2)
theorem ownS_base (h : w.ownsRow base e size v n xs) {base' : Nat} (hb : base' ≤ base) : w.ownsRow base' e size v n xs := own_weaken h hb
end
end Go.Proofs.YtkpedlhofalnjaaGreatDoor
end

section
/- storemankit's marks of places in lists: the number. -/
namespace Go.Proofs.YtkpedlhofalnjaaGreatDoor
open Go.RowKit Go.Proofs.YtkpedlhofalnjaaGreatDoorW.PrintWords

def markNum (k i : Int) : Int := wrap64 (wrap64 (1000003 * wrap64 (k + 7)) + i)
theorem markNum_calls (k i : Int) (w : World) : Calls Tryz.prog 123 #[.int .i64 k, .int .i64 i] w fun e w' => e = .returned (.int .i64 (markNum k i)) ∧ w = w' := by
  go_enter Tryz.func123, Tryz.ntmps123
  go_wp2
  go_ret
  exact ⟨by first | rfl | (unfold markNum; rfl), rfl⟩
end Go.Proofs.YtkpedlhofalnjaaGreatDoor
end

section
/- What storemankit lends of parts: the list, and twelve marks in its spare room. -/
namespace Go.Proofs.YtkpedlhofalnjaaGreatDoor
open Go.RowKit Go.Proofs.YtkpedlhofalnjaaGreatDoorW.PrintWords Go.Proofs.YtkpedlhofalnjaaGreatDoorW.PrintLast Go.Proofs.YtkpedlhofalnjaaGreatDoorW.PrintMore

def encParts : Enc Part where
  sz := 2
  enc := fun x => [.string x.f0, .int .i64 x.f1]
  len := fun _ => rfl
  one := by
    intro x u hu
    simp only [List.mem_cons, List.not_mem_nil, or_false] at hu
    rcases hu with rfl | rfl <;> rfl
  pos := by decide

theorem encParts_sz : encParts.sz = 2 := rfl
def markParts (k i : Int) : Part := (⟨ByteArray.empty, markNum k i⟩ : Part)
/-- n marks of the k-th list, from its i-th place on. -/
def marksParts (k : Int) (i : Nat) : Nat → List Part
  | 0 => []
  | n + 1 => marksParts k i n ++ [markParts k ((i + n : Nat) : Int)]
theorem marksParts_length (k : Int) (i n : Nat) : (marksParts k i n).length = n := by
  induction n with
  | zero => rfl
  | succ n ih => simp [marksParts, ih]
theorem marksParts_get (k : Int) (i b j : Nat) (h : j < b) : (marksParts k i b)[j]? = some (markParts k ((i + j : Nat) : Int)) := by
  induction b with
  | zero => omega
  | succ b ih =>
    rw [marksParts]
    by_cases e : j = b
    · subst e
      rw [List.getElem?_append_right (by rw [marksParts_length]; exact Nat.le_refl _), marksParts_length, Nat.sub_self]; rfl
    · rw [List.getElem?_append_left (by rw [marksParts_length]; omega), ih (by omega)]
theorem infoE_parts : (Tryz.prog.info? 58).map (fun i => (i.zero, i.size, i.bytes)) = some (some (.agg #[.string ByteArray.empty, .int .i64 0]), 2, 24) := by kernel_rfl

theorem markParts_calls (k i : Int) (w : World) : Calls Tryz.prog 159 #[.int .i64 k, .int .i64 i] w fun e w' => e = .returned (.agg #[.string ByteArray.empty, .int .i64 (markNum k i)]) ∧ Below w.heap.size w w' := by
  go_enter Tryz.func159, Tryz.ntmps159
  go_wp2_with (go_at_call 123; refine (markNum_calls _ _ _).mono ?_; rintro e w' ⟨rfl, rfl⟩)
  exact bodyPost_ret (v := .agg #[.string ByteArray.empty, .int .i64 (markNum k i)]) (by first | (simp [results, Tryz.results159, go_sem]; done) | (simp [results, Tryz.results159, go_sem]; rfl)) rfl ⟨rfl, (Below.refl _ _).alloc (Nat.le_refl _) _⟩

set_option maxRecDepth 100000 in
set_option maxHeartbeats 2000000 in
theorem lent_parts (A0 : Option Addr) (c0 : Nat) (l : List Part) (w : World) (hr : encParts.kd.C w A0 l.length l) (hn : l.length ≤ 1000000) :
    Calls Tryz.prog 77 #[.slice A0 l.length c0] w fun e w' => e = .returned (.slice (some ⟨w.heap.size, 0, none⟩) l.length (l.length + 12)) ∧
      w'.ownsRow w.heap.size 58 2 (.slice (some ⟨w.heap.size, 0, none⟩) (l.length + 12) (l.length + 12)) (l.length + 12) (encParts.cells (l ++ marksParts 1 0 12)) ∧ Below w.heap.size w w' := by
  obtain ⟨i0, hi, hz0, hz1, hz2⟩ := info_parts infoE_parts
  go_enter Tryz.func77, Tryz.ntmps77
  go_wp2_with (first
    | (at_make; refine wpList_make_own _ rfl _ _ 35 rfl w.heap.size 58 i0 _ 2 Tryz.underlying35 hi hz0 hz1 _ _ _ (l.length + 12) rfl rfl ?b1 ?b2 ?b3 ?b4 ?_)
    | fail)
  case b1 => omega
  case b2 => rw [hz2]; omega
  case b3 => simp only [maxLen]; omega
  case b4 => exact Nat.le_refl _
  intro w1 hown hgrow
  have hb1 : Below w.heap.size w w1 := (Below.refl _ _).grown hgrow (Nat.le_refl _) (fun _ h => by cases h)
  have hr1 := Kd.C_below hr hb1
  go_wp2_with (first
    | (at_builtin; refine wp_append_roomE encParts _ rfl _ _ 35 rfl w.heap.size 58 i0 Tryz.underlying35 hi hz1 w.heap.size 0 (l.length + 12) [] rfl hown A0 l.length c0 l rfl hr1 ?c1 ?_)
    | fail)
  case c1 => omega
  intro w2 hown2 hgrow2
  have hb2 : Below w.heap.size w w2 := hb1.grown hgrow2 (by have := hb1.size; omega) (fun _ h => by cases h; exact Nat.le_refl _)
  clear hr1 hr hown hgrow hgrow2 hb1
  go_wp2
  go_loopg [3, 4] 13 (fun kq v3 v4 wr => ∃ (k : Nat), v3 = .slice (some ⟨w.heap.size, 0, none⟩) (l.length + k) (l.length + 12) ∧ v4 = .int .i64 k ∧ k + kq = 13 ∧ 0 < kq ∧
    Aside0 (wr.ownsRow w.heap.size 58 2 (.slice (some ⟨w.heap.size, 0, none⟩) (l.length + k) (l.length + 12)) (l.length + k) (encParts.cells (l ++ marksParts 1 0 k))) ∧ Aside0 (Below w.heap.size w wr))
  case atStart => exact ⟨0, by simp, rfl, by omega, by omega, ⟨by simpa [marksParts, encParts_sz] using hown2⟩, ⟨hb2⟩⟩
  case round =>
    obtain ⟨k, rfl, rfl, hk, hk0, HO, HB⟩ := hrel
    by_cases h12 : k < 12
    · have h12b : decide ((k : Int) < 12) = true := decide_eq_true (by omega)
      go_wp2_with fail
      refine (markParts_calls 1 k wr).mono ?_
      rintro e w3 ⟨rfl, hd⟩
      have hb3 : Below w.heap.size w w3 := HB.out.trans (hd.mono HB.out.size)
      have HB3 := Aside0.mk hb3
      have HO3 := Aside0.mk (ownS_below HO.out hd)
      clear hd hb3
      go_wp2_with (first
        | (at_builtin; refine wp_append_roomE encParts _ rfl _ _ 35 rfl w.heap.size 58 i0 Tryz.underlying35 hi hz1 w.heap.size (l.length + k) (l.length + 12) _ rfl (ownS_alloc HO3.out _) _ 1 1 [markParts 1 k] rfl (Enc.reads_new encParts _ _ _ _ rfl) ?d1 ?_)
        | fail)
      case d1 => omega
      intro w4 hown4 hgrow4
      have hb4 : Below w.heap.size w w4 := (HB3.out.alloc HB3.out.size _).grown hgrow4 (by have := HB3.out.size; simp only [World.size_alloc]; omega) (fun _ h => by cases h; exact Nat.le_refl _)
      go_wp2
      go_roundg (12 - k)
      case measure => omega
      case rel => exact ⟨k + 1, by rw [Nat.add_assoc], by simp, by omega, by omega, ⟨by simpa [marksParts, encParts_sz, Enc.cells_append, Nat.add_assoc] using hown4⟩, ⟨hb4⟩⟩
    · obtain rfl : k = 12 := by omega
      go_wp2
      go_ret
      exact ⟨rfl, HO.out, HB.out⟩
end Go.Proofs.YtkpedlhofalnjaaGreatDoor
end

section
-- Written by a program of this session (a turned copy of the kit's print): functions and their proofs.
namespace Go.Proofs.YtkpedlhofalnjaaGreatDoor.K
open Go.RowKit Go.Proofs.YtkpedlhofalnjaaGreatDoorW.PrintWords Go.Proofs.YtkpedlhofalnjaaGreatDoorW.PrintLast Go.Proofs.YtkpedlhofalnjaaGreatDoorW.PrintMore
attribute [local go_sem] max2_int min2_int max_two min_two max_three min_three max_four min_four   -- for this text's walks alone
set_option linter.unusedVariables false
set_option linter.unusedSimpArgs false



def errW : Option Int → Value
  | none => .nilIface
  | some c => .iface 0 (.int .i64 c)
theorem errW_none : errW none = .nilIface := rfl
theorem errW_some (c : Int) : errW (some c) = .iface 0 (.int .i64 c) := rfl

theorem info5 : (Tryz.prog.info? 5).map (fun i => (i.zero, i.size, i.bytes)) = some (some (.int .u8 0), 1, 1) := by kernel_rfl
-- the values' own types

end Go.Proofs.YtkpedlhofalnjaaGreatDoor.K
end

section
-- Written by a program of this session (a turned copy of the kit's print): functions and their proofs.
namespace Go.Proofs.YtkpedlhofalnjaaGreatDoor.K
open Go.RowKit Go.Proofs.YtkpedlhofalnjaaGreatDoorW.PrintWords Go.Proofs.YtkpedlhofalnjaaGreatDoorW.PrintLast Go.Proofs.YtkpedlhofalnjaaGreatDoorW.PrintMore
attribute [local go_sem] max2_int min2_int max_two min_two max_three min_three max_four min_four   -- for this text's walks alone
set_option linter.unusedVariables false
set_option linter.unusedSimpArgs false

/-! ### storemankit_markText: function 160 -/
def storemankit_markText.f (a0 : Int) (a1 : Int) : Option (ByteArray) := some (strOfNums (([35, (a0) % 256, (a0 / 256) % 256, (a0 / 65536) % 256, 47, (a1) % 256, (a1 / 256) % 256, (a1 / 65536) % 256] : List Int)))
set_option maxHeartbeats 8000000 in
set_option maxRecDepth 100000 in
theorem storemankit_markText.calls (a0 : Int) (a1 : Int) (r : ByteArray) (w : World) (h : storemankit_markText.f a0 a1 = some r) :
    Calls Tryz.prog 160 #[.int .i64 a0, .int .i64 a1] w fun e w' => e = .returned (.string r) ∧ Below w.heap.size w w' := by
  have HB := Aside0.mk (Below.refl w.heap.size w)
  have H : (some (strOfNums (([35, (a0) % 256, (a0 / 256) % 256, (a0 / 65536) % 256, 47, (a1) % 256, (a1 / 256) % 256, (a1 / 65536) % 256] : List Int)))) = some r := h
  clear h
  obtain ⟨y101, hy101⟩ : ∃ y_ : List Int, y_ = (([35, (a0) % 256, (a0 / 256) % 256, (a0 / 65536) % 256, 47, (a1) % 256, (a1 / 256) % 256, (a1 / 65536) % 256] : List Int)) := ⟨_, rfl⟩
  replace H : (some (strOfNums y101)) = some r := by first | (rw [hy101]; with_reducible exact H) | (have H2_ := (Option.bind_some _ _).symm.trans H; rw [hy101]; with_reducible exact H2_) | (have H2_ := (Option.bind_some _ _).symm.trans H; with_reducible exact H2_) | with_reducible exact H | (rw [hy101]; exact H) | exact H
  have Ny101 := Aside0.mk hy101
  clear hy101
  obtain rfl := Option.some.inj H
  go_enter Tryz.func160, Tryz.ntmps160
  go_wp2_with (first | ((with_reducible refine gate_dst (N := 21) rfl ?_); refine Kd.R_lit (Kd.int .u8) _ 5 ?hg (N := 21) ?hd (xs := ([35, (a0) % 256, (a0 / 256) % 256, (a0 / 65536) % 256, 47, (a1) % 256, (a1 / 256) % 256, (a1 / 65536) % 256] : List Int)) (inner := [.int .u8 35, .int .u8 ((a0) % 256), .int .u8 ((a0 / 256) % 256), .int .u8 ((a0 / 65536) % 256), .int .u8 47, .int .u8 ((a1) % 256), .int .u8 ((a1 / 256) % 256), .int .u8 ((a1 / 65536) % 256)]) (ok := fun _ => True) (okp := fun _ => True) ?hr ?hp (fun _ hk => hk) trivial (Below.refl _ _) (Nat.le_refl _) (by simp) ?_; (case hd => rfl); (case hg => rfl); (case hr => first | (go_simp; done) | (go_simp; rfl)); (case hp => exact (Reps.one (show Kd.M (Kd.int .u8) _ _ _ 35 [.int .u8 35] from rfl) (Reps.one (show Kd.M (Kd.int .u8) _ _ _ ((a0) % 256) [.int .u8 ((a0) % 256)] from rfl) (Reps.one (show Kd.M (Kd.int .u8) _ _ _ ((a0 / 256) % 256) [.int .u8 ((a0 / 256) % 256)] from rfl) (Reps.one (show Kd.M (Kd.int .u8) _ _ _ ((a0 / 65536) % 256) [.int .u8 ((a0 / 65536) % 256)] from rfl) (Reps.one (show Kd.M (Kd.int .u8) _ _ _ 47 [.int .u8 47] from rfl) (Reps.one (show Kd.M (Kd.int .u8) _ _ _ ((a1) % 256) [.int .u8 ((a1) % 256)] from rfl) (Reps.one (show Kd.M (Kd.int .u8) _ _ _ ((a1 / 256) % 256) [.int .u8 ((a1 / 256) % 256)] from rfl) (Reps.one (show Kd.M (Kd.int .u8) _ _ _ ((a1 / 65536) % 256) [.int .u8 ((a1 / 65536) % 256)] from rfl) (Reps.none _ _)))))))))); intro v102 w3 ho4 hb hg_ hnew_; clear hg_ hnew_; (first | rw [← Ny101.out] at ho4 | (simp only [Int.reduceToNat] at ho4; rw [← Ny101.out] at ho4)); have n0_ := Aside0.mk (Kd.R_lower ho4 (below_size (by repeat (first | (with_reducible first | exact HB.out | apply below_alloc | apply pw_below_drewN | apply below_drew1) | exact HB.out)))); have n1_ := Aside0.mk (below_step (by repeat (first | (with_reducible first | exact HB.out | apply below_alloc | apply pw_below_drewN | apply below_drew1) | exact HB.out)) hb); clear HB; have HO103 := n0_; have HB := n1_; clear n0_ n1_; clear hb ho4; have hcv5 := own_string (P := Tryz.prog) Tryz.underlying22 Tryz.underlying5 Tryz.underlying9 (Kd.own_of_R HO103.out)))
  go_ret
  exact ⟨by first | rfl | (simp [errW_none, errW_some] <;> rfl) | (simp [*, errW_none, errW_some] <;> rfl), by repeat (first | (with_reducible first | exact HB.out | apply below_alloc | apply pw_below_drewN | apply below_drew1) | exact HB.out)⟩

end Go.Proofs.YtkpedlhofalnjaaGreatDoor.K
end

section
/- storemankit's marks of places in lists of texts. -/
namespace Go.Proofs.YtkpedlhofalnjaaGreatDoor
open Go.RowKit Go.Proofs.YtkpedlhofalnjaaGreatDoorW.PrintWords Go.Proofs.YtkpedlhofalnjaaGreatDoorW.PrintLast Go.Proofs.YtkpedlhofalnjaaGreatDoorW.PrintMore

def textMark (k i : Int) : ByteArray := strOfNums [35, k % 256, k / 256 % 256, k / 65536 % 256, 47, i % 256, i / 256 % 256, i / 65536 % 256]
theorem markText_calls (k i : Int) (w : World) : Calls Tryz.prog 160 #[.int .i64 k, .int .i64 i] w fun e w' => e = .returned (.string (textMark k i)) ∧ Below w.heap.size w w' :=
  K.storemankit_markText.calls k i _ w rfl
end Go.Proofs.YtkpedlhofalnjaaGreatDoor
end

section
/- What storemankit lends of texts: the list, and twelve marks in its spare room. -/
namespace Go.Proofs.YtkpedlhofalnjaaGreatDoor
open Go.RowKit Go.Proofs.YtkpedlhofalnjaaGreatDoorW.PrintWords Go.Proofs.YtkpedlhofalnjaaGreatDoorW.PrintLast Go.Proofs.YtkpedlhofalnjaaGreatDoorW.PrintMore

def encTexts : Enc ByteArray where
  sz := 1
  enc := fun x => [.string x]
  len := fun _ => rfl
  one := by
    intro x u hu
    simp only [List.mem_cons, List.not_mem_nil, or_false] at hu
    rcases hu with rfl <;> rfl
  pos := by decide

theorem encTexts_sz : encTexts.sz = 1 := rfl
def markTexts (k i : Int) : ByteArray := textMark k i
/-- n marks of the k-th list, from its i-th place on. -/
def marksTexts (k : Int) (i : Nat) : Nat → List ByteArray
  | 0 => []
  | n + 1 => marksTexts k i n ++ [markTexts k ((i + n : Nat) : Int)]
theorem marksTexts_length (k : Int) (i n : Nat) : (marksTexts k i n).length = n := by
  induction n with
  | zero => rfl
  | succ n ih => simp [marksTexts, ih]
theorem marksTexts_get (k : Int) (i b j : Nat) (h : j < b) : (marksTexts k i b)[j]? = some (markTexts k ((i + j : Nat) : Int)) := by
  induction b with
  | zero => omega
  | succ b ih =>
    rw [marksTexts]
    by_cases e : j = b
    · subst e
      rw [List.getElem?_append_right (by rw [marksTexts_length]; exact Nat.le_refl _), marksTexts_length, Nat.sub_self]; rfl
    · rw [List.getElem?_append_left (by rw [marksTexts_length]; omega), ih (by omega)]
theorem infoE_texts : (Tryz.prog.info? 9).map (fun i => (i.zero, i.size, i.bytes)) = some (some (.string ByteArray.empty), 1, 16) := by kernel_rfl

theorem markTexts_calls (k i : Int) (w : World) : Calls Tryz.prog 160 #[.int .i64 k, .int .i64 i] w fun e w' => e = .returned (.string (textMark k i)) ∧ Below w.heap.size w w' := markText_calls k i w

set_option maxRecDepth 100000 in
set_option maxHeartbeats 2000000 in
theorem lent_texts (A0 : Option Addr) (c0 : Nat) (l : List ByteArray) (w : World) (hr : encTexts.kd.C w A0 l.length l) (hn : l.length ≤ 1000000) :
    Calls Tryz.prog 78 #[.slice A0 l.length c0] w fun e w' => e = .returned (.slice (some ⟨w.heap.size, 0, none⟩) l.length (l.length + 12)) ∧
      w'.ownsRow w.heap.size 9 1 (.slice (some ⟨w.heap.size, 0, none⟩) (l.length + 12) (l.length + 12)) (l.length + 12) (encTexts.cells (l ++ marksTexts 1 0 12)) ∧ Below w.heap.size w w' := by
  obtain ⟨i0, hi, hz0, hz1, hz2⟩ := info_parts infoE_texts
  go_enter Tryz.func78, Tryz.ntmps78
  go_wp2_with (first
    | (at_make; refine wpList_make_own _ rfl _ _ 36 rfl w.heap.size 9 i0 _ 1 Tryz.underlying36 hi hz0 hz1 _ _ _ (l.length + 12) rfl rfl ?b1 ?b2 ?b3 ?b4 ?_)
    | fail)
  case b1 => omega
  case b2 => rw [hz2]; omega
  case b3 => simp only [maxLen]; omega
  case b4 => exact Nat.le_refl _
  intro w1 hown hgrow
  have hb1 : Below w.heap.size w w1 := (Below.refl _ _).grown hgrow (Nat.le_refl _) (fun _ h => by cases h)
  have hr1 := Kd.C_below hr hb1
  go_wp2_with (first
    | (at_builtin; refine wp_append_roomE encTexts _ rfl _ _ 36 rfl w.heap.size 9 i0 Tryz.underlying36 hi hz1 w.heap.size 0 (l.length + 12) [] rfl hown A0 l.length c0 l rfl hr1 ?c1 ?_)
    | fail)
  case c1 => omega
  intro w2 hown2 hgrow2
  have hb2 : Below w.heap.size w w2 := hb1.grown hgrow2 (by have := hb1.size; omega) (fun _ h => by cases h; exact Nat.le_refl _)
  clear hr1 hr hown hgrow hgrow2 hb1
  go_wp2
  go_loopg [3, 4] 13 (fun kq v3 v4 wr => ∃ (k : Nat), v3 = .slice (some ⟨w.heap.size, 0, none⟩) (l.length + k) (l.length + 12) ∧ v4 = .int .i64 k ∧ k + kq = 13 ∧ 0 < kq ∧
    Aside0 (wr.ownsRow w.heap.size 9 1 (.slice (some ⟨w.heap.size, 0, none⟩) (l.length + k) (l.length + 12)) (l.length + k) (encTexts.cells (l ++ marksTexts 1 0 k))) ∧ Aside0 (Below w.heap.size w wr))
  case atStart => exact ⟨0, by simp, rfl, by omega, by omega, ⟨by simpa [marksTexts, encTexts_sz] using hown2⟩, ⟨hb2⟩⟩
  case round =>
    obtain ⟨k, rfl, rfl, hk, hk0, HO, HB⟩ := hrel
    by_cases h12 : k < 12
    · have h12b : decide ((k : Int) < 12) = true := decide_eq_true (by omega)
      go_wp2_with fail
      refine (markTexts_calls 1 k wr).mono ?_
      rintro e w3 ⟨rfl, hd⟩
      have hb3 : Below w.heap.size w w3 := HB.out.trans (hd.mono HB.out.size)
      have HB3 := Aside0.mk hb3
      have HO3 := Aside0.mk (ownS_below HO.out hd)
      clear hd hb3
      go_wp2_with (first
        | (at_builtin; refine wp_append_roomE encTexts _ rfl _ _ 36 rfl w.heap.size 9 i0 Tryz.underlying36 hi hz1 w.heap.size (l.length + k) (l.length + 12) _ rfl (ownS_alloc HO3.out _) _ 1 1 [markTexts 1 k] rfl (Enc.reads_new encTexts _ _ _ _ rfl) ?d1 ?_)
        | fail)
      case d1 => omega
      intro w4 hown4 hgrow4
      have hb4 : Below w.heap.size w w4 := (HB3.out.alloc HB3.out.size _).grown hgrow4 (by have := HB3.out.size; simp only [World.size_alloc]; omega) (fun _ h => by cases h; exact Nat.le_refl _)
      go_wp2
      go_roundg (12 - k)
      case measure => omega
      case rel => exact ⟨k + 1, by rw [Nat.add_assoc], by simp, by omega, by omega, ⟨by simpa [marksTexts, encTexts_sz, Enc.cells_append, Nat.add_assoc] using hown4⟩, ⟨hb4⟩⟩
    · obtain rfl : k = 12 := by omega
      go_wp2
      go_ret
      exact ⟨rfl, HO.out, HB.out⟩
end Go.Proofs.YtkpedlhofalnjaaGreatDoor
end

section
/- Parts and texts, as the printed texts read them: the same cells. -/
namespace Go.Proofs.YtkpedlhofalnjaaGreatDoor
open Go.RowKit Go.Proofs.YtkpedlhofalnjaaGreatDoorW.PrintWords Go.Proofs.YtkpedlhofalnjaaGreatDoorW.PrintLast Go.Proofs.YtkpedlhofalnjaaGreatDoorW.PrintMore

theorem part_K (w : World) (x : Part) (cs : List Value) (h : A.k58.K w x cs) : cs = encParts.enc x := by
  obtain ⟨c0, c1, e, h0, h1⟩ := h
  rw [e, show c0 = [.string x.f0] from h0, show c1 = [.int .i64 x.f1] from h1]; rfl
theorem part_K' (w : World) (x : Part) : A.k58.K w x (encParts.enc x) := ⟨[.string x.f0], [.int .i64 x.f1], rfl, rfl, rfl⟩
theorem text_K (w : World) (x : ByteArray) (cs : List Value) (h : Kd.string.K w x cs) : cs = encTexts.enc x := h
theorem text_K' (w : World) (x : ByteArray) : Kd.string.K w x (encTexts.enc x) := rfl
end Go.Proofs.YtkpedlhofalnjaaGreatDoor
end

section
/- A whole block turned by one store; what was handed in stays. -/
namespace Go.Proofs.YtkpedlhofalnjaaGreatDoor
open Go.RowKit Go.Proofs.YtkpedlhofalnjaaGreatDoorW.PrintWords Go.Proofs.YtkpedlhofalnjaaGreatDoorW.PrintLast Go.Proofs.YtkpedlhofalnjaaGreatDoorW.PrintMore

/-- Just block g is turned. -/
structure BlkOnly (g : Nat) (w w1 : World) : Prop where
  os : w1.os = w.os
  tape : w1.tape = w.tape
  output : w1.output = w.output
  size : w1.heap.size = w.heap.size
  block : ∀ k, k ≠ g → w1.heap[k]? = w.heap[k]?
theorem BlkOnly.below {B g : Nat} {w0 w w1 : World} (h : BlkOnly g w w1) (hg : B ≤ g) (hb : Below B w0 w) : Below B w0 w1 := hb.trans ⟨h.os, h.tape, h.output, Nat.le_of_eq h.size.symm, fun k hk => h.block k (by omega)⟩
theorem BlkOnly.grown {g : Nat} {w w1 : World} (h : BlkOnly g w w1) : w.grownBy w1 (some g) := ⟨h.os, h.tape, h.output, Nat.le_of_eq h.size.symm, fun k _ hk => h.block k (fun e => hk (by rw [e]))⟩
theorem blk_set_whole {g : Nat} {e : TypeId} {cur vs : Array Value} {w : World} (hh : w.heap[g]? = some (.cells cur e (0, 0))) (hs : cur.size = vs.size) : (w.setCells g 0 vs.toList).heap[g]? = some (.cells vs e (0, 0)) ∧ BlkOnly g w (w.setCells g 0 vs.toList) := by
  obtain ⟨cur', h3, h4, h5⟩ := setCells_row vs.toList 0 w cur hh (by simp [hs])
  obtain ⟨s1, s2, s3, s4⟩ := setCells_same g vs.toList 0 w
  refine ⟨?_, ⟨s1, s2, s3, s4, fun k hk => setCells_far _ _ k hk⟩⟩
  have e1 : cur' = vs := by
    apply Array.toList_inj.1
    rw [h5]
    simp [hs]
  rw [h3, e1]
section
variable {P : Program} {ops : Array Oper} {rest : List Oper} {o : Oper} {a : Act} {Q : Exit → Act → World → Prop}
theorem blk_exec_whole {ev : Operand → Value} {W : World} {t : TypeId} {p x : Operand} (ho : o.op = .store t p x) {g : Nat} {vs cur : Array Value} {e : TypeId} (hp : ev p = .pointer (some ⟨g, 0, none⟩)) (hx : ev x = .agg vs) (hh : W.heap[g]? = some (.cells cur e (0, 0))) (ht : (P.info? t).map (·.size) = some vs.toList.length) (hs : cur.size = vs.size) (h1 : ∀ q ∈ vs.toList, q.oneCell' = true) :
    (execOp ev o).run P W = .ok .skip (W.setCells g 0 vs.toList) := by
  have hrun := run_store_run (P := P) (o := 0) t (.agg vs) vs.toList hh rfl ht (by simp [hs]) h1
  unfold execOp
  simp only [ho, hp, hx, Sem.run_bind, Sem.run_pure, Result.andThen_ok, hrun]
theorem blk_store_whole {W : World} (hN : o.dst = none) (hgd : o.guard = none) {t : TypeId} {p x : Operand} (ho : o.op = .store t p x) {g : Nat} {vs cur : Array Value} {e : TypeId} (hp : a.eval p = .pointer (some ⟨g, 0, none⟩)) (hx : a.eval x = .agg vs) (hh : W.heap[g]? = some (.cells cur e (0, 0))) (ht : (P.info? t).map (·.size) = some vs.toList.length) (hs : cur.size = vs.size) (h1 : ∀ q ∈ vs.toList, q.oneCell' = true)
    (h : ∀ w1, w1.heap[g]? = some (.cells vs e (0, 0)) → BlkOnly g W w1 → wpList P ops Q rest a w1) : wpList P ops Q (o :: rest) a W := by
  refine wpList_plain hgd fun K hK => ?_
  unfold Oper.wp
  rw [blk_exec_whole ho hp hx hh ht hs h1]
  show K (a.put o.dst undef) _
  rw [hN]
  obtain ⟨h2, h3⟩ := blk_set_whole (vs := vs) hh hs
  exact hK a _ (h _ h2 h3)
end
end Go.Proofs.YtkpedlhofalnjaaGreatDoor
end

section
/- What storemankit lends of a command: its lists, with marks in their spare room; and writes over. -/
namespace Go.Proofs.YtkpedlhofalnjaaGreatDoor
open Go.RowKit Go.Proofs.YtkpedlhofalnjaaGreatDoorW.PrintWords Go.Proofs.YtkpedlhofalnjaaGreatDoorW.PrintLast Go.Proofs.YtkpedlhofalnjaaGreatDoorW.PrintMore

set_option maxRecDepth 100000 in
set_option maxHeartbeats 4000000 in
theorem lent_ask (x : Cmd) (A9 : Option Addr) (c9 : Nat) (A10 : Option Addr) (c10 : Nat) (w : World) (hr9 : encParts.kd.C w A9 x.parts.length x.parts) (hr10 : encTexts.kd.C w A10 x.others.length x.others) (h9 : x.parts.length ≤ 1000000) (h10 : x.others.length ≤ 1000000) :
    Calls Tryz.prog 31 #[.agg #[.int .u8 x.kind, .int .i64 x.req, .string x.item, .int .i64 x.qty, .int .i64 x.day, .int .i64 x.days, .int .i64 x.rank, .int .i64 x.lot, .int .i64 x.line, .slice A9 x.parts.length c9, .slice A10 x.others.length c10]] w fun e w' => ∃ g9 g10,
      e = .returned (.agg #[.int .u8 x.kind, .int .i64 x.req, .string x.item, .int .i64 x.qty, .int .i64 x.day, .int .i64 x.days, .int .i64 x.rank, .int .i64 x.lot, .int .i64 x.line, .slice (some ⟨g9, 0, none⟩) x.parts.length (x.parts.length + 12), .slice (some ⟨g10, 0, none⟩) x.others.length (x.others.length + 12)]) ∧ g9 < g10 ∧
      w'.ownsRow w.heap.size 58 2 (.slice (some ⟨g9, 0, none⟩) (x.parts.length + 12) (x.parts.length + 12)) (x.parts.length + 12) (encParts.cells (x.parts ++ marksParts 1 0 12)) ∧
      w'.ownsRow w.heap.size 9 1 (.slice (some ⟨g10, 0, none⟩) (x.others.length + 12) (x.others.length + 12)) (x.others.length + 12) (encTexts.cells (x.others ++ marksTexts 1 0 12)) ∧ Below w.heap.size w w' := by
  have HR9 := Aside0.mk hr9
  have HR10 := Aside0.mk hr10
  clear hr9 hr10
  go_enter Tryz.func31, Tryz.ntmps31
  go_wp2_with (first
    | ((with_reducible refine gate_dst (N := 1) rfl ?_); refine box_event ?hg (N := 1) ?hd (cs := #[.int .u8 x.kind, .int .i64 x.req, .string x.item, .int .i64 x.qty, .int .i64 x.day, .int .i64 x.days, .int .i64 x.rank, .int .i64 x.lot, .int .i64 x.line, .slice A9 x.parts.length c9, .slice A10 x.others.length c10]) (t := 38) ?hr ?_; (case hd => rfl); (case hg => rfl); (case hr => first | (go_simp; done) | (go_simp; rfl)); intro gb hgb w1 hbox hb1; have HBOX := Aside0.mk hbox; have HB1 := Aside0.mk hb1; have HGB := Aside0.mk hgb; clear hbox hb1 hgb)
    | ((with_reducible refine gate_dst (N := 2) rfl ?_); refine box_event ?hg (N := 2) ?hd (cs := #[.int .u8 0, .int .i64 0, .string ByteArray.empty, .int .i64 0, .int .i64 0, .int .i64 0, .int .i64 0, .int .i64 0, .int .i64 0, .slice none 0 0, .slice none 0 0]) (t := 38) ?hr ?_; (case hd => rfl); (case hg => rfl); (case hr => first | (go_simp; done) | (go_simp; rfl)); intro gr hgr w2 hres hb2; have HRES := Aside0.mk hres; have HB2 := Aside0.mk (below_step HB1.out hb2); have HGR := Aside0.mk hgr; have HBOX2 := Aside0.mk (blk_below HBOX.out hb2); have HSZ := Aside0.mk hb2.size; have hc9 : w2.cell? ⟨gb, 9, none⟩ = some (.slice A9 x.parts.length c9) := blk_cell HBOX2.out 9; clear hres hb2 hgr)
    | fail)
  refine (lent_parts A9 c9 x.parts w2 (Kd.C_below HR9.out HB2.out) h9).mono ?_
  rintro e w3 ⟨rfl, ho3, hb3⟩
  have HGL := Aside0.mk (blk_lt HBOX2.out)
  have HBOX3 := Aside0.mk (blk_below HBOX2.out hb3)
  have HRES3 := Aside0.mk (blk_below HRES.out hb3)
  have HB3 := Aside0.mk (below_step HB2.out hb3)
  have HO3 := Aside0.mk ho3
  have HG9 := Aside0.mk (ho3.lt w2.heap.size rfl).2
  have hc9 : w3.cell? ⟨gb, 9, none⟩ = some (.slice A9 x.parts.length c9) := blk_cell HBOX3.out 9
  have hf9 : w3.frozen? ⟨gb, 9, none⟩ = false := blk_frozen HBOX3.out 9
  have hc10 : w3.cell? ⟨gb, 10, none⟩ = some (.slice A10 x.others.length c10) := blk_cell HBOX3.out 10
  obtain ⟨g9, hg9⟩ : ∃ g, g = w2.heap.size := ⟨_, rfl⟩
  rw [← hg9] at HO3 HG9 HGL ⊢
  have HG9E := Aside0.mk hg9
  clear ho3 hb3 hg9
  go_wp2_with fail
  have hgb9 : gb ≠ g9 := by have := HGL.out; omega
  have hgrb : gr ≠ gb := by have h1 := HGR.out; have h2 := HB1.out.size; have h3 := HGB.out; have h4 := blk_lt HBOX.out; omega
  have hgle : w.heap.size ≤ gb := by have h3 := HGB.out; omega
  refine (lent_texts A10 c10 x.others _ (Kd.C_below HR10.out (below_set HB3.out hgle)) h10).mono ?_
  rintro e w4 ⟨rfl, ho4, hb4⟩
  have HB4 := Aside0.mk (below_step (below_set HB3.out hgle) hb4)
  have HBOX4 := Aside0.mk (blk_below (blk_put HBOX3.out 9 _ (cs' := #[.int .u8 x.kind, .int .i64 x.req, .string x.item, .int .i64 x.qty, .int .i64 x.day, .int .i64 x.days, .int .i64 x.rank, .int .i64 x.lot, .int .i64 x.line, .slice (some ⟨g9, 0, none⟩) x.parts.length (x.parts.length + 12), .slice A10 x.others.length c10]) rfl) hb4)
  have HRES4 := Aside0.mk (blk_below (blk_far (p := ⟨gb, 9, none⟩) HRES3.out hgrb _) hb4)
  have HO94 := Aside0.mk (ownS_below (own_move (w1 := w3.setCell ⟨gb, 9, none⟩ (.slice (some ⟨g9, 0, none⟩) x.parts.length (x.parts.length + 12))) HO3.out (fun k hk => Below.heap_setCell w3 ⟨gb, 9, none⟩ _ k (by cases hk; exact hgb9.symm))) hb4)
  have HO4 := Aside0.mk ho4
  have HG10 := Aside0.mk (ho4.lt _ rfl).2
  have hsz : (w3.setCell ⟨gb, 9, none⟩ (.slice (some ⟨g9, 0, none⟩) x.parts.length (x.parts.length + 12))).heap.size = w3.heap.size := by simp
  rw [hsz] at HO4 HG10 ⊢
  obtain ⟨g10, hg10⟩ : ∃ g, g = w3.heap.size := ⟨_, rfl⟩
  rw [← hg10] at HO4 HG10 HG9 ⊢
  have hgb10 : gb ≠ g10 := by have := HGL.out; have := HG9.out; omega
  have HL10 := Aside0.mk (show w.heap.size ≤ g10 by rw [hg10]; exact HB3.out.size)
  have HL9 := Aside0.mk (show w.heap.size ≤ g9 by have h1 := HG9E.out; have h2 := HB2.out.size; omega)
  have hcA : w4.cell? ⟨gb, 10, none⟩ = some (.slice A10 x.others.length c10) := blk_cell HBOX4.out 10
  have hfA : w4.frozen? ⟨gb, 10, none⟩ = false := blk_frozen HBOX4.out 10
  have HBOX5 := Aside0.mk (blk_put HBOX4.out 10 (.slice (some ⟨g10, 0, none⟩) x.others.length (x.others.length + 12)) (cs' := #[.int .u8 x.kind, .int .i64 x.req, .string x.item, .int .i64 x.qty, .int .i64 x.day, .int .i64 x.days, .int .i64 x.rank, .int .i64 x.lot, .int .i64 x.line, .slice (some ⟨g9, 0, none⟩) x.parts.length (x.parts.length + 12), .slice (some ⟨g10, 0, none⟩) x.others.length (x.others.length + 12)]) rfl)
  have HRES5 := Aside0.mk (blk_far (p := ⟨gb, 10, none⟩) HRES4.out hgrb (.slice (some ⟨g10, 0, none⟩) x.others.length (x.others.length + 12)))
  have HO95 := Aside0.mk (own_move (w1 := w4.setCell ⟨gb, 10, none⟩ (.slice (some ⟨g10, 0, none⟩) x.others.length (x.others.length + 12))) HO94.out (fun k hk => Below.heap_setCell w4 ⟨gb, 10, none⟩ _ k (by cases hk; exact hgb9.symm)))
  have HO5 := Aside0.mk (own_move (w1 := w4.setCell ⟨gb, 10, none⟩ (.slice (some ⟨g10, 0, none⟩) x.others.length (x.others.length + 12))) HO4.out (fun k hk => Below.heap_setCell w4 ⟨gb, 10, none⟩ _ k (by cases hk; exact hgb10.symm)))
  have HB5 := Aside0.mk (below_set (j := 10) (v := .slice (some ⟨g10, 0, none⟩) x.others.length (x.others.length + 12)) HB4.out hgle)
  have HGRL := Aside0.mk (show w.heap.size ≤ gr by have h1 := HGR.out; have h2 := HB1.out.size; omega)
  have HNR := Aside0.mk (show gr ≠ g9 ∧ gr ≠ g10 by have h1 := blk_lt HRES.out; have h2 := HG9E.out; have h3 := HG9.out; omega)
  clear ho4 hb4 hg10 hsz hc9 hf9 hc10
  go_wp2_with (first
    | (refine gate_ (.load 38 (.tmp 1)) rfl ?_; refine wpList_load_row rfl 38 _ rfl gb (by rfl) 38 #[.int .u8 x.kind, .int .i64 x.req, .string x.item, .int .i64 x.qty, .int .i64 x.day, .int .i64 x.days, .int .i64 x.rank, .int .i64 x.lot, .int .i64 x.line, .slice (some ⟨g9, 0, none⟩) x.parts.length (x.parts.length + 12), .slice (some ⟨g10, 0, none⟩) x.others.length (x.others.length + 12)] (0, 0) _ HBOX5.out Tryz.underlying38 rfl (by kernel_rfl) ?_)
    | (refine gate_ (.store 38 (.tmp 2) (.tmp 11)) rfl ?_; refine blk_store_whole rfl rfl rfl (vs := #[.int .u8 x.kind, .int .i64 x.req, .string x.item, .int .i64 x.qty, .int .i64 x.day, .int .i64 x.days, .int .i64 x.rank, .int .i64 x.lot, .int .i64 x.line, .slice (some ⟨g9, 0, none⟩) x.parts.length (x.parts.length + 12), .slice (some ⟨g10, 0, none⟩) x.others.length (x.others.length + 12)]) (by rfl) (by rfl) HRES5.out (by kernel_rfl) rfl (by simp [Value.oneCell']) ?_; intro w7 hz7 ho7; have HZ7 := Aside0.mk hz7; have HOZ := Aside0.mk ho7; clear hz7 ho7)
    | fail)
  refine bodyPost_ret (results_cell_row rfl _ _ gr 38 #[.int .u8 x.kind, .int .i64 x.req, .string x.item, .int .i64 x.qty, .int .i64 x.day, .int .i64 x.days, .int .i64 x.rank, .int .i64 x.lot, .int .i64 x.line, .slice (some ⟨g9, 0, none⟩) x.parts.length (x.parts.length + 12), .slice (some ⟨g10, 0, none⟩) x.others.length (x.others.length + 12)] (0, 0) _ (by rfl) HZ7.out Tryz.underlying38 rfl (by kernel_rfl)) rfl ?_
  exact ⟨g9, g10, rfl, HG9.out, ownS_base (own_move HO95.out (fun k hk => HOZ.out.block k (by cases hk; exact HNR.out.1.symm))) HL9.out, ownS_base (own_move HO5.out (fun k hk => HOZ.out.block k (by cases hk; exact HNR.out.2.symm))) HL10.out, HOZ.out.below HGRL.out HB5.out⟩
end Go.Proofs.YtkpedlhofalnjaaGreatDoor
end

section
-- Written by a program of this session (a turned copy of the kit's print): functions and their proofs.
namespace Go.Proofs.YtkpedlhofalnjaaGreatDoor.C
open Go.RowKit Go.Proofs.YtkpedlhofalnjaaGreatDoorW.PrintWords Go.Proofs.YtkpedlhofalnjaaGreatDoorW.PrintLast Go.Proofs.YtkpedlhofalnjaaGreatDoorW.PrintMore
attribute [local go_sem] max2_int min2_int max_two min_two max_three min_three max_four min_four   -- for this text's walks alone
set_option linter.unusedVariables false
set_option linter.unusedSimpArgs false

/-! ### storemankit_mark: function 123 -/
def storemankit_mark.f (a0 : Int) (a1 : Int) : Option (Int) := some (wrap64 ((wrap64 (1000003 * (wrap64 (a0 + 7)))) + a1))
set_option maxHeartbeats 8000000 in
set_option maxRecDepth 100000 in
theorem storemankit_mark.calls (a0 : Int) (a1 : Int) (r : Int) (w : World) (h : storemankit_mark.f a0 a1 = some r) :
    Calls Tryz.prog 123 #[.int .i64 a0, .int .i64 a1] w fun e w' => e = .returned (.int .i64 r) ∧ Drawn0 w w' := by
  have H : (some (wrap64 ((wrap64 (1000003 * (wrap64 (a0 + 7)))) + a1))) = some r := h
  clear h
  obtain rfl := Option.some.inj H
  go_enter Tryz.func123, Tryz.ntmps123
  go_wp2
  go_ret
  exact ⟨by first | rfl | (simp; done) | (simp [*]; done), by repeat (first | exact Drawn0.refl _ | apply Drawn0.step)⟩

/-! ### storemankit_markByte: function 59 -/
def storemankit_markByte.f (a0 : Int) (a1 : Int) : Option (Int) := (storemankit_mark.f a0 a1).bind fun t150 => (some (((IntKind.u64.wrap ((IntKind.u64.wrap (t150)) * 11400714819323198485)) / 72057594037927936) % 256))
set_option maxHeartbeats 8000000 in
set_option maxRecDepth 100000 in
theorem storemankit_markByte.calls (a0 : Int) (a1 : Int) (r : Int) (w : World) (h : storemankit_markByte.f a0 a1 = some r) :
    Calls Tryz.prog 59 #[.int .i64 a0, .int .i64 a1] w fun e w' => e = .returned (.int .u8 r) ∧ Drawn0 w w' := by
  have H : ((storemankit_mark.f a0 a1).bind fun t150 => (some (((IntKind.u64.wrap ((IntKind.u64.wrap (t150)) * 11400714819323198485)) / 72057594037927936) % 256))) = some r := h
  clear h
  replace H := Option.bind_eq_some_iff.mp H
  obtain ⟨t150, A30, H⟩ := H
  replace H : (some (((IntKind.u64.wrap ((IntKind.u64.wrap (t150)) * 11400714819323198485)) / 72057594037927936) % 256)) = some r := H
  have A3 := Aside0.mk A30
  clear A30
  obtain rfl := Option.some.inj H
  go_enter Tryz.func59, Tryz.ntmps59
  go_wp2_with (first | ((with_reducible refine gate_callee (f := 123) rfl ?_); refine goesL_ (some 7) rfl rfl Tryz.func123 (by kernel_rfl) rfl #[.int .i64 a0, .int .i64 a1] rfl (by (try simp only [List.map_toArray, List.map_cons, List.map_nil]); first | done | rfl | (simp only [List.length_drop, List.length_take]; rfl)) ?_; (with_reducible refine (storemankit_mark.calls a0 a1 t150 _ A3.out).mono ?_); rintro e w' ⟨rfl, ⟨nd, rfl⟩⟩; refine ⟨_, rfl, ?_⟩))
  go_ret
  exact ⟨by first | rfl | (simp; done) | (simp [*]; done), by repeat (first | exact Drawn0.refl _ | apply Drawn0.step)⟩

end Go.Proofs.YtkpedlhofalnjaaGreatDoor.C
end

section
-- Written by a program of this session (a turned copy of the kit's print): functions and their proofs.
namespace Go.Proofs.YtkpedlhofalnjaaGreatDoor.C
open Go.RowKit Go.Proofs.YtkpedlhofalnjaaGreatDoorW.PrintWords Go.Proofs.YtkpedlhofalnjaaGreatDoorW.PrintLast Go.Proofs.YtkpedlhofalnjaaGreatDoorW.PrintMore
attribute [local go_sem] max2_int min2_int max_two min_two max_three min_three max_four min_four   -- for this text's walks alone
set_option linter.unusedVariables false
set_option linter.unusedSimpArgs false

/-! ### storemankit_KeptBytes: function 16 -/
def storemankit_KeptBytes.T7 : Bool × List (List Nat × List Nat) := (true, [([], []), ([], []), ([1], [1]), ([0, 2], [0, 2]), ([3], [3]), ([4], [4]), ([4], [4]), ([5, 6, 4], [4, 5, 6]), ([7, 4], [4, 7]), ([4], [4]), ([4], [4]), ([9, 10, 4], [4, 9, 10]), ([11, 4], [4, 11]), ([8, 12, 4], [4, 8, 12]), ([13, 4], [4, 13]), ([4, 14], [4, 14]), ([15, 4], [15]), ([16], [16]), ([16], [16]), ([18, 16], [16, 18]), ([17, 19, 16], [16, 17, 19]), ([20, 16, 16], [16, 20]), ([21], [21]), ([21], [21]), ([22, 23, 21], [21, 22, 23]), ([24, 21], [21, 24]), ([21], [21]), ([21], [21]), ([27, 21], [21, 27]), ([26, 28, 21], [21, 26, 28]), ([29, 21, 21], [21, 29]), ([25, 30, 21], [21, 25, 30]), ([31, 21], [21, 31]), ([21, 32, 16], [16, 21, 32]), ([16, 33], [16, 33])])
def storemankit_KeptBytes.B7 : List Nat := [0, 0, 2, 7, 15, 31, 31, 127, 255, 31, 31, 1567, 3615, 8191, 16383, 32767, 65535, 131071, 131071, 393215, 1048575, 2097151, 4194303, 4194303, 16777215, 33554431, 4194303, 4194303, 138412031, 473956351, 1010827263, 2147483647, 4294967295, 8589934591, 17179869183]
theorem storemankit_KeptBytes.tab7 : rtab .any (opsOf Tryz.f16 7) = storemankit_KeptBytes.T7 := by kernel_rfl
theorem storemankit_KeptBytes.bits7 : waitsOk storemankit_KeptBytes.T7.2 storemankit_KeptBytes.B7 = true := by kernel_rfl
end Go.Proofs.YtkpedlhofalnjaaGreatDoor.C
end

section
/- What storemankit lends, and writes over: a list with twelve marks in its spare room. -/
namespace Go.Proofs.YtkpedlhofalnjaaGreatDoor
open Go.RowKit Go.Proofs.YtkpedlhofalnjaaGreatDoorW.PrintWords Go.Proofs.YtkpedlhofalnjaaGreatDoorW.PrintLast Go.Proofs.YtkpedlhofalnjaaGreatDoorW.PrintMore

def markOf (k i : Int) : Int := ((IntKind.u64.wrap ((IntKind.u64.wrap (wrap64 ((wrap64 (1000003 * (wrap64 (k + 7)))) + i))) * 11400714819323198485)) / 72057594037927936) % 256
theorem mark_calls (k i : Int) (w : World) : Calls Tryz.prog 59 #[.int .i64 k, .int .i64 i] w fun e w' => e = .returned (.int .u8 (markOf k i)) ∧ Drawn0 w w' :=
  C.storemankit_markByte.calls k i _ w rfl
/-- n marks of the k-th list, from its i-th place on. -/
def marks (k : Int) (i : Nat) : Nat → List Int
  | 0 => []
  | n + 1 => marks k i n ++ [markOf k ((i + n : Nat) : Int)]
theorem marks_length (k : Int) (i n : Nat) : (marks k i n).length = n := by
  induction n with
  | zero => rfl
  | succ n ih => simp [marks, ih]

theorem own_alloc {w : World} {base : Nat} {e : TypeId} {v : Value} {n : Nat} {xs : List Value} (h : w.ownsRow base e 1 v n xs) (o : Obj) : (w.alloc o).ownsRow base e 1 v n xs := by
  refine ⟨h.1, ?_⟩
  rcases h.2 with h2 | ⟨g, cap, cur, h1, h2, h3, h4⟩
  · exact .inl h2
  · refine .inr ⟨g, cap, cur, h1, h2, ?_, h4⟩
    rw [Below.heap_alloc w o g (Array.getElem?_eq_some_iff.1 h3).1]
    exact h3

theorem own_drawn {w w' : World} {base : Nat} {e : TypeId} {v : Value} {n : Nat} {xs : List Value} (h : w.ownsRow base e 1 v n xs) (hd : Drawn0 w w') : w'.ownsRow base e 1 v n xs := by
  obtain ⟨nd, rfl⟩ := hd
  exact h

/-- Where a row has been stored into, another row is as it was. -/
theorem own_other {w w' : World} {base g : Nat} {e : TypeId} {v : Value} {n : Nat} {xs : List Value} (h : w.ownsRow base e 1 v n xs) (hg : w.grownBy w' (some g)) (hne : v.ownBlock ≠ some g) : w'.ownsRow base e 1 v n xs := by
  refine ⟨h.1, ?_⟩
  rcases h.2 with h2 | ⟨b, cap, cur, h1, h2, h3, h4⟩
  · exact .inl h2
  · refine .inr ⟨b, cap, cur, h1, h2, ?_, h4⟩
    rw [hg.block b (Array.getElem?_eq_some_iff.1 h3).1 (by subst h1; simpa [Value.ownBlock] using hne)]
    exact h3

end Go.Proofs.YtkpedlhofalnjaaGreatDoor
end
