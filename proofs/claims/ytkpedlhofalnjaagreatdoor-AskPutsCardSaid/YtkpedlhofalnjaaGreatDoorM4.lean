/- World, A0, Q0, Q1, Num, Plain, Right, Shelf, Number, Ext03, GetPure. -/
import Derived.Test.YtkpedlhofalnjaaGreatDoorProg
import Derived.WalkKit
import Derived.WalkSpells
import Derived.WalkLawsBesides
import Derived.BigQuiet
import Derived.Lib.Hide
import Derived.Lib.Strings
import Derived.Lib.LaidTab
import Derived.Lib.ItoaNum
import Derived.Sort.Grow
import Derived.Lib.ConvBytes
import Derived.Lib.AtoiErrMem
import Derived.Below
import Derived.Deep.Draws
import Derived.Deep.AppendLies
import Derived.Maps.AppendAt
import Derived.OwnWalk
import Derived.Laws.BytesArg
import Derived.Laws.MakeOwn
import Derived.Laws.OwnMore
import Derived.Deep.OwnRows
import Derived.Tactics
import Derived.Laws.Slices
import Derived.KernelRfl
import Derived.RowKit3
import Derived.Deep.LoopGhost
import Derived.Deep.QuietTactic
import Derived.WideLaws
import Derived.Deep.DeepCutAuto
import Derived.Deep.CutBlock
import Derived.Deep.RegionHeld3
import Derived.Laws.Rows
import Derived.Lib.AppendStr
import Derived.ArgAppend
import Derived.Laws.IdiomCopy
import Derived.OrdersHeld
import Derived.Laws.BitsLemmas
import Derived.RowKit
import Derived.Test.YtkpedlhofalnjaaGreatDoorWWords
import Derived.Test.YtkpedlhofalnjaaGreatDoorM1
import Derived.Test.YtkpedlhofalnjaaGreatDoorM2
import Derived.Lib.ParseIntBTie
import Derived.Lib.ItoaLen
import Derived.Shelf.Strings.Builder1
import Derived.Shelf.Strings.Builder2
import Derived.Shelf.Strings.Trim
import Derived.Shelf.Small.Utf8
import Derived.Shelf.Small.Strs
import Derived.Shelf.Strconv.Itoa0
import Derived.Shelf.Strconv.Itoa1
import Derived.Shelf.LaysM
import Derived.Shelf.Strconv.Itoa2
import Derived.Shelf.Strconv.Itoa3
import Derived.Shelf.Strconv.Itoa4
import Derived.Shelf.Strconv.ParseIntEmpty
import Derived.Shelf.Strconv.Clone
import Derived.Shelf.Strconv.SyntaxError
import Derived.Shelf.LaysC
import Derived.Shelf.Strconv.ToError
import Derived.Shelf.Strconv.Lower
import Derived.Shelf.Strconv.ParseUint10
import Derived.Shelf.Strconv.ParseUint10Empty
import Derived.Shelf.Strconv.ParseUint10Any
import Derived.Shelf.Strconv.ParseInt10
import Derived.Shelf.Strconv.RangeError
import Derived.Shelf.Strconv.ToErrorRange
import Derived.Shelf.Strconv.ParseUintEmpty
import Derived.Shelf.Strconv.ParseUint10b64
import Derived.Shelf.Strconv.ParseUint10b32
import Derived.Shelf.Strconv.ParseUint10b16
import Derived.Shelf.Strconv.ParseUint10b8
import Derived.Shelf.Strconv.ParseUint10At
import Derived.Shelf.Strconv.ParseInt10At64
import Derived.Shelf.Strconv.ParseInt10At32
import Derived.Shelf.Strconv.ParseInt10At16
import Derived.Shelf.Strconv.ParseInt10At8
import Derived.Shelf.Strconv.ParseInt10All
import Derived.Shelf.Strconv.ParseIntPublic10
import Derived.Shelf.Strconv.ErrVarParseInt
import Derived.Shelf.Strings.Search1
import Derived.Shelf.Strings.Search2
import Derived.Shelf.Strings.Search3
import Derived.Shelf.Strings.Shaped
import Derived.Shelf.Strings.Fields
import Derived.Shelf.Strings.SplitShaped
import Derived.Shelf.Unicode.Latin
import Derived.Shelf.Unicode.Decode
import Derived.Shelf.Strings.Runes
import Derived.Shelf.Strings.AsciiSet
import Derived.Shelf.Bits.Mul64
import Derived.Shelf.Unicode.DecodeSlow
import Derived.Shelf.Unicode.DecodeAny
import Derived.Shelf.Unicode.Is16White
import Derived.Shelf.Unicode.IsSpaceAny
import Derived.Shelf.Unicode.DecodeLast
import Derived.Shelf.Unicode.Is16Any
import Derived.Shelf.Unicode.Is32Any
import Derived.Shelf.Unicode.ExclAny
import Derived.Shelf.Slices.Turned

section
/- What the world must hold for numbers to be read and told (the tables and sentinels of the library that are laid by their initialisers), and that it stays so as the call makes new memory. -/
namespace Go.Proofs.YtkpedlhofalnjaaGreatDoor
open Go.RowKit

theorem gPow : Tryz.prog.globalNamed "internal/strconv.uint64pow10" = some 7 := by kernel_rfl

structure Laid03 (w : World) : Prop where
  tab : Lib.TabIs Tryz.prog w "internal/strconv.uint64pow10" .u64 Lib.pow10Tab
  syn : ∃ tp p, w.cell? ⟨5, 0, none⟩ = some (.iface tp p)
  rng : ∃ tp p, w.cell? ⟨6, 0, none⟩ = some (.iface tp p)

theorem keep_cell {w w' : World} (hb : Below w.heap.size w w') {a : Addr} {v : Value} (h : w.cell? a = some v) : w'.cell? a = some v :=
  (hb.cell (World.block_lt_of_cell? w a h)).trans h

theorem keep_tab {w w' : World} {n : String} {g : Nat} {k : IntKind} {zs : List Int} (hg : Tryz.prog.globalNamed n = some g) (h : Lib.TabIs Tryz.prog w n k zs) (hz : 0 < zs.length) (hb : Below w.heap.size w w') : Lib.TabIs Tryz.prog w' n k zs :=
  var?_below hb hg (World.block_lt_of_cell? w _ (h.cell hg 0 hz)) h

theorem Laid03.below {w w' : World} (h : Laid03 w) (hb : Below w.heap.size w w') : Laid03 w' :=
  ⟨keep_tab gPow h.tab (by rw [Lib.pow10Tab_length]; omega) hb, by obtain ⟨tp, p, e⟩ := h.syn; exact ⟨tp, p, keep_cell hb e⟩, by obtain ⟨tp, p, e⟩ := h.rng; exact ⟨tp, p, keep_cell hb e⟩⟩

theorem wf_bounds {x : Int} (h : (Lit.int .i64 x).wf = true) : -9223372036854775808 ≤ x ∧ x ≤ 9223372036854775807 := by
  have hmin : IntKind.i64.min = -9223372036854775808 := rfl
  have hmax : IntKind.i64.max = 9223372036854775807 := rfl
  simp only [Lit.wf, Bool.and_eq_true, decide_eq_true_eq] at h
  omega
theorem wf_byte {x : Int} (h : (Lit.int .u8 x).wf = true) : 0 ≤ x ∧ x ≤ 255 := by
  have hmin : IntKind.u8.min = 0 := rfl
  have hmax : IntKind.u8.max = 255 := rfl
  simp only [Lit.wf, Bool.and_eq_true, decide_eq_true_eq] at h
  omega

end Go.Proofs.YtkpedlhofalnjaaGreatDoor
end

section
-- Written by a program of this session (a turned copy of the kit's print): functions and their proofs.
namespace Go.Proofs.YtkpedlhofalnjaaGreatDoor.A
open Go.RowKit Go.Proofs.YtkpedlhofalnjaaGreatDoorW.PrintWords Go.Proofs.YtkpedlhofalnjaaGreatDoorW.PrintLast Go.Proofs.YtkpedlhofalnjaaGreatDoorW.PrintMore
attribute [local go_sem] max2_int min2_int max_two min_two max_three min_three max_four min_four   -- for this text's walks alone
set_option linter.unusedVariables false
set_option linter.unusedSimpArgs false

def errW : Option Int → Value
  | none => .nilIface
  | some c => .iface 0 (.int .i64 c)
theorem errW_none : errW none = .nilIface := rfl
theorem errW_some (c : Int) : errW (some c) = .iface 0 (.int .i64 c) := rfl

theorem info5 : (Tryz.prog.info? 5).map (fun i => (i.zero, i.size, i.bytes)) = some (some (.int .u8 0), 1, 1) := by kernel_rfl
theorem info9 : (Tryz.prog.info? 9).map (fun i => (i.zero, i.size, i.bytes)) = some (some (.string ⟨#[]⟩), 1, 16) := by kernel_rfl
-- the values' own types
/-! #### struct type 58 -/
structure S58 where
  f0 : ByteArray
  f1 : Int
def z58 : S58 := ⟨(⟨#[]⟩ : ByteArray), (0 : Int)⟩
def k58 : Kd S58 := Kd.iso (Kd.pair Kd.string (Kd.int .i64)) (fun x : S58 => (x.f0, x.f1))
theorem k58_open {w : World} {x : S58} {cs : List Value} (h : k58.K w x cs) : cs = [.string x.f0, .int .i64 x.f1] := by
  obtain ⟨_, _, rfl, rfl, rfl⟩ := h
  exact rfl
theorem k58_mkM (w : World) (base : Nat) (ok : Nat → Prop) (x : S58)  : k58.M w base ok x [.string x.f0, .int .i64 x.f1] := ⟨[.string x.f0], [.int .i64 x.f1], rfl, rfl, rfl⟩
def rd_T58 (xs : List S58) (i : Int) : S58 := xs.getD i.toNat z58
theorem at_T58 {w : World} {A : Option Addr} {n : Nat} {xs : List S58} (h : Kd.C k58 w A n xs) (i : Int) (h0 : 0 ≤ i) (h1 : i < n) : ∃ ad , A = some ad ∧ w.cell? (ad.add (i.toNat * 2)) = some (.string (rd_T58 xs i).f0) ∧ w.cell? ⟨(ad.add (i.toNat * 2)).block, (ad.add (i.toNat * 2)).off + 1, none⟩ = some (.int .i64 (rd_T58 xs i).f1) := by
  obtain ⟨ad, c, e, _, hK, hc0⟩ := Kd.C_get h z58 i h0 h1
  have hc : ∀ j u, c[j]? = some u → w.cell? (ad.add (i.toNat * 2 + j)) = some u := hc0
  obtain rfl := k58_open hK
  exact ⟨ad, e, hc 0 _ rfl, by rw [← add_field _ _ 1 (by omega)]; exact hc 1 _ rfl⟩

/-! #### struct type 38 -/
structure S38 where
  f0 : Int
  f1 : Int
  f2 : ByteArray
  f3 : Int
  f4 : Int
  f5 : Int
  f6 : Int
  f7 : Int
  f8 : Int
  f9 : (List S58)
  f10 : (List ByteArray)

end Go.Proofs.YtkpedlhofalnjaaGreatDoor.A
end

section
-- Written by a program of this session (a turned copy of the kit's print): functions and their proofs.
namespace Go.Proofs.YtkpedlhofalnjaaGreatDoor.Q
open Go.RowKit Go.Proofs.YtkpedlhofalnjaaGreatDoorW.PrintWords Go.Proofs.YtkpedlhofalnjaaGreatDoorW.PrintLast Go.Proofs.YtkpedlhofalnjaaGreatDoorW.PrintMore
attribute [local go_sem] max2_int min2_int max_two min_two max_three min_three max_four min_four   -- for this text's walks alone
set_option linter.unusedVariables false
set_option linter.unusedSimpArgs false



def errW : Option Int → Value
  | none => .nilIface
  | some c => .iface 0 (.int .i64 c)
theorem errW_none : errW none = .nilIface := rfl
theorem errW_some (c : Int) : errW (some c) = .iface 0 (.int .i64 c) := rfl

theorem info5 : (Tryz.prog.info? 5).map (fun i => (i.zero, i.size, i.bytes)) = some (some (.int .u8 0), 1, 1) := by kernel_rfl
-- the values' own types

end Go.Proofs.YtkpedlhofalnjaaGreatDoor.Q
end

section
-- Written by a program of this session (a turned copy of the kit's print): functions and their proofs.
namespace Go.Proofs.YtkpedlhofalnjaaGreatDoor.Q
open Go.RowKit Go.Proofs.YtkpedlhofalnjaaGreatDoorW.PrintWords Go.Proofs.YtkpedlhofalnjaaGreatDoorW.PrintLast Go.Proofs.YtkpedlhofalnjaaGreatDoorW.PrintMore
attribute [local go_sem] max2_int min2_int max_two min_two max_three min_three max_four min_four   -- for this text's walks alone
set_option linter.unusedVariables false
set_option linter.unusedSimpArgs false

/-! ### code_row: function 63 -/
def code_row.f (a0 : Int) (l1 : List Int) : Option (List Int) := (some (([a0] : List Int) : List Int)).bind fun y101 => (if y101.length + l1.length < 140737488355328 then (some (y101 ++ l1)) else (none))
set_option maxHeartbeats 8000000 in
set_option maxRecDepth 100000 in
theorem code_row.calls (a0 : Int) (A1 : Option Addr) (c1 : Nat) (l1 : List Int) (r : List Int) (w : World) (hr1 : Kd.C (Kd.int .u8) w A1 l1.length l1) (hc1 : l1.length ≤ c1) (h : code_row.f a0 l1 = some r) :
    Calls Tryz.prog 63 #[.int .u8 a0, .slice A1 l1.length c1] w fun e w' => ∃ v0_ : Value, e = .returned (v0_) ∧ Kd.R (Kd.int .u8) 5 w' w.heap.size (fun _ => True) v0_ r ∧ Below w.heap.size w w' := by
  have HR1 := Aside0.mk hr1
  have HC1 := Aside0.mk hc1
  clear hr1 hc1
  have HB := Aside0.mk (Below.refl w.heap.size w)
  have H : ((some (([a0] : List Int) : List Int)).bind fun y101 => (if y101.length + l1.length < 140737488355328 then (some (y101 ++ l1)) else (none))) = some r := h
  clear h
  obtain ⟨y101, hy101⟩ : ∃ y_ : List Int, y_ = (([a0] : List Int)) := ⟨_, rfl⟩
  replace H : (if y101.length + l1.length < 140737488355328 then (some (y101 ++ l1)) else (none)) = some r := by first | (rw [hy101]; with_reducible exact H) | (have H2_ := (Option.bind_some _ _).symm.trans H; rw [hy101]; with_reducible exact H2_) | (have H2_ := (Option.bind_some _ _).symm.trans H; with_reducible exact H2_) | with_reducible exact H | (rw [hy101]; exact H) | exact H
  have Ny101 := Aside0.mk hy101
  clear hy101
  by_cases c3 : y101.length + l1.length < 140737488355328
  · rw [if_pos c3] at H
    have LMc3 := Aside0.mk c3
    clear c3
    obtain ⟨y104, hy104⟩ : ∃ y_ : List Int, y_ = (y101 ++ l1) := ⟨_, rfl⟩
    replace H : (some y104) = some r := by first | (rw [hy104]; with_reducible exact H) | (have H2_ := (Option.bind_some _ _).symm.trans H; rw [hy104]; with_reducible exact H2_) | (have H2_ := (Option.bind_some _ _).symm.trans H; with_reducible exact H2_) | with_reducible exact H | (rw [hy104]; exact H) | exact H
    have Ny104 := Aside0.mk hy104
    clear hy104
    obtain rfl := Option.some.inj H
    go_enter Tryz.func63, Tryz.ntmps63
    go_wp2_with (first | ((with_reducible refine gate_dst (N := 6) rfl ?_); refine Kd.R_lit (Kd.int .u8) _ 5 ?hg (N := 6) ?hd (xs := ([a0] : List Int)) (inner := [.int .u8 a0]) (ok := fun _ => True) (okp := fun _ => True) ?hr ?hp (fun _ hk => hk) trivial (Below.refl _ _) (Nat.le_refl _) (by simp) ?_; (case hd => rfl); (case hg => rfl); (case hr => first | (go_simp; done) | (go_simp; rfl)); (case hp => exact (Reps.one (show Kd.M (Kd.int .u8) _ _ _ a0 [.int .u8 a0] from rfl) (Reps.none _ _))); intro v102 w4 ho5 hb hg_ hnew_; clear hg_ hnew_; (first | rw [← Ny101.out] at ho5 | (simp only [Int.reduceToNat] at ho5; rw [← Ny101.out] at ho5)); have n0_ := Aside0.mk (Kd.R_lower ho5 (below_size (by repeat (first | (with_reducible first | exact HB.out | apply below_alloc | apply pw_below_drewN | apply below_drew1) | exact HB.out)))); have n1_ := Aside0.mk (below_step (by repeat (first | (with_reducible first | exact HB.out | apply below_alloc | apply pw_below_drewN | apply below_drew1) | exact HB.out)) hb); clear HB; have HO103 := n0_; have HB := n1_; clear n0_ n1_; clear hb ho5) | ((with_reducible refine gate_builtin (b := .append) (xs := #[.tmp 6, .tmp 7]) rfl ?_); at_builtin; refine Kd.R_append_rows (Kd.int .u8) (w0 := w) w.heap.size rfl (.tmp 6) (.tmp 7) 22 5 (.int .u8 0) 1 rfl Tryz.underlying22 info5 rfl (by decide) (by omega) v102 y101 l1 _ _ _ (fun _ => True) (fun _ => False) rfl rfl ?aO ?aR (fun _ _ h => h) (fun _ h => h.elim) ?aF ?aB ?aS ?aL ?_; (case aR => repeat (first | exact (Kd.C_below HR1.out HB.out) | (with_reducible refine Kd.C_alloc ?_ _) | (with_reducible refine Kd.C_drewN ?_ _) | (with_reducible refine Kd.C_drew ?_))); (case aB => exact (by repeat (first | (with_reducible first | exact HB.out | apply below_alloc | apply pw_below_drewN | apply below_drew1) | exact HB.out))); (case aF => exact (fun _ _ => trivial)); (case aO => exact (by (with_reducible repeat (first | apply Kd.R_alloc | apply Kd.R_drewN | apply Kd.R_drew)); exact HO103.out)); (case aS => exact (below_size (by repeat (first | (with_reducible first | exact HB.out | apply below_alloc | apply pw_below_drewN | apply below_drew1) | exact HB.out)))); (case aL => have := LMc3.out; omega); intro v105 w6 ho hb hg hat; rw [← Ny104.out] at ho; have n0_ := Aside0.mk (hb); have n1_ := Aside0.mk (ho); clear HB; clear HO103; have HB := n0_; have HO106 := n1_; clear n0_ n1_; clear ho hb hg hat))
    go_ret
    exact ⟨_, by first | rfl | (simp [errW_none, errW_some] <;> rfl) | (simp [*, errW_none, errW_some] <;> rfl), by (with_reducible repeat (first | apply Kd.R_alloc | apply Kd.R_drewN | apply Kd.R_drew)); exact HO106.out, by repeat (first | (with_reducible first | exact HB.out | apply below_alloc | apply pw_below_drewN | apply below_drew1) | exact HB.out)⟩
  · rw [if_neg c3] at H
    exact absurd H (by simp)

end Go.Proofs.YtkpedlhofalnjaaGreatDoor.Q
end

section
/- The number that a text says, and a number as a text (plain Lean, no program): what strconv reads back of a numeral is the number; canonical numerals. -/
namespace Go.Proofs.YtkpedlhofalnjaaGreatDoor
open Go.Lib

def digs (l : List UInt8) : Prop := ∀ c ∈ l, 48 ≤ c.toNat ∧ c.toNat ≤ 57
instance : DecidablePred digs := fun l => inferInstanceAs (Decidable (∀ c ∈ l, 48 ≤ c.toNat ∧ c.toNat ≤ 57))

end Go.Proofs.YtkpedlhofalnjaaGreatDoor
end

section
/- Plain words on codes: what a code is, over lists of bytes (no program). -/
namespace Go.Proofs.YtkpedlhofalnjaaGreatDoor

theorem bind_if {α : Type} {x : Option Bool} {f g : Option α} (h : x = some true) : (x.bind fun t => if t = true then f else g) = f := by subst h; rfl
theorem bind_if_not {α : Type} {x : Option Bool} {f g : Option α} (h : x = some false) : (x.bind fun t => if t = true then f else g) = g := by subst h; rfl
theorem bind_is {α β : Type} {x : Option α} {a : α} {f : α → Option β} (h : x = some a) : x.bind f = f a := by subst h; rfl

def good (i : Nat) (c : UInt8) : Bool := (decide (65 ≤ c.toNat) && decide (c.toNat ≤ 90)) || (decide (0 < i) && ((decide (48 ≤ c.toNat) && decide (c.toNat ≤ 57)) || decide (c.toNat = 45)))
def goodFrom (i : Nat) : List UInt8 → Bool
  | [] => true
  | c :: r => good i c && goodFrom (i + 1) r
def isCode (l : List UInt8) : Bool := goodFrom 0 l && (!l.isEmpty && decide (l.length ≤ 12))

theorem goodFrom_drop (l : List UInt8) (i : Nat) (h : i < l.length) : goodFrom i (l.drop i) = (good i l[i] && goodFrom (i + 1) (l.drop (i + 1))) := by
  rw [List.drop_eq_getElem_cons h]; rfl
theorem goodFrom_end (l : List UInt8) (i : Nat) (h : l.length ≤ i) : goodFrom i (l.drop i) = true := by
  rw [List.drop_eq_nil_of_le h]; rfl

def goodN (i d : Nat) : Bool := (decide (65 ≤ d) && decide (d ≤ 90)) || (decide (0 < i) && ((decide (48 ≤ d) && decide (d ≤ 57)) || decide (d = 45)))
theorem goodN_high (i d : Nat) (h : 128 ≤ d) : goodN i d = false := by unfold goodN; simp; omega
theorem goodN_true {i d : Nat} (h : (65 ≤ d ∧ d ≤ 90) ∨ (0 < i ∧ ((48 ≤ d ∧ d ≤ 57) ∨ d = 45))) : goodN i d = true := by unfold goodN; simp; omega
theorem goodN_false {i d : Nat} (h : ¬ ((65 ≤ d ∧ d ≤ 90) ∨ (0 < i ∧ ((48 ≤ d ∧ d ≤ 57) ∨ d = 45)))) : goodN i d = false := by unfold goodN; simp; omega
theorem isCode_false {l : List UInt8} {i : Nat} (h : i < l.length) (hc : goodFrom i (l.drop i) = goodFrom 0 l) (hg : good i l[i] = false) : isCode l = false := by
  unfold isCode; rw [← hc, goodFrom_drop l i h, hg]; rfl
theorem isCode_end {l : List UInt8} {i : Nat} (h : l.length ≤ i) (hc : goodFrom i (l.drop i) = goodFrom 0 l) : isCode l = (!l.isEmpty && decide (l.length ≤ 12)) := by
  unfold isCode; rw [← hc, goodFrom_end l i h]; rfl

end Go.Proofs.YtkpedlhofalnjaaGreatDoor
end

section
/- What code.Right computes, for every text, in every world: whether it is a code. -/
namespace Go.Proofs.YtkpedlhofalnjaaGreatDoor
open Go.RowKit

theorem width_pos (s : ByteArray) (pos : Nat) (h : pos < s.size) : 1 ≤ (Utf8.decode s pos).2 := by
  by_cases ha : (s[pos]'h).toNat < 128
  · rw [decode_ascii s pos h ha]; exact Nat.le_refl _
  · exact (decode_high s pos h (by omega)).2

theorem next_says (s : ByteArray) (pos : Nat) (w : World) (hp : pos < s.size) : ∃ d wd : Nat, (∀ ty, (Instr.next (.pointer (some ⟨w.heap.size, 0, none⟩)) true ty).run Tryz.prog (w.iter s pos) = .ok (.tuple #[.bool true, .int .i64 pos, .int .i32 d]) (w.iter s (pos + wd))) ∧ 1 ≤ wd ∧
    Hid (goodN pos d = true → wd = 1 ∧ good pos (s[pos]'hp) = true) ∧ Hid (goodN pos d = false → good pos (s[pos]'hp) = false) := by
  refine ⟨(Utf8.decode s pos).1, (Utf8.decode s pos).2, fun ty => run_next_any w s pos ty hp, width_pos s pos hp, Lib.hid ?_, Lib.hid ?_⟩
  · intro h
    by_cases ha : (s[pos]'hp).toNat < 128
    · rw [decode_ascii s pos hp ha] at h ⊢; exact ⟨rfl, h⟩
    · rw [goodN_high _ _ (decode_high s pos hp (by omega)).1] at h; cases h
  · intro h
    by_cases ha : (s[pos]'hp).toNat < 128
    · rw [decode_ascii s pos hp ha] at h; exact h
    · exact goodN_high _ _ (by omega)

set_option maxRecDepth 1000000 in
set_option maxHeartbeats 1000000 in
theorem right_any (s : ByteArray) (w : World) :
    Calls Tryz.prog 48 #[.string s] w fun e w' => e = .returned (.bool (isCode s.data.toList)) ∧ Below w.heap.size w w' := by
  go_enter Tryz.func48, Tryz.ntmps48
  go_wp2
  go_loopw [3, 4] (fun _ _ w' => ∃ (pos : Nat), pos ≤ s.size ∧ w' = w.iter s pos ∧ goodFrom pos (s.data.toList.drop pos) = goodFrom 0 s.data.toList) (fun _ _ w' => s.size - w'.iterPos w.heap.size)
  case atStart => exact ⟨0, Nat.zero_le _, rfl, rfl⟩
  case round =>
    obtain ⟨pos, hle, rfl, hc⟩ := hrel
    have HC := Lib.hid hc
    clear hc
    by_cases hp : pos < s.size
    · obtain ⟨d, wd, hnx, hwd, hyes, hno⟩ := next_says s pos w hp
      go_wp2
      all_goals first
        | (go_roundw
           case rel =>
             have hg : goodN pos d = true := goodN_true (by (try simp only [beq_iff_eq] at *); omega)
             obtain ⟨rfl, hgb⟩ := hyes.out hg
             exact ⟨pos + 1, by omega, rfl, by have := HC.out; rw [goodFrom_drop _ _ (by simpa using hp)] at this; rw [← this]; rw [show good pos (s.data.toList[pos]'(by simpa using hp)) = true from hgb]; simp⟩
           case measure => simp only [World.iterPos_iter]; omega)
        | (go_ret
           have hg : goodN pos d = false := goodN_false (by (try simp only [beq_eq_false_iff_ne, ne_eq] at *); omega)
           exact ⟨by rw [isCode_false (by simpa using hp) HC.out (hno.out hg)]; rfl, Below.refl _ _ |>.alloc (Nat.le_refl _) _⟩)
    · have hnx : ∀ ty, (Instr.next (.pointer (some ⟨w.heap.size, 0, none⟩)) true ty).run Tryz.prog (w.iter s pos) = _ := fun ty => run_next_end w s pos ty hp
      have he := Lib.hid (isCode_end (l := s.data.toList) (i := pos) (by simp; omega) HC.out)
      go_wp2
      all_goals go_ret
      all_goals rw [he.out]
      · rename_i h
        rw [Lib.toList_data] at h
        exact ⟨by rw [h]; rfl, (Below.refl _ _).alloc (Nat.le_refl _) _⟩
      · refine ⟨congrArg (fun b => Ending.returned (.bool b)) ?_, (Below.refl _ _).alloc (Nat.le_refl _) _⟩
        rw [Lib.toList_data]
        congr 1
        rw [Bool.eq_iff_iff]
        simp
        omega
end Go.Proofs.YtkpedlhofalnjaaGreatDoor
end

section
/- The contracts of code.Right, code.Number, code.Text and code.Put, each as a Lean function and the proof that the Go function answers it. -/
namespace Go.Proofs.YtkpedlhofalnjaaGreatDoor
open Go.RowKit Go.Proofs.YtkpedlhofalnjaaGreatDoorW.PrintWords Go.Proofs.YtkpedlhofalnjaaGreatDoorW.PrintLast Go.Proofs.YtkpedlhofalnjaaGreatDoorW.PrintMore

def code_Right.f (a0 : ByteArray) : Option Bool := some (isCode a0.data.toList)
theorem code_Right.calls (a0 : ByteArray) (r : Bool) (w : World) (h : code_Right.f a0 = some r) :
    Calls Tryz.prog 48 #[.string a0] w fun e w' => e = .returned (.bool r) ∧ Below w.heap.size w w' := by
  obtain rfl := Option.some.inj h
  exact right_any a0 w

/-- A code's bytes: how many there are, and these; of no code: 0; of what is neither: none. -/
def putCode (l : List UInt8) : List UInt8 := if l = [] ∨ isCode l = true then UInt8.ofNat l.length :: l else []
theorem isCode_length {l : List UInt8} (h : isCode l = true) : 1 ≤ l.length ∧ l.length ≤ 12 := by
  unfold isCode at h
  simp only [Bool.and_eq_true, decide_eq_true_eq, Bool.not_eq_true'] at h
  refine ⟨?_, h.2.2⟩
  cases l with
  | nil => simp at h
  | cons x r => simp
def ints (l : List UInt8) : List Int := l.map fun b => (b.toNat : Int)
def code_Put.f (a0 : ByteArray) : Option (List Int) := some (ints (putCode a0.data.toList))

theorem put_row (s : ByteArray) (hs : s.size ≤ 12) (w : World) :
    Calls Tryz.prog 63 #[.int .u8 ((s.size : Int) % 256), .slice (some ⟨w.heap.size, 0, none⟩) s.size (grownCap w s.size 0 5)] (Lib.bytesWorld w 5 s) fun e w' => ∃ v, e = .returned v ∧ Kd.R (Kd.int .u8) 5 w' w.heap.size (fun _ => True) v (ints (UInt8.ofNat s.size :: s.data.toList)) ∧ Below w.heap.size w w' := by
  have hr := bytes_reads w 5 s (by omega)
  have hl := bytesOf_length s
  have hc : s.size ≤ grownCap w s.size 0 5 := grownCap_ge _ _ _ _
  have hq : Q.code_row.f ((s.size : Int) % 256) (bytesOf s) = some ([(s.size : Int) % 256] ++ bytesOf s) := by
    unfold Q.code_row.f
    simp only [Option.bind_some]
    rw [if_pos (by simp only [List.length_cons, List.length_nil]; omega)]
  have key := Q.code_row.calls ((s.size : Int) % 256) (some ⟨w.heap.size, 0, none⟩) (grownCap w s.size 0 5) (bytesOf s) _ (Lib.bytesWorld w 5 s) (by rw [hl]; exact Kd.C_of_reads (d := (0 : Int)) (h1 := fun _ => rfl) hr) (by omega) hq
  rw [hl] at key
  refine key.mono ?_
  rintro e w' ⟨v, rfl, hR, hb⟩
  have hb0 : Below w.heap.size w (Lib.bytesWorld w 5 s) := Lib.bytesWorld_below _ _ _
  refine ⟨v, rfl, ?_, hb0.trans (hb.mono hb0.size)⟩
  have e1 : ([(s.size : Int) % 256] ++ bytesOf s) = ints (UInt8.ofNat s.size :: s.data.toList) := by
    unfold ints bytesOf
    simp
  rw [← e1]
  exact Kd.R_lower hR hb0.size

set_option maxRecDepth 100000 in
theorem code_Put.calls (a0 : ByteArray) (r : List Int) (w : World) (h : code_Put.f a0 = some r) :
    Calls Tryz.prog 20 #[.string a0] w fun e w' => ∃ v0_ : Value, e = .returned (v0_) ∧ Kd.R (Kd.int .u8) 5 w' w.heap.size (fun _ => True) v0_ r ∧ Below w.heap.size w w' := by
  obtain rfl := Option.some.inj h
  clear h
  have kc := fun w : World => Lib.run_convert_string_bytes (P := Tryz.prog) w 9 22 5 a0 (u := .string) Tryz.underlying9 Tryz.underlying22 Tryz.underlying5
  by_cases e : a0.data.toList = []
  · have HP : Hid (putCode a0.data.toList = UInt8.ofNat a0.size :: a0.data.toList) := Lib.hid (by rw [putCode, if_pos (.inl e)]; simp)
    have e' : a0.toList = [] := by rw [Lib.toList_data]; exact e
    have hs : a0.size = 0 := by rw [← data_length, e]; rfl
    have HS := Lib.hid hs
    clear hs e
    go_enter Tryz.func20, Tryz.ntmps20
    go_wp2_with fail
    refine (put_row a0 (by have := HS.out; omega) w).mono ?_
    rintro e w1 ⟨v, rfl, hR, hb⟩
    go_wp2_with fail
    go_ret
    exact ⟨v, rfl, by rw [HP.out]; exact hR, hb⟩
  · have e' : a0.toList.isEmpty = false := by rw [Lib.toList_data]; simpa using e
    have HE := Lib.hid e
    clear e
    by_cases hc : isCode a0.data.toList = true
    · have hs := isCode_length hc
      rw [data_length] at hs
      have HS := Lib.hid hs
      clear hs
      have HP : Hid (putCode a0.data.toList = UInt8.ofNat a0.size :: a0.data.toList) := Lib.hid (by rw [putCode, if_pos (.inr hc)]; simp)
      have HR : ∀ w : World, Calls Tryz.prog 48 #[.string a0] w fun e w' => e = .returned (.bool true) ∧ Below w.heap.size w w' := fun w => by have := right_any a0 w; rw [hc] at this; exact this
      have HR' := Lib.hid HR
      clear HR hc
      go_enter Tryz.func20, Tryz.ntmps20
      go_wp2_with fail
      refine (HR'.out _).mono ?_
      rintro e w1 ⟨rfl, hb1⟩
      go_wp2_with fail
      refine (put_row a0 (by have := HS.out; omega) w1).mono ?_
      rintro e w2 ⟨v, rfl, hR, hb⟩
      go_wp2_with fail
      go_ret
      exact ⟨v, rfl, by rw [HP.out]; exact Kd.R_lower hR hb1.size, hb1.trans (hb.mono hb1.size)⟩
    · have hc : isCode a0.data.toList = false := by simpa using hc
      have HP : Hid (putCode a0.data.toList = []) := Lib.hid (by rw [putCode, if_neg (by rw [hc]; simpa using HE.out)])
      have HR : ∀ w : World, Calls Tryz.prog 48 #[.string a0] w fun e w' => e = .returned (.bool false) ∧ Below w.heap.size w w' := fun w => by have := right_any a0 w; rw [hc] at this; exact this
      have HR' := Lib.hid HR
      clear HR hc
      go_enter Tryz.func20, Tryz.ntmps20
      go_wp2_with fail
      refine (HR'.out _).mono ?_
      rintro e w1 ⟨rfl, hb1⟩
      go_wp2_with fail
      go_ret
      exact ⟨_, rfl, by rw [HP.out]; exact Kd.R_nil _ _ _ _ _, hb1⟩

/-- The text that a row of bytes' numbers spells. -/
def codeIn (l : List Int) (n : Nat) : ByteArray := strOfNums ((l.take (1 + n)).drop 1)
/-- The code that these bytes begin with. -/
def getCode (l : List Int) (n : Nat) : ByteArray × Int × Bool :=
  if l.length < 1 + n then (⟨#[]⟩, 0, false) else
    if (codeIn l n).data.toList = [] ∨ isCode (codeIn l n).data.toList = true then (codeIn l n, 1 + ((codeIn l n).size : Int), true) else (⟨#[]⟩, 0, false)
def code_Get.f (l0 : List Int) : Option (ByteArray × Int × Bool) :=
  if l0.length = 0 then some (⟨#[]⟩, 0, false) else if 0 ≤ rd l0 0 ∧ rd l0 0 ≤ 255 then some (getCode l0 (rd l0 0).toNat) else none

set_option maxRecDepth 100000 in
set_option maxHeartbeats 1000000 in
theorem code_Get.calls (A0 : Option Addr) (c0 : Nat) (l0 : List Int) (r1 : ByteArray) (r2 : Int) (r3 : Bool) (w : World) (hr0 : Kd.C (Kd.int .u8) w A0 l0.length l0) (hc0 : l0.length ≤ c0) (h : code_Get.f l0 = some (r1, r2, r3)) :
    Calls Tryz.prog 15 #[.slice A0 l0.length c0] w fun e w' => e = .returned (.tuple #[.string r1, .int .i64 r2, .bool r3]) ∧ Below w.heap.size w w' := by
  unfold code_Get.f at h
  have hmax := hr0.2.1
  by_cases h0 : l0.length = 0
  · rw [if_pos h0] at h
    injection h with h
    injection h with h1 h
    injection h with h2 h3
    subst h1; subst h2; subst h3
    rw [h0]
    clear hr0 hc0 h0 hmax
    go_enter Tryz.func15, Tryz.ntmps15
    go_wp2_with fail
    go_ret3
    exact ⟨rfl, Below.refl _ _⟩
  · rw [if_neg h0] at h
    by_cases hb : 0 ≤ rd l0 0 ∧ rd l0 0 ≤ 255
    · rw [if_pos hb] at h
      injection h with h
      have hpos : 0 < l0.length := by omega
      have hz : ((l0.length : Int) == 0) = false := by simpa using h0
      obtain ⟨ad, rfl, hx⟩ := Kd.at_int hr0 0 (Int.le_refl _) (by omega)
      rw [show ((0 : Int)).toNat = 0 from rfl, Addr.add_zero'] at hx
      obtain ⟨n, hn, hn255⟩ : ∃ n : Nat, rd l0 0 = (n : Int) ∧ n ≤ 255 := ⟨(rd l0 0).toNat, by omega, by omega⟩
      rw [hn] at hx h
      rw [Int.toNat_natCast] at h
      unfold getCode at h
      clear hb hn h0
      obtain ⟨len, hlen⟩ : ∃ len, len = l0.length := ⟨_, rfl⟩
      by_cases hl : l0.length < 1 + n
      · rw [if_pos hl] at h
        injection h with h1 h
        injection h with h2 h3
        subst h1; subst h2; subst h3
        rw [← hlen] at hl hpos hz hmax ⊢
        clear hr0 hc0 hlen
        go_enter Tryz.func15, Tryz.ntmps15
        go_wp2_with fail
        repeat (go_quiet (fail); try go_wp2_with fail)
        go_ret3
        exact ⟨rfl, (Below.refl _ _)⟩
      · rw [if_neg hl] at h
        obtain ⟨i0, hi, hz0, hz1, hz2⟩ := info_parts (Q.info5)
        obtain ⟨A', hcut, hA, hC⟩ := print_mid_of (P := Tryz.prog) (Value.int .u8) 0 22 5 .i64 .i64 Tryz.underlying22 hi hz1 (some ad) c0 l0 1 (1 + (n : Int)) (by omega) (by omega) (by omega) hc0
        have e1 : (1 + (n : Int)).toNat = 1 + n := by omega
        have e2 : ((l0.take (1 + (n : Int)).toNat).drop (1 : Int).toNat).length = n := by rw [List.length_drop, List.length_take, e1]; simp; omega
        have hR := hA w (Kd.reads_of_C hr0)
        rw [e2] at hcut hR hC
        obtain ⟨S, hS⟩ : ∃ S, S = codeIn l0 n := ⟨_, rfl⟩
        have hcv : ∀ W, Below w.heap.size w W → (convert 22 9 (.slice A' n (c0 - (1 : Int).toNat))).run Tryz.prog W = .ok (.string S) W := fun W hb => by
          have := Kd.C_string (P := Tryz.prog) (w := W) (A := A') (c := c0 - (1 : Int).toNat) Tryz.underlying22 Tryz.underlying5 Tryz.underlying9 (Kd.C_below (Kd.C_of_reads (h1 := fun _ => rfl) hR) hb)
          rw [this, hS, codeIn]
          rw [e1]
          rfl
        rw [← hS] at h
        have hSs : S.size ≤ n := by
          rw [hS, codeIn, strOfNums]
          show ((((l0.take (1 + n)).drop 1).map fun n => UInt8.ofNat n.toNat).toArray).size ≤ n
          simp
          omega
        rw [← hlen] at hl hpos hz hmax hcut ⊢
        have hl' : ¬ ((len : Int) < 1 + (n : Int)) := by omega
        have hcv0 : (convert 22 9 (.slice A' n (c0 - 1))).run Tryz.prog w = .ok (.string S) w := hcv w (Below.refl _ _)
        clear hr0 hc0 hlen hA hC hR e1 e2 hS hcv hi hz0 hz1 hz2
        by_cases e : S.data.toList = []
        · rw [if_pos (.inl e)] at h
          injection h with h1 h
          injection h with h2 h3
          subst h1; subst h2; subst h3
          have e' : S.toList = [] := by rw [Lib.toList_data]; exact e
          clear e
          go_enter Tryz.func15, Tryz.ntmps15
          go_wp2_with fail
          repeat (go_quiet (fail); try go_wp2_with fail)
          go_ret3
          exact ⟨rfl, Below.refl _ _⟩
        · have e' : S.toList.isEmpty = false := by rw [Lib.toList_data]; simpa using e
          by_cases hc : isCode S.data.toList = true
          · rw [if_pos (.inr hc)] at h
            injection h with h1 h
            injection h with h2 h3
            subst h1; subst h2; subst h3
            have HR : ∀ w : World, Calls Tryz.prog 48 #[.string S] w fun e w' => e = .returned (.bool true) ∧ Below w.heap.size w w' := fun w => by have := right_any S w; rw [hc] at this; exact this
            have HR' := Lib.hid HR
            clear HR hc e
            go_enter Tryz.func15, Tryz.ntmps15
            go_wp2_with fail
            repeat (go_quiet (fail); try go_wp2_with fail)
            refine (HR'.out _).mono ?_
            rintro e w1 ⟨rfl, hb1⟩
            go_wp2_with fail
            go_ret3
            exact ⟨rfl, hb1⟩
          · have hc' : isCode S.data.toList = false := by simpa using hc
            rw [if_neg (by rw [hc']; simpa using e)] at h
            injection h with h1 h
            injection h with h2 h3
            subst h1; subst h2; subst h3
            have HR : ∀ w : World, Calls Tryz.prog 48 #[.string S] w fun e w' => e = .returned (.bool false) ∧ Below w.heap.size w w' := fun w => by have := right_any S w; rw [hc'] at this; exact this
            have HR' := Lib.hid HR
            clear HR hc hc' e
            go_enter Tryz.func15, Tryz.ntmps15
            go_wp2_with fail
            repeat (go_quiet (fail); try go_wp2_with fail)
            refine (HR'.out _).mono ?_
            rintro e w1 ⟨rfl, hb1⟩
            go_wp2_with fail
            go_ret3
            exact ⟨rfl, hb1⟩
    · rw [if_neg hb] at h
      cases h
end Go.Proofs.YtkpedlhofalnjaaGreatDoor
end

section
/- Codes' bytes, in plain Lean: what is put is got, and what is got is put. -/
namespace Go.Proofs.YtkpedlhofalnjaaGreatDoor
open Go.RowKit Go.Proofs.YtkpedlhofalnjaaGreatDoorW.PrintWords Go.Proofs.YtkpedlhofalnjaaGreatDoorW.PrintLast Go.Proofs.YtkpedlhofalnjaaGreatDoorW.PrintMore

/-- Each number is a byte's. -/
def bytesOk (l : List Int) : Prop := ∀ x ∈ l, 0 ≤ x ∧ x ≤ 255

theorem rd0 (x : Int) (r : List Int) : rd (x :: r) 0 = x := rfl

theorem ints_nums (l : List UInt8) : (strOfNums (ints l)).data.toList = l := by
  unfold strOfNums ints
  rw [List.map_map]
  show (List.map _ l) = l
  rw [List.map_congr_left (g := id) (fun a _ => by simp)]
  simp

theorem nums_ints (l : List Int) (h : bytesOk l) : ints (strOfNums l).data.toList = l := by
  unfold strOfNums ints
  show List.map _ (List.map _ l) = l
  rw [List.map_map, List.map_congr_left (g := id) (fun a ha => by have := h a ha; simp; omega)]
  simp

theorem strOfNums_size (l : List Int) : (strOfNums l).size = l.length := by
  show ((l.map fun n : Int => UInt8.ofNat n.toNat).toArray).size = l.length
  simp

theorem putCode_pos (l : List UInt8) (h : l = [] ∨ isCode l = true) : putCode l = UInt8.ofNat l.length :: l := if_pos h

theorem code_len {l : List UInt8} (h : l = [] ∨ isCode l = true) : l.length ≤ 12 := by
  rcases h with h | h
  · rw [h]; simp
  · exact (isCode_length h).2

theorem get_put (l : List UInt8) (h : l = [] ∨ isCode l = true) (more : List Int) : code_Get.f (ints (putCode l) ++ more) = some (⟨l.toArray⟩, 1 + (l.length : Int), true) := by
  have hl := code_len h
  rw [putCode_pos l h]
  have e : ints (UInt8.ofNat l.length :: l) ++ more = (l.length : Int) :: (ints l ++ more) := by
    unfold ints; simp; omega
  rw [e]
  unfold code_Get.f
  rw [if_neg (by simp), rd0, if_pos (by omega)]
  rw [Int.toNat_natCast]
  have hc : (codeIn ((l.length : Int) :: (ints l ++ more)) l.length) = ⟨l.toArray⟩ := by
    unfold codeIn
    rw [Nat.add_comm 1 l.length, List.take_succ_cons, List.drop_one, List.tail_cons]
    have : (ints l ++ more).take l.length = ints l := by
      have : l.length = (ints l).length := by unfold ints; simp
      rw [this, List.take_left]
    rw [this]
    have h2 := ints_nums l
    show strOfNums (ints l) = _
    have : (strOfNums (ints l)).data = l.toArray := Array.toList_inj.1 (by rw [h2])
    exact congrArg ByteArray.mk this
  unfold getCode
  rw [if_neg (by unfold ints; simp; omega), hc, if_pos h]
  simp
  rfl

theorem codeIn_ints (l : List Int) (n : Nat) (h : bytesOk l) : ints (codeIn l n).data.toList = (l.take (1 + n)).drop 1 := by
  unfold codeIn
  exact nums_ints _ fun x hx => h x (List.mem_of_mem_take (List.mem_of_mem_drop hx))

theorem got_put (l : List Int) (hb : bytesOk l) : ∃ s n ok, code_Get.f l = some (s, n, ok) ∧ s.size ≤ 12 ∧
    ((ok = true ∧ (s.data.toList = [] ∨ isCode s.data.toList = true) ∧ n = 1 + (s.size : Int) ∧ 1 + s.size ≤ l.length ∧ ints (putCode s.data.toList) = l.take (1 + s.size)) ∨ (ok = false ∧ s = ⟨#[]⟩ ∧ n = 0)) := by
  unfold code_Get.f
  by_cases h0 : l.length = 0
  · rw [if_pos h0]
    exact ⟨_, _, _, rfl, by decide, .inr ⟨rfl, rfl, rfl⟩⟩
  · rw [if_neg h0]
    obtain ⟨x, r, rfl⟩ : ∃ x r, l = x :: r := by
      cases l with
      | nil => simp at h0
      | cons x r => exact ⟨x, r, rfl⟩
    have hx := hb x (by simp)
    rw [rd0, if_pos hx]
    obtain ⟨n, rfl⟩ : ∃ n : Nat, x = n := ⟨x.toNat, by omega⟩
    rw [Int.toNat_natCast]
    unfold getCode
    by_cases h1 : ((n : Int) :: r).length < 1 + n
    · rw [if_pos h1]
      exact ⟨_, _, _, rfl, by decide, .inr ⟨rfl, rfl, rfl⟩⟩
    · rw [if_neg h1]
      have hci := codeIn_ints ((n : Int) :: r) n hb
      have hsz : (codeIn ((n : Int) :: r) n).size = n := by
        unfold codeIn
        rw [strOfNums_size, List.length_drop, List.length_take]; omega
      by_cases h2 : (codeIn ((n : Int) :: r) n).data.toList = [] ∨ isCode (codeIn ((n : Int) :: r) n).data.toList = true
      · rw [if_pos h2]
        have h12 := code_len h2
        rw [data_length, hsz] at h12
        refine ⟨_, _, _, rfl, by omega, .inl ⟨rfl, h2, rfl, by omega, ?_⟩⟩
        rw [putCode_pos _ h2, hsz]
        unfold ints at hci ⊢
        rw [List.map_cons, hci, data_length, hsz]
        rw [Nat.add_comm 1 n, List.take_succ_cons, List.drop_one, List.tail_cons]
        congr 1
        simp; omega
      · rw [if_neg h2]
        exact ⟨_, _, _, rfl, by decide, .inr ⟨rfl, rfl, rfl⟩⟩

theorem putCode_len (l : List UInt8) : (putCode l).length ≤ 13 := by
  unfold putCode
  split
  · rename_i h
    have := code_len h
    simp; omega
  · simp

end Go.Proofs.YtkpedlhofalnjaaGreatDoor
end
