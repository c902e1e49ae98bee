/- Ask13, Shelf13, Fields13, LaidA, C0. -/
import Derived.Test.YtkpedlhofalnjaaGreatDoorM4
import Derived.Shelf.Strings.Trim
import Derived.Shelf.Small.Utf8
import Derived.Shelf.Small.Strs
import Derived.Shelf.Strconv.Itoa0
import Derived.Shelf.Strconv.Itoa1
import Derived.Shelf.LaysM
import Derived.Shelf.Strconv.Itoa2
import Derived.Shelf.Strconv.Itoa3
import Derived.Shelf.Strconv.Itoa4
import Derived.Shelf.Strconv.ParseIntEmpty
import Derived.Shelf.Strconv.Clone
import Derived.Shelf.Strconv.SyntaxError
import Derived.Shelf.LaysC
import Derived.Shelf.Strconv.ToError
import Derived.Shelf.Strconv.Lower
import Derived.Shelf.Strconv.ParseUint10
import Derived.Shelf.Strconv.ParseUint10Empty
import Derived.Shelf.Strconv.ParseUint10Any
import Derived.Shelf.Strconv.ParseInt10
import Derived.Shelf.Strconv.RangeError
import Derived.Shelf.Strconv.ToErrorRange
import Derived.Shelf.Strconv.ParseUintEmpty
import Derived.Shelf.Strconv.ParseUint10b64
import Derived.Shelf.Strconv.ParseUint10b32
import Derived.Shelf.Strconv.ParseUint10b16
import Derived.Shelf.Strconv.ParseUint10b8
import Derived.Shelf.Strconv.ParseUint10At
import Derived.Shelf.Strconv.ParseInt10At64
import Derived.Shelf.Strconv.ParseInt10At32
import Derived.Shelf.Strconv.ParseInt10At16
import Derived.Shelf.Strconv.ParseInt10At8
import Derived.Shelf.Strconv.ParseInt10All
import Derived.Shelf.Strconv.ParseIntPublic10
import Derived.Shelf.Strconv.ErrVarParseInt
import Derived.Shelf.Strings.Search1
import Derived.Shelf.Strings.Search2
import Derived.Shelf.Strings.Search3
import Derived.Shelf.Strings.Shaped
import Derived.Shelf.Unicode.Decode
import Derived.Shelf.Strings.Runes
import Derived.Shelf.Strings.AsciiSet
import Derived.Shelf.Unicode.DecodeSlow
import Derived.Shelf.Unicode.DecodeAny
import Derived.Shelf.Unicode.DecodeLast
import Derived.Shelf.Slices.Turned
import Derived.Test.YtkpedlhofalnjaaGreatDoorProg
import Derived.WalkSpells
import Derived.Test.YtkpedlhofalnjaaGreatDoorRows
import Derived.ProofKit
import Derived.LaidMore
import Derived.Lay
import Derived.OpenShut
import Derived.SliceStrings
import Derived.Stop.Joined
import Derived.Stop.LaidErr
import Derived.Below
import Derived.Deep.Draws
import Derived.Deep.AppendLies
import Derived.Maps.AppendAt
import Derived.OwnWalk
import Derived.Laws.BytesArg
import Derived.Laws.MakeOwn
import Derived.Laws.OwnMore
import Derived.Deep.OwnRows
import Derived.Tactics
import Derived.Lib.ConvBytes
import Derived.Laws.Slices
import Derived.WalkKit
import Derived.KernelRfl
import Derived.RowKit3
import Derived.Deep.LoopGhost
import Derived.Deep.QuietTactic
import Derived.BigQuiet
import Derived.WideLaws
import Derived.Deep.DeepCutAuto
import Derived.Deep.CutBlock
import Derived.Deep.RegionHeld3
import Derived.Laws.Rows
import Derived.Lib.AppendStr
import Derived.ArgAppend
import Derived.Laws.IdiomCopy
import Derived.OrdersHeld
import Derived.Laws.BitsLemmas
import Derived.RowKit
import Derived.Test.YtkpedlhofalnjaaGreatDoorWWords
import Derived.Test.YtkpedlhofalnjaaGreatDoorM1
import Derived.Test.YtkpedlhofalnjaaGreatDoorM2

section
/- Commands as bytes, in plain Lean: which commands are right, their bytes, the command that bytes begin with; what is put is got, and what is got is put. -/
namespace Go.Proofs.YtkpedlhofalnjaaGreatDoor
open Go.RowKit Go.Proofs.YtkpedlhofalnjaaGreatDoorW.PrintWords

abbrev Part := A.S58

/-- The letters of fields: Item, Qty, Day, Days, Rank, Lot, Line, Parts, Others. -/
inductive Fld | i | q | d | l | r | t | n | p | o
deriving DecidableEq
def Fld.byte : Fld → UInt8
  | .i => 105 | .q => 113 | .d => 100 | .l => 108 | .r => 114 | .t => 116 | .n => 110 | .p => 112 | .o => 111

/-- The fields that kinds have, from kind 1 on. -/
def kindTab : List (List Fld) :=
  [[.i, .l], [.i, .p], [.i, .o], [.i, .q], [.i, .q, .d], [.t, .d], [.t], [.t], [.i, .q, .d, .r], [.n], [.n], [], [.i, .q, .d], [.n], [.i]]
def fieldsOf (k : Int) : Option (List Fld) := if 1 ≤ k ∧ k ≤ 15 then kindTab[(k - 1).toNat]? else none
theorem kindTab_ok : ∀ f ∈ kindTab, f.Nodup ∧ f.length ≤ 4 := by decide
theorem fieldsOf_cases {k : Int} {f : List Fld} (h : fieldsOf k = some f) : 1 ≤ k ∧ k ≤ 15 ∧ f.Nodup ∧ f.length ≤ 4 := by
  unfold fieldsOf at h
  by_cases hk : 1 ≤ k ∧ k ≤ 15
  · rw [if_pos hk] at h
    exact ⟨hk.1, hk.2, kindTab_ok f (List.mem_of_getElem? h)⟩
  · rw [if_neg hk] at h
    cases h

structure Cmd where
  kind : Int
  req : Int
  item : ByteArray
  qty : Int
  day : Int
  days : Int
  rank : Int
  lot : Int
  line : Int
  parts : List Part
  others : List ByteArray

def noText : ByteArray := ⟨#[]⟩
def isRight (s : ByteArray) : Bool := isCode s.data.toList
/-- Codes are, and no two are alike. -/
def unlikeOk : List ByteArray → Bool
  | [] => true
  | s :: r => isRight s && !(r.any fun t => t.data.toList == s.data.toList) && unlikeOk r
def partedOk (l : List Part) : Bool := decide (0 < l.length) && decide (l.length ≤ 8) && l.all (fun p => decide (1 ≤ p.f1) && decide (p.f1 ≤ 1073741824)) && unlikeOk (l.map (·.f0))
def othersOk (l : List ByteArray) (item : ByteArray) : Bool := decide (l.length ≤ 4) && unlikeOk l && !(l.any fun t => t.data.toList == item.data.toList)

def Cmd.ok (a : Cmd) : Fld → Bool
  | .i => isRight a.item
  | .q => decide (1 ≤ a.qty) && decide (a.qty ≤ 1073741824)
  | .d => decide (0 ≤ a.day) && decide (a.day ≤ 4000)
  | .l => decide (1 ≤ a.days) && decide (a.days ≤ 2000)
  | .r => decide (0 ≤ a.rank) && decide (a.rank ≤ 99)
  | .t => decide (0 < a.lot)
  | .n => decide (0 < a.line)
  | .p => partedOk a.parts
  | .o => othersOk a.others a.item

/-- A command with just those fields of it that are listed. -/
def mask (P : List Fld) (x : Cmd) : Cmd :=
  { kind := x.kind, req := x.req, item := if .i ∈ P then x.item else noText, qty := if .q ∈ P then x.qty else 0, day := if .d ∈ P then x.day else 0, days := if .l ∈ P then x.days else 0,
    rank := if .r ∈ P then x.rank else 0, lot := if .t ∈ P then x.lot else 0, line := if .n ∈ P then x.line else 0, parts := if .p ∈ P then x.parts else [], others := if .o ∈ P then x.others else [] }

/-- Has it those fields alone? -/
def Cmd.only (a : Cmd) (f : List Fld) : Bool :=
  (decide (.i ∈ f) || a.item.data.toList.isEmpty) && (decide (.q ∈ f) || decide (a.qty = 0)) && (decide (.d ∈ f) || decide (a.day = 0)) && (decide (.l ∈ f) || decide (a.days = 0)) && (decide (.r ∈ f) || decide (a.rank = 0)) &&
  (decide (.t ∈ f) || decide (a.lot = 0)) && (decide (.n ∈ f) || decide (a.line = 0)) && (decide (.p ∈ f) || a.parts.isEmpty) && (decide (.o ∈ f) || a.others.isEmpty)

def rightCmd (a : Cmd) : Bool :=
  match fieldsOf a.kind with
  | none => false
  | some f => decide (0 ≤ a.req) && decide (a.req ≤ 4611686018427387904) && f.all a.ok && a.only f

theorem text_empty {s : ByteArray} (h : s.data.toList.isEmpty = true) : s = noText := by
  rcases s with ⟨⟨l⟩⟩
  simp at h
  subst h; rfl

theorem mask_right {a : Cmd} {f : List Fld} (h : a.only f = true) : mask f a = a := by
  rcases a with ⟨k, rq, it, q, dy, ds, rk, lt, ln, ps, os⟩
  simp only [Cmd.only, Bool.and_eq_true, Bool.or_eq_true, decide_eq_true_eq] at h
  obtain ⟨⟨⟨⟨⟨⟨⟨⟨h1, h2⟩, h3⟩, h4⟩, h5⟩, h6⟩, h7⟩, h8⟩, h9⟩ := h
  simp only [mask, Cmd.mk.injEq, true_and]
  refine ⟨?_, ?_, ?_, ?_, ?_, ?_, ?_, ?_, ?_⟩
  · split
    · rfl
    · exact (text_empty (h1.resolve_left ‹_›)).symm
  all_goals
    split
    · rfl
    · first
        | exact (h2.resolve_left ‹_›).symm
        | exact (h3.resolve_left ‹_›).symm
        | exact (h4.resolve_left ‹_›).symm
        | exact (h5.resolve_left ‹_›).symm
        | exact (h6.resolve_left ‹_›).symm
        | exact (h7.resolve_left ‹_›).symm
        | exact (List.isEmpty_iff.1 (h8.resolve_left ‹_›)).symm
        | exact (List.isEmpty_iff.1 (h9.resolve_left ‹_›)).symm

/-! ### Numbers' bytes -/

/-- n in so many bytes, the highest first. -/
def be (n : Int) : Nat → List Int
  | 0 => []
  | k + 1 => (n / (256 : Int) ^ k) % 256 :: be n k
theorem be_length (n : Int) (k : Nat) : (be n k).length = k := by
  induction k with
  | zero => rfl
  | succ k ih => simp [be, ih]
/-- What bytes say, the highest first. -/
def beVal (l : List Int) : Int := l.foldl (fun n c => 256 * n + c) 0
theorem beVal_snoc (l : List Int) (c : Int) : beVal (l ++ [c]) = 256 * beVal l + c := by simp [beVal]

theorem be_1 (n : Int) : be n 1 = [n % 256] := by simp [be]
theorem be_2 (n : Int) : be n 2 = [n / 256 % 256, n % 256] := by simp [be]
theorem be_8 (n : Int) : be n 8 = [n / 72057594037927936 % 256, n / 281474976710656 % 256, n / 1099511627776 % 256, n / 4294967296 % 256, n / 16777216 % 256, n / 65536 % 256, n / 256 % 256, n % 256] := by simp [be]

theorem val_be1 (n : Int) (h0 : 0 ≤ n) (h1 : n ≤ 255) : wrap64 (beVal (be n 1)) = n := by
  rw [be_1]; simp only [beVal, List.foldl]; unfold wrap64; omega
theorem val_be2 (n : Int) (h0 : 0 ≤ n) (h1 : n ≤ 65535) : wrap64 (beVal (be n 2)) = n := by
  rw [be_2]; simp only [beVal, List.foldl]; unfold wrap64; omega
theorem val_be8 (n : Int) (h0 : -9223372036854775808 ≤ n) (h1 : n ≤ 9223372036854775807) : wrap64 (beVal (be n 8)) = n := by
  rw [be_8]; simp only [beVal, List.foldl]; unfold wrap64; omega

theorem be_val (l : List Int) (hb : bytesOk l) (hl : l.length = 1 ∨ l.length = 2 ∨ l.length = 8) : be (wrap64 (beVal l)) l.length = l := by
  rcases hl with h | h | h
  · obtain ⟨a, rfl⟩ : ∃ a, l = [a] := by
      match l, h with
      | [a], _ => exact ⟨a, rfl⟩
    have := hb a (by simp)
    rw [h, be_1]; simp only [beVal, List.foldl]; unfold wrap64; simp only [List.cons.injEq, and_true]; omega
  · obtain ⟨a, b, rfl⟩ : ∃ a b, l = [a, b] := by
      match l, h with
      | [a, b], _ => exact ⟨a, b, rfl⟩
    have h1 := hb a (by simp)
    have h2 := hb b (by simp)
    rw [h, be_2]; simp only [beVal, List.foldl]; unfold wrap64; simp only [List.cons.injEq, and_true]; omega
  · obtain ⟨a, b, c, d, e, f, g, k, rfl⟩ : ∃ a b c d e f g k, l = [a, b, c, d, e, f, g, k] := by
      match l, h with
      | [a, b, c, d, e, f, g, k], _ => exact ⟨a, b, c, d, e, f, g, k, rfl⟩
    have h1 := hb a (by simp)
    have h2 := hb b (by simp)
    have h3 := hb c (by simp)
    have h4 := hb d (by simp)
    have h5 := hb e (by simp)
    have h6 := hb f (by simp)
    have h7 := hb g (by simp)
    have h8 := hb k (by simp)
    rw [h, be_8]; simp only [beVal, List.foldl]; unfold wrap64; simp only [List.cons.injEq, and_true]
    refine ⟨?_, ?_, ?_, ?_, ?_, ?_, ?_, ?_⟩ <;> omega

/-! ### Bytes put -/

def putPart (p : Part) : List Int := ints (putCode p.f0.data.toList) ++ be p.f1 8
def Cmd.put (a : Cmd) : Fld → List Int
  | .i => ints (putCode a.item.data.toList)
  | .q => be a.qty 8
  | .d => be a.day 2
  | .l => be a.days 2
  | .r => be a.rank 1
  | .t => be a.lot 8
  | .n => be a.line 8
  | .p => be a.parts.length 1 ++ a.parts.flatMap putPart
  | .o => be a.others.length 1 ++ a.others.flatMap fun s => ints (putCode s.data.toList)
def headOf (a : Cmd) : List Int := be a.kind 1 ++ be a.req 8
def fieldsIn (k : Int) : List Fld := (fieldsOf k).getD []
def bytesOf13 (a : Cmd) : List Int := headOf a ++ (fieldsIn a.kind).flatMap a.put
def putCmd (a : Cmd) : List Int × Int := if rightCmd a then (bytesOf13 a, 0) else ([], 2)

/-! ### Bytes got -/

abbrev Pos := Nat × Bool
def takeN (b : List Int) (s : Nat) (p : Pos) : Int × Pos :=
  if p.2 = true ∧ p.1 + s ≤ b.length then (wrap64 (beVal ((b.drop p.1).take s)), (p.1 + s, true)) else (0, (p.1, false))
def codedN (b : List Int) (p : Pos) : ByteArray × Pos :=
  if p.2 = true then
    match code_Get.f (b.drop p.1) with
    | some (s, n, is) => (s, (p.1 + n.toNat, is))
    | none => (noText, p)
  else (noText, p)
def partsN (b : List Int) : Nat → Pos → List Part → List Part × Pos
  | 0, p, acc => (acc, p)
  | n + 1, p, acc => if p.2 = true then
      let c := codedN b p
      let t := takeN b 8 c.2
      partsN b n t.2 (acc ++ [⟨c.1, t.1⟩])
    else (acc, p)
def othersN (b : List Int) : Nat → Pos → List ByteArray → List ByteArray × Pos
  | 0, p, acc => (acc, p)
  | n + 1, p, acc => if p.2 = true then
      let c := codedN b p
      othersN b n c.2 (acc ++ [c.1])
    else (acc, p)
def getFld (b : List Int) (c : Fld) (s : Pos × Cmd) : Pos × Cmd :=
  match c with
  | .i => let r := codedN b s.1; (r.2, { s.2 with item := r.1 })
  | .q => let r := takeN b 8 s.1; (r.2, { s.2 with qty := r.1 })
  | .d => let r := takeN b 2 s.1; (r.2, { s.2 with day := r.1 })
  | .l => let r := takeN b 2 s.1; (r.2, { s.2 with days := r.1 })
  | .r => let r := takeN b 1 s.1; (r.2, { s.2 with rank := r.1 })
  | .t => let r := takeN b 8 s.1; (r.2, { s.2 with lot := r.1 })
  | .n => let r := takeN b 8 s.1; (r.2, { s.2 with line := r.1 })
  | .p => let r := takeN b 1 s.1; let q := partsN b r.1.toNat r.2 s.2.parts; (q.2, { s.2 with parts := q.1 })
  | .o => let r := takeN b 1 s.1; let q := othersN b r.1.toNat r.2 s.2.others; (q.2, { s.2 with others := q.1 })
def zeroCmd : Cmd := ⟨0, 0, noText, 0, 0, 0, 0, 0, 0, [], []⟩
def getFlds (b : List Int) (f : List Fld) (s : Pos × Cmd) : Pos × Cmd := f.foldl (fun s c => getFld b c s) s
def getHead (b : List Int) : Pos × Cmd :=
  let k := takeN b 1 (0, true)
  let r := takeN b 8 k.2
  (r.2, { zeroCmd with kind := k.1 % 256, req := r.1 })
def getAll (b : List Int) : Pos × Cmd := getFlds b (fieldsIn (getHead b).2.kind) (getHead b)
def getCmd (b : List Int) : Cmd × Int × Int :=
  if (getAll b).1.2 = true ∧ rightCmd (getAll b).2 = true then ((getAll b).2, (getAll b).1.1, 0) else (zeroCmd, 0, 4)

/-! ### What is put is got -/

theorem drop_at {b x r : List Int} {n : Nat} (h : b.drop n = x ++ r) : b.drop (n + x.length) = r := by
  rw [← List.drop_drop, h, List.drop_left]
theorem len_at {b x r : List Int} {n : Nat} (h : b.drop n = x ++ r) (hn : n ≤ b.length) : n + x.length ≤ b.length := by
  have := congrArg List.length h
  rw [List.length_drop, List.length_append] at this
  omega
theorem take_fwd {b r : List Int} {n s : Nat} {v : Int} (h : b.drop n = be v s ++ r) (hn : n ≤ b.length) (hv : wrap64 (beVal (be v s)) = v) : takeN b s (n, true) = (v, (n + s, true)) := by
  have hl := len_at h hn
  rw [be_length] at hl
  unfold takeN
  rw [if_pos ⟨rfl, hl⟩, h, show (be v s ++ r).take s = be v s by
    have := be_length v s
    rw [List.take_append_of_le_length (by omega), List.take_of_length_le (by omega)], hv]
theorem coded_fwd {b r : List Int} {n : Nat} {s : ByteArray} (h : b.drop n = ints (putCode s.data.toList) ++ r) (hc : isRight s = true) : codedN b (n, true) = (s, (n + (ints (putCode s.data.toList)).length, true)) := by
  unfold codedN
  rw [if_pos rfl]
  show (match code_Get.f (b.drop n) with | some (s, m, is) => (s, (n + m.toNat, is)) | none => (noText, (n, true))) = _
  rw [h, get_put _ (.inr hc)]
  have e : (ints (putCode s.data.toList)).length = (1 + (s.data.toList.length : Int)).toNat := by
    unfold ints; rw [List.length_map, putCode_pos _ (.inr hc), List.length_cons]; omega
  rw [e]

theorem part_len (p : Part) : (putPart p).length = (ints (putCode p.f0.data.toList)).length + 8 := by
  unfold putPart; rw [List.length_append, be_length]

theorem parts_fwd (b : List Int) : ∀ (l : List Part) (n : Nat) (acc : List Part) (r : List Int), b.drop n = l.flatMap putPart ++ r → n ≤ b.length →
    (∀ p ∈ l, isRight p.f0 = true ∧ -9223372036854775808 ≤ p.f1 ∧ p.f1 ≤ 9223372036854775807) →
    partsN b l.length (n, true) acc = (acc ++ l, (n + (l.flatMap putPart).length, true))
  | [], n, acc, r, _, _, _ => by simp [partsN]
  | p :: l, n, acc, r, h, hn, hp => by
    obtain ⟨hc, h0, h1⟩ := hp p (by simp)
    rw [List.flatMap_cons, putPart, List.append_assoc, List.append_assoc] at h
    have e1 := coded_fwd h hc
    have h2 := drop_at h
    have hl2 := len_at h hn
    have e2 := take_fwd h2 hl2 (val_be8 _ h0 h1)
    have h3 := drop_at h2
    have hl3 := len_at h2 hl2
    rw [be_length] at h3 hl3
    show (if (n, true).2 = true then _ else _) = _
    rw [if_pos rfl]
    show partsN b l.length (takeN b 8 (codedN b (n, true)).2).2 (acc ++ [⟨(codedN b (n, true)).1, (takeN b 8 (codedN b (n, true)).2).1⟩]) = _
    rw [e1]
    show partsN b l.length (takeN b 8 (_, true)).2 (acc ++ [⟨p.f0, (takeN b 8 (_, true)).1⟩]) = _
    rw [e2]
    show partsN b l.length (_, true) (acc ++ [p]) = _
    rw [parts_fwd b l _ _ r h3 hl3 fun q hq => hp q (List.mem_cons_of_mem _ hq)]
    rw [List.flatMap_cons, List.length_append, part_len]
    simp
    omega
theorem others_fwd (b : List Int) : ∀ (l : List ByteArray) (n : Nat) (acc : List ByteArray) (r : List Int), b.drop n = (l.flatMap fun s => ints (putCode s.data.toList)) ++ r → n ≤ b.length →
    (∀ s ∈ l, isRight s = true) →
    othersN b l.length (n, true) acc = (acc ++ l, (n + (l.flatMap fun s => ints (putCode s.data.toList)).length, true))
  | [], n, acc, r, _, _, _ => by simp [othersN]
  | s :: l, n, acc, r, h, hn, hp => by
    have hc := hp s (by simp)
    rw [List.flatMap_cons, List.append_assoc] at h
    have e1 := coded_fwd h hc
    have h2 := drop_at h
    have hl2 := len_at h hn
    show (if (n, true).2 = true then _ else _) = _
    rw [if_pos rfl]
    show othersN b l.length (codedN b (n, true)).2 (acc ++ [(codedN b (n, true)).1]) = _
    rw [e1]
    show othersN b l.length (_, true) (acc ++ [s]) = _
    rw [others_fwd b l _ _ r h2 hl2 fun q hq => hp q (List.mem_cons_of_mem _ hq)]
    rw [List.flatMap_cons, List.length_append]
    simp
    omega

theorem unlike_all : ∀ {l : List ByteArray}, unlikeOk l = true → ∀ s ∈ l, isRight s = true
  | s :: l, h, t, ht => by
    simp only [unlikeOk, Bool.and_eq_true] at h
    rcases List.mem_cons.1 ht with rfl | ht
    · exact h.1.1
    · exact unlike_all h.2 t ht
theorem parted_all {l : List Part} (h : partedOk l = true) : l.length ≤ 8 ∧ ∀ p ∈ l, isRight p.f0 = true ∧ -9223372036854775808 ≤ p.f1 ∧ p.f1 ≤ 9223372036854775807 := by
  simp only [partedOk, Bool.and_eq_true, decide_eq_true_eq, List.all_eq_true] at h
  refine ⟨h.1.1.2, fun p hp => ⟨unlike_all h.2 _ (List.mem_map_of_mem hp), ?_, ?_⟩⟩
  · have := (h.1.2 p hp).1; omega
  · have := (h.1.2 p hp).2; omega

/-- Every number of it is one of Go's. -/
structure Cmd.wf (a : Cmd) : Prop where
  kind : 0 ≤ a.kind ∧ a.kind ≤ 255
  req : -9223372036854775808 ≤ a.req ∧ a.req ≤ 9223372036854775807
  lot : -9223372036854775808 ≤ a.lot ∧ a.lot ≤ 9223372036854775807
  line : -9223372036854775808 ≤ a.line ∧ a.line ≤ 9223372036854775807

theorem fld_fwd (b : List Int) (x : Cmd) (hw : x.wf) (P : List Fld) (c : Fld) (hP : c ∉ P) (n : Nat) (r : List Int) (h : b.drop n = x.put c ++ r) (hn : n ≤ b.length) (hok : x.ok c = true) :
    getFld b c ((n, true), mask P x) = ((n + (x.put c).length, true), mask (P ++ [c]) x) := by
  cases c
  case i =>
    have e := coded_fwd (s := x.item) h hok
    simp only [getFld, e, Cmd.put]
    simp [mask]
  case q =>
    simp only [Cmd.ok, Bool.and_eq_true, decide_eq_true_eq] at hok
    have e := take_fwd h hn (val_be8 _ (by omega) (by omega))
    simp only [getFld, e, Cmd.put, be_length]
    simp [mask]
  case d =>
    simp only [Cmd.ok, Bool.and_eq_true, decide_eq_true_eq] at hok
    have e := take_fwd h hn (val_be2 _ (by omega) (by omega))
    simp only [getFld, e, Cmd.put, be_length]
    simp [mask]
  case l =>
    simp only [Cmd.ok, Bool.and_eq_true, decide_eq_true_eq] at hok
    have e := take_fwd h hn (val_be2 _ (by omega) (by omega))
    simp only [getFld, e, Cmd.put, be_length]
    simp [mask]
  case r =>
    simp only [Cmd.ok, Bool.and_eq_true, decide_eq_true_eq] at hok
    have e := take_fwd h hn (val_be1 _ (by omega) (by omega))
    simp only [getFld, e, Cmd.put, be_length]
    simp [mask]
  case t =>
    have e := take_fwd h hn (val_be8 _ hw.lot.1 hw.lot.2)
    simp only [getFld, e, Cmd.put, be_length]
    simp [mask]
  case n =>
    have e := take_fwd h hn (val_be8 _ hw.line.1 hw.line.2)
    simp only [getFld, e, Cmd.put, be_length]
    simp [mask]
  case p =>
    obtain ⟨h8, hp⟩ := parted_all hok
    simp only [Cmd.put, List.append_assoc] at h
    have e := take_fwd h hn (val_be1 _ (by omega) (by omega))
    have h2 := drop_at h
    have hl2 := len_at h hn
    rw [be_length] at h2 hl2
    have e2 := parts_fwd b x.parts (n + 1) [] r h2 hl2 hp
    have e3 : (mask P x).parts = [] := by simp only [mask]; rw [if_neg hP]
    simp only [getFld, e, e3, Int.toNat_natCast, e2, Cmd.put, List.length_append, be_length, List.nil_append]
    simp [mask]
    omega
  case o =>
    simp only [Cmd.ok, othersOk, Bool.and_eq_true, decide_eq_true_eq] at hok
    simp only [Cmd.put, List.append_assoc] at h
    have e := take_fwd h hn (val_be1 _ (by omega) (by omega))
    have h2 := drop_at h
    have hl2 := len_at h hn
    rw [be_length] at h2 hl2
    have e2 := others_fwd b x.others (n + 1) [] r h2 hl2 (unlike_all hok.1.2)
    have e3 : (mask P x).others = [] := by simp only [mask]; rw [if_neg hP]
    simp only [getFld, e, e3, Int.toNat_natCast, e2, Cmd.put, List.length_append, be_length, List.nil_append]
    simp [mask]
    omega

theorem flds_fwd (b : List Int) (x : Cmd) (hw : x.wf) : ∀ (f P : List Fld) (n : Nat) (r : List Int), (P ++ f).Nodup → b.drop n = f.flatMap x.put ++ r → n ≤ b.length → (∀ c ∈ f, x.ok c = true) →
    getFlds b f ((n, true), mask P x) = ((n + (f.flatMap x.put).length, true), mask (P ++ f) x)
  | [], P, n, r, _, _, _, _ => by simp [getFlds]
  | c :: f, P, n, r, hnd, h, hn, hok => by
    rw [List.flatMap_cons, List.append_assoc] at h
    have hcP : c ∉ P := fun hc => by
      have := (List.nodup_append.1 hnd).2.2 c hc c (by simp)
      exact this rfl
    have e := fld_fwd b x hw P c hcP n _ h hn (hok c (by simp))
    show getFlds b f (getFld b c ((n, true), mask P x)) = _
    rw [e, flds_fwd b x hw f (P ++ [c]) _ r (by simpa using hnd) (drop_at h) (len_at h hn) fun g hg => hok g (List.mem_cons_of_mem _ hg)]
    rw [List.flatMap_cons, List.length_append]
    simp
    omega

/-- What is put is got, whatever stands behind it. -/
theorem get_putCmd (x : Cmd) (hw : x.wf) (hr : rightCmd x = true) (more : List Int) : getCmd (bytesOf13 x ++ more) = (x, ((bytesOf13 x).length : Int), 0) := by
  unfold rightCmd at hr
  split at hr
  · cases hr
  rename_i f hf
  have hr0 := hr
  simp only [Bool.and_eq_true, List.all_eq_true] at hr
  obtain ⟨⟨_, hok⟩, hon⟩ := hr
  obtain ⟨_, _, hnd, _⟩ := fieldsOf_cases hf
  have hfi : fieldsIn x.kind = f := by unfold fieldsIn; rw [hf]; rfl
  have hb0 : (bytesOf13 x ++ more).drop 0 = be x.kind 1 ++ (be x.req 8 ++ ((fieldsIn x.kind).flatMap x.put ++ more)) := by
    unfold bytesOf13 headOf; simp
  obtain ⟨b, hb⟩ : ∃ b, b = bytesOf13 x ++ more := ⟨_, rfl⟩
  rw [← hb] at hb0
  have e1 := take_fwd hb0 (Nat.zero_le _) (val_be1 _ hw.kind.1 hw.kind.2)
  have h1 := drop_at hb0
  have l1 := len_at hb0 (Nat.zero_le _)
  rw [be_length] at h1 l1
  have e2 := take_fwd h1 l1 (val_be8 _ hw.req.1 hw.req.2)
  have h2 := drop_at h1
  have l2 := len_at h1 l1
  rw [be_length] at h2 l2
  have hk := hw.kind
  have hh : getHead b = ((0 + 1 + 8, true), mask [] x) := by
    unfold getHead
    simp only [e1, e2]
    have : x.kind % 256 = x.kind := by omega
    simp [mask, zeroCmd, this]
  have e3 := flds_fwd b x hw (fieldsIn x.kind) [] _ more (by rw [hfi]; simpa using hnd) h2 l2 (by rw [hfi]; exact hok)
  have hg : getAll b = ((0 + 1 + 8 + ((fieldsIn x.kind).flatMap x.put).length, true), x) := by
    unfold getAll
    rw [hh]
    show getFlds b (fieldsIn x.kind) _ = _
    rw [e3, List.nil_append, hfi, mask_right hon]
  rw [← hb]
  unfold getCmd
  have hrx : rightCmd x = true := by unfold rightCmd; rw [hf]; exact hr0
  rw [hg, if_pos ⟨rfl, hrx⟩]
  unfold bytesOf13 headOf
  simp only [List.length_append, be_length]

/-! ### What is got is put -/

theorem take_bwd {b : List Int} (hb : bytesOk b) {s : Nat} (hs : s = 1 ∨ s = 2 ∨ s = 8) {p q : Pos} {v : Int} (h : takeN b s p = (v, q)) (hq : q.2 = true) :
    p.2 = true ∧ q.1 = p.1 + s ∧ q.1 ≤ b.length ∧ b.take q.1 = b.take p.1 ++ be v s ∧ -9223372036854775808 ≤ v ∧ v ≤ 9223372036854775807 ∧ (s = 1 → 0 ≤ v ∧ v ≤ 255) := by
  unfold takeN at h
  split at h
  · rename_i hc
    injection h with hv hqq
    subst hqq; subst hv
    have hlen : ((b.drop p.1).take s).length = s := by rw [List.length_take, List.length_drop]; omega
    have hbb : bytesOk ((b.drop p.1).take s) := fun x hx => hb x (List.mem_of_mem_drop (List.mem_of_mem_take hx))
    have e := be_val _ hbb (by rw [hlen]; exact hs)
    rw [hlen] at e
    refine ⟨hc.1, rfl, hc.2, ?_, by unfold wrap64; omega, by unfold wrap64; omega, ?_⟩
    · rw [e, List.take_add]
    · rintro rfl
      match hm : (b.drop p.1).take 1, hlen with
      | [a], _ =>
        have := hbb a (by rw [hm]; simp)
        simp only [beVal, List.foldl]; unfold wrap64; omega
  · injection h with hv hqq
    subst hqq; cases hq
theorem coded_bwd {b : List Int} (hb : bytesOk b) {p q : Pos} (hp : p.1 ≤ b.length) {s : ByteArray} (h : codedN b p = (s, q)) (hq : q.2 = true) :
    p.2 = true ∧ q.1 = p.1 + (ints (putCode s.data.toList)).length ∧ q.1 ≤ b.length ∧ b.take q.1 = b.take p.1 ++ ints (putCode s.data.toList) := by
  unfold codedN at h
  split at h
  · rename_i hc
    obtain ⟨t, m, is, e, hsz, hcase⟩ := got_put (b.drop p.1) fun x hx => hb x (List.mem_of_mem_drop hx)
    rw [e] at h
    injection h with hs hqq
    subst hqq; subst hs
    rcases hcase with ⟨rfl, hcode, rfl, hle, hput⟩ | ⟨rfl, _, _⟩
    · have hlen : (ints (putCode t.data.toList)).length = 1 + t.size := by
        unfold ints; rw [List.length_map, putCode_pos _ hcode, List.length_cons, data_length]; omega
      rw [List.length_drop] at hle
      have ht : (1 + (t.size : Int)).toNat = 1 + t.size := by omega
      refine ⟨hc, ?_, ?_, ?_⟩
      · rw [hlen, ht]
      · show p.1 + (1 + (t.size : Int)).toNat ≤ _
        rw [ht]; omega
      · show b.take (p.1 + (1 + (t.size : Int)).toNat) = _
        rw [ht, hput, List.take_add]
    · cases hq
  · rename_i hc
    injection h with hs hqq
    subst hqq
    exact absurd hq hc

theorem take_bwd2 {b : List Int} (hb : bytesOk b) {s : Nat} (hs : s = 1 ∨ s = 2 ∨ s = 8) (p : Pos) (hq : (takeN b s p).2.2 = true) :
    p.2 = true ∧ (takeN b s p).2.1 = p.1 + s ∧ (takeN b s p).2.1 ≤ b.length ∧ b.take (takeN b s p).2.1 = b.take p.1 ++ be (takeN b s p).1 s ∧ -9223372036854775808 ≤ (takeN b s p).1 ∧ (takeN b s p).1 ≤ 9223372036854775807 ∧ (s = 1 → 0 ≤ (takeN b s p).1 ∧ (takeN b s p).1 ≤ 255) :=
  take_bwd hb hs (p := p) (q := (takeN b s p).2) (v := (takeN b s p).1) rfl hq
theorem others_bwd {b : List Int} (hb : bytesOk b) : ∀ (n : Nat) (p q : Pos) (acc l : List ByteArray), p.1 ≤ b.length → othersN b n p acc = (l, q) → q.2 = true →
    p.2 = true ∧ q.1 ≤ b.length ∧ ∃ l', l = acc ++ l' ∧ l'.length = n ∧ b.take q.1 = b.take p.1 ++ l'.flatMap fun s => ints (putCode s.data.toList)
  | 0, p, q, acc, l, hp, h, hq => by
    unfold othersN at h
    injection h with h1 h2
    subst h1; subst h2
    exact ⟨hq, hp, [], by simp, rfl, by simp⟩
  | n + 1, p, q, acc, l, hp, h, hq => by
    unfold othersN at h
    split at h
    · rename_i hc
      obtain ⟨c, hcd⟩ : ∃ c, c = codedN b p := ⟨_, rfl⟩
      simp only [← hcd] at h
      have h4 : c.2.1 ≤ b.length := by
        rw [hcd]
        unfold codedN
        rw [if_pos hc]
        obtain ⟨t', m, is, e, _, hcase⟩ := got_put (b.drop p.1) fun x hx => hb x (List.mem_of_mem_drop hx)
        rw [e]
        rcases hcase with ⟨rfl, _, rfl, hle, _⟩ | ⟨rfl, _, rfl⟩
        · rw [List.length_drop] at hle
          show p.1 + (1 + (t'.size : Int)).toNat ≤ _
          omega
        · exact hp
      obtain ⟨h1, h2, l', rfl, h4, h5⟩ := others_bwd hb n _ _ _ _ h4 h hq
      obtain ⟨f1, f2, f3, f4⟩ := coded_bwd hb hp hcd.symm h1
      refine ⟨hc, h2, c.1 :: l', by simp, by simp [h4], ?_⟩
      rw [h5, f4, List.flatMap_cons]
      simp
    · rename_i hc
      injection h with h1 h2
      subst h2
      exact absurd hq hc

theorem take_le {b : List Int} {s : Nat} {p : Pos} (hp : p.1 ≤ b.length) : (takeN b s p).2.1 ≤ b.length := by
  unfold takeN; split
  · rename_i h; exact h.2
  · exact hp
theorem coded_le {b : List Int} (hb : bytesOk b) {p : Pos} (hp : p.1 ≤ b.length) : (codedN b p).2.1 ≤ b.length := by
  unfold codedN; split
  · obtain ⟨t', m, is, e, _, hcase⟩ := got_put (b.drop p.1) fun x hx => hb x (List.mem_of_mem_drop hx)
    rw [e]
    rcases hcase with ⟨rfl, _, rfl, hle, _⟩ | ⟨rfl, _, rfl⟩
    · rw [List.length_drop] at hle
      show p.1 + (1 + (t'.size : Int)).toNat ≤ _
      omega
    · exact hp
  · exact hp
theorem parts_le {b : List Int} (hb : bytesOk b) : ∀ (n : Nat) (p : Pos) (acc : List Part), p.1 ≤ b.length → (partsN b n p acc).2.1 ≤ b.length
  | 0, p, acc, hp => hp
  | n + 1, p, acc, hp => by
    unfold partsN; split
    · exact parts_le hb n _ _ (take_le (coded_le hb hp))
    · exact hp
theorem others_le {b : List Int} (hb : bytesOk b) : ∀ (n : Nat) (p : Pos) (acc : List ByteArray), p.1 ≤ b.length → (othersN b n p acc).2.1 ≤ b.length
  | 0, p, acc, hp => hp
  | n + 1, p, acc, hp => by
    unfold othersN; split
    · exact others_le hb n _ _ (coded_le hb hp)
    · exact hp

theorem getFld_kind (b : List Int) (c : Fld) (s : Pos × Cmd) : (getFld b c s).2.kind = s.2.kind ∧ (getFld b c s).2.req = s.2.req := by cases c <;> exact ⟨rfl, rfl⟩
theorem getFlds_kind (b : List Int) : ∀ (f : List Fld) (s : Pos × Cmd), (getFlds b f s).2.kind = s.2.kind ∧ (getFlds b f s).2.req = s.2.req
  | [], s => ⟨rfl, rfl⟩
  | c :: f, s => by
    have h := getFlds_kind b f (getFld b c s)
    have h2 := getFld_kind b c s
    exact ⟨h.1.trans h2.1, h.2.trans h2.2⟩

/-- Each number that is got is one of its kind. -/
def NumsOk (a : Cmd) : Prop := (-9223372036854775808 ≤ a.qty ∧ a.qty ≤ 9223372036854775807) ∧ (-9223372036854775808 ≤ a.day ∧ a.day ≤ 9223372036854775807) ∧ (-9223372036854775808 ≤ a.days ∧ a.days ≤ 9223372036854775807) ∧ (-9223372036854775808 ≤ a.rank ∧ a.rank ≤ 9223372036854775807) ∧ (-9223372036854775808 ≤ a.lot ∧ a.lot ≤ 9223372036854775807) ∧ (-9223372036854775808 ≤ a.line ∧ a.line ≤ 9223372036854775807)
theorem getFlds_nums (b : List Int) : ∀ (f : List Fld) (s : Pos × Cmd), NumsOk s.2 → NumsOk (getFlds b f s).2 := by
  have bd : ∀ s p, -9223372036854775808 ≤ (takeN b s p).1 ∧ (takeN b s p).1 ≤ 9223372036854775807 := by
    intro s p
    unfold takeN
    split
    · dsimp only; unfold wrap64; omega
    · dsimp only; omega
  intro f
  induction f with
  | nil => intro s h; exact h
  | cons c f ih =>
    intro s h
    refine ih (getFld b c s) ?_
    obtain ⟨h1, h2, h3, h4, h5, h6⟩ := h
    cases c
    case q => exact ⟨bd _ _, h2, h3, h4, h5, h6⟩
    case d => exact ⟨h1, bd _ _, h3, h4, h5, h6⟩
    case l => exact ⟨h1, h2, bd _ _, h4, h5, h6⟩
    case r => exact ⟨h1, h2, h3, bd _ _, h5, h6⟩
    case t => exact ⟨h1, h2, h3, h4, bd _ _, h6⟩
    case n => exact ⟨h1, h2, h3, h4, h5, bd _ _⟩
    all_goals exact ⟨h1, h2, h3, h4, h5, h6⟩
theorem nums_zero (k r : Int) : NumsOk { zeroCmd with kind := k, req := r } := by
  show ((-9223372036854775808 ≤ (0 : Int) ∧ (0 : Int) ≤ 9223372036854775807) ∧ (-9223372036854775808 ≤ (0 : Int) ∧ (0 : Int) ≤ 9223372036854775807) ∧ (-9223372036854775808 ≤ (0 : Int) ∧ (0 : Int) ≤ 9223372036854775807) ∧ (-9223372036854775808 ≤ (0 : Int) ∧ (0 : Int) ≤ 9223372036854775807) ∧ (-9223372036854775808 ≤ (0 : Int) ∧ (0 : Int) ≤ 9223372036854775807) ∧ (-9223372036854775808 ≤ (0 : Int) ∧ (0 : Int) ≤ 9223372036854775807))
  omega
theorem getAll_nums (b : List Int) : NumsOk (getAll b).2 := getFlds_nums b _ _ (nums_zero _ _)
theorem take1_le {b : List Int} (hb : bytesOk b) (p : Pos) : (takeN b 1 p).1 ≤ 255 := by
  unfold takeN
  split
  · rename_i hc
    have hlen : ((b.drop p.1).take 1).length = 1 := by rw [List.length_take, List.length_drop]; omega
    match hm : (b.drop p.1).take 1, hlen with
    | [a], _ =>
      have := hb a (List.mem_of_mem_drop (List.mem_of_mem_take (by rw [hm]; simp)))
      simp only [beVal, List.foldl]; unfold wrap64; omega
  · dsimp only; omega
theorem partsN_len (b : List Int) : ∀ (n : Nat) (p : Pos) (acc : List Part), (partsN b n p acc).1.length ≤ acc.length + n
  | 0, p, acc => Nat.le_refl _
  | n + 1, p, acc => by
    unfold partsN
    split
    · have := partsN_len b n (takeN b 8 (codedN b p).2).2 (acc ++ [⟨(codedN b p).1, (takeN b 8 (codedN b p).2).1⟩])
      rw [List.length_append, List.length_singleton] at this
      dsimp only
      omega
    · dsimp only; omega
theorem getFlds_parts {b : List Int} (hb : bytesOk b) : ∀ (f : List Fld) (s : Pos × Cmd), (getFlds b f s).2.parts.length ≤ s.2.parts.length + 255 * f.length
  | [], s => Nat.le_refl _
  | c :: f, s => by
    have h := getFlds_parts hb f (getFld b c s)
    have h2 : (getFld b c s).2.parts.length ≤ s.2.parts.length + 255 := by
      cases c
      case p =>
        have h3 := partsN_len b (takeN b 1 s.1).1.toNat (takeN b 1 s.1).2 s.2.parts
        have h4 := take1_le hb s.1
        show (partsN b (takeN b 1 s.1).1.toNat (takeN b 1 s.1).2 s.2.parts).1.length ≤ _
        omega
      all_goals exact Nat.le_add_right _ _
    show (getFlds b f (getFld b c s)).2.parts.length ≤ _
    rw [List.length_cons]
    omega
theorem fieldsIn_len (k : Int) : (fieldsIn k).length ≤ 4 := by
  unfold fieldsIn
  cases h : fieldsOf k with
  | none => simp
  | some f => exact (fieldsOf_cases h).2.2.2
theorem getAll_parts {b : List Int} (hb : bytesOk b) : (getAll b).2.parts.length ≤ 1020 := by
  have h := getFlds_parts hb (fieldsIn (getHead b).2.kind) (getHead b)
  have h2 := fieldsIn_len (getHead b).2.kind
  have h3 : (getHead b).2.parts.length = 0 := rfl
  show (getFlds b _ _).2.parts.length ≤ _
  omega
theorem getAll_wf (b : List Int) : (getAll b).2.wf := by
  have hk := getFlds_kind b (fieldsIn (getHead b).2.kind) (getHead b)
  have bd : ∀ s p, -9223372036854775808 ≤ (takeN b s p).1 ∧ (takeN b s p).1 ≤ 9223372036854775807 := by
    intro s p
    unfold takeN
    split
    · dsimp only; unfold wrap64; omega
    · dsimp only; omega
  have hl : ∀ (f : List Fld) (s : Pos × Cmd), (-9223372036854775808 ≤ s.2.lot ∧ s.2.lot ≤ 9223372036854775807) ∧ (-9223372036854775808 ≤ s.2.line ∧ s.2.line ≤ 9223372036854775807) → (-9223372036854775808 ≤ (getFlds b f s).2.lot ∧ (getFlds b f s).2.lot ≤ 9223372036854775807) ∧ (-9223372036854775808 ≤ (getFlds b f s).2.line ∧ (getFlds b f s).2.line ≤ 9223372036854775807) := by
    intro f
    induction f with
    | nil => intro s h; exact h
    | cons c f ih =>
      intro s h
      refine ih (getFld b c s) ?_
      cases c
      case t => exact ⟨bd _ _, h.2⟩
      case n => exact ⟨h.1, bd _ _⟩
      all_goals exact h
  have h0 := hl (fieldsIn (getHead b).2.kind) (getHead b) (show (-9223372036854775808 ≤ (0 : Int) ∧ (0 : Int) ≤ 9223372036854775807) ∧ (-9223372036854775808 ≤ (0 : Int) ∧ (0 : Int) ≤ 9223372036854775807) by omega)
  refine ⟨?_, ?_, h0.1, h0.2⟩
  · show 0 ≤ (getFlds b (fieldsIn (getHead b).2.kind) (getHead b)).2.kind ∧ (getFlds b (fieldsIn (getHead b).2.kind) (getHead b)).2.kind ≤ 255
    rw [hk.1]
    show 0 ≤ (takeN b 1 (0, true)).1 % 256 ∧ (takeN b 1 (0, true)).1 % 256 ≤ 255
    omega
  · show -9223372036854775808 ≤ (getFlds b (fieldsIn (getHead b).2.kind) (getHead b)).2.req ∧ (getFlds b (fieldsIn (getHead b).2.kind) (getHead b)).2.req ≤ 9223372036854775807
    rw [hk.2]
    exact bd _ _

end Go.Proofs.YtkpedlhofalnjaaGreatDoor

/- What ask.Right, ask.Put and ask.Get answer, in the form that the printed texts take. -/
namespace Go.Proofs.YtkpedlhofalnjaaGreatDoor
open Go.RowKit

def i64 (x : Int) : Prop := -9223372036854775808 ≤ x ∧ x ≤ 9223372036854775807
instance (x : Int) : Decidable (i64 x) := inferInstanceAs (Decidable (_ ∧ _))
/-- Each number of it is one of its kind. -/
def Cmd.nums (a : Cmd) : Prop := (0 ≤ a.kind ∧ a.kind ≤ 255) ∧ i64 a.req ∧ i64 a.qty ∧ i64 a.day ∧ i64 a.days ∧ i64 a.rank ∧ i64 a.lot ∧ i64 a.line
instance (a : Cmd) : Decidable a.nums := inferInstanceAs (Decidable (_ ∧ _))
/-- .. and its parts are no more than are ever gone through. -/
def Cmd.fits (a : Cmd) : Prop := a.nums ∧ a.parts.length ≤ 1000000
instance (a : Cmd) : Decidable a.fits := inferInstanceAs (Decidable (_ ∧ _))
instance (l : List Int) : Decidable (bytesOk l) := inferInstanceAs (Decidable (∀ x ∈ l, 0 ≤ x ∧ x ≤ 255))
theorem Cmd.fits.wf {a : Cmd} (h : a.fits) : a.wf := ⟨h.1.1, h.1.2.1, h.1.2.2.2.2.2.2.1, h.1.2.2.2.2.2.2.2⟩

def ask_Right.f (a0_0 a0_1 : Int) (a0_2 : ByteArray) (a0_3 a0_4 a0_5 a0_6 a0_7 a0_8 : Int) (l0_9 : List Part) (l0_10 : List ByteArray) : Option Bool :=
  if (Cmd.mk a0_0 a0_1 a0_2 a0_3 a0_4 a0_5 a0_6 a0_7 a0_8 l0_9 l0_10).fits then some (rightCmd (Cmd.mk a0_0 a0_1 a0_2 a0_3 a0_4 a0_5 a0_6 a0_7 a0_8 l0_9 l0_10)) else none
def ask_Put.f (a0_0 a0_1 : Int) (a0_2 : ByteArray) (a0_3 a0_4 a0_5 a0_6 a0_7 a0_8 : Int) (l0_9 : List Part) (l0_10 : List ByteArray) : Option (List Int × Int) :=
  if (Cmd.mk a0_0 a0_1 a0_2 a0_3 a0_4 a0_5 a0_6 a0_7 a0_8 l0_9 l0_10).fits then some (putCmd (Cmd.mk a0_0 a0_1 a0_2 a0_3 a0_4 a0_5 a0_6 a0_7 a0_8 l0_9 l0_10)) else none
abbrev Got := Int × Int × ByteArray × Int × Int × Int × Int × Int × Int × List Part × List ByteArray × Int × Int
def gotOf (g : Cmd × Int × Int) : Got := (g.1.kind, g.1.req, g.1.item, g.1.qty, g.1.day, g.1.days, g.1.rank, g.1.lot, g.1.line, g.1.parts, g.1.others, g.2.1, g.2.2)
def ask_Get.f (l0 : List Int) : Option Got := if bytesOk l0 ∧ l0.length ≤ 1000000 then some (gotOf (getCmd l0)) else none
theorem getAll_fits {b : List Int} (hb : bytesOk b) : (getAll b).2.fits := by
  have hw := getAll_wf b
  have hp := getAll_parts hb
  obtain ⟨h1, h2, h3, h4, h5, h6⟩ := getAll_nums b
  exact ⟨⟨hw.kind, hw.req, h1, h2, h3, h4, h5, h6⟩, by omega⟩
theorem put_len (x : Cmd) (hr : rightCmd x = true) : (bytesOf13 x).length ≤ 400 := by
  unfold rightCmd at hr
  split at hr
  · cases hr
  rename_i f hf
  simp only [Bool.and_eq_true, List.all_eq_true] at hr
  obtain ⟨⟨_, hok⟩, _⟩ := hr
  obtain ⟨_, _, hnd, hl4⟩ := fieldsOf_cases hf
  have hfi : fieldsIn x.kind = f := by unfold fieldsIn; rw [hf]; rfl
  have hc : ∀ s : ByteArray, (ints (putCode s.data.toList)).length ≤ 13 := fun s => by
    unfold ints; rw [List.length_map]; exact putCode_len _
  have hflat : ∀ {α : Type} (g : α → List Int) (m : Nat) (l : List α), (∀ a ∈ l, (g a).length ≤ m) → (l.flatMap g).length ≤ l.length * m := by
    intro α g m l
    induction l with
    | nil => intro _; simp
    | cons a l ih =>
      intro h
      rw [List.flatMap_cons, List.length_append, List.length_cons, Nat.succ_mul]
      have := h a (by simp)
      have := ih fun b hb => h b (List.mem_cons_of_mem _ hb)
      omega
  have hput : ∀ c ∈ f, (x.put c).length ≤ 90 + 90 * (if c = .p then 1 else 0) := by
    intro c hcf
    have := hok c hcf
    cases c
    case p =>
      obtain ⟨h8, _⟩ := parted_all this
      have h2 := hflat putPart 21 x.parts fun p _ => by rw [part_len]; have := hc p.f0; omega
      simp only [Cmd.put, List.length_append, be_length, if_true]
      omega
    case o =>
      simp only [Cmd.ok, othersOk, Bool.and_eq_true, decide_eq_true_eq] at this
      have h2 := hflat (fun s : ByteArray => ints (putCode s.data.toList)) 13 x.others fun s _ => hc s
      simp only [Cmd.put, List.length_append, be_length]
      omega
    case i => simp only [Cmd.put]; have := hc x.item; omega
    all_goals simp [Cmd.put, be_length]
  have hsum : (f.flatMap x.put).length ≤ 390 := by
    have h2 : ∀ g ∈ kindTab, ∀ y : Cmd, (∀ c ∈ g, (y.put c).length ≤ 90 + 90 * (if c = .p then 1 else 0)) → (g.flatMap y.put).length ≤ 390 := by
      intro g hg y hy
      simp only [kindTab, List.mem_cons, List.not_mem_nil, or_false] at hg
      rcases hg with rfl | rfl | rfl | rfl | rfl | rfl | rfl | rfl | rfl | rfl | rfl | rfl | rfl | rfl | rfl <;> simp at hy ⊢ <;> omega
    have hm : f ∈ kindTab := by
      unfold fieldsOf at hf
      split at hf
      · exact List.mem_of_getElem? hf
      · cases hf
    exact h2 f hm x hput
  unfold bytesOf13 headOf
  rw [hfi]
  simp only [List.length_append, be_length]
  omega

/-- .. nor are those of its first fields. -/
theorem put_some (x : Cmd) (hr : rightCmd x = true) {f P r : List Fld} (hf : fieldsOf x.kind = some f) (hP : f = P ++ r) : (headOf x ++ P.flatMap x.put).length ≤ 400 := by
  have h := put_len x hr
  have hfi : fieldsIn x.kind = f := by unfold fieldsIn; rw [hf]; rfl
  unfold bytesOf13 at h
  rw [hfi, hP, List.flatMap_append] at h
  simp only [List.length_append] at h ⊢
  omega
end Go.Proofs.YtkpedlhofalnjaaGreatDoor
end

section
/- Contracts of Go's library, laid at this program (no walk: the library's theorems at this program's numbers). -/
namespace Go.Proofs
open Go.Shelf
def Tryz.lays160_ren : Go.Shelf.Ren := ⟨fun | 160 => 161 | 232 => 209 | 231 => 208 | 227 => 210 | 234 => 212 | 233 => 211 | 236 => 214 | 235 => 213 | 228 => 237 | 271 => 239 | 151 => 238 | 197 => 236 | 120 => 256 | 152 => 255 | 260 => 254 | 137 => 261 | 119 => 262 | 224 => 242 | 225 => 241 | 217 => 240 | 266 => 257 | n => n, fun | 9 => 9 | 4 => 4 | 3 => 3 | 5 => 5 | 117 => 318 | 116 => 317 | 0 => 0 | 124 => 321 | 21 => 21 | 105 => 338 | 46 => 139 | 119 => 127 | 139 => 365 | 138 => 364 | n => n, fun | 3 => 8 | 4 => 9 | n => n⟩
theorem Tryz.lays160 : Go.Proofs.Lays.n160 Tryz.prog Tryz.lays160_ren := {
  mixed := by kernel_rfl
  f119 := Tryz.func262.trans (congrArg some (by kernel_rfl))
  f120 := Tryz.func256.trans (congrArg some (by kernel_rfl))
  f137 := Tryz.func261.trans (congrArg some (by kernel_rfl))
  f151 := Tryz.func238.trans (congrArg some (by kernel_rfl))
  f152 := Tryz.func255.trans (congrArg some (by kernel_rfl))
  f160 := Tryz.func161.trans (congrArg some (by kernel_rfl))
  f197 := Tryz.func236.trans (congrArg some (by kernel_rfl))
  f217 := Tryz.func240.trans (congrArg some (by kernel_rfl))
  f224 := Tryz.func242.trans (congrArg some (by kernel_rfl))
  f225 := Tryz.func241.trans (congrArg some (by kernel_rfl))
  f227 := Tryz.func210.trans (congrArg some (by kernel_rfl))
  f228 := Tryz.func237.trans (congrArg some (by kernel_rfl))
  f231 := Tryz.func208.trans (congrArg some (by kernel_rfl))
  f232 := Tryz.func209.trans (congrArg some (by kernel_rfl))
  f233 := Tryz.func211.trans (congrArg some (by kernel_rfl))
  f234 := Tryz.func212.trans (congrArg some (by kernel_rfl))
  f235 := Tryz.func213.trans (congrArg some (by kernel_rfl))
  f236 := Tryz.func214.trans (congrArg some (by kernel_rfl))
  f260 := Tryz.func254.trans (congrArg some (by kernel_rfl))
  f266 := Tryz.func257.trans (congrArg some (by kernel_rfl))
  f271 := Tryz.func239.trans (congrArg some (by kernel_rfl))
  t0 := Tryz.underlying0
  a0 := Tryz.isAgg0
  z0 := Tryz.sizeOf0
  v0 := Tryz.zeroValue0
  t3 := Tryz.underlying3
  a3 := Tryz.isAgg3
  z3 := Tryz.sizeOf3
  v3 := Tryz.zeroValue3
  t4 := Tryz.underlying4
  a4 := Tryz.isAgg4
  z4 := Tryz.sizeOf4
  v4 := Tryz.zeroValue4
  t5 := Tryz.underlying5
  a5 := Tryz.isAgg5
  z5 := Tryz.sizeOf5
  v5 := Tryz.zeroValue5
  t9 := Tryz.underlying9
  a9 := Tryz.isAgg9
  z9 := Tryz.sizeOf9
  v9 := Tryz.zeroValue9
  t21 := Tryz.underlying21
  a21 := Tryz.isAgg21
  z21 := Tryz.sizeOf21
  v21 := Tryz.zeroValue21
  t46 := Tryz.underlying139
  a46 := Tryz.isAgg139
  z46 := Tryz.sizeOf139
  v46 := Tryz.zeroValue139
  t105 := Tryz.underlying338
  a105 := Tryz.isAgg338
  z105 := Tryz.sizeOf338
  v105 := Tryz.zeroValue338
  t116 := Tryz.underlying317
  a116 := Tryz.isAgg317
  z116 := Tryz.sizeOf317
  t117 := Tryz.underlying318
  a117 := Tryz.isAgg318
  z117 := Tryz.sizeOf318
  v117 := Tryz.zeroValue318
  t119 := Tryz.underlying127
  a119 := Tryz.isAgg127
  z119 := Tryz.sizeOf127
  t124 := Tryz.underlying321
  a124 := Tryz.isAgg321
  z124 := Tryz.sizeOf321
  v124 := Tryz.zeroValue321
  t138 := Tryz.underlying364
  a138 := Tryz.isAgg364
  z138 := Tryz.sizeOf364
  v138 := Tryz.zeroValue364
  t139 := Tryz.underlying365
  a139 := Tryz.isAgg365
  z139 := Tryz.sizeOf365
  v139 := Tryz.zeroValue365
  g3 := by kernel_rfl
  g4 := by kernel_rfl }
open Go.RowKit in
theorem Tryz.strings_Trim_one (s : ByteArray) (c : UInt8) (hc : c.toNat < 128) (w : World) (hs : s.size ≤ 9223372036854775807) :
    Calls Tryz.prog 161 #[.string s, .string ⟨#[c]⟩] w fun e w' => e = .returned (.string ⟨(Lib.trimB s.data.toList c).toArray⟩) ∧ (w' = w ∨ w' = w.drew) := Any.strings_Trim_one Tryz.lays160 s c hc w hs
def Tryz.lays144_ren : Go.Shelf.Ren := ⟨fun | 144 => 86 | 143 => 163 | 219 => 215 | 217 => 240 | 225 => 241 | 224 => 242 | 267 => 243 | 266 => 257 | 314 => 258 | n => n, fun | 9 => 9 | 4 => 4 | 3 => 3 | 5 => 5 | 46 => 139 | 146 => 215 | 51 => 211 | n => n, fun | 1 => 4 | n => n⟩
theorem Tryz.lays144 : Go.Proofs.Lays.n144 Tryz.prog Tryz.lays144_ren := {
  mixed := by kernel_rfl
  f143 := Tryz.func163.trans (congrArg some (by kernel_rfl))
  f144 := Tryz.func86.trans (congrArg some (by kernel_rfl))
  f217 := Tryz.func240.trans (congrArg some (by kernel_rfl))
  f219 := Tryz.func215.trans (congrArg some (by kernel_rfl))
  f224 := Tryz.func242.trans (congrArg some (by kernel_rfl))
  f225 := Tryz.func241.trans (congrArg some (by kernel_rfl))
  f266 := Tryz.func257.trans (congrArg some (by kernel_rfl))
  f267 := Tryz.func243.trans (congrArg some (by kernel_rfl))
  f314 := Tryz.func258.trans (congrArg some (by kernel_rfl))
  t3 := Tryz.underlying3
  a3 := Tryz.isAgg3
  z3 := Tryz.sizeOf3
  v3 := Tryz.zeroValue3
  t4 := Tryz.underlying4
  a4 := Tryz.isAgg4
  z4 := Tryz.sizeOf4
  v4 := Tryz.zeroValue4
  t5 := Tryz.underlying5
  a5 := Tryz.isAgg5
  z5 := Tryz.sizeOf5
  v5 := Tryz.zeroValue5
  t9 := Tryz.underlying9
  a9 := Tryz.isAgg9
  z9 := Tryz.sizeOf9
  v9 := Tryz.zeroValue9
  t46 := Tryz.underlying139
  a46 := Tryz.isAgg139
  z46 := Tryz.sizeOf139
  v46 := Tryz.zeroValue139
  t51 := Tryz.underlying211
  a51 := Tryz.isAgg211
  z51 := Tryz.sizeOf211
  v51 := Tryz.zeroValue211
  t146 := Tryz.underlying215
  a146 := Tryz.isAgg215
  z146 := Tryz.sizeOf215
  v146 := Tryz.zeroValue215
  g1 := by kernel_rfl }
open Go.RowKit Go.Lib in
theorem Tryz.strings_Contains_one (s : ByteArray) (c : UInt8) (w : World) :
    Calls Tryz.prog 86 #[.string s, .string ⟨#[c]⟩] w fun e w' => e = .returned (.bool (decide (0 ≤ Lib.indexByte s.data.toList c))) ∧ w' = w := Any.strings_Contains_one Tryz.lays144 s c w
end Go.Proofs
end

section
/- What ask.fields answers: the fields that a kind has, out of the program's own table. -/
namespace Go.Proofs.YtkpedlhofalnjaaGreatDoor
open Go.RowKit Go.Proofs.YtkpedlhofalnjaaGreatDoorW.PrintWords Go.Proofs.YtkpedlhofalnjaaGreatDoorW.PrintLast Go.Proofs.YtkpedlhofalnjaaGreatDoorW.PrintMore

/-- The table as the program lays it. -/
def kindTexts : List ByteArray := [⟨#[]⟩, ⟨#[105, 108]⟩, ⟨#[105, 112]⟩, ⟨#[105, 111]⟩, ⟨#[105, 113]⟩, ⟨#[105, 113, 100]⟩, ⟨#[116, 100]⟩, ⟨#[116]⟩, ⟨#[116]⟩, ⟨#[105, 113, 100, 114]⟩, ⟨#[110]⟩, ⟨#[110]⟩, ⟨#[45]⟩, ⟨#[105, 113, 100]⟩, ⟨#[110]⟩, ⟨#[105]⟩]
theorem gKinds : Tryz.prog.globalNamed "storeman/ask.kinds" = some 2 := by kernel_rfl
structure Laid13 (w : World) : Prop where
  kinds : w.var? Tryz.prog "storeman/ask.kinds" = some (kindTexts.map Value.string).toArray
theorem Laid13.cell {w : World} (h : Laid13 w) (i : Nat) (s : ByteArray) (hs : kindTexts[i]? = some s) : w.cell? ⟨2, i, none⟩ = some (.string s) := by
  have := World.var?_cell gKinds h.kinds i
  rw [this]
  simp [hs]
theorem Laid13.below {w w' : World} (h : Laid13 w) (hb : Below w.heap.size w w') : Laid13 w' :=
  ⟨var?_below hb gKinds (World.block_lt_of_cell? w _ (h.cell 0 _ rfl)) h.kinds⟩

def textOf (k : Int) : ByteArray := ⟨((fieldsIn k).map Fld.byte).toArray⟩

theorem trim_one (s t : ByteArray) (hs : s.size ≤ 100) (ht : Lib.trimB s.data.toList 45 = t.data.toList) (w : World) : Calls Tryz.prog 161 #[.string s, .string ⟨#[45]⟩] w fun e w' => e = .returned (.string t) ∧ Drawn0 w w' :=
  (Tryz.strings_Trim_one s 45 (by decide) w (by omega)).mono fun e w' ⟨he, hw⟩ => by
    refine ⟨?_, ?_⟩
    · rw [he, ht]
    · rcases hw with rfl | rfl
      · exact Drawn0.refl _
      · exact (Drawn0.refl w).step 1

theorem fields_above (k : Int) (h : 16 ≤ k) (h1 : k ≤ 255) (w : World) : Calls Tryz.prog 81 #[.int .u8 k] w fun e w' => e = .returned (.tuple #[.string (textOf k), .bool (fieldsOf k).isSome]) ∧ Below w.heap.size w w' := by
  have e : fieldsOf k = none := by unfold fieldsOf; rw [if_neg (by omega)]
  have e1 : textOf k = ⟨#[]⟩ := by unfold textOf fieldsIn; rw [e]; rfl
  have E := Lib.hid e
  have E1 := Lib.hid e1
  clear e e1
  go_enter Tryz.func81, Tryz.ntmps81
  go_wp2_with fail
  go_ret2
  exact ⟨by rw [E.out, E1.out]; rfl, Below.refl _ _⟩
theorem fields_zero (w : World) (hL : Laid13 w) : Calls Tryz.prog 81 #[.int .u8 0] w fun e w' => e = .returned (.tuple #[.string (textOf 0), .bool (fieldsOf 0).isSome]) ∧ Below w.heap.size w w' := by
  have hc := hL.cell 0 _ rfl
  clear hL
  go_enter Tryz.func81, Tryz.ntmps81
  go_wp2_with fail
  go_ret2
  exact ⟨rfl, Below.refl _ _⟩
theorem fields_1 (w : World) (hL : Laid13 w) : Calls Tryz.prog 81 #[.int .u8 1] w fun e w' => e = .returned (.tuple #[.string (textOf 1), .bool (fieldsOf 1).isSome]) ∧ Below w.heap.size w w' := by
  have hc := hL.cell 1 _ rfl
  clear hL
  go_enter Tryz.func81, Tryz.ntmps81
  go_wp2_with fail
  refine (trim_one ⟨#[105, 108]⟩ (textOf 1) (by decide) (by decide) _).mono ?_
  rintro e w1 ⟨rfl, hd⟩
  have hb := hd.below
  clear hd hc
  go_wp2_with fail
  go_ret2
  exact ⟨rfl, hb⟩
theorem fields_2 (w : World) (hL : Laid13 w) : Calls Tryz.prog 81 #[.int .u8 2] w fun e w' => e = .returned (.tuple #[.string (textOf 2), .bool (fieldsOf 2).isSome]) ∧ Below w.heap.size w w' := by
  have hc := hL.cell 2 _ rfl
  clear hL
  go_enter Tryz.func81, Tryz.ntmps81
  go_wp2_with fail
  refine (trim_one ⟨#[105, 112]⟩ (textOf 2) (by decide) (by decide) _).mono ?_
  rintro e w1 ⟨rfl, hd⟩
  have hb := hd.below
  clear hd hc
  go_wp2_with fail
  go_ret2
  exact ⟨rfl, hb⟩
theorem fields_3 (w : World) (hL : Laid13 w) : Calls Tryz.prog 81 #[.int .u8 3] w fun e w' => e = .returned (.tuple #[.string (textOf 3), .bool (fieldsOf 3).isSome]) ∧ Below w.heap.size w w' := by
  have hc := hL.cell 3 _ rfl
  clear hL
  go_enter Tryz.func81, Tryz.ntmps81
  go_wp2_with fail
  refine (trim_one ⟨#[105, 111]⟩ (textOf 3) (by decide) (by decide) _).mono ?_
  rintro e w1 ⟨rfl, hd⟩
  have hb := hd.below
  clear hd hc
  go_wp2_with fail
  go_ret2
  exact ⟨rfl, hb⟩
theorem fields_4 (w : World) (hL : Laid13 w) : Calls Tryz.prog 81 #[.int .u8 4] w fun e w' => e = .returned (.tuple #[.string (textOf 4), .bool (fieldsOf 4).isSome]) ∧ Below w.heap.size w w' := by
  have hc := hL.cell 4 _ rfl
  clear hL
  go_enter Tryz.func81, Tryz.ntmps81
  go_wp2_with fail
  refine (trim_one ⟨#[105, 113]⟩ (textOf 4) (by decide) (by decide) _).mono ?_
  rintro e w1 ⟨rfl, hd⟩
  have hb := hd.below
  clear hd hc
  go_wp2_with fail
  go_ret2
  exact ⟨rfl, hb⟩
theorem fields_5 (w : World) (hL : Laid13 w) : Calls Tryz.prog 81 #[.int .u8 5] w fun e w' => e = .returned (.tuple #[.string (textOf 5), .bool (fieldsOf 5).isSome]) ∧ Below w.heap.size w w' := by
  have hc := hL.cell 5 _ rfl
  clear hL
  go_enter Tryz.func81, Tryz.ntmps81
  go_wp2_with fail
  refine (trim_one ⟨#[105, 113, 100]⟩ (textOf 5) (by decide) (by decide) _).mono ?_
  rintro e w1 ⟨rfl, hd⟩
  have hb := hd.below
  clear hd hc
  go_wp2_with fail
  go_ret2
  exact ⟨rfl, hb⟩
theorem fields_6 (w : World) (hL : Laid13 w) : Calls Tryz.prog 81 #[.int .u8 6] w fun e w' => e = .returned (.tuple #[.string (textOf 6), .bool (fieldsOf 6).isSome]) ∧ Below w.heap.size w w' := by
  have hc := hL.cell 6 _ rfl
  clear hL
  go_enter Tryz.func81, Tryz.ntmps81
  go_wp2_with fail
  refine (trim_one ⟨#[116, 100]⟩ (textOf 6) (by decide) (by decide) _).mono ?_
  rintro e w1 ⟨rfl, hd⟩
  have hb := hd.below
  clear hd hc
  go_wp2_with fail
  go_ret2
  exact ⟨rfl, hb⟩
theorem fields_7 (w : World) (hL : Laid13 w) : Calls Tryz.prog 81 #[.int .u8 7] w fun e w' => e = .returned (.tuple #[.string (textOf 7), .bool (fieldsOf 7).isSome]) ∧ Below w.heap.size w w' := by
  have hc := hL.cell 7 _ rfl
  clear hL
  go_enter Tryz.func81, Tryz.ntmps81
  go_wp2_with fail
  refine (trim_one ⟨#[116]⟩ (textOf 7) (by decide) (by decide) _).mono ?_
  rintro e w1 ⟨rfl, hd⟩
  have hb := hd.below
  clear hd hc
  go_wp2_with fail
  go_ret2
  exact ⟨rfl, hb⟩
theorem fields_8 (w : World) (hL : Laid13 w) : Calls Tryz.prog 81 #[.int .u8 8] w fun e w' => e = .returned (.tuple #[.string (textOf 8), .bool (fieldsOf 8).isSome]) ∧ Below w.heap.size w w' := by
  have hc := hL.cell 8 _ rfl
  clear hL
  go_enter Tryz.func81, Tryz.ntmps81
  go_wp2_with fail
  refine (trim_one ⟨#[116]⟩ (textOf 8) (by decide) (by decide) _).mono ?_
  rintro e w1 ⟨rfl, hd⟩
  have hb := hd.below
  clear hd hc
  go_wp2_with fail
  go_ret2
  exact ⟨rfl, hb⟩
theorem fields_9 (w : World) (hL : Laid13 w) : Calls Tryz.prog 81 #[.int .u8 9] w fun e w' => e = .returned (.tuple #[.string (textOf 9), .bool (fieldsOf 9).isSome]) ∧ Below w.heap.size w w' := by
  have hc := hL.cell 9 _ rfl
  clear hL
  go_enter Tryz.func81, Tryz.ntmps81
  go_wp2_with fail
  refine (trim_one ⟨#[105, 113, 100, 114]⟩ (textOf 9) (by decide) (by decide) _).mono ?_
  rintro e w1 ⟨rfl, hd⟩
  have hb := hd.below
  clear hd hc
  go_wp2_with fail
  go_ret2
  exact ⟨rfl, hb⟩
theorem fields_10 (w : World) (hL : Laid13 w) : Calls Tryz.prog 81 #[.int .u8 10] w fun e w' => e = .returned (.tuple #[.string (textOf 10), .bool (fieldsOf 10).isSome]) ∧ Below w.heap.size w w' := by
  have hc := hL.cell 10 _ rfl
  clear hL
  go_enter Tryz.func81, Tryz.ntmps81
  go_wp2_with fail
  refine (trim_one ⟨#[110]⟩ (textOf 10) (by decide) (by decide) _).mono ?_
  rintro e w1 ⟨rfl, hd⟩
  have hb := hd.below
  clear hd hc
  go_wp2_with fail
  go_ret2
  exact ⟨rfl, hb⟩
theorem fields_11 (w : World) (hL : Laid13 w) : Calls Tryz.prog 81 #[.int .u8 11] w fun e w' => e = .returned (.tuple #[.string (textOf 11), .bool (fieldsOf 11).isSome]) ∧ Below w.heap.size w w' := by
  have hc := hL.cell 11 _ rfl
  clear hL
  go_enter Tryz.func81, Tryz.ntmps81
  go_wp2_with fail
  refine (trim_one ⟨#[110]⟩ (textOf 11) (by decide) (by decide) _).mono ?_
  rintro e w1 ⟨rfl, hd⟩
  have hb := hd.below
  clear hd hc
  go_wp2_with fail
  go_ret2
  exact ⟨rfl, hb⟩
theorem fields_12 (w : World) (hL : Laid13 w) : Calls Tryz.prog 81 #[.int .u8 12] w fun e w' => e = .returned (.tuple #[.string (textOf 12), .bool (fieldsOf 12).isSome]) ∧ Below w.heap.size w w' := by
  have hc := hL.cell 12 _ rfl
  clear hL
  go_enter Tryz.func81, Tryz.ntmps81
  go_wp2_with fail
  refine (trim_one ⟨#[45]⟩ (textOf 12) (by decide) (by decide) _).mono ?_
  rintro e w1 ⟨rfl, hd⟩
  have hb := hd.below
  clear hd hc
  go_wp2_with fail
  go_ret2
  exact ⟨rfl, hb⟩
theorem fields_13 (w : World) (hL : Laid13 w) : Calls Tryz.prog 81 #[.int .u8 13] w fun e w' => e = .returned (.tuple #[.string (textOf 13), .bool (fieldsOf 13).isSome]) ∧ Below w.heap.size w w' := by
  have hc := hL.cell 13 _ rfl
  clear hL
  go_enter Tryz.func81, Tryz.ntmps81
  go_wp2_with fail
  refine (trim_one ⟨#[105, 113, 100]⟩ (textOf 13) (by decide) (by decide) _).mono ?_
  rintro e w1 ⟨rfl, hd⟩
  have hb := hd.below
  clear hd hc
  go_wp2_with fail
  go_ret2
  exact ⟨rfl, hb⟩
theorem fields_14 (w : World) (hL : Laid13 w) : Calls Tryz.prog 81 #[.int .u8 14] w fun e w' => e = .returned (.tuple #[.string (textOf 14), .bool (fieldsOf 14).isSome]) ∧ Below w.heap.size w w' := by
  have hc := hL.cell 14 _ rfl
  clear hL
  go_enter Tryz.func81, Tryz.ntmps81
  go_wp2_with fail
  refine (trim_one ⟨#[110]⟩ (textOf 14) (by decide) (by decide) _).mono ?_
  rintro e w1 ⟨rfl, hd⟩
  have hb := hd.below
  clear hd hc
  go_wp2_with fail
  go_ret2
  exact ⟨rfl, hb⟩
theorem fields_15 (w : World) (hL : Laid13 w) : Calls Tryz.prog 81 #[.int .u8 15] w fun e w' => e = .returned (.tuple #[.string (textOf 15), .bool (fieldsOf 15).isSome]) ∧ Below w.heap.size w w' := by
  have hc := hL.cell 15 _ rfl
  clear hL
  go_enter Tryz.func81, Tryz.ntmps81
  go_wp2_with fail
  refine (trim_one ⟨#[105]⟩ (textOf 15) (by decide) (by decide) _).mono ?_
  rintro e w1 ⟨rfl, hd⟩
  have hb := hd.below
  clear hd hc
  go_wp2_with fail
  go_ret2
  exact ⟨rfl, hb⟩
theorem fields_any (k : Int) (h0 : 0 ≤ k) (h1 : k ≤ 255) (w : World) (hL : Laid13 w) : Calls Tryz.prog 81 #[.int .u8 k] w fun e w' => e = .returned (.tuple #[.string (textOf k), .bool (fieldsOf k).isSome]) ∧ Below w.heap.size w w' := by
  by_cases h : 16 ≤ k
  · exact fields_above k h h1 w
  · obtain h | h | h | h | h | h | h | h | h | h | h | h | h | h | h | h : k = 0 ∨ k = 1 ∨ k = 2 ∨ k = 3 ∨ k = 4 ∨ k = 5 ∨ k = 6 ∨ k = 7 ∨ k = 8 ∨ k = 9 ∨ k = 10 ∨ k = 11 ∨ k = 12 ∨ k = 13 ∨ k = 14 ∨ k = 15 := by omega
    all_goals subst h
    · exact fields_zero w hL
    · exact fields_1 w hL
    · exact fields_2 w hL
    · exact fields_3 w hL
    · exact fields_4 w hL
    · exact fields_5 w hL
    · exact fields_6 w hL
    · exact fields_7 w hL
    · exact fields_8 w hL
    · exact fields_9 w hL
    · exact fields_10 w hL
    · exact fields_11 w hL
    · exact fields_12 w hL
    · exact fields_13 w hL
    · exact fields_14 w hL
    · exact fields_15 w hL
end Go.Proofs.YtkpedlhofalnjaaGreatDoor
end

section
/- What the rows of layer 13 list: the table of kinds' fields; what it gives the walks; a world that holds it. -/
namespace Go.Proofs.YtkpedlhofalnjaaGreatDoor
open Go Go.ChangeShapes Go.WideShapes Go.ChangeAt Go.WideMaps Go.WideElems Go.RowKit

theorem own : ownKnob Tryz.prog.godebug = none := by kernel_rfl
theorem laidOut : laidOutB Tryz.prog = true := by kernel_rfl

/-- An array of strings that reads as these holds them, cell for cell. -/
theorem cells_of_strs {H : Type} {enc : TypeId × Value → H} {P : Program} {w : World} {base : Nat} {sp : Nat → Bool} {held : Bool} {fuel : Nat} {t e : TypeId} {n : Nat} {cs : List Value} {ss : List (List UInt8)} {p : List MemPlace}
    (ht : P.underlying t = some (.array n e)) (he : P.underlying e = some .string) (hce : P.cellsOf e = 1) (hct : P.cellsOf t = n)
    (h : DataW.trod enc P w base sp held fuel t cs = some (.agg (ss.map fun s => .lit (.string s)), p)) : cs = ss.map fun s => Value.string ⟨s.toArray⟩ := by
  cases fuel with
  | zero => simp [DataW.trod] at h
  | succ fuel =>
    simp only [DataW.trod, ht, hce, hct, Nat.mul_one] at h
    split at h
    · rename_i hl
      obtain ⟨xs, hm, hx⟩ := Option.map_eq_some_iff.1 h
      have hxs : xs.map (·.1) = ss.map fun s => (DataW.lit (.string s) : DataW H) := by
        have := congrArg Prod.fst hx
        simpa using this
      have hxl : xs.length = n := by simpa using Lib.mapM_length hm
      have hzl : ss.length = n := by
        have := congrArg List.length hxs
        simp at this
        omega
      apply List.ext_getElem?
      intro i
      by_cases hi : i < n
      · obtain ⟨b, hb, hf⟩ := Lib.mapM_at hm i i (by simp [hi])
        obtain ⟨s, hc, rfl, _⟩ := DataW.trod_string he hf
        have h1 : cs[i]? = some (.string s) := by
          have := congrArg (·[0]?) hc
          simpa [List.getElem?_take, List.getElem?_drop] using this
        have h2 : (xs.map (·.1))[i]? = some (DataW.lit (.string s.data.toList) : DataW H) := by simp [hb]
        rw [hxs] at h2
        simp only [List.getElem?_map, Option.map_eq_some_iff, DataW.lit.injEq, Lit.string.injEq] at h2
        obtain ⟨s', hs', h3⟩ := h2
        rw [h1, List.getElem?_map, hs', h3]
        cases s
        simp
      · rw [List.getElem?_eq_none (by omega), List.getElem?_eq_none (by simp; omega)]
    · cases h

def laidA : List (String × DataW Unit) := [("unicode/utf8.acceptRanges", Rows.laid_unicode_utf8_acceptRanges), ("storeman/ask.kinds", Rows.laid_storeman_ask_kinds), ("unicode/utf8.first", Rows.laid_unicode_utf8_first)]

def kindBytes : List (List UInt8) := kindTexts.map fun s => s.data.toList
theorem kinds_datum : (Rows.laid_storeman_ask_kinds : DataW Unit) = .agg (kindBytes.map fun s => .lit (.string s)) := by kernel_rfl

theorem laid13_of {W : World} (h : laidMetH Tryz.prog laidA W) : Laid13 W := by
  rw [MakeChecks.laidMetH_plain _ _ _ (by kernel_rfl)] at h
  have h2 : laidMet Tryz.prog (("storeman/ask.kinds", .agg (kindBytes.map fun s => .lit (.string s))) :: [("unicode/utf8.first", Rows.laid_unicode_utf8_first)]) W := by
    rw [← kinds_datum]; exact laidMet.tail h
  obtain ⟨ps, ⟨g', t', cs, fuel, p, q, hg', ht', hvar, hd, _, _⟩, _⟩ := h2
  obtain rfl := Option.some.inj (gKinds.symm.trans hg')
  obtain rfl := Option.some.inj ((show (Tryz.prog.globals[2]?).map (·.type) = some 221 by kernel_rfl).symm.trans ht')
  have hcs := cells_of_strs Tryz.underlying221 Tryz.underlying9 (by kernel_rfl) (by kernel_rfl) hd
  refine ⟨?_⟩
  rw [hvar, show cs = (kindTexts.map Value.string).toArray from by rw [← Array.toArray_toList (xs := cs), hcs]; rfl]

/-- A world in which the listed variables lie, as they are listed. -/
theorem doorA_met (os : Os) (args : Array Value) : laidMetH Tryz.prog laidA ((World.laidAll Tryz.prog os laidA).forCall (fun _ _ => 0) ⟨#[], args, []⟩).memory := by
  rw [MakeChecks.laidMetH_plain _ _ _ (by kernel_rfl)]
  exact laidMet_laidAll _ (by kernel_rfl) (by kernel_rfl)
end Go.Proofs.YtkpedlhofalnjaaGreatDoor
end

section
-- Written by a program of this session (a turned copy of the kit's print): functions and their proofs.
namespace Go.Proofs.YtkpedlhofalnjaaGreatDoor.C
open Go.RowKit Go.Proofs.YtkpedlhofalnjaaGreatDoorW.PrintWords Go.Proofs.YtkpedlhofalnjaaGreatDoorW.PrintLast Go.Proofs.YtkpedlhofalnjaaGreatDoorW.PrintMore
attribute [local go_sem] max2_int min2_int max_two min_two max_three min_three max_four min_four   -- for this text's walks alone
set_option linter.unusedVariables false
set_option linter.unusedSimpArgs false

def errW : Option Int → Value
  | none => .nilIface
  | some c => .iface 0 (.int .i64 c)
theorem errW_none : errW none = .nilIface := rfl
theorem errW_some (c : Int) : errW (some c) = .iface 0 (.int .i64 c) := rfl

theorem info5 : (Tryz.prog.info? 5).map (fun i => (i.zero, i.size, i.bytes)) = some (some (.int .u8 0), 1, 1) := by kernel_rfl
-- the values' own types

end Go.Proofs.YtkpedlhofalnjaaGreatDoor.C
end
