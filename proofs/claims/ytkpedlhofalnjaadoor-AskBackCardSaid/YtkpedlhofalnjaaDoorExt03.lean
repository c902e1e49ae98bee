/- The contracts of code.Right, code.Number, code.Text and code.Put, each as a Lean function and the proof that the Go function answers it. -/
import Derived.Test.YtkpedlhofalnjaaDoorRight
import Derived.Test.YtkpedlhofalnjaaDoorNumber
import Derived.Test.YtkpedlhofalnjaaDoorQ1
namespace Go.Proofs.YtkpedlhofalnjaaDoor
open Go.RowKit Go.Proofs.YtkpedlhofalnjaaDoorW.PrintWords Go.Proofs.YtkpedlhofalnjaaDoorW.PrintLast Go.Proofs.YtkpedlhofalnjaaDoorW.PrintMore

def code_Right.f (a0 : ByteArray) : Option Bool := some (isCode a0.data.toList)
theorem code_Right.calls (a0 : ByteArray) (r : Bool) (w : World) (h : code_Right.f a0 = some r) :
    Calls Tryd.prog 11 #[.string a0] w fun e w' => e = .returned (.bool r) ∧ Below w.heap.size w w' := by
  obtain rfl := Option.some.inj h
  exact right_any a0 w

def code_Text.f (a0 : Int) : Option ByteArray := if -9223372036854775808 ≤ a0 then if a0 ≤ 9223372036854775807 then some ⟨(Lib.itoa a0).toArray⟩ else none else none
theorem code_Text.calls (a0 : Int) (r : ByteArray) (w : World) (h : code_Text.f a0 = some r) (hLaid03 : Laid03 w) :
    Calls Tryd.prog 18 #[.int .i64 a0] w fun e w' => e = .returned (.string r) ∧ Below w.heap.size w w' := by
  unfold code_Text.f at h
  split at h
  · split at h
    · obtain rfl := Option.some.inj h
      exact text_any a0 ‹_› ‹_› w hLaid03
    · cases h
  · cases h

def code_Number.f (a0 : ByteArray) : Option (Int × Bool) := if a0.size ≤ 140737488351232 then some ((num a0.data.toList).getD 0, (num a0.data.toList).isSome) else none
theorem code_Number.calls (a0 : ByteArray) (r1 : Int) (r2 : Bool) (w : World) (h : code_Number.f a0 = some (r1, r2)) (hLaid03 : Laid03 w) :
    Calls Tryd.prog 9 #[.string a0] w fun e w' => e = .returned (.tuple #[.int .i64 r1, .bool r2]) ∧ Below w.heap.size w w' := by
  unfold code_Number.f at h
  split at h
  · injection h with h
    injection h with h1 h2
    subst h1; subst h2
    exact number_any a0 ‹_› w hLaid03
  · cases h

/-- A code's bytes: how many there are, and these; of no code: 0; of what is neither: none. -/
def putCode (l : List UInt8) : List UInt8 := if l = [] ∨ isCode l = true then UInt8.ofNat l.length :: l else []
theorem isCode_length {l : List UInt8} (h : isCode l = true) : 1 ≤ l.length ∧ l.length ≤ 12 := by
  unfold isCode at h
  simp only [Bool.and_eq_true, decide_eq_true_eq, Bool.not_eq_true'] at h
  refine ⟨?_, h.2.2⟩
  cases l with
  | nil => simp at h
  | cons x r => simp
def ints (l : List UInt8) : List Int := l.map fun b => (b.toNat : Int)
def code_Put.f (a0 : ByteArray) : Option (List Int) := some (ints (putCode a0.data.toList))

theorem put_row (s : ByteArray) (hs : s.size ≤ 12) (w : World) :
    Calls Tryd.prog 26 #[.int .u8 ((s.size : Int) % 256), .slice (some ⟨w.heap.size, 0, none⟩) s.size (grownCap w s.size 0 5)] (Lib.bytesWorld w 5 s) fun e w' => ∃ v, e = .returned v ∧ Kd.R (Kd.int .u8) 5 w' w.heap.size (fun _ => True) v (ints (UInt8.ofNat s.size :: s.data.toList)) ∧ Below w.heap.size w w' := by
  have hr := bytes_reads w 5 s (by omega)
  have hl := bytesOf_length s
  have hc : s.size ≤ grownCap w s.size 0 5 := grownCap_ge _ _ _ _
  have hq : Q.code_row.f ((s.size : Int) % 256) (bytesOf s) = some ([(s.size : Int) % 256] ++ bytesOf s) := by
    unfold Q.code_row.f
    simp only [Option.bind_some]
    rw [if_pos (by simp only [List.length_cons, List.length_nil]; omega)]
  have key := Q.code_row.calls ((s.size : Int) % 256) (some ⟨w.heap.size, 0, none⟩) (grownCap w s.size 0 5) (bytesOf s) _ (Lib.bytesWorld w 5 s) (by rw [hl]; exact Kd.C_of_reads (d := (0 : Int)) (h1 := fun _ => rfl) hr) (by omega) hq
  rw [hl] at key
  refine key.mono ?_
  rintro e w' ⟨v, rfl, hR, hb⟩
  have hb0 : Below w.heap.size w (Lib.bytesWorld w 5 s) := Lib.bytesWorld_below _ _ _
  refine ⟨v, rfl, ?_, hb0.trans (hb.mono hb0.size)⟩
  have e1 : ([(s.size : Int) % 256] ++ bytesOf s) = ints (UInt8.ofNat s.size :: s.data.toList) := by
    unfold ints bytesOf
    simp
  rw [← e1]
  exact Kd.R_lower hR hb0.size

set_option maxRecDepth 100000 in
theorem code_Put.calls (a0 : ByteArray) (r : List Int) (w : World) (h : code_Put.f a0 = some r) :
    Calls Tryd.prog 14 #[.string a0] w fun e w' => ∃ v0_ : Value, e = .returned (v0_) ∧ Kd.R (Kd.int .u8) 5 w' w.heap.size (fun _ => True) v0_ r ∧ Below w.heap.size w w' := by
  obtain rfl := Option.some.inj h
  clear h
  have kc := fun w : World => Lib.run_convert_string_bytes (P := Tryd.prog) w 9 27 5 a0 (u := .string) Tryd.underlying9 Tryd.underlying27 Tryd.underlying5
  by_cases e : a0.data.toList = []
  · have HP : Hid (putCode a0.data.toList = UInt8.ofNat a0.size :: a0.data.toList) := Lib.hid (by rw [putCode, if_pos (.inl e)]; simp)
    have e' : a0.toList = [] := by rw [Lib.toList_data]; exact e
    have hs : a0.size = 0 := by rw [← data_length, e]; rfl
    have HS := Lib.hid hs
    clear hs e
    go_enter Tryd.func14, Tryd.ntmps14
    go_wp2_with fail
    refine (put_row a0 (by have := HS.out; omega) w).mono ?_
    rintro e w1 ⟨v, rfl, hR, hb⟩
    go_wp2_with fail
    go_ret
    exact ⟨v, rfl, by rw [HP.out]; exact hR, hb⟩
  · have e' : a0.toList.isEmpty = false := by rw [Lib.toList_data]; simpa using e
    have HE := Lib.hid e
    clear e
    by_cases hc : isCode a0.data.toList = true
    · have hs := isCode_length hc
      rw [data_length] at hs
      have HS := Lib.hid hs
      clear hs
      have HP : Hid (putCode a0.data.toList = UInt8.ofNat a0.size :: a0.data.toList) := Lib.hid (by rw [putCode, if_pos (.inr hc)]; simp)
      have HR : ∀ w : World, Calls Tryd.prog 11 #[.string a0] w fun e w' => e = .returned (.bool true) ∧ Below w.heap.size w w' := fun w => by have := right_any a0 w; rw [hc] at this; exact this
      have HR' := Lib.hid HR
      clear HR hc
      go_enter Tryd.func14, Tryd.ntmps14
      go_wp2_with fail
      refine (HR'.out _).mono ?_
      rintro e w1 ⟨rfl, hb1⟩
      go_wp2_with fail
      refine (put_row a0 (by have := HS.out; omega) w1).mono ?_
      rintro e w2 ⟨v, rfl, hR, hb⟩
      go_wp2_with fail
      go_ret
      exact ⟨v, rfl, by rw [HP.out]; exact Kd.R_lower hR hb1.size, hb1.trans (hb.mono hb1.size)⟩
    · have hc : isCode a0.data.toList = false := by simpa using hc
      have HP : Hid (putCode a0.data.toList = []) := Lib.hid (by rw [putCode, if_neg (by rw [hc]; simpa using HE.out)])
      have HR : ∀ w : World, Calls Tryd.prog 11 #[.string a0] w fun e w' => e = .returned (.bool false) ∧ Below w.heap.size w w' := fun w => by have := right_any a0 w; rw [hc] at this; exact this
      have HR' := Lib.hid HR
      clear HR hc
      go_enter Tryd.func14, Tryd.ntmps14
      go_wp2_with fail
      refine (HR'.out _).mono ?_
      rintro e w1 ⟨rfl, hb1⟩
      go_wp2_with fail
      go_ret
      exact ⟨_, rfl, by rw [HP.out]; exact Kd.R_nil _ _ _ _ _, hb1⟩

/-- The text that a row of bytes' numbers spells. -/
def codeIn (l : List Int) (n : Nat) : ByteArray := strOfNums ((l.take (1 + n)).drop 1)
/-- The code that these bytes begin with. -/
def getCode (l : List Int) (n : Nat) : ByteArray × Int × Bool :=
  if l.length < 1 + n then (⟨#[]⟩, 0, false) else
    if (codeIn l n).data.toList = [] ∨ isCode (codeIn l n).data.toList = true then (codeIn l n, 1 + ((codeIn l n).size : Int), true) else (⟨#[]⟩, 0, false)
def code_Get.f (l0 : List Int) : Option (ByteArray × Int × Bool) :=
  if l0.length = 0 then some (⟨#[]⟩, 0, false) else if 0 ≤ rd l0 0 ∧ rd l0 0 ≤ 255 then some (getCode l0 (rd l0 0).toNat) else none

set_option maxRecDepth 100000 in
set_option maxHeartbeats 1000000 in
theorem code_Get.calls (A0 : Option Addr) (c0 : Nat) (l0 : List Int) (r1 : ByteArray) (r2 : Int) (r3 : Bool) (w : World) (hr0 : Kd.C (Kd.int .u8) w A0 l0.length l0) (hc0 : l0.length ≤ c0) (h : code_Get.f l0 = some (r1, r2, r3)) :
    Calls Tryd.prog 16 #[.slice A0 l0.length c0] w fun e w' => e = .returned (.tuple #[.string r1, .int .i64 r2, .bool r3]) ∧ Below w.heap.size w w' := by
  unfold code_Get.f at h
  have hmax := hr0.2.1
  by_cases h0 : l0.length = 0
  · rw [if_pos h0] at h
    injection h with h
    injection h with h1 h
    injection h with h2 h3
    subst h1; subst h2; subst h3
    rw [h0]
    clear hr0 hc0 h0 hmax
    go_enter Tryd.func16, Tryd.ntmps16
    go_wp2_with fail
    go_ret3
    exact ⟨rfl, Below.refl _ _⟩
  · rw [if_neg h0] at h
    by_cases hb : 0 ≤ rd l0 0 ∧ rd l0 0 ≤ 255
    · rw [if_pos hb] at h
      injection h with h
      have hpos : 0 < l0.length := by omega
      have hz : ((l0.length : Int) == 0) = false := by simpa using h0
      obtain ⟨ad, rfl, hx⟩ := Kd.at_int hr0 0 (Int.le_refl _) (by omega)
      rw [show ((0 : Int)).toNat = 0 from rfl, Addr.add_zero'] at hx
      obtain ⟨n, hn, hn255⟩ : ∃ n : Nat, rd l0 0 = (n : Int) ∧ n ≤ 255 := ⟨(rd l0 0).toNat, by omega, by omega⟩
      rw [hn] at hx h
      rw [Int.toNat_natCast] at h
      unfold getCode at h
      clear hb hn h0
      obtain ⟨len, hlen⟩ : ∃ len, len = l0.length := ⟨_, rfl⟩
      by_cases hl : l0.length < 1 + n
      · rw [if_pos hl] at h
        injection h with h1 h
        injection h with h2 h3
        subst h1; subst h2; subst h3
        rw [← hlen] at hl hpos hz hmax ⊢
        clear hr0 hc0 hlen
        go_enter Tryd.func16, Tryd.ntmps16
        go_wp2_with fail
        repeat (go_quiet (fail); try go_wp2_with fail)
        go_ret3
        exact ⟨rfl, (Below.refl _ _)⟩
      · rw [if_neg hl] at h
        obtain ⟨i0, hi, hz0, hz1, hz2⟩ := info_parts (Q.info5)
        obtain ⟨A', hcut, hA, hC⟩ := print_mid_of (P := Tryd.prog) (Value.int .u8) 0 27 5 .i64 .i64 Tryd.underlying27 hi hz1 (some ad) c0 l0 1 (1 + (n : Int)) (by omega) (by omega) (by omega) hc0
        have e1 : (1 + (n : Int)).toNat = 1 + n := by omega
        have e2 : ((l0.take (1 + (n : Int)).toNat).drop (1 : Int).toNat).length = n := by rw [List.length_drop, List.length_take, e1]; simp; omega
        have hR := hA w (Kd.reads_of_C hr0)
        rw [e2] at hcut hR hC
        obtain ⟨S, hS⟩ : ∃ S, S = codeIn l0 n := ⟨_, rfl⟩
        have hcv : ∀ W, Below w.heap.size w W → (convert 27 9 (.slice A' n (c0 - (1 : Int).toNat))).run Tryd.prog W = .ok (.string S) W := fun W hb => by
          have := Kd.C_string (P := Tryd.prog) (w := W) (A := A') (c := c0 - (1 : Int).toNat) Tryd.underlying27 Tryd.underlying5 Tryd.underlying9 (Kd.C_below (Kd.C_of_reads (h1 := fun _ => rfl) hR) hb)
          rw [this, hS, codeIn]
          rw [e1]
          rfl
        rw [← hS] at h
        have hSs : S.size ≤ n := by
          rw [hS, codeIn, strOfNums]
          show ((((l0.take (1 + n)).drop 1).map fun n => UInt8.ofNat n.toNat).toArray).size ≤ n
          simp
          omega
        rw [← hlen] at hl hpos hz hmax hcut ⊢
        have hl' : ¬ ((len : Int) < 1 + (n : Int)) := by omega
        have hcv0 : (convert 27 9 (.slice A' n (c0 - 1))).run Tryd.prog w = .ok (.string S) w := hcv w (Below.refl _ _)
        clear hr0 hc0 hlen hA hC hR e1 e2 hS hcv hi hz0 hz1 hz2
        by_cases e : S.data.toList = []
        · rw [if_pos (.inl e)] at h
          injection h with h1 h
          injection h with h2 h3
          subst h1; subst h2; subst h3
          have e' : S.toList = [] := by rw [Lib.toList_data]; exact e
          clear e
          go_enter Tryd.func16, Tryd.ntmps16
          go_wp2_with fail
          repeat (go_quiet (fail); try go_wp2_with fail)
          go_ret3
          exact ⟨rfl, Below.refl _ _⟩
        · have e' : S.toList.isEmpty = false := by rw [Lib.toList_data]; simpa using e
          by_cases hc : isCode S.data.toList = true
          · rw [if_pos (.inr hc)] at h
            injection h with h1 h
            injection h with h2 h3
            subst h1; subst h2; subst h3
            have HR : ∀ w : World, Calls Tryd.prog 11 #[.string S] w fun e w' => e = .returned (.bool true) ∧ Below w.heap.size w w' := fun w => by have := right_any S w; rw [hc] at this; exact this
            have HR' := Lib.hid HR
            clear HR hc e
            go_enter Tryd.func16, Tryd.ntmps16
            go_wp2_with fail
            repeat (go_quiet (fail); try go_wp2_with fail)
            refine (HR'.out _).mono ?_
            rintro e w1 ⟨rfl, hb1⟩
            go_wp2_with fail
            go_ret3
            exact ⟨rfl, hb1⟩
          · have hc' : isCode S.data.toList = false := by simpa using hc
            rw [if_neg (by rw [hc']; simpa using e)] at h
            injection h with h1 h
            injection h with h2 h3
            subst h1; subst h2; subst h3
            have HR : ∀ w : World, Calls Tryd.prog 11 #[.string S] w fun e w' => e = .returned (.bool false) ∧ Below w.heap.size w w' := fun w => by have := right_any S w; rw [hc'] at this; exact this
            have HR' := Lib.hid HR
            clear HR hc hc' e
            go_enter Tryd.func16, Tryd.ntmps16
            go_wp2_with fail
            repeat (go_quiet (fail); try go_wp2_with fail)
            refine (HR'.out _).mono ?_
            rintro e w1 ⟨rfl, hb1⟩
            go_wp2_with fail
            go_ret3
            exact ⟨rfl, hb1⟩
    · rw [if_neg hb] at h
      cases h
end Go.Proofs.YtkpedlhofalnjaaDoor
