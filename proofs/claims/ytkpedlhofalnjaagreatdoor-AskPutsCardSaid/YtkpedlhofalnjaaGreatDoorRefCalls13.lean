/- storemanref13.Right and Put, as contracts: the right commands, and a command's bytes. -/
import Derived.Test.YtkpedlhofalnjaaGreatDoorRefRight13
import Derived.Test.YtkpedlhofalnjaaGreatDoorRefPut13
namespace Go.Proofs.YtkpedlhofalnjaaGreatDoor
open Go.RowKit Go.Proofs.YtkpedlhofalnjaaGreatDoorW.PrintWords Go.Proofs.YtkpedlhofalnjaaGreatDoorW.PrintLast Go.Proofs.YtkpedlhofalnjaaGreatDoorW.PrintMore
set_option linter.unusedVariables false

theorem all_letters (f : List Fld) (p : Fld → Bool) : f.all p = ((!decide (.i ∈ f) || p .i) && (!decide (.q ∈ f) || p .q) && (!decide (.d ∈ f) || p .d) && (!decide (.l ∈ f) || p .l) && (!decide (.r ∈ f) || p .r) && (!decide (.t ∈ f) || p .t) && (!decide (.n ∈ f) || p .n) && (!decide (.p ∈ f) || p .p) && (!decide (.o ∈ f) || p .o)) := by
  rw [Bool.eq_iff_iff]
  simp only [List.all_eq_true, Bool.and_eq_true, Bool.or_eq_true, Bool.not_eq_true', decide_eq_false_iff_not]
  constructor
  · intro h
    have key : ∀ c, c ∉ f ∨ p c = true := fun c => by
      by_cases hc : c ∈ f
      · exact .inr (h c hc)
      · exact .inl hc
    exact ⟨⟨⟨⟨⟨⟨⟨⟨key _, key _⟩, key _⟩, key _⟩, key _⟩, key _⟩, key _⟩, key _⟩, key _⟩
  · rintro ⟨⟨⟨⟨⟨⟨⟨⟨h1, h2⟩, h3⟩, h4⟩, h5⟩, h6⟩, h7⟩, h8⟩, h9⟩ c hc
    cases c
    · exact h1.resolve_left (fun h => h hc)
    · exact h2.resolve_left (fun h => h hc)
    · exact h3.resolve_left (fun h => h hc)
    · exact h4.resolve_left (fun h => h hc)
    · exact h5.resolve_left (fun h => h hc)
    · exact h6.resolve_left (fun h => h hc)
    · exact h7.resolve_left (fun h => h hc)
    · exact h8.resolve_left (fun h => h hc)
    · exact h9.resolve_left (fun h => h hc)
theorem rbA_says (b : Bool) (v M : Int) (hM : 0 ≤ M) : (!rbA b v M) = ((!b || (decide (1 ≤ v) && decide (v ≤ M))) && (b || decide (v = 0))) := by
  unfold rbA
  rw [Bool.eq_iff_iff]
  cases b <;> simp <;> omega
theorem rbB_says (b : Bool) (v M : Int) (hM : 0 ≤ M) : (!rbB b v M) = ((!b || (decide (0 ≤ v) && decide (v ≤ M))) && (b || decide (v = 0))) := by
  unfold rbB
  rw [Bool.eq_iff_iff]
  cases b <;> simp <;> omega
theorem rbC_says (b : Bool) (v : Int) : (!rbC b v) = ((!b || decide (0 < v)) && (b || decide (v = 0))) := by
  unfold rbC
  rw [Bool.eq_iff_iff]
  cases b <;> simp <;> omega
theorem rb4_says (b : Bool) (x : Cmd) : (!rb4 b x) = ((!b || isRight x.item) && (b || x.item.data.toList.isEmpty)) := by
  unfold rb4
  rw [Lib.toList_data]
  cases he : x.item.data.toList.isEmpty with
  | true =>
    have hr : isRight x.item = false := by
      unfold isRight isCode
      rw [he]
      simp
    rw [hr]
    cases b <;> rfl
  | false => cases b <;> cases isRight x.item <;> rfl
theorem rb16_says (b : Bool) (x : Cmd) : (!rb16 b x) = ((!b || partedOk x.parts) && (b || x.parts.isEmpty)) := by
  unfold rb16
  cases b with
  | true => simp
  | false => cases x.parts <;> simp
theorem rb18_says (b : Bool) (x : Cmd) : rb18 b x = ((!b || othersOk x.others x.item) && (b || x.others.isEmpty)) := by
  unfold rb18
  cases b with
  | true => simp
  | false => cases x.others <;> simp
theorem right_blocks (x : Cmd) : (!rb2 (fieldsOf x.kind).isSome x && !rb4 (decide (Fld.i ∈ fieldsIn x.kind)) x && !rbA (decide (Fld.q ∈ fieldsIn x.kind)) x.qty 1073741824 && !rbB (decide (Fld.d ∈ fieldsIn x.kind)) x.day 4000 && !rbA (decide (Fld.l ∈ fieldsIn x.kind)) x.days 2000 && !rbB (decide (Fld.r ∈ fieldsIn x.kind)) x.rank 99 && !(rbC (decide (Fld.t ∈ fieldsIn x.kind)) x.lot || rbC (decide (Fld.n ∈ fieldsIn x.kind)) x.line) && !rb16 (decide (Fld.p ∈ fieldsIn x.kind)) x && rb18 (decide (Fld.o ∈ fieldsIn x.kind)) x) = rightCmd x := by
  cases hf : fieldsOf x.kind with
  | none =>
    have h2 : rb2 (none : Option (List Fld)).isSome x = true := rfl
    rw [h2]
    unfold rightCmd
    rw [hf]
    simp
  | some f =>
    have hfi : fieldsIn x.kind = f := by unfold fieldsIn; rw [hf]; rfl
    rw [hfi, Bool.not_or, rb4_says, rbA_says _ _ _ (by decide), rbB_says _ _ _ (by decide), rbA_says _ _ _ (by decide), rbB_says _ _ _ (by decide), rbC_says, rbC_says, rb16_says, rb18_says]
    have h2 : (!rb2 (some f).isSome x) = (decide (0 ≤ x.req) && decide (x.req ≤ 4611686018427387904)) := by
      unfold rb2
      rw [Bool.eq_iff_iff]
      simp
    rw [h2]
    unfold rightCmd
    rw [hf]
    show _ = (decide (0 ≤ x.req) && decide (x.req ≤ 4611686018427387904) && f.all x.ok && x.only f)
    rw [all_letters]
    simp only [Cmd.ok, Cmd.only]
    ac_rfl

theorem ref_right_calls (x : Cmd) (A9 : Option Addr) (c9 : Nat) (A10 : Option Addr) (c10 : Nat) (w : World) (hr9 : Kd.C A.k58 w A9 x.parts.length x.parts) (hc9 : x.parts.length ≤ c9) (hr10 : Kd.C Kd.string w A10 x.others.length x.others) (hc10 : x.others.length ≤ c10) (hn : x.nums) (h9 : x.parts.length ≤ 1000000) (h10 : x.others.length ≤ 1000000) :
    Calls Tryz.prog 37 #[.agg #[.int .u8 x.kind, .int .i64 x.req, .string x.item, .int .i64 x.qty, .int .i64 x.day, .int .i64 x.days, .int .i64 x.rank, .int .i64 x.lot, .int .i64 x.line, .slice A9 x.parts.length c9, .slice A10 x.others.length c10]] w fun e w' => e = .returned (.bool (rightCmd x)) ∧ Below w.heap.size w w' := by
  have hk := hn.1
  have has : ∀ (c : Fld) (W : World), Calls Tryz.prog 95 #[.string (textOf x.kind), .int .u8 (c.byte.toNat : Int)] W fun e w' => e = .returned (.bool (decide (c ∈ fieldsIn x.kind))) ∧ Drawn0 W w' :=
    fun c W => A.storemanref13_has.calls 6 (textOf x.kind) _ _ W (ref_has_f x.kind hk.1 hk.2 c)
  have h := ref_right_core x A9 c9 A10 c10 (textOf x.kind) (fieldsOf x.kind).isSome _ _ _ _ _ _ _ _ _ w
    (fun W => A.storemanref13_fields.calls 5 x.kind _ _ W (ref_fields_f x.kind hk.1 hk.2)) (has .i) (has .q) (has .d) (has .l) (has .r) (has .t) (has .n) (has .p) (has .o)
    (fun W => C.storemanref03_Right.calls 21 x.item _ W (ref_right_any x.item 21 (by decide)))
    (fun W hb => A.storemanref13_parts.calls (x.parts.length * (x.parts.length + 3) + 31) A9 c9 x.parts _ W (Kd.C_below hr9 hb) hc9 (ref_parts x.parts h9 _ (by omega)))
    (fun W hb => A.storemanref13_others.calls (x.others.length * (x.others.length + 3) + 31) A10 c10 x.others x.item _ W (Kd.C_below hr10 hb) hc10 (ref_others x.others h10 x.item _ (by omega)))
  rw [right_blocks] at h
  exact h
theorem ref_put_calls (x : Cmd) (A9 : Option Addr) (c9 : Nat) (A10 : Option Addr) (c10 : Nat) (w : World) (hr9 : Kd.C A.k58 w A9 x.parts.length x.parts) (hc9 : x.parts.length ≤ c9) (hr10 : Kd.C Kd.string w A10 x.others.length x.others) (hc10 : x.others.length ≤ c10) (hn : x.nums) (h9 : x.parts.length ≤ 1000000) (h10 : x.others.length ≤ 1000000) :
    Calls Tryz.prog 36 #[.agg #[.int .u8 x.kind, .int .i64 x.req, .string x.item, .int .i64 x.qty, .int .i64 x.day, .int .i64 x.days, .int .i64 x.rank, .int .i64 x.lot, .int .i64 x.line, .slice A9 x.parts.length c9, .slice A10 x.others.length c10]] w fun e w' => ∃ v, e = .returned (.tuple #[v, .int .i64 (putCmd x).2]) ∧ Kd.R (Kd.int .u8) 5 w' w.heap.size (fun _ => True) v (putCmd x).1 ∧ Below w.heap.size w w' :=
  ref_put13 x A9 c9 A10 c10 w hr9 hr10 hn (fun W hb => ref_right_calls x A9 c9 A10 c10 W (Kd.C_below hr9 hb) hc9 (Kd.C_below hr10 hb) hc10 hn h9 h10)
end Go.Proofs.YtkpedlhofalnjaaGreatDoor
