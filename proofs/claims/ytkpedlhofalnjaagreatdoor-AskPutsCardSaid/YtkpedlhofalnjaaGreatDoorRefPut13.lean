/- storemanref13.Put puts the bytes of a right command, and none of another. -/
import Derived.Test.YtkpedlhofalnjaaGreatDoorM18
import Derived.Test.YtkpedlhofalnjaaGreatDoorM20
import Derived.Test.YtkpedlhofalnjaaGreatDoorM14
import Derived.Test.YtkpedlhofalnjaaGreatDoorPut13
namespace Go.Proofs.YtkpedlhofalnjaaGreatDoor
open Go.RowKit Go.Proofs.YtkpedlhofalnjaaGreatDoorW.PrintWords Go.Proofs.YtkpedlhofalnjaaGreatDoorW.PrintLast Go.Proofs.YtkpedlhofalnjaaGreatDoorW.PrintMore

set_option linter.unusedSimpArgs false
set_option linter.unusedVariables false
namespace refput13
def bitsA (n m : Nat) : Array Bool := ((List.range n).map fun i => m.testBit i).toArray
end refput13
namespace refput13
noncomputable def T4 : Bool × List (List Nat × List Nat) := rtab .any (opsOf Tryz.f36 4)
def B4 : List Nat := [0, 1, 3, 0, 8, 24, 63, 127]
theorem tab4 : rtab .any (opsOf Tryz.f36 4) = T4 := rfl
theorem bits4 : waitsOk T4.2 B4 = true := by kernel_rfl
end refput13
theorem made_row {w : World} {base : Nat} {ok : Nat → Prop} {v : Value} {ys : List Int} (h : Kd.R (Kd.int .u8) 5 w base ok v ys) (h0 : 0 < ys.length) :
    ∃ g c, v = .slice (some ⟨g, 0, none⟩) ys.length c ∧ ∀ j u, (nums .u8 ys)[j]? = some u → w.cell? ((⟨g, 0, none⟩ : Addr).add j) = some u := by
  have ho : w.ownsRow base 5 1 v ys.length (nums .u8 ys) := Kd.own_of_R h
  rcases ho.2 with ⟨_, h2⟩ | ⟨g, cap, cur, rfl, _⟩
  · omega
  · refine ⟨g, cap, rfl, fun j u hu => ?_⟩
    have hj : j < ys.length := by have := (List.getElem?_eq_some_iff.1 hu).1; simpa [nums] using this
    rw [Addr.add_lit, Nat.zero_add, ho.cellAt j (by omega)]
    exact hu
theorem refcode_calls (s : ByteArray) (h : isRight s = true) (w : World) : Calls Tryz.prog 94 #[.string s] w fun e w' => ∃ v0_ : Value, e = .returned (v0_) ∧ Kd.R (Kd.int .u8) 5 w' w.heap.size (fun _ => True) v0_ (ints (putCode s.data.toList)) ∧ Below w.heap.size w w' := by
  have hl := isCode_length h
  have hd := data_length s
  exact C.storemanref03_Put.calls 30 s _ w (ref_put s (by omega) 30 (by omega))
theorem code_pos (s : ByteArray) (h : isRight s = true) : 0 < (ints (putCode s.data.toList)).length := by
  unfold ints
  rw [List.length_map, putCode_pos _ (.inr h)]
  simp
theorem code_max (s : ByteArray) : (ints (putCode s.data.toList)).length ≤ 13 := by
  unfold ints
  rw [List.length_map]
  exact putCode_len _
theorem right_ok {x : Cmd} {f P r : List Fld} {c : Fld} (h : rightCmd x = true) (hf : fieldsOf x.kind = some f) (hP : f = P ++ c :: r) : x.ok c = true := by
  unfold rightCmd at h
  rw [hf] at h
  simp only [Bool.and_eq_true, List.all_eq_true] at h
  exact h.1.2 c (by rw [hP]; simp)
theorem byte_cells (w : World) (n : Int) : ∀ j u, (nums .u8 [n])[j]? = some u → (w.alloc (.cells #[.int .u8 n] 5)).cell? ((⟨w.heap.size, 0, none⟩ : Addr).add j) = some u := by
  intro j u hu
  have hj : j < 1 := by have := (List.getElem?_eq_some_iff.1 hu).1; simpa [nums] using this
  have ho := World.ownsRow_lit (base := 0) (e := 5) (size := 1) w #[.int .u8 n] 1 (Nat.zero_le _) (by decide) rfl
  rw [Addr.add_lit, Nat.zero_add, ho.cellAt j (by omega)]
  exact hu

set_option maxRecDepth 100000 in
set_option maxHeartbeats 16000000 in
theorem ref_put13 (x : Cmd) (A9 : Option Addr) (c9 : Nat) (A10 : Option Addr) (c10 : Nat) (w : World) (hr9 : Kd.C A.k58 w A9 x.parts.length x.parts) (hr10 : Kd.C Kd.string w A10 x.others.length x.others) (hn : x.nums)
    (hright : ∀ W : World, Below w.heap.size w W → Calls Tryz.prog 37 #[.agg #[.int .u8 x.kind, .int .i64 x.req, .string x.item, .int .i64 x.qty, .int .i64 x.day, .int .i64 x.days, .int .i64 x.rank, .int .i64 x.lot, .int .i64 x.line, .slice A9 x.parts.length c9, .slice A10 x.others.length c10]] W fun e w' => e = .returned (.bool (rightCmd x)) ∧ Below W.heap.size W w') :
    Calls Tryz.prog 36 #[.agg #[.int .u8 x.kind, .int .i64 x.req, .string x.item, .int .i64 x.qty, .int .i64 x.day, .int .i64 x.days, .int .i64 x.rank, .int .i64 x.lot, .int .i64 x.line, .slice A9 x.parts.length c9, .slice A10 x.others.length c10]] w fun e w' => ∃ v, e = .returned (.tuple #[v, .int .i64 (putCmd x).2]) ∧ Kd.R (Kd.int .u8) 5 w' w.heap.size (fun _ => True) v (putCmd x).1 ∧ Below w.heap.size w w' := by
  obtain ⟨i0, hi, hz0, hz1, hz2⟩ := info_parts info_u8
  have HR9 := Aside0.mk hr9
  have HR10 := Aside0.mk hr10
  have HN := Aside0.mk hn
  have HRI := Aside0.mk hright
  clear hr9 hr10 hn hright
  go_enter Tryz.func36, Tryz.ntmps36
  go_wp2_with (first
    | ((with_reducible refine gate_dst (N := 1) rfl ?_); refine box_event ?hg (N := 1) ?hd (cs := #[.int .u8 x.kind, .int .i64 x.req, .string x.item, .int .i64 x.qty, .int .i64 x.day, .int .i64 x.days, .int .i64 x.rank, .int .i64 x.lot, .int .i64 x.line, .slice A9 x.parts.length c9, .slice A10 x.others.length c10]) (t := 38) ?hr ?_; (case hd => rfl); (case hg => rfl); (case hr => first | (go_simp; done) | (go_simp; rfl)); intro gb hgb w1 hbox hb1; have HX1 := Aside0.mk hbox; have HB1 := Aside0.mk hb1; have HGB := Aside0.mk hgb; clear hbox hb1 hgb)
    | (refine gate_ (.load 38 (.tmp 1)) rfl ?_; refine wpList_load_row rfl 38 _ rfl gb (by rfl) 38 #[.int .u8 x.kind, .int .i64 x.req, .string x.item, .int .i64 x.qty, .int .i64 x.day, .int .i64 x.days, .int .i64 x.rank, .int .i64 x.lot, .int .i64 x.line, .slice A9 x.parts.length c9, .slice A10 x.others.length c10] (0, 0) _ HX1.out Tryz.underlying38 rfl (by kernel_rfl) ?_)
    | fail)
  refine (HRI.out _ HB1.out).mono ?_
  rintro e w2 ⟨rfl, hb2⟩
  have HX2 := Aside0.mk (blk_below HX1.out hb2)
  have HB2 := Aside0.mk (below_step HB1.out hb2)
  clear hb2
  cases hrc : rightCmd x with
  | false =>
    have HPC := Aside0.mk (show putCmd x = ([], 2) by unfold putCmd; rw [hrc]; rfl)
    go_wp2
    go_ret2
    rw [HPC.out]
    exact ⟨_, rfl, Kd.R_nil _ _ _ _ _, HB2.out⟩
  | true =>
    have HPC := Aside0.mk (show putCmd x = (bytesOf13 x, 0) by unfold putCmd; rw [hrc]; rfl)
    have HRC := Aside0.mk hrc
    obtain ⟨f, hf⟩ : ∃ f, fieldsOf x.kind = some f := by
      unfold rightCmd at hrc
      cases h : fieldsOf x.kind with
      | none => rw [h] at hrc; cases hrc
      | some f => exact ⟨f, rfl⟩
    have hk := fieldsOf_cases hf
    have hfi : fieldsIn x.kind = f := by unfold fieldsIn; rw [hf]; rfl
    have hsl : (textOf x.kind).data.toList = f.map Fld.byte := by unfold textOf; rw [hfi]
    have hff : A.storemanref13_fields.f 5 x.kind = some (textOf x.kind, true) := by rw [ref_fields_f x.kind (by omega) (by omega), hf]; rfl
    have hss : (textOf x.kind).size = f.length := by rw [← data_length, hsl, List.length_map]
    have HFF := Aside0.mk hff
    have HF := Aside0.mk hf
    have HFI := Aside0.mk hfi
    have HSL := Aside0.mk hsl
    have HSS := Aside0.mk hss
    have hk0 : 0 ≤ x.kind := by omega
    have hk255 : x.kind ≤ 255 := by omega
    have HL4 := hk.2.2.2
    clear hrc hf hfi hsl hss hff hk
    generalize textOf x.kind = s at HFF HSL HSS
    have hc0 : w2.cell? ⟨gb, 0, none⟩ = some (.int .u8 x.kind) := blk_cell HX2.out 0
    go_wp2_with fail
    refine (A.storemanref13_fields.calls 5 x.kind s true w2 HFF.out).mono ?_
    rintro e w3 ⟨rfl, hd⟩
    have hd2 : Below w2.heap.size w2 w3 := by obtain ⟨nd, rfl⟩ := hd; exact pw_below_drewN (Below.refl _ _) nd
    have HX3 := Aside0.mk (blk_below HX2.out hd2)
    have HB3 := Aside0.mk (below_step HB2.out hd2)
    clear hd hd2 hc0
    go_upto_region 4 with (fail)
    go_cut [6] (fun v6 wc => Aside0 (wc.ownsRow w.heap.size 5 1 v6 9 (nums .u8 (headOf x))) ∧ Aside0 (Below w.heap.size w wc) ∧ Aside0 (wc.heap[gb]? = some (.cells #[.int .u8 x.kind, .int .i64 x.req, .string x.item, .int .i64 x.qty, .int .i64 x.day, .int .i64 x.days, .int .i64 x.rank, .int .i64 x.lot, .int .i64 x.line, .slice A9 x.parts.length c9, .slice A10 x.others.length c10] 38 (0, 0))))
    case first =>

      refine start_ (n := 8) (S := fun w' => w'.heap[gb]? = some (.cells #[.int .u8 x.kind, .int .i64 x.req, .string x.item, .int .i64 x.qty, .int .i64 x.day, .int .i64 x.days, .int .i64 x.rank, .int .i64 x.lot, .int .i64 x.line, .slice A9 x.parts.length c9, .slice A10 x.others.length c10] 38 (0, 0))) (ds := []) (refput13.bitsA 8 0) (by kernel_rfl) rfl (by kernel_rfl) HX3.out (fun hHeld => ?_); refine with_tabW refput13.tab4 refput13.bits4 (fun HT_ HW_ => ?_)
      have HB4 := Aside0.mk (below_drew1 HB3.out)
      generalize w3.drew = w4 at HB4 hHeld ⊢
      refine pure_ (i := 0) (N := some 19) (v := ?_) (a' := ?_) (refput13.bitsA 8 1) rfl rfl (any_of HT_.out (by kernel_rfl)) (fun _ _ _ h => h) (Or.inl ⟨by rfl, ?_⟩) ?_ ?_
      rotate_left
      · intro w'
        go_simp
        with_reducible rfl
      rotate_left
      · simp only [Act.put, List.setIfInBounds_toArray, List.set_cons_zero, List.set_cons_succ, i64_w, i32_w]
        rfl
      refine take_ (i := 1) (N := some 20) (v := ?_) (a' := ?_) (refput13.bitsA 8 3) rfl rfl (take_ofW HT_.out HW_.out (by kernel_rfl)) (fun _ _ _ h => h) (Or.inl ⟨by rfl, ?_⟩) hHeld ?_ ?_
      rotate_left
      · rintro w' hS
        have hc := blk_cell hS 0
        go_simp
        with_reducible rfl
      rotate_left
      · simp only [Act.put, List.setIfInBounds_toArray, List.set_cons_zero, List.set_cons_succ, i64_w, i32_w]
        rfl
      refine pure_ (i := 3) (N := some 22) (v := ?_) (a' := ?_) (refput13.bitsA 8 11) rfl rfl (any_of HT_.out (by kernel_rfl)) (fun _ _ _ h => h) (Or.inl ⟨by rfl, ?_⟩) ?_ ?_
      rotate_left
      · intro w'
        go_simp
        with_reducible rfl
      rotate_left
      · simp only [Act.put, List.setIfInBounds_toArray, List.set_cons_zero, List.set_cons_succ, i64_w, i32_w]
        rfl
      refine take_ (i := 4) (N := some 23) (v := ?_) (a' := ?_) (refput13.bitsA 8 27) rfl rfl (take_ofW HT_.out HW_.out (by kernel_rfl)) (fun _ _ _ h => h) (Or.inl ⟨by rfl, ?_⟩) hHeld ?_ ?_
      rotate_left
      · rintro w' hS
        have hc := blk_cell hS 1
        go_simp
        with_reducible rfl
      rotate_left
      · simp only [Act.put, List.setIfInBounds_toArray, List.set_cons_zero, List.set_cons_succ, i64_w, i32_w]
        rfl
      refine two_ (i := 2) (j := 5) (Ni := some 21) (Nj := some 24) (refput13.bitsA 8 31) (refput13.bitsA 8 59) rfl rfl rfl rfl (by kernel_rfl) (by decide) (by decide) (fun K hK => ?_) (fun K hK => ?_)
      · skip
        refine event_step (by rfl) (v := .slice (some ⟨w4.heap.size, 0, none⟩) 1 1) (w1 := w4.alloc (.cells #[.int .u8 x.kind] 5)) (by go_simp; try rfl) ?_
        have HHN := blk_alloc hHeld (.cells #[.int .u8 x.kind] 5)
        have HO5 : Aside0 ((w4.alloc (.cells #[.int .u8 x.kind] 5)).ownsRow w.heap.size 5 1 (.slice (some ⟨w4.heap.size, 0, none⟩) 1 1) 1 (nums .u8 [x.kind])) := ⟨World.ownsRow_lit (base := w.heap.size) (e := 5) (size := 1) w4 #[.int .u8 x.kind] 1 HB4.out.size (by decide) rfl⟩
        have HB5 := Aside0.mk (HB4.out.alloc HB4.out.size (.cells #[.int .u8 x.kind] 5))
        refine hK.out _ _ HHN (fun hHeld => ?_)
        clear hK K
        refine norm_ (a' := ?_) ?_ ?_
        rotate_left
        · show Act.put _ (some 21) _ = _
          simp only [Act.put, List.setIfInBounds_toArray, List.set_cons_zero, List.set_cons_succ, i64_w, i32_w]
          rfl
        generalize w4.alloc (.cells #[.int .u8 x.kind] 5) = w5 at hHeld HO5 HB5 ⊢
        refine one_ (i := 5) (N := some 24) (refput13.bitsA 8 63) rfl rfl (one_of HT_.out (by kernel_rfl)) (by decide) (fun K hK => ?_)
        refine goes_ Tryz.func93 (by kernel_rfl) rfl #[.int .i64 x.req, .int .i64 8] (by rfl) rfl rfl (by (try simp only [List.map_toArray, List.map_cons, List.map_nil]); first | done | rfl) ?_
        refine (refnum_8 x.req w5).mono ?_
        rintro e w6 ⟨v0, rfl, hr, hb⟩
        refine ⟨_, rfl, ?_⟩
        obtain ⟨g0, q0, rfl, hcl⟩ := made_row hr (by rw [be_length]; decide)
        have HCL := Aside0.mk hcl
        have HO6 := Aside0.mk (ownS_below HO5.out hb)
        have HB6 := Aside0.mk (below_step HB5.out hb)
        refine hK.out _ _ (blk_below hHeld hb) (fun hHeld => ?_)
        clear hK K hr hb hcl
        refine norm_ (a' := ?_) ?_ ?_
        rotate_left
        · show Act.put _ (some 24) _ = _
          simp only [Act.put, List.setIfInBounds_toArray, List.set_cons_zero, List.set_cons_succ, i64_w, i32_w]
          rfl
        refine one_ (i := 6) (N := some 25) (refput13.bitsA 8 127) rfl rfl (one_of HT_.out (by kernel_rfl)) (by decide) (fun K hK => ?_)
        refine step_append_lies _ (by rfl) _ _ _ (by rfl) w.heap.size 5 i0 (.int .u8 0) 1 1 Tryz.underlying22 hi hz0 hz1 hz2 rfl (by decide) _ 1 (nums .u8 [x.kind]) (by rfl) HO6.out ⟨g0, 0, none⟩ (be x.req 8).length _ (nums .u8 (be x.req 8)) (by rfl) (by simp [nums]) HCL.out (ints_oneCell _ _) (by rw [be_length]; decide) (by rw [be_length]; decide) (by rw [be_length]; decide) HB6.out.size w6.heap.size rfl ?_
        intro g7 q7 w7 ho7 hg7 hat7 hlt7
        have hne := HO6.out
        have hHN := blk_grown hHeld hg7 (own_ne HO6.out hHeld (by decide))
        have HB7 := Aside0.mk (HB6.out.grown hg7 HB6.out.size (fun k hk => (HO6.out.lt k hk).1))
        have HO7 : Aside0 (w7.ownsRow w.heap.size 5 1 (.slice (some ⟨g7, 0, none⟩) 9 q7) 9 (nums .u8 (headOf x))) := ⟨by have e : nums .u8 [x.kind] ++ nums .u8 (be x.req 8) = nums .u8 (headOf x) := (by rw [← nums_append]; unfold headOf; rw [be_1, show x.kind % 256 = x.kind by omega]); rw [e] at ho7; have e2 : 1 + (be x.req 8).length = 9 := (by rw [be_length]); rw [e2] at ho7; exact ho7⟩
        rw [show (1 + (be x.req 8).length) = 9 by rw [be_length]]
        refine hK.out _ _ hHN (fun hHeld => ?_)
        clear hK K hne ho7 hg7 hat7 hlt7
        refine norm_ (a' := ?_) ?_ ?_
        rotate_left
        · show Act.put _ (some 25) _ = _
          simp only [Act.put, List.setIfInBounds_toArray, List.set_cons_zero, List.set_cons_succ, i64_w, i32_w]
          rfl
        refine pure_ (i := 7) (N := some 6) (v := ?_) (a' := ?_) (refput13.bitsA 8 255) rfl rfl (any_of HT_.out (by kernel_rfl)) (fun _ _ _ h => h) (Or.inl ⟨by rfl, ?_⟩) ?_ ?_
        rotate_left
        · intro w'
          go_simp
          with_reducible rfl
        rotate_left
        · simp only [Act.put, List.setIfInBounds_toArray, List.set_cons_zero, List.set_cons_succ, i64_w, i32_w]
          rfl
        refine done_ (done_of HT_.out (by kernel_rfl)) ?_
        go_wp2
        go_meet
        case rel => exact ⟨HO7, HB7, ⟨hHeld⟩⟩
      · skip
        refine goes_ Tryz.func93 (by kernel_rfl) rfl #[.int .i64 x.req, .int .i64 8] (by rfl) rfl rfl (by (try simp only [List.map_toArray, List.map_cons, List.map_nil]); first | done | rfl) ?_
        refine (refnum_8 x.req w4).mono ?_
        rintro e w5 ⟨v0, rfl, hr, hb⟩
        refine ⟨_, rfl, ?_⟩
        have HB5 := Aside0.mk (below_step HB4.out hb)
        have HRR := Aside0.mk hr
        refine hK.out _ _ (blk_below hHeld hb) (fun hHeld => ?_)
        clear hK K hr hb
        refine norm_ (a' := ?_) ?_ ?_
        rotate_left
        · show Act.put _ (some 24) _ = _
          simp only [Act.put, List.setIfInBounds_toArray, List.set_cons_zero, List.set_cons_succ, i64_w, i32_w]
          rfl
        refine one_ (i := 2) (N := some 21) (refput13.bitsA 8 63) rfl rfl (one_of HT_.out (by kernel_rfl)) (by decide) (fun K hK => ?_)
        refine event_step (by rfl) (v := .slice (some ⟨w5.heap.size, 0, none⟩) 1 1) (w1 := w5.alloc (.cells #[.int .u8 x.kind] 5)) (by go_simp; try rfl) ?_
        have HHN := blk_alloc hHeld (.cells #[.int .u8 x.kind] 5)
        have HO6 : Aside0 ((w5.alloc (.cells #[.int .u8 x.kind] 5)).ownsRow w.heap.size 5 1 (.slice (some ⟨w5.heap.size, 0, none⟩) 1 1) 1 (nums .u8 [x.kind])) := ⟨World.ownsRow_lit (base := w.heap.size) (e := 5) (size := 1) w5 #[.int .u8 x.kind] 1 HB5.out.size (by decide) rfl⟩
        have HB6 := Aside0.mk (HB5.out.alloc HB5.out.size (.cells #[.int .u8 x.kind] 5))
        obtain ⟨g0, q0, rfl, hcl⟩ := made_row (Kd.R_below HRR.out ((Below.refl _ _).alloc (Nat.le_refl _) (.cells #[.int .u8 x.kind] 5))) (by rw [be_length]; decide)
        have HCL := Aside0.mk hcl
        clear hcl
        refine hK.out _ _ HHN (fun hHeld => ?_)
        clear hK K
        refine norm_ (a' := ?_) ?_ ?_
        rotate_left
        · show Act.put _ (some 21) _ = _
          simp only [Act.put, List.setIfInBounds_toArray, List.set_cons_zero, List.set_cons_succ, i64_w, i32_w]
          rfl
        generalize w5.alloc (.cells #[.int .u8 x.kind] 5) = w6 at hHeld HO6 HB6 HCL ⊢
        refine one_ (i := 6) (N := some 25) (refput13.bitsA 8 127) rfl rfl (one_of HT_.out (by kernel_rfl)) (by decide) (fun K hK => ?_)
        refine step_append_lies _ (by rfl) _ _ _ (by rfl) w.heap.size 5 i0 (.int .u8 0) 1 1 Tryz.underlying22 hi hz0 hz1 hz2 rfl (by decide) _ 1 (nums .u8 [x.kind]) (by rfl) HO6.out ⟨g0, 0, none⟩ (be x.req 8).length _ (nums .u8 (be x.req 8)) (by rfl) (by simp [nums]) HCL.out (ints_oneCell _ _) (by rw [be_length]; decide) (by rw [be_length]; decide) (by rw [be_length]; decide) HB6.out.size w6.heap.size rfl ?_
        intro g7 q7 w7 ho7 hg7 hat7 hlt7
        have hne := HO6.out
        have hHN := blk_grown hHeld hg7 (own_ne HO6.out hHeld (by decide))
        have HB7 := Aside0.mk (HB6.out.grown hg7 HB6.out.size (fun k hk => (HO6.out.lt k hk).1))
        have HO7 : Aside0 (w7.ownsRow w.heap.size 5 1 (.slice (some ⟨g7, 0, none⟩) 9 q7) 9 (nums .u8 (headOf x))) := ⟨by have e : nums .u8 [x.kind] ++ nums .u8 (be x.req 8) = nums .u8 (headOf x) := (by rw [← nums_append]; unfold headOf; rw [be_1, show x.kind % 256 = x.kind by omega]); rw [e] at ho7; have e2 : 1 + (be x.req 8).length = 9 := (by rw [be_length]); rw [e2] at ho7; exact ho7⟩
        rw [show (1 + (be x.req 8).length) = 9 by rw [be_length]]
        refine hK.out _ _ hHN (fun hHeld => ?_)
        clear hK K hne ho7 hg7 hat7 hlt7
        refine norm_ (a' := ?_) ?_ ?_
        rotate_left
        · show Act.put _ (some 25) _ = _
          simp only [Act.put, List.setIfInBounds_toArray, List.set_cons_zero, List.set_cons_succ, i64_w, i32_w]
          rfl
        refine pure_ (i := 7) (N := some 6) (v := ?_) (a' := ?_) (refput13.bitsA 8 255) rfl rfl (any_of HT_.out (by kernel_rfl)) (fun _ _ _ h => h) (Or.inl ⟨by rfl, ?_⟩) ?_ ?_
        rotate_left
        · intro w'
          go_simp
          with_reducible rfl
        rotate_left
        · simp only [Act.put, List.setIfInBounds_toArray, List.set_cons_zero, List.set_cons_succ, i64_w, i32_w]
          rfl
        refine done_ (done_of HT_.out (by kernel_rfl)) ?_
        go_wp2
        go_meet
        case rel => exact ⟨HO7, HB7, ⟨hHeld⟩⟩
    case rest =>
      obtain ⟨HO, HB, HX⟩ := hcut
      clear HX1 HX2 HX3 HB1 HB2 HB3
      go_wp2
      go_loopg [6, 7] (f.length + 1) (fun kq v6 v7 wr => ∃ (P r : List Fld), f = P ++ r ∧ v7 = .int .i64 P.length ∧ P.length + kq = f.length + 1 ∧ 0 < kq ∧ Aside0 (wr.ownsRow w.heap.size 5 1 v6 (headOf x ++ P.flatMap x.put).length (nums .u8 (headOf x ++ P.flatMap x.put))) ∧ Aside0 (Below w.heap.size w wr) ∧ Aside0 (wr.heap[gb]? = some (.cells #[.int .u8 x.kind, .int .i64 x.req, .string x.item, .int .i64 x.qty, .int .i64 x.day, .int .i64 x.days, .int .i64 x.rank, .int .i64 x.lot, .int .i64 x.line, .slice A9 x.parts.length c9, .slice A10 x.others.length c10] 38 (0, 0))))
      case atStart => exact ⟨[], f, rfl, rfl, by simp, by omega, ⟨by simpa [headOf, be_length] using HO.out⟩, HB, HX⟩
      case round =>
        clear HO HB HX
        obtain ⟨P, r, hfP, rfl, hq1, hq0, HO, HB, HX⟩ := hrel
        have HFP := Aside0.mk hfP
        clear hfP
        cases r with
        | nil =>
          have hPf : P.length = s.size := by have h1 := HSS.out; have h2 := HFP.out; rw [List.append_nil] at h2; rw [h1, h2]
          have HPF := Aside0.mk hPf
          have hb0 : decide (P.length < s.size) = false := decide_eq_false (by omega)
          clear hPf
          go_wp2
          go_ret2
          rw [HPC.out]
          refine ⟨_, rfl, ?_, HB.out⟩
          have e : bytesOf13 x = headOf x ++ P.flatMap x.put := by unfold bytesOf13; rw [HFI.out, HFP.out, List.append_nil]
          rw [e]
          exact Kd.R_of_own HO.out (fun _ _ => trivial)
        | cons c r =>
          have hsh : (headOf x ++ P.flatMap x.put).length ≤ 400 := put_some x HRC.out HF.out HFP.out
          have HOK := Aside0.mk (right_ok HRC.out HF.out HFP.out)
          obtain ⟨hlt, hbt⟩ := fld_at (by rw [HSL.out, HFP.out] : s.data.toList = (P ++ c :: r).map Fld.byte)
          have hlf : P.length < f.length := by rw [HFP.out, List.length_append, List.length_cons]; omega
          have hb0 : decide (P.length < s.size) = true := decide_eq_true hlt
          generalize hxs : headOf x ++ P.flatMap x.put = xs at hsh HO
          have HXS := Aside0.mk hxs
          clear hxs
          cases c

          case i =>
            have hx : ∀ h : P.length < s.size, ((s[P.length]'h).toNat : Int) = 105 := fun h => by rw [hbt]; rfl
            clear hbt
            have hcf : wr.cell? ⟨gb, 2, none⟩ = some (.string x.item) := blk_cell HX.out 2
            go_wp2_with fail
            refine (refcode_calls x.item HOK.out wr).mono ?_
            rintro e w6 ⟨v0, rfl, hr, hb⟩
            obtain ⟨g0, q0, rfl, hcl⟩ := made_row hr (code_pos _ HOK.out)
            have HCL := Aside0.mk hcl
            have HO6 := Aside0.mk (ownS_below HO.out hb)
            have HB6 := Aside0.mk (below_step HB.out hb)
            have HX6 := Aside0.mk (blk_below HX.out hb)
            have hyl : (ints (putCode x.item.data.toList)).length ≤ 13 := by exact code_max _
            clear hr hb hcl hcf
            go_wp2_with (first | (at_builtin; refine wpList_append_own _ rfl _ _ 22 rfl w.heap.size 5 i0 _ 1 1 Tryz.underlying22 hi hz0 hz1 hz2 rfl (by decide) u6 xs.length (nums .u8 (xs)) rfl HO6.out ⟨g0, 0, none⟩ (ints (putCode x.item.data.toList)).length _ (nums .u8 (ints (putCode x.item.data.toList))) rfl (by simp [nums, be_length]) HCL.out (ints_oneCell _ _) (by simp only [maxLen]; omega) (by omega) HB6.out.size ?_; intro v7 w7 ho7 hg7 _; have HO7 : Aside0 (w7.ownsRow w.heap.size 5 1 v7 (xs ++ (ints (putCode x.item.data.toList))).length (nums .u8 (xs ++ (ints (putCode x.item.data.toList))))) := ⟨by rw [nums_append, List.length_append]; exact ho7⟩; have HX7 := Aside0.mk (blk_grown HX6.out hg7 (own_ne HO6.out HX6.out (by decide))); have HB7 := Aside0.mk (HB6.out.grown hg7 HB6.out.size (fun k hk => (HO.out.lt k hk).1)); clear ho7 hg7) | fail)
            go_wp2
            go_roundg (f.length - P.length)
            case measure => omega
            case rel => exact ⟨P ++ [.i], r, by rw [HFP.out]; simp, by rw [List.length_append]; rfl, by rw [List.length_append, List.length_singleton]; omega, by omega, ⟨by have e : headOf x ++ (P ++ [Fld.i]).flatMap x.put = xs ++ x.put .i := (by rw [← HXS.out]; simp); rw [e]; exact HO7.out⟩, HB7, HX7⟩
          case q =>
            have hx : ∀ h : P.length < s.size, ((s[P.length]'h).toNat : Int) = 113 := fun h => by rw [hbt]; rfl
            clear hbt
            have hcf : wr.cell? ⟨gb, 3, none⟩ = some (.int .i64 x.qty) := blk_cell HX.out 3
            go_wp2_with fail
            refine (refnum_8 x.qty wr).mono ?_
            rintro e w6 ⟨v0, rfl, hr, hb⟩
            obtain ⟨g0, q0, rfl, hcl⟩ := made_row hr (by rw [be_length]; decide)
            have HCL := Aside0.mk hcl
            have HO6 := Aside0.mk (ownS_below HO.out hb)
            have HB6 := Aside0.mk (below_step HB.out hb)
            have HX6 := Aside0.mk (blk_below HX.out hb)
            have hyl : (be x.qty 8).length ≤ 13 := by rw [be_length]; decide
            clear hr hb hcl hcf
            go_wp2_with (first | (at_builtin; refine wpList_append_own _ rfl _ _ 22 rfl w.heap.size 5 i0 _ 1 1 Tryz.underlying22 hi hz0 hz1 hz2 rfl (by decide) u6 xs.length (nums .u8 (xs)) rfl HO6.out ⟨g0, 0, none⟩ (be x.qty 8).length _ (nums .u8 (be x.qty 8)) rfl (by simp [nums, be_length]) HCL.out (ints_oneCell _ _) (by simp only [maxLen]; omega) (by omega) HB6.out.size ?_; intro v7 w7 ho7 hg7 _; have HO7 : Aside0 (w7.ownsRow w.heap.size 5 1 v7 (xs ++ (be x.qty 8)).length (nums .u8 (xs ++ (be x.qty 8)))) := ⟨by rw [nums_append, List.length_append]; exact ho7⟩; have HX7 := Aside0.mk (blk_grown HX6.out hg7 (own_ne HO6.out HX6.out (by decide))); have HB7 := Aside0.mk (HB6.out.grown hg7 HB6.out.size (fun k hk => (HO.out.lt k hk).1)); clear ho7 hg7) | fail)
            go_wp2
            go_roundg (f.length - P.length)
            case measure => omega
            case rel => exact ⟨P ++ [.q], r, by rw [HFP.out]; simp, by rw [List.length_append]; rfl, by rw [List.length_append, List.length_singleton]; omega, by omega, ⟨by have e : headOf x ++ (P ++ [Fld.q]).flatMap x.put = xs ++ x.put .q := (by rw [← HXS.out]; simp); rw [e]; exact HO7.out⟩, HB7, HX7⟩
          case d =>
            have hx : ∀ h : P.length < s.size, ((s[P.length]'h).toNat : Int) = 100 := fun h => by rw [hbt]; rfl
            clear hbt
            have hcf : wr.cell? ⟨gb, 4, none⟩ = some (.int .i64 x.day) := blk_cell HX.out 4
            go_wp2_with fail
            refine (refnum_2 x.day wr).mono ?_
            rintro e w6 ⟨v0, rfl, hr, hb⟩
            obtain ⟨g0, q0, rfl, hcl⟩ := made_row hr (by rw [be_length]; decide)
            have HCL := Aside0.mk hcl
            have HO6 := Aside0.mk (ownS_below HO.out hb)
            have HB6 := Aside0.mk (below_step HB.out hb)
            have HX6 := Aside0.mk (blk_below HX.out hb)
            have hyl : (be x.day 2).length ≤ 13 := by rw [be_length]; decide
            clear hr hb hcl hcf
            go_wp2_with (first | (at_builtin; refine wpList_append_own _ rfl _ _ 22 rfl w.heap.size 5 i0 _ 1 1 Tryz.underlying22 hi hz0 hz1 hz2 rfl (by decide) u6 xs.length (nums .u8 (xs)) rfl HO6.out ⟨g0, 0, none⟩ (be x.day 2).length _ (nums .u8 (be x.day 2)) rfl (by simp [nums, be_length]) HCL.out (ints_oneCell _ _) (by simp only [maxLen]; omega) (by omega) HB6.out.size ?_; intro v7 w7 ho7 hg7 _; have HO7 : Aside0 (w7.ownsRow w.heap.size 5 1 v7 (xs ++ (be x.day 2)).length (nums .u8 (xs ++ (be x.day 2)))) := ⟨by rw [nums_append, List.length_append]; exact ho7⟩; have HX7 := Aside0.mk (blk_grown HX6.out hg7 (own_ne HO6.out HX6.out (by decide))); have HB7 := Aside0.mk (HB6.out.grown hg7 HB6.out.size (fun k hk => (HO.out.lt k hk).1)); clear ho7 hg7) | fail)
            go_wp2
            go_roundg (f.length - P.length)
            case measure => omega
            case rel => exact ⟨P ++ [.d], r, by rw [HFP.out]; simp, by rw [List.length_append]; rfl, by rw [List.length_append, List.length_singleton]; omega, by omega, ⟨by have e : headOf x ++ (P ++ [Fld.d]).flatMap x.put = xs ++ x.put .d := (by rw [← HXS.out]; simp); rw [e]; exact HO7.out⟩, HB7, HX7⟩
          case l =>
            have hx : ∀ h : P.length < s.size, ((s[P.length]'h).toNat : Int) = 108 := fun h => by rw [hbt]; rfl
            clear hbt
            have hcf : wr.cell? ⟨gb, 5, none⟩ = some (.int .i64 x.days) := blk_cell HX.out 5
            go_wp2_with fail
            refine (refnum_2 x.days wr).mono ?_
            rintro e w6 ⟨v0, rfl, hr, hb⟩
            obtain ⟨g0, q0, rfl, hcl⟩ := made_row hr (by rw [be_length]; decide)
            have HCL := Aside0.mk hcl
            have HO6 := Aside0.mk (ownS_below HO.out hb)
            have HB6 := Aside0.mk (below_step HB.out hb)
            have HX6 := Aside0.mk (blk_below HX.out hb)
            have hyl : (be x.days 2).length ≤ 13 := by rw [be_length]; decide
            clear hr hb hcl hcf
            go_wp2_with (first | (at_builtin; refine wpList_append_own _ rfl _ _ 22 rfl w.heap.size 5 i0 _ 1 1 Tryz.underlying22 hi hz0 hz1 hz2 rfl (by decide) u6 xs.length (nums .u8 (xs)) rfl HO6.out ⟨g0, 0, none⟩ (be x.days 2).length _ (nums .u8 (be x.days 2)) rfl (by simp [nums, be_length]) HCL.out (ints_oneCell _ _) (by simp only [maxLen]; omega) (by omega) HB6.out.size ?_; intro v7 w7 ho7 hg7 _; have HO7 : Aside0 (w7.ownsRow w.heap.size 5 1 v7 (xs ++ (be x.days 2)).length (nums .u8 (xs ++ (be x.days 2)))) := ⟨by rw [nums_append, List.length_append]; exact ho7⟩; have HX7 := Aside0.mk (blk_grown HX6.out hg7 (own_ne HO6.out HX6.out (by decide))); have HB7 := Aside0.mk (HB6.out.grown hg7 HB6.out.size (fun k hk => (HO.out.lt k hk).1)); clear ho7 hg7) | fail)
            go_wp2
            go_roundg (f.length - P.length)
            case measure => omega
            case rel => exact ⟨P ++ [.l], r, by rw [HFP.out]; simp, by rw [List.length_append]; rfl, by rw [List.length_append, List.length_singleton]; omega, by omega, ⟨by have e : headOf x ++ (P ++ [Fld.l]).flatMap x.put = xs ++ x.put .l := (by rw [← HXS.out]; simp); rw [e]; exact HO7.out⟩, HB7, HX7⟩
          case r =>
            have hx : ∀ h : P.length < s.size, ((s[P.length]'h).toNat : Int) = 114 := fun h => by rw [hbt]; rfl
            clear hbt
            have hcf : wr.cell? ⟨gb, 6, none⟩ = some (.int .i64 x.rank) := blk_cell HX.out 6
            go_wp2_with (first | (at_builtin; refine wpList_append_own _ rfl _ _ 22 rfl w.heap.size 5 i0 _ 1 1 Tryz.underlying22 hi hz0 hz1 hz2 rfl (by decide) u6 xs.length (nums .u8 (xs)) rfl (ownS_alloc HO.out _) ⟨wr.heap.size, 0, none⟩ 1 _ (nums .u8 (be x.rank 1)) rfl (by simp [nums, be_length]) (by rw [be_1]; exact byte_cells wr (x.rank % 256)) (ints_oneCell _ _) (by simp only [maxLen]; omega) (by omega) (HB.out.alloc HB.out.size _).size ?_; intro v7 w7 ho7 hg7 _; have HO7 : Aside0 (w7.ownsRow w.heap.size 5 1 v7 (xs ++ (be x.rank 1)).length (nums .u8 (xs ++ (be x.rank 1)))) := ⟨by rw [nums_append, List.length_append]; exact ho7⟩; have HX7 := Aside0.mk (blk_grown (blk_alloc HX.out (.cells #[.int .u8 (x.rank % 256)] 5)) hg7 (own_ne (ownS_alloc HO.out (.cells #[.int .u8 (x.rank % 256)] 5)) (blk_alloc HX.out (.cells #[.int .u8 (x.rank % 256)] 5)) (by decide))); have HB7 := Aside0.mk ((HB.out.alloc HB.out.size (.cells #[.int .u8 (x.rank % 256)] 5)).grown hg7 (HB.out.alloc HB.out.size (.cells #[.int .u8 (x.rank % 256)] 5)).size (fun k hk => (HO.out.lt k hk).1)); clear ho7 hg7) | fail)
            go_wp2
            go_roundg (f.length - P.length)
            case measure => omega
            case rel => exact ⟨P ++ [.r], r, by rw [HFP.out]; simp, by rw [List.length_append]; rfl, by rw [List.length_append, List.length_singleton]; omega, by omega, ⟨by have e : headOf x ++ (P ++ [Fld.r]).flatMap x.put = xs ++ x.put .r := (by rw [← HXS.out]; simp); rw [e]; exact HO7.out⟩, HB7, HX7⟩
          case t =>
            have hx : ∀ h : P.length < s.size, ((s[P.length]'h).toNat : Int) = 116 := fun h => by rw [hbt]; rfl
            clear hbt
            have hcf : wr.cell? ⟨gb, 7, none⟩ = some (.int .i64 x.lot) := blk_cell HX.out 7
            go_wp2_with fail
            refine (refnum_8 x.lot wr).mono ?_
            rintro e w6 ⟨v0, rfl, hr, hb⟩
            obtain ⟨g0, q0, rfl, hcl⟩ := made_row hr (by rw [be_length]; decide)
            have HCL := Aside0.mk hcl
            have HO6 := Aside0.mk (ownS_below HO.out hb)
            have HB6 := Aside0.mk (below_step HB.out hb)
            have HX6 := Aside0.mk (blk_below HX.out hb)
            have hyl : (be x.lot 8).length ≤ 13 := by rw [be_length]; decide
            clear hr hb hcl hcf
            go_wp2_with (first | (at_builtin; refine wpList_append_own _ rfl _ _ 22 rfl w.heap.size 5 i0 _ 1 1 Tryz.underlying22 hi hz0 hz1 hz2 rfl (by decide) u6 xs.length (nums .u8 (xs)) rfl HO6.out ⟨g0, 0, none⟩ (be x.lot 8).length _ (nums .u8 (be x.lot 8)) rfl (by simp [nums, be_length]) HCL.out (ints_oneCell _ _) (by simp only [maxLen]; omega) (by omega) HB6.out.size ?_; intro v7 w7 ho7 hg7 _; have HO7 : Aside0 (w7.ownsRow w.heap.size 5 1 v7 (xs ++ (be x.lot 8)).length (nums .u8 (xs ++ (be x.lot 8)))) := ⟨by rw [nums_append, List.length_append]; exact ho7⟩; have HX7 := Aside0.mk (blk_grown HX6.out hg7 (own_ne HO6.out HX6.out (by decide))); have HB7 := Aside0.mk (HB6.out.grown hg7 HB6.out.size (fun k hk => (HO.out.lt k hk).1)); clear ho7 hg7) | fail)
            go_wp2
            go_roundg (f.length - P.length)
            case measure => omega
            case rel => exact ⟨P ++ [.t], r, by rw [HFP.out]; simp, by rw [List.length_append]; rfl, by rw [List.length_append, List.length_singleton]; omega, by omega, ⟨by have e : headOf x ++ (P ++ [Fld.t]).flatMap x.put = xs ++ x.put .t := (by rw [← HXS.out]; simp); rw [e]; exact HO7.out⟩, HB7, HX7⟩
          case n =>
            have hx : ∀ h : P.length < s.size, ((s[P.length]'h).toNat : Int) = 110 := fun h => by rw [hbt]; rfl
            clear hbt
            have hcf : wr.cell? ⟨gb, 8, none⟩ = some (.int .i64 x.line) := blk_cell HX.out 8
            go_wp2_with fail
            refine (refnum_8 x.line wr).mono ?_
            rintro e w6 ⟨v0, rfl, hr, hb⟩
            obtain ⟨g0, q0, rfl, hcl⟩ := made_row hr (by rw [be_length]; decide)
            have HCL := Aside0.mk hcl
            have HO6 := Aside0.mk (ownS_below HO.out hb)
            have HB6 := Aside0.mk (below_step HB.out hb)
            have HX6 := Aside0.mk (blk_below HX.out hb)
            have hyl : (be x.line 8).length ≤ 13 := by rw [be_length]; decide
            clear hr hb hcl hcf
            go_wp2_with (first | (at_builtin; refine wpList_append_own _ rfl _ _ 22 rfl w.heap.size 5 i0 _ 1 1 Tryz.underlying22 hi hz0 hz1 hz2 rfl (by decide) u6 xs.length (nums .u8 (xs)) rfl HO6.out ⟨g0, 0, none⟩ (be x.line 8).length _ (nums .u8 (be x.line 8)) rfl (by simp [nums, be_length]) HCL.out (ints_oneCell _ _) (by simp only [maxLen]; omega) (by omega) HB6.out.size ?_; intro v7 w7 ho7 hg7 _; have HO7 : Aside0 (w7.ownsRow w.heap.size 5 1 v7 (xs ++ (be x.line 8)).length (nums .u8 (xs ++ (be x.line 8)))) := ⟨by rw [nums_append, List.length_append]; exact ho7⟩; have HX7 := Aside0.mk (blk_grown HX6.out hg7 (own_ne HO6.out HX6.out (by decide))); have HB7 := Aside0.mk (HB6.out.grown hg7 HB6.out.size (fun k hk => (HO.out.lt k hk).1)); clear ho7 hg7) | fail)
            go_wp2
            go_roundg (f.length - P.length)
            case measure => omega
            case rel => exact ⟨P ++ [.n], r, by rw [HFP.out]; simp, by rw [List.length_append]; rfl, by rw [List.length_append, List.length_singleton]; omega, by omega, ⟨by have e : headOf x ++ (P ++ [Fld.n]).flatMap x.put = xs ++ x.put .n := (by rw [← HXS.out]; simp); rw [e]; exact HO7.out⟩, HB7, HX7⟩
          case p =>
            have hx : ∀ h : P.length < s.size, ((s[P.length]'h).toNat : Int) = 112 := fun h => by rw [hbt]; rfl
            clear hbt
            have hcf : wr.cell? ⟨gb, 9, none⟩ = some (.slice A9 x.parts.length c9) := blk_cell HX.out 9
            have hl8 : x.parts.length ≤ 8 := right_p HRC.out HF.out HFP.out
            go_wp2_with (first | (at_builtin; refine wpList_append_own _ rfl _ _ 22 rfl w.heap.size 5 i0 _ 1 1 Tryz.underlying22 hi hz0 hz1 hz2 rfl (by decide) u6 xs.length (nums .u8 (xs)) rfl (ownS_alloc HO.out _) ⟨wr.heap.size, 0, none⟩ 1 _ (nums .u8 (be x.parts.length 1)) rfl (by simp [nums, be_length]) (by rw [be_1, show (x.parts.length : Int) % 256 = x.parts.length by omega]; exact byte_cells wr (x.parts.length : Int)) (ints_oneCell _ _) (by simp only [maxLen]; omega) (by omega) (HB.out.alloc HB.out.size _).size ?_; intro v7 w7 ho7 hg7 _; have HO7 : Aside0 (w7.ownsRow w.heap.size 5 1 v7 (xs ++ (be x.parts.length 1)).length (nums .u8 (xs ++ (be x.parts.length 1)))) := ⟨by rw [nums_append, List.length_append]; exact ho7⟩; have HX7 := Aside0.mk (blk_grown (blk_alloc HX.out (.cells #[.int .u8 (x.parts.length : Int)] 5)) hg7 (own_ne (ownS_alloc HO.out (.cells #[.int .u8 (x.parts.length : Int)] 5)) (blk_alloc HX.out (.cells #[.int .u8 (x.parts.length : Int)] 5)) (by decide))); have HB7 := Aside0.mk ((HB.out.alloc HB.out.size (.cells #[.int .u8 (x.parts.length : Int)] 5)).grown hg7 (HB.out.alloc HB.out.size (.cells #[.int .u8 (x.parts.length : Int)] 5)).size (fun k hk => (HO.out.lt k hk).1)); clear ho7 hg7) | fail)
            have hsh2 : ∀ j, (xs ++ be x.parts.length 1 ++ (x.parts.take j).flatMap putPart).length ≤ 600 := fun j => by rw [← HXS.out]; exact put_short_p (by rw [HXS.out]; exact hsh) hl8 j
            have HSH2 := Aside0.mk hsh2
            clear hsh2 hcf HO HB HX
            obtain ⟨wo, hwo⟩ : ∃ wo, wo = wr := ⟨_, rfl⟩
            generalize wr = wr0 at hwo
            clear hwo wo
            go_wp2
            go_loopg [6, 8] (x.parts.length + 1) (fun kq v6 vk wr => ∃ (j : Nat), vk = .int .i64 j ∧ j + kq = x.parts.length + 1 ∧ 0 < kq ∧ Aside0 (wr.ownsRow w.heap.size 5 1 v6 (xs ++ be x.parts.length 1 ++ (x.parts.take j).flatMap putPart).length (nums .u8 (xs ++ be x.parts.length 1 ++ (x.parts.take j).flatMap putPart))) ∧ Aside0 (Below w.heap.size w wr) ∧ Aside0 (wr.heap[gb]? = some (.cells #[.int .u8 x.kind, .int .i64 x.req, .string x.item, .int .i64 x.qty, .int .i64 x.day, .int .i64 x.days, .int .i64 x.rank, .int .i64 x.lot, .int .i64 x.line, .slice A9 x.parts.length c9, .slice A10 x.others.length c10] 38 (0, 0))))
            case atStart => exact ⟨0, rfl, by omega, by omega, ⟨by simpa using HO7.out⟩, HB7, HX7⟩
            case round =>
              clear HO7 HB7 HX7
              obtain ⟨j, rfl, hj1, hj0, HO, HB, HX⟩ := hrel
              have hjs := HSH2.out j
              generalize hys : xs ++ be x.parts.length 1 ++ (x.parts.take j).flatMap putPart = ys at hjs HO
              have HYS := Aside0.mk hys
              clear hys
              have hcf : wr.cell? ⟨gb, 9, none⟩ = some (.slice A9 x.parts.length c9) := blk_cell HX.out 9
              by_cases hjl : j < x.parts.length
              · have hx1 := List.getElem?_eq_getElem hjl
                obtain ⟨ad, rfl, hcs⟩ := Enc.cell_at (reads_of_kd encParts rfl part_K HR9.out) j _ hx1
                have hpk : isRight x.parts[j].f0 = true := (parted_all HOK.out).2 _ (List.getElem_mem hjl) |>.1
                generalize hpj : x.parts[j] = p at hcs hpk hx1
                have HPJ := Aside0.mk hpj
                have HPK := Aside0.mk hpk
                clear hpj hpk hx1
                simp only [encParts_sz] at hcs
                have hw0 : w.cell? (ad.add (j * 2)) = some (.string p.f0) := hcs 0 _ rfl
                have hw1 : w.cell? ⟨(ad.add (j * 2)).block, (ad.add (j * 2)).off + 1, none⟩ = some (.int .i64 p.f1) := by rw [← add_field _ _ 1 (by omega)]; exact hcs 1 _ rfl
                have hc0 := (HB.out.cell (World.block_lt_of_cell? w _ hw0)).trans hw0
                have HC1 : Aside0 (∀ W, Below w.heap.size w W → W.cell? ⟨(ad.add (j * 2)).block, (ad.add (j * 2)).off + 1, none⟩ = some (.int .i64 p.f1)) := ⟨fun W hb => (hb.cell (World.block_lt_of_cell? w _ hw1)).trans hw1⟩
                clear hcs hw0 hw1
                have hb1 : decide (j < x.parts.length) = true := decide_eq_true hjl
                go_wp2_with fail
                refine (refcode_calls p.f0 HPK.out wr).mono ?_
                rintro e w6 ⟨v0, rfl, hr, hb⟩
                obtain ⟨g0, q0, rfl, hcl⟩ := made_row hr (code_pos _ HPK.out)
                have HCL := Aside0.mk hcl
                have HO6 := Aside0.mk (ownS_below HO.out hb)
                have HB6 := Aside0.mk (below_step HB.out hb)
                have HX6 := Aside0.mk (blk_below HX.out hb)
                have hyl := code_max p.f0
                clear hr hb hcl hcf hc0
                go_wp2_with (first | (at_builtin; refine wpList_append_own _ rfl _ _ 22 rfl w.heap.size 5 i0 _ 1 1 Tryz.underlying22 hi hz0 hz1 hz2 rfl (by decide) u6 ys.length (nums .u8 (ys)) rfl HO6.out ⟨g0, 0, none⟩ (ints (putCode p.f0.data.toList)).length _ (nums .u8 (ints (putCode p.f0.data.toList))) rfl (by simp [nums, be_length]) HCL.out (ints_oneCell _ _) (by simp only [maxLen]; omega) (by omega) HB6.out.size ?_; intro v7 w7 ho7 hg7 _; have HO7 : Aside0 (w7.ownsRow w.heap.size 5 1 v7 (ys ++ (ints (putCode p.f0.data.toList))).length (nums .u8 (ys ++ (ints (putCode p.f0.data.toList))))) := ⟨by rw [nums_append, List.length_append]; exact ho7⟩; have HX7 := Aside0.mk (blk_grown HX6.out hg7 (own_ne HO6.out HX6.out (by decide))); have HB7 := Aside0.mk (HB6.out.grown hg7 HB6.out.size (fun k hk => (HO.out.lt k hk).1)); have hc1 := HC1.out w7 HB7.out; have hcf : w7.cell? ⟨gb, 9, none⟩ = some (.slice (some ad) x.parts.length c9) := blk_cell HX7.out 9; clear ho7 hg7) | fail)
                have hzs : (ys ++ ints (putCode p.f0.data.toList)).length ≤ 620 := by rw [List.length_append]; omega
                generalize hzz : ys ++ ints (putCode p.f0.data.toList) = zs at HO7 hzs
                have HZZ := Aside0.mk hzz
                clear hzz
                refine (refnum_8 p.f1 w7).mono ?_
                rintro e w8 ⟨v0, rfl, hr, hb⟩
                obtain ⟨g1, q1, rfl, hcl⟩ := made_row hr (by rw [be_length]; decide)
                have HCL8 := Aside0.mk hcl
                have HO8 := Aside0.mk (ownS_below HO7.out hb)
                have HB8 := Aside0.mk (below_step HB7.out hb)
                have HX8 := Aside0.mk (blk_below HX7.out hb)
                clear hr hb hcl hcf hc1
                have hyl2 : (be p.f1 8).length ≤ 13 := by rw [be_length]; decide
                go_wp2_with (first | (at_builtin; refine wpList_append_own _ rfl _ _ 22 rfl w.heap.size 5 i0 _ 1 1 Tryz.underlying22 hi hz0 hz1 hz2 rfl (by decide) v7 zs.length (nums .u8 (zs)) rfl HO8.out ⟨g1, 0, none⟩ (be p.f1 8).length _ (nums .u8 (be p.f1 8)) rfl (by simp [nums, be_length]) HCL8.out (ints_oneCell _ _) (by simp only [maxLen]; omega) (by omega) HB8.out.size ?_; intro v9 w9 ho9 hg9 _; have HO9 : Aside0 (w9.ownsRow w.heap.size 5 1 v9 (zs ++ (be p.f1 8)).length (nums .u8 (zs ++ (be p.f1 8)))) := ⟨by rw [nums_append, List.length_append]; exact ho9⟩; have HX9 := Aside0.mk (blk_grown HX8.out hg9 (own_ne HO8.out HX8.out (by decide))); have HB9 := Aside0.mk (HB8.out.grown hg9 HB8.out.size (fun k hk => (HO8.out.lt k hk).1)); clear ho9 hg9) | fail)
                go_wp2
                go_roundg (x.parts.length - j)
                case measure => omega
                case rel => exact ⟨j + 1, by simp, by omega, by omega, ⟨by have e : xs ++ be x.parts.length 1 ++ (x.parts.take (j + 1)).flatMap putPart = zs ++ be p.f1 8 := (by rw [List.take_succ_eq_append_getElem hjl, List.flatMap_append, ← List.append_assoc, HYS.out, HPJ.out, ← HZZ.out]; simp [putPart]); rw [e]; exact HO9.out⟩, HB9, HX9⟩
              · obtain rfl : j = x.parts.length := by omega
                have hb1 : decide (x.parts.length < x.parts.length) = false := decide_eq_false (by omega)
                have e : ys = xs ++ x.put .p := by rw [← HYS.out, List.take_of_length_le (Nat.le_refl _)]; simp [Cmd.put]
                have HYE := Aside0.mk e
                clear e
                go_wp2
                go_roundg (f.length - P.length)
                case measure => omega
                case rel => exact ⟨P ++ [.p], r, by rw [HFP.out]; simp, by rw [List.length_append]; rfl, by rw [List.length_append, List.length_singleton]; omega, by omega, ⟨by have e : headOf x ++ (P ++ [Fld.p]).flatMap x.put = ys := (by rw [HYE.out, ← HXS.out]; simp); rw [e]; exact HO.out⟩, HB, HX⟩
          case o =>
            have hx : ∀ h : P.length < s.size, ((s[P.length]'h).toNat : Int) = 111 := fun h => by rw [hbt]; rfl
            clear hbt
            have hcf : wr.cell? ⟨gb, 10, none⟩ = some (.slice A10 x.others.length c10) := blk_cell HX.out 10
            have hl8 : x.others.length ≤ 4 := right_o HRC.out HF.out HFP.out
            go_wp2_with (first | (at_builtin; refine wpList_append_own _ rfl _ _ 22 rfl w.heap.size 5 i0 _ 1 1 Tryz.underlying22 hi hz0 hz1 hz2 rfl (by decide) u6 xs.length (nums .u8 (xs)) rfl (ownS_alloc HO.out _) ⟨wr.heap.size, 0, none⟩ 1 _ (nums .u8 (be x.others.length 1)) rfl (by simp [nums, be_length]) (by rw [be_1, show (x.others.length : Int) % 256 = x.others.length by omega]; exact byte_cells wr (x.others.length : Int)) (ints_oneCell _ _) (by simp only [maxLen]; omega) (by omega) (HB.out.alloc HB.out.size _).size ?_; intro v7 w7 ho7 hg7 _; have HO7 : Aside0 (w7.ownsRow w.heap.size 5 1 v7 (xs ++ (be x.others.length 1)).length (nums .u8 (xs ++ (be x.others.length 1)))) := ⟨by rw [nums_append, List.length_append]; exact ho7⟩; have HX7 := Aside0.mk (blk_grown (blk_alloc HX.out (.cells #[.int .u8 (x.others.length : Int)] 5)) hg7 (own_ne (ownS_alloc HO.out (.cells #[.int .u8 (x.others.length : Int)] 5)) (blk_alloc HX.out (.cells #[.int .u8 (x.others.length : Int)] 5)) (by decide))); have HB7 := Aside0.mk ((HB.out.alloc HB.out.size (.cells #[.int .u8 (x.others.length : Int)] 5)).grown hg7 (HB.out.alloc HB.out.size (.cells #[.int .u8 (x.others.length : Int)] 5)).size (fun k hk => (HO.out.lt k hk).1)); clear ho7 hg7) | fail)
            have hsh2 : ∀ j, (xs ++ be x.others.length 1 ++ (x.others.take j).flatMap (fun t : ByteArray => ints (putCode t.data.toList))).length ≤ 600 := fun j => by rw [← HXS.out]; exact put_short_o (by rw [HXS.out]; exact hsh) hl8 j
            have HSH2 := Aside0.mk hsh2
            clear hsh2 hcf HO HB HX
            obtain ⟨wo, hwo⟩ : ∃ wo, wo = wr := ⟨_, rfl⟩
            generalize wr = wr0 at hwo
            clear hwo wo
            go_wp2
            go_loopg [6, 9] (x.others.length + 1) (fun kq v6 vk wr => ∃ (j : Nat), vk = .int .i64 j ∧ j + kq = x.others.length + 1 ∧ 0 < kq ∧ Aside0 (wr.ownsRow w.heap.size 5 1 v6 (xs ++ be x.others.length 1 ++ (x.others.take j).flatMap (fun t : ByteArray => ints (putCode t.data.toList))).length (nums .u8 (xs ++ be x.others.length 1 ++ (x.others.take j).flatMap (fun t : ByteArray => ints (putCode t.data.toList))))) ∧ Aside0 (Below w.heap.size w wr) ∧ Aside0 (wr.heap[gb]? = some (.cells #[.int .u8 x.kind, .int .i64 x.req, .string x.item, .int .i64 x.qty, .int .i64 x.day, .int .i64 x.days, .int .i64 x.rank, .int .i64 x.lot, .int .i64 x.line, .slice A9 x.parts.length c9, .slice A10 x.others.length c10] 38 (0, 0))))
            case atStart => exact ⟨0, rfl, by omega, by omega, ⟨by simpa using HO7.out⟩, HB7, HX7⟩
            case round =>
              clear HO7 HB7 HX7
              obtain ⟨j, rfl, hj1, hj0, HO, HB, HX⟩ := hrel
              have hjs := HSH2.out j
              generalize hys : xs ++ be x.others.length 1 ++ (x.others.take j).flatMap (fun t : ByteArray => ints (putCode t.data.toList)) = ys at hjs HO
              have HYS := Aside0.mk hys
              clear hys
              have hcf : wr.cell? ⟨gb, 10, none⟩ = some (.slice A10 x.others.length c10) := blk_cell HX.out 10
              by_cases hjl : j < x.others.length
              · have hx1 := List.getElem?_eq_getElem hjl
                obtain ⟨ad, rfl, hcs⟩ := Enc.cell_at (Kd.C_below (reads_of_kd encTexts rfl text_K HR10.out) HB.out) j _ hx1
                have hpk : isRight x.others[j] = true := by
                    have hok := HOK.out
                    simp only [Cmd.ok, othersOk, Bool.and_eq_true] at hok
                    exact unlike_all hok.1.2 _ (List.getElem_mem hjl)
                generalize hpj : x.others[j] = p at hcs hpk hx1
                have HPJ := Aside0.mk hpj
                have HPK := Aside0.mk hpk
                clear hpj hpk hx1
                simp only [encTexts_sz, Nat.mul_one] at hcs
                have hc0 : wr.cell? (ad.add j) = some (.string p) := hcs 0 _ rfl
                clear hcs
                have hb1 : decide (j < x.others.length) = true := decide_eq_true hjl
                go_wp2_with fail
                refine (refcode_calls p HPK.out wr).mono ?_
                rintro e w6 ⟨v0, rfl, hr, hb⟩
                obtain ⟨g0, q0, rfl, hcl⟩ := made_row hr (code_pos _ HPK.out)
                have HCL := Aside0.mk hcl
                have HO6 := Aside0.mk (ownS_below HO.out hb)
                have HB6 := Aside0.mk (below_step HB.out hb)
                have HX6 := Aside0.mk (blk_below HX.out hb)
                have hyl := code_max p
                clear hr hb hcl hcf hc0
                go_wp2_with (first | (at_builtin; refine wpList_append_own _ rfl _ _ 22 rfl w.heap.size 5 i0 _ 1 1 Tryz.underlying22 hi hz0 hz1 hz2 rfl (by decide) u6 ys.length (nums .u8 (ys)) rfl HO6.out ⟨g0, 0, none⟩ (ints (putCode p.data.toList)).length _ (nums .u8 (ints (putCode p.data.toList))) rfl (by simp [nums, be_length]) HCL.out (ints_oneCell _ _) (by simp only [maxLen]; omega) (by omega) HB6.out.size ?_; intro v7 w7 ho7 hg7 _; have HO7 : Aside0 (w7.ownsRow w.heap.size 5 1 v7 (ys ++ (ints (putCode p.data.toList))).length (nums .u8 (ys ++ (ints (putCode p.data.toList))))) := ⟨by rw [nums_append, List.length_append]; exact ho7⟩; have HX7 := Aside0.mk (blk_grown HX6.out hg7 (own_ne HO6.out HX6.out (by decide))); have HB7 := Aside0.mk (HB6.out.grown hg7 HB6.out.size (fun k hk => (HO.out.lt k hk).1)); clear ho7 hg7) | fail)
                go_wp2
                go_roundg (x.others.length - j)
                case measure => omega
                case rel => exact ⟨j + 1, by simp, by omega, by omega, ⟨by have e : xs ++ be x.others.length 1 ++ (x.others.take (j + 1)).flatMap (fun t : ByteArray => ints (putCode t.data.toList)) = ys ++ ints (putCode p.data.toList) := (by rw [List.take_succ_eq_append_getElem hjl, List.flatMap_append, ← List.append_assoc, HYS.out, HPJ.out]; simp); rw [e]; exact HO7.out⟩, HB7, HX7⟩
              · obtain rfl : j = x.others.length := by omega
                have hb1 : decide (x.others.length < x.others.length) = false := decide_eq_false (by omega)
                have e : ys = xs ++ x.put .o := by rw [← HYS.out, List.take_of_length_le (Nat.le_refl _)]; simp [Cmd.put]
                have HYE := Aside0.mk e
                clear e
                go_wp2
                go_roundg (f.length - P.length)
                case measure => omega
                case rel => exact ⟨P ++ [.o], r, by rw [HFP.out]; simp, by rw [List.length_append]; rfl, by rw [List.length_append, List.length_singleton]; omega, by omega, ⟨by have e : headOf x ++ (P ++ [Fld.o]).flatMap x.put = ys := (by rw [HYE.out, ← HXS.out]; simp); rw [e]; exact HO.out⟩, HB, HX⟩
end Go.Proofs.YtkpedlhofalnjaaGreatDoor
