/- What ask.Put and its closure compute: a right command's bytes. -/
import Derived.Test.YtkpedlhofalnjaaGreatDoorRight13
import Derived.Test.YtkpedlhofalnjaaGreatDoorM7
import Derived.Lib.OthersKept
namespace Go.Proofs.YtkpedlhofalnjaaGreatDoor
set_option linter.unusedVariables false
set_option linter.unusedSimpArgs false
open Go.RowKit Go.Proofs.YtkpedlhofalnjaaGreatDoorW.PrintWords Go.Proofs.YtkpedlhofalnjaaGreatDoorW.PrintLast Go.Proofs.YtkpedlhofalnjaaGreatDoorW.PrintMore

theorem info_u8 : (Tryz.prog.info? 5).map (fun i => (i.zero, i.size, i.bytes)) = some (some (.int .u8 0), 1, 1) := by kernel_rfl
/-- out (block gc) holds a row of these numbers; but for it and rows of bytes all of w stands. -/
def PutTo (w0 w w' : World) (gc : Nat) (ys : List Int) : Prop :=
  Below w0.heap.size w0 w' ∧ Lib.OthersKept 5 (some gc) w w' ∧ ∃ v, w'.heap[gc]? = some (.cells #[v] 22 (0, 0)) ∧ Kd.R (Kd.int .u8) 5 w' w0.heap.size (fun _ => True) v ys
theorem kept_below {e : TypeId} {b : Option Nat} {w W W1 : World} (h : Lib.OthersKept e b w W) (hb : Below W.heap.size W W1) : Lib.OthersKept e b w W1 := fun k o hk hne ho => blk_below (h k o hk hne ho) hb
theorem put_stored {w0 w W w1 : World} {gc : Nat} {v v1 : Value} {xs zs : List Int} (hgc : w0.heap.size ≤ gc) (hk : Lib.OthersKept 5 (some gc) w W) (hc : W.heap[gc]? = some (.cells #[v] 22 (0, 0)))
    (hR : Kd.R (Kd.int .u8) 5 W w0.heap.size (fun _ => True) v xs) (hb1 : Below w0.heap.size w0 w1) (hg : W.grownBy w1 v.ownBlock) (hR1 : Kd.R (Kd.int .u8) 5 w1 w0.heap.size (fun _ => True) v1 zs) : PutTo w0 w (w1.setCell ⟨gc, 0, none⟩ v1) gc zs := by
  have hc1 : w1.heap[gc]? = some (.cells #[v] 22 (0, 0)) := blk_grown hc hg (Kd.R_ne hR hc (by decide))
  refine ⟨hb1.setCell hgc v1, ?_, v1, blk_put hc1 0 v1 rfl, Kd.R_set hR1 hc1 (by decide) 0 v1⟩
  refine (hk.grown hg fun g hgg => ?_).setCell ⟨gc, 0, none⟩ rfl v1
  obtain ⟨inner, ho⟩ := Kd.R_own hR
  obtain ⟨cells, h⟩ := own_typed ho g hgg
  exact ⟨cells, _, h⟩

namespace put1
noncomputable def T0 : Bool × List (List Nat × List Nat) := rtab .any (opsOf Tryz.f80 0)
def B0 : List Nat := [0, 0, 0, 6, 15, 31]
theorem tab0 : rtab .any (opsOf Tryz.f80 0) = T0 := rfl
theorem bits0 : waitsOk T0.2 B0 = true := by kernel_rfl
end put1

set_option maxRecDepth 100000 in
set_option maxHeartbeats 4000000 in
theorem put1_calls (n : Int) (s : Nat) (hs : s = 1 ∨ s = 2 ∨ s = 8) (w0 w : World) (gc : Nat) (xs : List Int) (hgc : w0.heap.size ≤ gc) (h : PutTo w0 w w gc xs) (hl : xs.length ≤ 1000000) :
    Calls Tryz.prog 80 #[.int .i64 n, .int .i64 s, .pointer (some ⟨gc, 0, none⟩)] w fun e w' => e = .returned undef ∧ PutTo w0 w w' gc (xs ++ be n s) := by
  obtain ⟨hB, hK, v, hC, hR⟩ := h
  have HB := Aside0.mk hB
  have HK := Aside0.mk hK
  have HC := Aside0.mk hC
  have HR := Aside0.mk hR
  have HS := Lib.hid hs
  have hxs := Lib.hid hl
  have hgc := Lib.hid hgc
  have hys : Hid ((be n s).length ≤ 8) := Lib.hid (by rw [be_length]; omega)
  clear hB hK hC hR hs hl
  go_enter Tryz.func80, Tryz.ntmps80
  go_wp2
  refine start_ (n := 6) (S := fun w' => w'.heap[gc]? = some (.cells #[v] 22 (0, 0)) ∧ True) (ds := [5]) #[false, false, false, false, false, false] (by kernel_rfl) rfl rfl (⟨HC.out, trivial⟩) (fun hHeld => ?_); refine with_tabW put1.tab0 put1.bits0 (fun HT_ HW_ => ?_)
  have HB4 := Aside0.mk (below_drew1 HB.out)
  have HR4 : Aside0 (Kd.R (Kd.int .u8) 5 w.drew w0.heap.size (fun _ => True) v xs) := ⟨Kd.R_below HR.out (below_drew1 (Below.refl _ _))⟩
  have HK4 : Aside0 (Lib.OthersKept 5 (some gc) w w.drew) := ⟨HK.out.drew⟩
  generalize w.drew = w4 at HB4 HR4 HK4 hHeld ⊢
  refine pure_ (i := 1) (N := some 6) (v := ?_) (a' := ?_) #[false, true, false, false, false, false] rfl rfl (any_of HT_.out (by kernel_rfl)) (fun _ _ _ h => h) (Or.inl ⟨by rfl, ?_⟩) ?_ ?_
  rotate_left
  · intro w'
    go_simp
    with_reducible rfl
  rotate_left
  · simp only [Act.put, List.setIfInBounds_toArray, List.set_cons_zero, List.set_cons_succ, i64_w, i32_w]
    rfl
  refine pure_ (i := 2) (N := some 7) (v := ?_) (a' := ?_) #[false, true, true, false, false, false] rfl rfl (any_of HT_.out (by kernel_rfl)) (fun _ _ _ h => h) (Or.inl ⟨by rfl, ?_⟩) ?_ ?_
  rotate_left
  · intro w'
    go_simp
    with_reducible rfl
  rotate_left
  · simp only [Act.put, List.setIfInBounds_toArray, List.set_cons_zero, List.set_cons_succ, i64_w, i32_w]
    rfl
  refine take_ (i := 0) (N := some 5) (v := ?_) (a' := ?_) #[true, true, true, false, false, false] rfl rfl (take_ofW HT_.out HW_.out (by kernel_rfl)) (fun _ _ _ h => h) (Or.inl ⟨by rfl, ?_⟩) hHeld ?_ ?_
  rotate_left
  · rintro w' hS
    have hc := blk_cell hS.1 0
    go_simp
    with_reducible rfl
  rotate_left
  · simp only [Act.put, List.setIfInBounds_toArray, List.set_cons_zero, List.set_cons_succ, i64_w, i32_w]
    rfl
  refine one_ (i := 3) (N := some 8) #[true, true, true, true, false, false] rfl rfl (one_of HT_.out (by kernel_rfl)) (by decide) (fun K hK => ?_)
  refine goes_ Tryz.func79 (by kernel_rfl) rfl #[.int .i64 n, .int .i64 s] (by rfl) rfl rfl (by (try simp only [List.map_toArray, List.map_cons, List.map_nil]); first | done | rfl) ?_
  refine (asknum_any n s HS.out w4).mono ?_
  rintro e w5 ⟨u, rfl, hru, hb⟩
  refine ⟨_, rfl, ?_⟩
  have HB5 := Aside0.mk (HB4.out.trans (hb.mono HB4.out.size))
  have HR5 := Aside0.mk (Kd.R_below HR4.out hb)
  have HK5 := Aside0.mk (kept_below HK4.out hb)
  obtain ⟨Au, cu, hue, _, hrd⟩ := Kd.R_reads hru
  have HRU := Aside0.mk hrd
  subst hue
  have hHeld5 := blk_below hHeld.1 hb
  have hHeld6 := trivial
  clear hru hrd HB4 HR4 HK4
  refine hK.out _ _ ⟨hHeld5, hHeld6⟩ (fun hHeld => ?_)
  clear hHeld5 hHeld6 hb
  clear hK K
  refine norm_ (a' := ?_) ?_ ?_
  rotate_left
  · show Act.put _ (some 8) _ = _
    simp only [Act.put, List.setIfInBounds_toArray, List.set_cons_zero, List.set_cons_succ, i64_w, i32_w]
    rfl
  refine one_ (i := 4) (N := some 9) #[true, true, true, true, true, false] rfl rfl (one_of HT_.out (by kernel_rfl)) (by decide) (fun K hK => ?_)
  refine Kd.R_append_rows_step (Kd.int .u8) w0.heap.size (by rfl) _ _ 22 5 (.int .u8 0) 1 rfl Tryz.underlying22 info_u8 rfl (by decide) (by decide) v xs (be n s) Au (be n s).length cu (fun _ => True) (fun _ => False) (by rfl) (by rfl) HR5.out (Rr := (Kd.int .u8).K w5) HRU.out (fun _ _ h => h) (fun _ h => h.elim) (fun _ _ => trivial) HB5.out HB5.out.size (by have h1_ := hxs.out; have h2_ := hys.out; omega) ?_
  intro v1 w6 hr1 hb1 hg _
  obtain ⟨A1, c1, hv1⟩ := Kd.R_slice hr1
  subst hv1
  have hHeld5 := blk_grown hHeld.1 hg (Kd.R_ne HR5.out hHeld.1 (by decide))
  have HP9 := Aside0.mk (put_stored hgc.out HK5.out hHeld.1 HR5.out hb1 hg hr1)
  have hcell : w6.cell? ⟨gc, 0, none⟩ = some v := blk_cell hHeld5 0
  have hfr := blk_frozen hHeld5 0
  have hHeld6 := trivial
  refine hK.out _ _ ⟨hHeld5, hHeld6⟩ (fun hHeld => ?_)
  clear hb1 hg hr1 HB5 HR5 HK5 HRU hHeld5 hHeld6
  clear hK K
  refine norm_ (a' := ?_) ?_ ?_
  rotate_left
  · show Act.put _ (some 9) _ = _
    simp only [Act.put, List.setIfInBounds_toArray, List.set_cons_zero, List.set_cons_succ, i64_w, i32_w]
    rfl
  refine last_ (i := 5) (N := none) #[true, true, true, true, true, true] rfl rfl (one_of HT_.out (by kernel_rfl)) (by decide) (fun K hK => ?_)
  refine skip_ (by rfl) rfl (w1 := w6.setCell ⟨gc, 0, none⟩ (.slice A1 (xs ++ be n s).length c1)) (by go_simp) ?_
  refine hK.out _ _ ?_
  refine done_ (done_of HT_.out (by kernel_rfl)) ?_
  go_wp2
  go_end0
  exact ⟨rfl, HP9.out⟩
namespace put13
noncomputable def T3 : Bool × List (List Nat × List Nat) := rtab .any (opsOf Tryz.f32 3)
def B3 : List Nat := [0, 1, 3, 0, 8, 24, 63, 0, 255]
theorem tab3 : rtab .any (opsOf Tryz.f32 3) = T3 := rfl
theorem bits3 : waitsOk T3.2 B3 = true := by kernel_rfl
end put13
namespace put13
noncomputable def T11 : Bool × List (List Nat × List Nat) := rtab .any (opsOf Tryz.f32 11)
def B11 : List Nat := [0, 0, 2, 6, 15, 31]
theorem tab11 : rtab .any (opsOf Tryz.f32 11) = T11 := rfl
theorem bits11 : waitsOk T11.2 B11 = true := by kernel_rfl
end put13
namespace put13
noncomputable def T29 : Bool × List (List Nat × List Nat) := rtab .any (opsOf Tryz.f32 29)
def B29 : List Nat := [0, 0, 2, 6, 15, 31]
theorem tab29 : rtab .any (opsOf Tryz.f32 29) = T29 := rfl
theorem bits29 : waitsOk T29.2 B29 = true := by kernel_rfl
end put13
namespace put13
noncomputable def T37 : Bool × List (List Nat × List Nat) := rtab .any (opsOf Tryz.f32 37)
def B37 : List Nat := [0, 0, 2, 7, 15]
theorem tab37 : rtab .any (opsOf Tryz.f32 37) = T37 := rfl
theorem bits37 : waitsOk T37.2 B37 = true := by kernel_rfl
end put13
/-- The block of something else is not out's, and the iterator's is neither. -/
theorem put_ne {w0 w w' : World} {gc g : Nat} {cs : Array Value} {ys : List Int} (h : w'.heap[g]? = some (.cells cs 38 (0, 0))) (hp : PutTo w0 w w' gc ys) : some g ≠ some gc := by
  obtain ⟨_, _, v, hc, _⟩ := hp
  intro e
  injection e with e
  rw [e, hc] at h
  injection h with h
  injection h with _ h
  exact absurd h (by decide)
theorem put_ne2 {w0 w w' : World} {gc g : Nat} {s : ByteArray} {p : Nat} {ys : List Int} (h : w'.heap[g]? = some (.stringIter s p)) (hp : PutTo w0 w w' gc ys) : some g ≠ some gc := by
  obtain ⟨_, _, v, hc, _⟩ := hp
  intro e
  injection e with e
  rw [e, hc] at h
  cases h
theorem put_ne3 {w : World} {g gi : Nat} {cs : Array Value} {t : TypeId} {s : ByteArray} {p : Nat} (h : w.heap[g]? = some (.cells cs t (0, 0))) (hi : w.heap[gi]? = some (.stringIter s p)) : g ≠ gi := by
  rintro rfl
  rw [hi] at h
  cases h
theorem put_ne4 {w0 w w' : World} {gc g : Nat} {cs : Array Value} {ys : List Int} (h : w'.heap[g]? = some (.cells cs 58 (0, 0))) (hp : PutTo w0 w w' gc ys) : some g ≠ some gc := by
  obtain ⟨_, _, v, hc, _⟩ := hp
  intro e
  injection e with e
  rw [e, hc] at h
  injection h with h
  injection h with _ h
  exact absurd h (by decide)
theorem put_alloc {w0 w : World} {gc : Nat} {ys : List Int} (h : PutTo w0 w w gc ys) (o : Obj) : PutTo w0 (w.alloc o) (w.alloc o) gc ys := by
  obtain ⟨hb, _, v, hc, hr⟩ := h
  exact ⟨hb.alloc hb.size o, Lib.OthersKept.refl _ _ _, v, blk_alloc hc o, Kd.R_below hr ((Below.refl _ _).alloc (Nat.le_refl _) o)⟩
theorem flat_le {α : Type} (g : α → List Int) (m : Nat) : ∀ (l : List α), (∀ a ∈ l, (g a).length ≤ m) → (l.flatMap g).length ≤ l.length * m
  | [], _ => by simp
  | a :: l, h => by
    rw [List.flatMap_cons, List.length_append, List.length_cons, Nat.succ_mul]
    have := h a (by simp)
    have := flat_le g m l fun b hb => h b (List.mem_cons_of_mem _ hb)
    omega
theorem right_p {a : Cmd} {f P r : List Fld} (h : rightCmd a = true) (hf : fieldsOf a.kind = some f) (hP : f = P ++ .p :: r) : a.parts.length ≤ 8 := by
  unfold rightCmd at h
  rw [hf] at h
  simp only [Bool.and_eq_true, List.all_eq_true] at h
  exact (parted_all (h.1.2 .p (by rw [hP]; simp))).1
theorem right_o {a : Cmd} {f P r : List Fld} (h : rightCmd a = true) (hf : fieldsOf a.kind = some f) (hP : f = P ++ .o :: r) : a.others.length ≤ 4 := by
  unfold rightCmd at h
  rw [hf] at h
  simp only [Bool.and_eq_true, List.all_eq_true] at h
  have := h.1.2 .o (by rw [hP]; simp)
  simp only [Cmd.ok, othersOk, Bool.and_eq_true, decide_eq_true_eq] at this
  exact this.1.1
theorem put_short_p {a : Cmd} {P : List Fld} (h : (headOf a ++ P.flatMap a.put).length ≤ 400) (hp : a.parts.length ≤ 8) (j : Nat) : (headOf a ++ P.flatMap a.put ++ be a.parts.length 1 ++ (a.parts.take j).flatMap putPart).length ≤ 600 := by
  have h2 := flat_le putPart 21 (a.parts.take j) fun p _ => by
    rw [part_len]; unfold ints; rw [List.length_map]; have := putCode_len p.f0.data.toList; omega
  have h3 : (a.parts.take j).length ≤ 8 := by rw [List.length_take]; omega
  rw [List.length_append, List.length_append, be_length]
  omega
theorem put_short_o {a : Cmd} {P : List Fld} (h : (headOf a ++ P.flatMap a.put).length ≤ 400) (hp : a.others.length ≤ 4) (j : Nat) : (headOf a ++ P.flatMap a.put ++ be a.others.length 1 ++ (a.others.take j).flatMap (fun s => ints (putCode s.data.toList))).length ≤ 600 := by
  have h2 := flat_le (fun s : ByteArray => ints (putCode s.data.toList)) 13 (a.others.take j) fun p _ => by
    unfold ints; rw [List.length_map]; exact putCode_len p.data.toList
  have h3 : (a.others.take j).length ≤ 4 := by rw [List.length_take]; omega
  rw [List.length_append, List.length_append, be_length]
  omega
theorem put_self {w0 w w' : World} {gc : Nat} {ys : List Int} (h : PutTo w0 w w' gc ys) : PutTo w0 w' w' gc ys := ⟨h.1, Lib.OthersKept.refl _ _ _, h.2.2⟩
theorem put_iter {w0 w : World} {gc gi : Nat} {s : ByteArray} {p : Nat} {ys : List Int} (h : PutTo w0 w w gc ys) (hi : w.heap[gi]? = some (.stringIter s p)) (hg : w0.heap.size ≤ gi) (q : Nat) : PutTo w0 (w.iterAt gi s q) (w.iterAt gi s q) gc ys := by
  obtain ⟨hb, _, v, hc, hr⟩ := h
  refine ⟨Lib.below_iterAt hb hg s q, Lib.OthersKept.refl _ _ _, v, ?_, ?_⟩
  · rw [Lib.iterAt_other _ _ _ _ _ (put_ne3 hc hi)]; exact hc
  · refine Kd.R_mono (Kd.R_move (Kd.R_bound hr) (fun k hk => Lib.iterAt_other _ _ _ _ _ ?_)) (fun _ _ => trivial)
    obtain ⟨_, _, _, t, _, cells, hcl⟩ := hk
    exact put_ne3 hcl hi
theorem put1_8 (n : Int) (w0 w : World) (gc : Nat) (xs : List Int) (hgc : w0.heap.size ≤ gc) (h : PutTo w0 w w gc xs) (hl : xs.length ≤ 1000000) :
    Calls Tryz.prog 80 #[.int .i64 n, .int .i64 8, .pointer (some ⟨gc, 0, none⟩)] w fun e w' => e = .returned undef ∧ PutTo w0 w w' gc (xs ++ be n 8) := put1_calls n 8 (.inr (.inr rfl)) w0 w gc xs hgc h hl
theorem put1_2 (n : Int) (w0 w : World) (gc : Nat) (xs : List Int) (hgc : w0.heap.size ≤ gc) (h : PutTo w0 w w gc xs) (hl : xs.length ≤ 1000000) :
    Calls Tryz.prog 80 #[.int .i64 n, .int .i64 2, .pointer (some ⟨gc, 0, none⟩)] w fun e w' => e = .returned undef ∧ PutTo w0 w w' gc (xs ++ be n 2) := put1_calls n 2 (.inr (.inl rfl)) w0 w gc xs hgc h hl
theorem put1_1 (n : Int) (w0 w : World) (gc : Nat) (xs : List Int) (hgc : w0.heap.size ≤ gc) (h : PutTo w0 w w gc xs) (hl : xs.length ≤ 1000000) :
    Calls Tryz.prog 80 #[.int .i64 n, .int .i64 1, .pointer (some ⟨gc, 0, none⟩)] w fun e w' => e = .returned undef ∧ PutTo w0 w w' gc (xs ++ be n 1) := put1_calls n 1 (.inl rfl) w0 w gc xs hgc h hl

theorem number8_calls (n : Int) (w : World) :
    Calls Tryz.prog 79 #[.int .i64 n, .int .i64 8] w fun e w' => ∃ v, e = .returned v ∧ Kd.R (Kd.int .u8) 5 w' w.heap.size (fun _ => True) v (be n 8) ∧ Below w.heap.size w w' := asknum_any n 8 (.inr (.inr rfl)) w

set_option maxRecDepth 100000 in
set_option maxHeartbeats 16000000 in
theorem put_calls (a : Cmd) (A9 : Option Addr) (c9 : Nat) (A10 : Option Addr) (c10 : Nat) (w : World) (hr9 : Kd.C A.k58 w A9 a.parts.length a.parts) (hc9 : a.parts.length ≤ c9) (hr10 : Kd.C Kd.string w A10 a.others.length a.others) (hc10 : a.others.length ≤ c10) (hf : a.fits) (hL : Laid13 w) :
    Calls Tryz.prog 32 #[.agg (cellsOf13 a A9 c9 A10 c10)] w fun e w' => ∃ v, e = .returned (.tuple #[v, .int .i64 (putCmd a).2]) ∧ Kd.R (Kd.int .u8) 5 w' w.heap.size (fun _ => True) v (putCmd a).1 ∧ Below w.heap.size w w' := by
  have HR9 := Lib.hid hr9
  have HC9 := Lib.hid hc9
  have HR10 := Lib.hid hr10
  have HC10 := Lib.hid hc10
  have HFits := Lib.hid hf
  have HL := Lib.hid hL
  have HAB := Lib.hid ((Below.refl w.heap.size w).alloc (Nat.le_refl _) (.cells (cellsOf13 a A9 c9 A10 c10) 38))
  have HRT : Hid (Calls Tryz.prog 33 #[.agg (cellsOf13 a A9 c9 A10 c10)] (w.alloc (.cells (cellsOf13 a A9 c9 A10 c10) 38)) fun e w' => e = .returned (.bool (rightCmd a)) ∧ Below (w.alloc (.cells (cellsOf13 a A9 c9 A10 c10) 38)).heap.size (w.alloc (.cells (cellsOf13 a A9 c9 A10 c10) 38)) w') :=
    Lib.hid (right_calls a A9 c9 A10 c10 _ (Kd.C_below hr9 HAB.out) hc9 (Kd.C_below hr10 HAB.out) hc10 hf (hL.below HAB.out))
  clear hr9 hc9 hr10 hc10 hf hL
  cases hrc : rightCmd a with
  | false =>
    have HPC : Hid (putCmd a = ([], 2)) := Lib.hid (by unfold putCmd; rw [hrc]; rfl)
    rw [hrc] at HRT
    clear hrc
    rw [HPC.out]
    go_enter Tryz.func32, Tryz.ntmps32
    go_wp2_with fail
    refine HRT.out.mono ?_
    rintro e w1 ⟨rfl, hb⟩
    have HB := Aside0.mk (HAB.out.trans (hb.mono HAB.out.size))
    clear hb
    go_wp2_with fail
    go_ret2
    exact ⟨_, rfl, Kd.R_nil _ _ _ _ _, HB.out⟩
  | true =>
    have HPC : Hid (putCmd a = (bytesOf13 a, 0)) := Lib.hid (by unfold putCmd; rw [hrc]; rfl)
    rw [hrc] at HRT
    rw [HPC.out]
    have HRC := Lib.hid hrc
    clear hrc
    go_enter Tryz.func32, Tryz.ntmps32
    go_wp2_with fail
    refine HRT.out.mono ?_
    rintro e W ⟨rfl, hb⟩
    have HB := Aside0.mk (HAB.out.trans (hb.mono HAB.out.size))
    have HA := Aside0.mk (blk_below (blk_new w (.cells (cellsOf13 a A9 c9 A10 c10) 38)) hb)
    clear hb
    go_wp2_with fail
    refine start_ (n := 9) (S := fun w' => w'.heap[w.heap.size]? = some (.cells (cellsOf13 a A9 c9 A10 c10) 38 (0, 0))) (ds := [8]) #[false, false, false, false, false, false, false, false, false] (by kernel_rfl) rfl rfl (HA.out) (fun hHeld => ?_); refine with_tabW put13.tab3 put13.bits3 (fun HT_ HW_ => ?_)
    have HB4 := Aside0.mk (below_drew1 HB.out)
    generalize W.drew = w4 at HB4 hHeld ⊢
    refine pure_ (i := 0) (N := some 17) (v := ?_) (a' := ?_) #[true, false, false, false, false, false, false, false, false] rfl rfl (any_of HT_.out (by kernel_rfl)) (fun _ _ _ h => h) (Or.inl ⟨by rfl, ?_⟩) ?_ ?_
    rotate_left
    · intro w'
      go_simp
      with_reducible rfl
    rotate_left
    · simp only [Act.put, List.setIfInBounds_toArray, List.set_cons_zero, List.set_cons_succ, i64_w, i32_w]
      rfl
    refine take_ (i := 1) (N := some 18) (v := ?_) (a' := ?_) #[true, true, false, false, false, false, false, false, false] rfl rfl (take_ofW HT_.out HW_.out (by kernel_rfl)) (fun _ _ _ h => h) (Or.inl ⟨by rfl, ?_⟩) hHeld ?_ ?_
    rotate_left
    · rintro w' hS
      have hc := blk_cell hS 0
      go_simp
      with_reducible rfl
    rotate_left
    · simp only [Act.put, List.setIfInBounds_toArray, List.set_cons_zero, List.set_cons_succ, i64_w, i32_w]
      rfl
    refine pure_ (i := 3) (N := some 20) (v := ?_) (a' := ?_) #[true, true, false, true, false, false, false, false, false] rfl rfl (any_of HT_.out (by kernel_rfl)) (fun _ _ _ h => h) (Or.inl ⟨by rfl, ?_⟩) ?_ ?_
    rotate_left
    · intro w'
      go_simp
      with_reducible rfl
    rotate_left
    · simp only [Act.put, List.setIfInBounds_toArray, List.set_cons_zero, List.set_cons_succ, i64_w, i32_w]
      rfl
    refine take_ (i := 4) (N := some 21) (v := ?_) (a' := ?_) #[true, true, false, true, true, false, false, false, false] rfl rfl (take_ofW HT_.out HW_.out (by kernel_rfl)) (fun _ _ _ h => h) (Or.inl ⟨by rfl, ?_⟩) hHeld ?_ ?_
    rotate_left
    · rintro w' hS
      have hc := blk_cell hS 1
      go_simp
      with_reducible rfl
    rotate_left
    · simp only [Act.put, List.setIfInBounds_toArray, List.set_cons_zero, List.set_cons_succ, i64_w, i32_w]
      rfl
    refine join_ (σ := Value × Value × Value × Nat) 1 #[true, true, true, true, true, true, true, true, false] (fun s => [(19, s.1), (22, s.2.1), (23, s.2.2.1), (4, .pointer (some ⟨s.2.2.2, 0, none⟩))]) (fun s w' => Below w.heap.size w w' ∧ w'.heap[w.heap.size]? = some (.cells (cellsOf13 a A9 c9 A10 c10) 38 (0, 0)) ∧ w.heap.size ≤ s.2.2.2 ∧ w'.heap[s.2.2.2]? = some (.cells #[.slice none 0 0] 22 (0, 0)) ∧ Kd.R (Kd.int .u8) 5 w' w.heap.size (fun _ => True) s.2.2.1 ([a.kind] ++ be a.req 8)) ?_ ?_
    rotate_left
    · intro hJ
      refine three_ (i := 2) (j := 5) (k := 7) (Ni := some 19) (Nj := some 22) (Nk := some 4) #[true, true, true, true, true, false, false, false, false] #[true, true, false, true, true, true, false, false, false] #[true, true, false, true, true, false, false, true, false] rfl rfl rfl rfl rfl rfl (by kernel_rfl) (by decide) (by decide) (by decide) (fun K hK => ?_) (fun K hK => ?_) (fun K hK => ?_)
      · skip
        refine Kd.R_lit_step (Kd.int .u8) w.heap.size 5 (by rfl) (N := 19) rfl (xs := [a.kind]) (inner := [.int .u8 a.kind]) (ok := fun _ => True) (okp := fun _ => True) (by go_simp; try rfl) (Kd.reps_scalar (enc := Value.int .u8) [a.kind]) (fun _ _ => trivial) trivial HB4.out HB4.out.size (by show (1 : Nat) ≤ _; decide) ?_
        intro v19 w5 hr hb hg _
        have HB5 := Aside0.mk hb
        have H19_5 := Aside0.mk hr
        have hHeldN := blk_grown hHeld hg (by simp)
        refine hK.out _ _ hHeldN (fun hHeld => ?_)
        clear hK K
        refine norm_ (a' := ?_) ?_ ?_
        rotate_left
        · show Act.put _ (some 19) _ = _
          simp only [Act.put, List.setIfInBounds_toArray, List.set_cons_zero, List.set_cons_succ, i64_w, i32_w]
          rfl
        refine two_ (i := 5) (j := 7) (Ni := some 22) (Nj := some 4) #[true, true, true, true, true, true, false, false, false] #[true, true, true, true, true, false, false, true, false] rfl rfl rfl rfl (by kernel_rfl) (by decide) (by decide) (fun K hK => ?_) (fun K hK => ?_)
        · skip
          refine goes_ Tryz.func79 (by kernel_rfl) rfl #[.int .i64 a.req, .int .i64 8] (by rfl) rfl rfl (by (try simp only [List.map_toArray, List.map_cons, List.map_nil]); first | done | rfl) ?_
          refine (number8_calls a.req w5).mono ?_
          rintro e w6 ⟨v22, rfl, hr, hb⟩
          refine ⟨_, rfl, ?_⟩
          have HB6 := Aside0.mk (HB5.out.trans (hb.mono HB5.out.size))
          have H22_6 := Aside0.mk (Kd.R_lower hr HB5.out.size)
          have hHeldN := blk_below hHeld hb
          have H19_6 := Aside0.mk (Kd.R_below H19_5.out hb)
          refine hK.out _ _ hHeldN (fun hHeld => ?_)
          clear hK K
          refine norm_ (a' := ?_) ?_ ?_
          rotate_left
          · show Act.put _ (some 22) _ = _
            simp only [Act.put, List.setIfInBounds_toArray, List.set_cons_zero, List.set_cons_succ, i64_w, i32_w]
            rfl
          refine two_ (i := 6) (j := 7) (Ni := some 23) (Nj := some 4) #[true, true, true, true, true, true, true, false, false] #[true, true, true, true, true, true, false, true, false] rfl rfl rfl rfl (by kernel_rfl) (by decide) (by decide) (fun K hK => ?_) (fun K hK => ?_)
          · skip
            obtain ⟨Au, cu, hue, _, hrd⟩ := Kd.R_reads H22_6.out
            subst hue
            refine Kd.R_append_rows_step (Kd.int .u8) w.heap.size (by rfl) _ _ 22 5 (.int .u8 0) 1 rfl Tryz.underlying22 info_u8 rfl (by decide) (by decide) v19 [a.kind] (be a.req 8) Au (be a.req 8).length cu (fun _ => True) (fun _ => False) (by rfl) (by rfl) H19_6.out (Rr := (Kd.int .u8).K w6) hrd (fun _ _ h => h) (fun _ h => h.elim) (fun _ _ => trivial) HB6.out HB6.out.size (by simp only [List.length_cons, List.length_nil, be_length]; decide) ?_
            intro v23 w7 hr hb hg _
            have HB7 := Aside0.mk hb
            have H23_7 := Aside0.mk hr
            have hHeldN := blk_grown hHeld hg (Kd.R_ne H19_6.out hHeld (by decide))
            refine hK.out _ _ hHeldN (fun hHeld => ?_)
            clear hK K
            refine norm_ (a' := ?_) ?_ ?_
            rotate_left
            · show Act.put _ (some 23) _ = _
              simp only [Act.put, List.setIfInBounds_toArray, List.set_cons_zero, List.set_cons_succ, i64_w, i32_w]
              rfl
            refine one_ (i := 7) (N := some 4) #[true, true, true, true, true, true, true, true, false] rfl rfl (one_of HT_.out (by kernel_rfl)) (by decide) (fun K hK => ?_)
            refine event_step (by rfl) (v := .pointer (some ⟨w7.heap.size, 0, none⟩)) (w1 := w7.alloc (.cells #[.slice none 0 0] 22)) (by go_simp; try rfl) ?_
            have HB8 := Aside0.mk (HB7.out.alloc HB7.out.size (.cells #[.slice none 0 0] 22))
            have HG8 := Aside0.mk (blk_new w7 (.cells #[.slice none 0 0] 22))
            have HGE := Aside0.mk HB7.out.size
            have hHeldN := blk_alloc hHeld (.cells #[.slice none 0 0] 22)
            have H23_8 := Aside0.mk (Kd.R_below H23_7.out ((Below.refl _ _).alloc (Nat.le_refl _) (.cells #[.slice none 0 0] 22)))
            generalize w7.alloc (.cells #[.slice none 0 0] 22) = w8 at HB8 HG8 hHeldN H23_8 ⊢
            generalize w7.heap.size = gc at HG8 HGE ⊢
            refine hK.out _ _ hHeldN (fun hHeld => ?_)
            clear hK K
            refine norm_ (a' := ?_) ?_ ?_
            rotate_left
            · show Act.put _ (some 4) _ = _
              simp only [Act.put, List.setIfInBounds_toArray, List.set_cons_zero, List.set_cons_succ, i64_w, i32_w]
              rfl
            exact norm_ (by first | (simp only [putAll, Act.put, List.setIfInBounds_toArray, List.set_cons_zero, List.set_cons_succ]; done) | (simp only [putAll, Act.put, List.setIfInBounds_toArray, List.set_cons_zero, List.set_cons_succ]; rfl)) (hJ (v19, _, v23, gc) _ ⟨HB8.out, hHeld, HGE.out, HG8.out, H23_8.out⟩)
          · skip
            refine event_step (by rfl) (v := .pointer (some ⟨w6.heap.size, 0, none⟩)) (w1 := w6.alloc (.cells #[.slice none 0 0] 22)) (by go_simp; try rfl) ?_
            have HB7 := Aside0.mk (HB6.out.alloc HB6.out.size (.cells #[.slice none 0 0] 22))
            have HG7 := Aside0.mk (blk_new w6 (.cells #[.slice none 0 0] 22))
            have HGE := Aside0.mk HB6.out.size
            have hHeldN := blk_alloc hHeld (.cells #[.slice none 0 0] 22)
            have H19_7 := Aside0.mk (Kd.R_below H19_6.out ((Below.refl _ _).alloc (Nat.le_refl _) (.cells #[.slice none 0 0] 22)))
            have H22_7 := Aside0.mk (Kd.R_below H22_6.out ((Below.refl _ _).alloc (Nat.le_refl _) (.cells #[.slice none 0 0] 22)))
            generalize w6.alloc (.cells #[.slice none 0 0] 22) = w7 at HB7 HG7 hHeldN H19_7 H22_7 ⊢
            generalize w6.heap.size = gc at HG7 HGE ⊢
            refine hK.out _ _ hHeldN (fun hHeld => ?_)
            clear hK K
            refine norm_ (a' := ?_) ?_ ?_
            rotate_left
            · show Act.put _ (some 4) _ = _
              simp only [Act.put, List.setIfInBounds_toArray, List.set_cons_zero, List.set_cons_succ, i64_w, i32_w]
              rfl
            refine one_ (i := 6) (N := some 23) #[true, true, true, true, true, true, true, true, false] rfl rfl (one_of HT_.out (by kernel_rfl)) (by decide) (fun K hK => ?_)
            obtain ⟨Au, cu, hue, _, hrd⟩ := Kd.R_reads H22_7.out
            subst hue
            refine Kd.R_append_rows_step (Kd.int .u8) w.heap.size (by rfl) _ _ 22 5 (.int .u8 0) 1 rfl Tryz.underlying22 info_u8 rfl (by decide) (by decide) v19 [a.kind] (be a.req 8) Au (be a.req 8).length cu (fun _ => True) (fun _ => False) (by rfl) (by rfl) H19_7.out (Rr := (Kd.int .u8).K w7) hrd (fun _ _ h => h) (fun _ h => h.elim) (fun _ _ => trivial) HB7.out HB7.out.size (by simp only [List.length_cons, List.length_nil, be_length]; decide) ?_
            intro v23 w8 hr hb hg _
            have HB8 := Aside0.mk hb
            have H23_8 := Aside0.mk hr
            have hHeldN := blk_grown hHeld hg (Kd.R_ne H19_7.out hHeld (by decide))
            have HG8 := Aside0.mk (blk_grown HG7.out hg (Kd.R_ne H19_7.out HG7.out (by decide)))
            refine hK.out _ _ hHeldN (fun hHeld => ?_)
            clear hK K
            refine norm_ (a' := ?_) ?_ ?_
            rotate_left
            · show Act.put _ (some 23) _ = _
              simp only [Act.put, List.setIfInBounds_toArray, List.set_cons_zero, List.set_cons_succ, i64_w, i32_w]
              rfl
            exact norm_ (by first | (simp only [putAll, Act.put, List.setIfInBounds_toArray, List.set_cons_zero, List.set_cons_succ]; done) | (simp only [putAll, Act.put, List.setIfInBounds_toArray, List.set_cons_zero, List.set_cons_succ]; rfl)) (hJ (v19, _, v23, gc) _ ⟨HB8.out, hHeld, HGE.out, HG8.out, H23_8.out⟩)
        · skip
          refine event_step (by rfl) (v := .pointer (some ⟨w5.heap.size, 0, none⟩)) (w1 := w5.alloc (.cells #[.slice none 0 0] 22)) (by go_simp; try rfl) ?_
          have HB6 := Aside0.mk (HB5.out.alloc HB5.out.size (.cells #[.slice none 0 0] 22))
          have HG6 := Aside0.mk (blk_new w5 (.cells #[.slice none 0 0] 22))
          have HGE := Aside0.mk HB5.out.size
          have hHeldN := blk_alloc hHeld (.cells #[.slice none 0 0] 22)
          have H19_6 := Aside0.mk (Kd.R_below H19_5.out ((Below.refl _ _).alloc (Nat.le_refl _) (.cells #[.slice none 0 0] 22)))
          generalize w5.alloc (.cells #[.slice none 0 0] 22) = w6 at HB6 HG6 hHeldN H19_6 ⊢
          generalize w5.heap.size = gc at HG6 HGE ⊢
          refine hK.out _ _ hHeldN (fun hHeld => ?_)
          clear hK K
          refine norm_ (a' := ?_) ?_ ?_
          rotate_left
          · show Act.put _ (some 4) _ = _
            simp only [Act.put, List.setIfInBounds_toArray, List.set_cons_zero, List.set_cons_succ, i64_w, i32_w]
            rfl
          refine one_ (i := 5) (N := some 22) #[true, true, true, true, true, true, false, true, false] rfl rfl (one_of HT_.out (by kernel_rfl)) (by decide) (fun K hK => ?_)
          refine goes_ Tryz.func79 (by kernel_rfl) rfl #[.int .i64 a.req, .int .i64 8] (by rfl) rfl rfl (by (try simp only [List.map_toArray, List.map_cons, List.map_nil]); first | done | rfl) ?_
          refine (number8_calls a.req w6).mono ?_
          rintro e w7 ⟨v22, rfl, hr, hb⟩
          refine ⟨_, rfl, ?_⟩
          have HB7 := Aside0.mk (HB6.out.trans (hb.mono HB6.out.size))
          have H22_7 := Aside0.mk (Kd.R_lower hr HB6.out.size)
          have hHeldN := blk_below hHeld hb
          have HG7 := Aside0.mk (blk_below HG6.out hb)
          have H19_7 := Aside0.mk (Kd.R_below H19_6.out hb)
          refine hK.out _ _ hHeldN (fun hHeld => ?_)
          clear hK K
          refine norm_ (a' := ?_) ?_ ?_
          rotate_left
          · show Act.put _ (some 22) _ = _
            simp only [Act.put, List.setIfInBounds_toArray, List.set_cons_zero, List.set_cons_succ, i64_w, i32_w]
            rfl
          refine one_ (i := 6) (N := some 23) #[true, true, true, true, true, true, true, true, false] rfl rfl (one_of HT_.out (by kernel_rfl)) (by decide) (fun K hK => ?_)
          obtain ⟨Au, cu, hue, _, hrd⟩ := Kd.R_reads H22_7.out
          subst hue
          refine Kd.R_append_rows_step (Kd.int .u8) w.heap.size (by rfl) _ _ 22 5 (.int .u8 0) 1 rfl Tryz.underlying22 info_u8 rfl (by decide) (by decide) v19 [a.kind] (be a.req 8) Au (be a.req 8).length cu (fun _ => True) (fun _ => False) (by rfl) (by rfl) H19_7.out (Rr := (Kd.int .u8).K w7) hrd (fun _ _ h => h) (fun _ h => h.elim) (fun _ _ => trivial) HB7.out HB7.out.size (by simp only [List.length_cons, List.length_nil, be_length]; decide) ?_
          intro v23 w8 hr hb hg _
          have HB8 := Aside0.mk hb
          have H23_8 := Aside0.mk hr
          have hHeldN := blk_grown hHeld hg (Kd.R_ne H19_7.out hHeld (by decide))
          have HG8 := Aside0.mk (blk_grown HG7.out hg (Kd.R_ne H19_7.out HG7.out (by decide)))
          refine hK.out _ _ hHeldN (fun hHeld => ?_)
          clear hK K
          refine norm_ (a' := ?_) ?_ ?_
          rotate_left
          · show Act.put _ (some 23) _ = _
            simp only [Act.put, List.setIfInBounds_toArray, List.set_cons_zero, List.set_cons_succ, i64_w, i32_w]
            rfl
          exact norm_ (by first | (simp only [putAll, Act.put, List.setIfInBounds_toArray, List.set_cons_zero, List.set_cons_succ]; done) | (simp only [putAll, Act.put, List.setIfInBounds_toArray, List.set_cons_zero, List.set_cons_succ]; rfl)) (hJ (v19, _, v23, gc) _ ⟨HB8.out, hHeld, HGE.out, HG8.out, H23_8.out⟩)
      · skip
        refine goes_ Tryz.func79 (by kernel_rfl) rfl #[.int .i64 a.req, .int .i64 8] (by rfl) rfl rfl (by (try simp only [List.map_toArray, List.map_cons, List.map_nil]); first | done | rfl) ?_
        refine (number8_calls a.req w4).mono ?_
        rintro e w5 ⟨v22, rfl, hr, hb⟩
        refine ⟨_, rfl, ?_⟩
        have HB5 := Aside0.mk (HB4.out.trans (hb.mono HB4.out.size))
        have H22_5 := Aside0.mk (Kd.R_lower hr HB4.out.size)
        have hHeldN := blk_below hHeld hb
        refine hK.out _ _ hHeldN (fun hHeld => ?_)
        clear hK K
        refine norm_ (a' := ?_) ?_ ?_
        rotate_left
        · show Act.put _ (some 22) _ = _
          simp only [Act.put, List.setIfInBounds_toArray, List.set_cons_zero, List.set_cons_succ, i64_w, i32_w]
          rfl
        refine two_ (i := 2) (j := 7) (Ni := some 19) (Nj := some 4) #[true, true, true, true, true, true, false, false, false] #[true, true, false, true, true, true, false, true, false] rfl rfl rfl rfl (by kernel_rfl) (by decide) (by decide) (fun K hK => ?_) (fun K hK => ?_)
        · skip
          refine Kd.R_lit_step (Kd.int .u8) w.heap.size 5 (by rfl) (N := 19) rfl (xs := [a.kind]) (inner := [.int .u8 a.kind]) (ok := fun _ => True) (okp := fun _ => True) (by go_simp; try rfl) (Kd.reps_scalar (enc := Value.int .u8) [a.kind]) (fun _ _ => trivial) trivial HB5.out HB5.out.size (by show (1 : Nat) ≤ _; decide) ?_
          intro v19 w6 hr hb hg _
          have HB6 := Aside0.mk hb
          have H19_6 := Aside0.mk hr
          have hHeldN := blk_grown hHeld hg (by simp)
          have H22_6 := Aside0.mk (Kd.R_grown H22_5.out hg (fun _ _ => by simp))
          refine hK.out _ _ hHeldN (fun hHeld => ?_)
          clear hK K
          refine norm_ (a' := ?_) ?_ ?_
          rotate_left
          · show Act.put _ (some 19) _ = _
            simp only [Act.put, List.setIfInBounds_toArray, List.set_cons_zero, List.set_cons_succ, i64_w, i32_w]
            rfl
          refine two_ (i := 6) (j := 7) (Ni := some 23) (Nj := some 4) #[true, true, true, true, true, true, true, false, false] #[true, true, true, true, true, true, false, true, false] rfl rfl rfl rfl (by kernel_rfl) (by decide) (by decide) (fun K hK => ?_) (fun K hK => ?_)
          · skip
            obtain ⟨Au, cu, hue, _, hrd⟩ := Kd.R_reads H22_6.out
            subst hue
            refine Kd.R_append_rows_step (Kd.int .u8) w.heap.size (by rfl) _ _ 22 5 (.int .u8 0) 1 rfl Tryz.underlying22 info_u8 rfl (by decide) (by decide) v19 [a.kind] (be a.req 8) Au (be a.req 8).length cu (fun _ => True) (fun _ => False) (by rfl) (by rfl) H19_6.out (Rr := (Kd.int .u8).K w6) hrd (fun _ _ h => h) (fun _ h => h.elim) (fun _ _ => trivial) HB6.out HB6.out.size (by simp only [List.length_cons, List.length_nil, be_length]; decide) ?_
            intro v23 w7 hr hb hg _
            have HB7 := Aside0.mk hb
            have H23_7 := Aside0.mk hr
            have hHeldN := blk_grown hHeld hg (Kd.R_ne H19_6.out hHeld (by decide))
            refine hK.out _ _ hHeldN (fun hHeld => ?_)
            clear hK K
            refine norm_ (a' := ?_) ?_ ?_
            rotate_left
            · show Act.put _ (some 23) _ = _
              simp only [Act.put, List.setIfInBounds_toArray, List.set_cons_zero, List.set_cons_succ, i64_w, i32_w]
              rfl
            refine one_ (i := 7) (N := some 4) #[true, true, true, true, true, true, true, true, false] rfl rfl (one_of HT_.out (by kernel_rfl)) (by decide) (fun K hK => ?_)
            refine event_step (by rfl) (v := .pointer (some ⟨w7.heap.size, 0, none⟩)) (w1 := w7.alloc (.cells #[.slice none 0 0] 22)) (by go_simp; try rfl) ?_
            have HB8 := Aside0.mk (HB7.out.alloc HB7.out.size (.cells #[.slice none 0 0] 22))
            have HG8 := Aside0.mk (blk_new w7 (.cells #[.slice none 0 0] 22))
            have HGE := Aside0.mk HB7.out.size
            have hHeldN := blk_alloc hHeld (.cells #[.slice none 0 0] 22)
            have H23_8 := Aside0.mk (Kd.R_below H23_7.out ((Below.refl _ _).alloc (Nat.le_refl _) (.cells #[.slice none 0 0] 22)))
            generalize w7.alloc (.cells #[.slice none 0 0] 22) = w8 at HB8 HG8 hHeldN H23_8 ⊢
            generalize w7.heap.size = gc at HG8 HGE ⊢
            refine hK.out _ _ hHeldN (fun hHeld => ?_)
            clear hK K
            refine norm_ (a' := ?_) ?_ ?_
            rotate_left
            · show Act.put _ (some 4) _ = _
              simp only [Act.put, List.setIfInBounds_toArray, List.set_cons_zero, List.set_cons_succ, i64_w, i32_w]
              rfl
            exact norm_ (by first | (simp only [putAll, Act.put, List.setIfInBounds_toArray, List.set_cons_zero, List.set_cons_succ]; done) | (simp only [putAll, Act.put, List.setIfInBounds_toArray, List.set_cons_zero, List.set_cons_succ]; rfl)) (hJ (v19, _, v23, gc) _ ⟨HB8.out, hHeld, HGE.out, HG8.out, H23_8.out⟩)
          · skip
            refine event_step (by rfl) (v := .pointer (some ⟨w6.heap.size, 0, none⟩)) (w1 := w6.alloc (.cells #[.slice none 0 0] 22)) (by go_simp; try rfl) ?_
            have HB7 := Aside0.mk (HB6.out.alloc HB6.out.size (.cells #[.slice none 0 0] 22))
            have HG7 := Aside0.mk (blk_new w6 (.cells #[.slice none 0 0] 22))
            have HGE := Aside0.mk HB6.out.size
            have hHeldN := blk_alloc hHeld (.cells #[.slice none 0 0] 22)
            have H19_7 := Aside0.mk (Kd.R_below H19_6.out ((Below.refl _ _).alloc (Nat.le_refl _) (.cells #[.slice none 0 0] 22)))
            have H22_7 := Aside0.mk (Kd.R_below H22_6.out ((Below.refl _ _).alloc (Nat.le_refl _) (.cells #[.slice none 0 0] 22)))
            generalize w6.alloc (.cells #[.slice none 0 0] 22) = w7 at HB7 HG7 hHeldN H19_7 H22_7 ⊢
            generalize w6.heap.size = gc at HG7 HGE ⊢
            refine hK.out _ _ hHeldN (fun hHeld => ?_)
            clear hK K
            refine norm_ (a' := ?_) ?_ ?_
            rotate_left
            · show Act.put _ (some 4) _ = _
              simp only [Act.put, List.setIfInBounds_toArray, List.set_cons_zero, List.set_cons_succ, i64_w, i32_w]
              rfl
            refine one_ (i := 6) (N := some 23) #[true, true, true, true, true, true, true, true, false] rfl rfl (one_of HT_.out (by kernel_rfl)) (by decide) (fun K hK => ?_)
            obtain ⟨Au, cu, hue, _, hrd⟩ := Kd.R_reads H22_7.out
            subst hue
            refine Kd.R_append_rows_step (Kd.int .u8) w.heap.size (by rfl) _ _ 22 5 (.int .u8 0) 1 rfl Tryz.underlying22 info_u8 rfl (by decide) (by decide) v19 [a.kind] (be a.req 8) Au (be a.req 8).length cu (fun _ => True) (fun _ => False) (by rfl) (by rfl) H19_7.out (Rr := (Kd.int .u8).K w7) hrd (fun _ _ h => h) (fun _ h => h.elim) (fun _ _ => trivial) HB7.out HB7.out.size (by simp only [List.length_cons, List.length_nil, be_length]; decide) ?_
            intro v23 w8 hr hb hg _
            have HB8 := Aside0.mk hb
            have H23_8 := Aside0.mk hr
            have hHeldN := blk_grown hHeld hg (Kd.R_ne H19_7.out hHeld (by decide))
            have HG8 := Aside0.mk (blk_grown HG7.out hg (Kd.R_ne H19_7.out HG7.out (by decide)))
            refine hK.out _ _ hHeldN (fun hHeld => ?_)
            clear hK K
            refine norm_ (a' := ?_) ?_ ?_
            rotate_left
            · show Act.put _ (some 23) _ = _
              simp only [Act.put, List.setIfInBounds_toArray, List.set_cons_zero, List.set_cons_succ, i64_w, i32_w]
              rfl
            exact norm_ (by first | (simp only [putAll, Act.put, List.setIfInBounds_toArray, List.set_cons_zero, List.set_cons_succ]; done) | (simp only [putAll, Act.put, List.setIfInBounds_toArray, List.set_cons_zero, List.set_cons_succ]; rfl)) (hJ (v19, _, v23, gc) _ ⟨HB8.out, hHeld, HGE.out, HG8.out, H23_8.out⟩)
        · skip
          refine event_step (by rfl) (v := .pointer (some ⟨w5.heap.size, 0, none⟩)) (w1 := w5.alloc (.cells #[.slice none 0 0] 22)) (by go_simp; try rfl) ?_
          have HB6 := Aside0.mk (HB5.out.alloc HB5.out.size (.cells #[.slice none 0 0] 22))
          have HG6 := Aside0.mk (blk_new w5 (.cells #[.slice none 0 0] 22))
          have HGE := Aside0.mk HB5.out.size
          have hHeldN := blk_alloc hHeld (.cells #[.slice none 0 0] 22)
          have H22_6 := Aside0.mk (Kd.R_below H22_5.out ((Below.refl _ _).alloc (Nat.le_refl _) (.cells #[.slice none 0 0] 22)))
          generalize w5.alloc (.cells #[.slice none 0 0] 22) = w6 at HB6 HG6 hHeldN H22_6 ⊢
          generalize w5.heap.size = gc at HG6 HGE ⊢
          refine hK.out _ _ hHeldN (fun hHeld => ?_)
          clear hK K
          refine norm_ (a' := ?_) ?_ ?_
          rotate_left
          · show Act.put _ (some 4) _ = _
            simp only [Act.put, List.setIfInBounds_toArray, List.set_cons_zero, List.set_cons_succ, i64_w, i32_w]
            rfl
          refine one_ (i := 2) (N := some 19) #[true, true, true, true, true, true, false, true, false] rfl rfl (one_of HT_.out (by kernel_rfl)) (by decide) (fun K hK => ?_)
          refine Kd.R_lit_step (Kd.int .u8) w.heap.size 5 (by rfl) (N := 19) rfl (xs := [a.kind]) (inner := [.int .u8 a.kind]) (ok := fun _ => True) (okp := fun _ => True) (by go_simp; try rfl) (Kd.reps_scalar (enc := Value.int .u8) [a.kind]) (fun _ _ => trivial) trivial HB6.out HB6.out.size (by show (1 : Nat) ≤ _; decide) ?_
          intro v19 w7 hr hb hg _
          have HB7 := Aside0.mk hb
          have H19_7 := Aside0.mk hr
          have hHeldN := blk_grown hHeld hg (by simp)
          have HG7 := Aside0.mk (blk_grown HG6.out hg (by simp))
          have H22_7 := Aside0.mk (Kd.R_grown H22_6.out hg (fun _ _ => by simp))
          refine hK.out _ _ hHeldN (fun hHeld => ?_)
          clear hK K
          refine norm_ (a' := ?_) ?_ ?_
          rotate_left
          · show Act.put _ (some 19) _ = _
            simp only [Act.put, List.setIfInBounds_toArray, List.set_cons_zero, List.set_cons_succ, i64_w, i32_w]
            rfl
          refine one_ (i := 6) (N := some 23) #[true, true, true, true, true, true, true, true, false] rfl rfl (one_of HT_.out (by kernel_rfl)) (by decide) (fun K hK => ?_)
          obtain ⟨Au, cu, hue, _, hrd⟩ := Kd.R_reads H22_7.out
          subst hue
          refine Kd.R_append_rows_step (Kd.int .u8) w.heap.size (by rfl) _ _ 22 5 (.int .u8 0) 1 rfl Tryz.underlying22 info_u8 rfl (by decide) (by decide) v19 [a.kind] (be a.req 8) Au (be a.req 8).length cu (fun _ => True) (fun _ => False) (by rfl) (by rfl) H19_7.out (Rr := (Kd.int .u8).K w7) hrd (fun _ _ h => h) (fun _ h => h.elim) (fun _ _ => trivial) HB7.out HB7.out.size (by simp only [List.length_cons, List.length_nil, be_length]; decide) ?_
          intro v23 w8 hr hb hg _
          have HB8 := Aside0.mk hb
          have H23_8 := Aside0.mk hr
          have hHeldN := blk_grown hHeld hg (Kd.R_ne H19_7.out hHeld (by decide))
          have HG8 := Aside0.mk (blk_grown HG7.out hg (Kd.R_ne H19_7.out HG7.out (by decide)))
          refine hK.out _ _ hHeldN (fun hHeld => ?_)
          clear hK K
          refine norm_ (a' := ?_) ?_ ?_
          rotate_left
          · show Act.put _ (some 23) _ = _
            simp only [Act.put, List.setIfInBounds_toArray, List.set_cons_zero, List.set_cons_succ, i64_w, i32_w]
            rfl
          exact norm_ (by first | (simp only [putAll, Act.put, List.setIfInBounds_toArray, List.set_cons_zero, List.set_cons_succ]; done) | (simp only [putAll, Act.put, List.setIfInBounds_toArray, List.set_cons_zero, List.set_cons_succ]; rfl)) (hJ (v19, _, v23, gc) _ ⟨HB8.out, hHeld, HGE.out, HG8.out, H23_8.out⟩)
      · skip
        refine event_step (by rfl) (v := .pointer (some ⟨w4.heap.size, 0, none⟩)) (w1 := w4.alloc (.cells #[.slice none 0 0] 22)) (by go_simp; try rfl) ?_
        have HB5 := Aside0.mk (HB4.out.alloc HB4.out.size (.cells #[.slice none 0 0] 22))
        have HG5 := Aside0.mk (blk_new w4 (.cells #[.slice none 0 0] 22))
        have HGE := Aside0.mk HB4.out.size
        have hHeldN := blk_alloc hHeld (.cells #[.slice none 0 0] 22)
        generalize w4.alloc (.cells #[.slice none 0 0] 22) = w5 at HB5 HG5 hHeldN ⊢
        generalize w4.heap.size = gc at HG5 HGE ⊢
        refine hK.out _ _ hHeldN (fun hHeld => ?_)
        clear hK K
        refine norm_ (a' := ?_) ?_ ?_
        rotate_left
        · show Act.put _ (some 4) _ = _
          simp only [Act.put, List.setIfInBounds_toArray, List.set_cons_zero, List.set_cons_succ, i64_w, i32_w]
          rfl
        refine two_ (i := 2) (j := 5) (Ni := some 19) (Nj := some 22) #[true, true, true, true, true, false, false, true, false] #[true, true, false, true, true, true, false, true, false] rfl rfl rfl rfl (by kernel_rfl) (by decide) (by decide) (fun K hK => ?_) (fun K hK => ?_)
        · skip
          refine Kd.R_lit_step (Kd.int .u8) w.heap.size 5 (by rfl) (N := 19) rfl (xs := [a.kind]) (inner := [.int .u8 a.kind]) (ok := fun _ => True) (okp := fun _ => True) (by go_simp; try rfl) (Kd.reps_scalar (enc := Value.int .u8) [a.kind]) (fun _ _ => trivial) trivial HB5.out HB5.out.size (by show (1 : Nat) ≤ _; decide) ?_
          intro v19 w6 hr hb hg _
          have HB6 := Aside0.mk hb
          have H19_6 := Aside0.mk hr
          have hHeldN := blk_grown hHeld hg (by simp)
          have HG6 := Aside0.mk (blk_grown HG5.out hg (by simp))
          refine hK.out _ _ hHeldN (fun hHeld => ?_)
          clear hK K
          refine norm_ (a' := ?_) ?_ ?_
          rotate_left
          · show Act.put _ (some 19) _ = _
            simp only [Act.put, List.setIfInBounds_toArray, List.set_cons_zero, List.set_cons_succ, i64_w, i32_w]
            rfl
          refine one_ (i := 5) (N := some 22) #[true, true, true, true, true, true, false, true, false] rfl rfl (one_of HT_.out (by kernel_rfl)) (by decide) (fun K hK => ?_)
          refine goes_ Tryz.func79 (by kernel_rfl) rfl #[.int .i64 a.req, .int .i64 8] (by rfl) rfl rfl (by (try simp only [List.map_toArray, List.map_cons, List.map_nil]); first | done | rfl) ?_
          refine (number8_calls a.req w6).mono ?_
          rintro e w7 ⟨v22, rfl, hr, hb⟩
          refine ⟨_, rfl, ?_⟩
          have HB7 := Aside0.mk (HB6.out.trans (hb.mono HB6.out.size))
          have H22_7 := Aside0.mk (Kd.R_lower hr HB6.out.size)
          have hHeldN := blk_below hHeld hb
          have HG7 := Aside0.mk (blk_below HG6.out hb)
          have H19_7 := Aside0.mk (Kd.R_below H19_6.out hb)
          refine hK.out _ _ hHeldN (fun hHeld => ?_)
          clear hK K
          refine norm_ (a' := ?_) ?_ ?_
          rotate_left
          · show Act.put _ (some 22) _ = _
            simp only [Act.put, List.setIfInBounds_toArray, List.set_cons_zero, List.set_cons_succ, i64_w, i32_w]
            rfl
          refine one_ (i := 6) (N := some 23) #[true, true, true, true, true, true, true, true, false] rfl rfl (one_of HT_.out (by kernel_rfl)) (by decide) (fun K hK => ?_)
          obtain ⟨Au, cu, hue, _, hrd⟩ := Kd.R_reads H22_7.out
          subst hue
          refine Kd.R_append_rows_step (Kd.int .u8) w.heap.size (by rfl) _ _ 22 5 (.int .u8 0) 1 rfl Tryz.underlying22 info_u8 rfl (by decide) (by decide) v19 [a.kind] (be a.req 8) Au (be a.req 8).length cu (fun _ => True) (fun _ => False) (by rfl) (by rfl) H19_7.out (Rr := (Kd.int .u8).K w7) hrd (fun _ _ h => h) (fun _ h => h.elim) (fun _ _ => trivial) HB7.out HB7.out.size (by simp only [List.length_cons, List.length_nil, be_length]; decide) ?_
          intro v23 w8 hr hb hg _
          have HB8 := Aside0.mk hb
          have H23_8 := Aside0.mk hr
          have hHeldN := blk_grown hHeld hg (Kd.R_ne H19_7.out hHeld (by decide))
          have HG8 := Aside0.mk (blk_grown HG7.out hg (Kd.R_ne H19_7.out HG7.out (by decide)))
          refine hK.out _ _ hHeldN (fun hHeld => ?_)
          clear hK K
          refine norm_ (a' := ?_) ?_ ?_
          rotate_left
          · show Act.put _ (some 23) _ = _
            simp only [Act.put, List.setIfInBounds_toArray, List.set_cons_zero, List.set_cons_succ, i64_w, i32_w]
            rfl
          exact norm_ (by first | (simp only [putAll, Act.put, List.setIfInBounds_toArray, List.set_cons_zero, List.set_cons_succ]; done) | (simp only [putAll, Act.put, List.setIfInBounds_toArray, List.set_cons_zero, List.set_cons_succ]; rfl)) (hJ (v19, _, v23, gc) _ ⟨HB8.out, hHeld, HGE.out, HG8.out, H23_8.out⟩)
        · skip
          refine goes_ Tryz.func79 (by kernel_rfl) rfl #[.int .i64 a.req, .int .i64 8] (by rfl) rfl rfl (by (try simp only [List.map_toArray, List.map_cons, List.map_nil]); first | done | rfl) ?_
          refine (number8_calls a.req w5).mono ?_
          rintro e w6 ⟨v22, rfl, hr, hb⟩
          refine ⟨_, rfl, ?_⟩
          have HB6 := Aside0.mk (HB5.out.trans (hb.mono HB5.out.size))
          have H22_6 := Aside0.mk (Kd.R_lower hr HB5.out.size)
          have hHeldN := blk_below hHeld hb
          have HG6 := Aside0.mk (blk_below HG5.out hb)
          refine hK.out _ _ hHeldN (fun hHeld => ?_)
          clear hK K
          refine norm_ (a' := ?_) ?_ ?_
          rotate_left
          · show Act.put _ (some 22) _ = _
            simp only [Act.put, List.setIfInBounds_toArray, List.set_cons_zero, List.set_cons_succ, i64_w, i32_w]
            rfl
          refine one_ (i := 2) (N := some 19) #[true, true, true, true, true, true, false, true, false] rfl rfl (one_of HT_.out (by kernel_rfl)) (by decide) (fun K hK => ?_)
          refine Kd.R_lit_step (Kd.int .u8) w.heap.size 5 (by rfl) (N := 19) rfl (xs := [a.kind]) (inner := [.int .u8 a.kind]) (ok := fun _ => True) (okp := fun _ => True) (by go_simp; try rfl) (Kd.reps_scalar (enc := Value.int .u8) [a.kind]) (fun _ _ => trivial) trivial HB6.out HB6.out.size (by show (1 : Nat) ≤ _; decide) ?_
          intro v19 w7 hr hb hg _
          have HB7 := Aside0.mk hb
          have H19_7 := Aside0.mk hr
          have hHeldN := blk_grown hHeld hg (by simp)
          have HG7 := Aside0.mk (blk_grown HG6.out hg (by simp))
          have H22_7 := Aside0.mk (Kd.R_grown H22_6.out hg (fun _ _ => by simp))
          refine hK.out _ _ hHeldN (fun hHeld => ?_)
          clear hK K
          refine norm_ (a' := ?_) ?_ ?_
          rotate_left
          · show Act.put _ (some 19) _ = _
            simp only [Act.put, List.setIfInBounds_toArray, List.set_cons_zero, List.set_cons_succ, i64_w, i32_w]
            rfl
          refine one_ (i := 6) (N := some 23) #[true, true, true, true, true, true, true, true, false] rfl rfl (one_of HT_.out (by kernel_rfl)) (by decide) (fun K hK => ?_)
          obtain ⟨Au, cu, hue, _, hrd⟩ := Kd.R_reads H22_7.out
          subst hue
          refine Kd.R_append_rows_step (Kd.int .u8) w.heap.size (by rfl) _ _ 22 5 (.int .u8 0) 1 rfl Tryz.underlying22 info_u8 rfl (by decide) (by decide) v19 [a.kind] (be a.req 8) Au (be a.req 8).length cu (fun _ => True) (fun _ => False) (by rfl) (by rfl) H19_7.out (Rr := (Kd.int .u8).K w7) hrd (fun _ _ h => h) (fun _ h => h.elim) (fun _ _ => trivial) HB7.out HB7.out.size (by simp only [List.length_cons, List.length_nil, be_length]; decide) ?_
          intro v23 w8 hr hb hg _
          have HB8 := Aside0.mk hb
          have H23_8 := Aside0.mk hr
          have hHeldN := blk_grown hHeld hg (Kd.R_ne H19_7.out hHeld (by decide))
          have HG8 := Aside0.mk (blk_grown HG7.out hg (Kd.R_ne H19_7.out HG7.out (by decide)))
          refine hK.out _ _ hHeldN (fun hHeld => ?_)
          clear hK K
          refine norm_ (a' := ?_) ?_ ?_
          rotate_left
          · show Act.put _ (some 23) _ = _
            simp only [Act.put, List.setIfInBounds_toArray, List.set_cons_zero, List.set_cons_succ, i64_w, i32_w]
            rfl
          exact norm_ (by first | (simp only [putAll, Act.put, List.setIfInBounds_toArray, List.set_cons_zero, List.set_cons_succ]; done) | (simp only [putAll, Act.put, List.setIfInBounds_toArray, List.set_cons_zero, List.set_cons_succ]; rfl)) (hJ (v19, _, v23, gc) _ ⟨HB8.out, hHeld, HGE.out, HG8.out, H23_8.out⟩)
    rintro ⟨v19, v22, v23, gc⟩ w5 ⟨hb, ha, hge, hg, hr⟩
    obtain ⟨A1, c1, hv1⟩ := Kd.R_slice hr
    simp only at hv1 hge hg hr
    subst hv1
    refine norm_ (a' := ?_) ?_ ?_
    rotate_left
    · simp only [putAll, Act.put, List.setIfInBounds_toArray, List.set_cons_zero, List.set_cons_succ]
      rfl
    have HB9 := Aside0.mk (hb.setCell (p := ⟨gc, 0, none⟩) hge (.slice A1 ([a.kind] ++ be a.req 8).length c1))
    have hne : w.heap.size ≠ gc := by
      intro e_
      rw [← e_, ha] at hg
      injection hg with hg
      injection hg with _ hg
      exact absurd hg (by decide)
    have HA9 := Aside0.mk (blk_far ha (p := ⟨gc, 0, none⟩) hne (.slice A1 ([a.kind] ++ be a.req 8).length c1))
    have HC9 := Aside0.mk (blk_put hg 0 (.slice A1 ([a.kind] ++ be a.req 8).length c1) rfl)
    have HR9 := Aside0.mk (Kd.R_set hr hg (by decide) 0 (.slice A1 ([a.kind] ++ be a.req 8).length c1))
    have HGE := Lib.hid hge
    have hcell : w5.cell? ⟨gc, 0, none⟩ = some (.slice none 0 0) := blk_cell hg 0
    have hfr := blk_frozen hg 0
    refine last_ (i := 8) (N := none) #[true, true, true, true, true, true, true, true, true] rfl rfl (one_of HT_.out (by kernel_rfl)) (by decide) (fun K hK => ?_)
    refine skip_ (by rfl) rfl (w1 := w5.setCell ⟨gc, 0, none⟩ (.slice A1 ([a.kind] ++ be a.req 8).length c1)) (by go_simp) ?_
    refine hK.out _ _ ?_
    refine done_ (done_of HT_.out (by kernel_rfl)) ?_
    clear hb ha hg hr hne hcell hfr hge
    generalize w5.setCell ⟨gc, 0, none⟩ (.slice A1 ([a.kind] ++ be a.req 8).length c1) = w9 at HB9 HA9 HC9 HR9 ⊢
    have hmf : ∀ (fn : Fn) (first cap : Array Value) (w : World), (Instr.makeFunc fn first cap).run Tryz.prog w = .ok (.func fn first cap) w := fun _ _ _ _ => rfl
    cases hfo : fieldsOf a.kind with
    | none => exact absurd HRC.out (by unfold rightCmd; rw [hfo]; exact Bool.false_ne_true)
    | some f =>
      have HFO := Lib.hid hfo
      have HTX : Hid ((textOf a.kind).data.toList = f.map Fld.byte) := Lib.hid (by unfold textOf fieldsIn; rw [hfo]; simp)
      have HF : Hid (∀ w, Laid13 w → Calls Tryz.prog 81 #[.int .u8 a.kind] w fun e w' => e = .returned (.tuple #[.string (textOf a.kind), .bool (fieldsOf a.kind).isSome]) ∧ Below w.heap.size w w') := Lib.hid fun w hL => fields_any a.kind HFits.out.1.1.1 HFits.out.1.1.2 w hL
      rw [hfo, Option.isSome_some] at HF
      clear hfo
      generalize textOf a.kind = s at HTX HF
      have k0 : w9.cell? ⟨w.heap.size, 0, none⟩ = some (.int .u8 a.kind) := blk_cell HA9.out 0
      go_wp2_with fail
      refine (HF.out _ (HL.out.below HB9.out)).mono ?_
      rintro e w10 ⟨rfl, hb⟩
      have HB10 := Aside0.mk (HB9.out.trans (hb.mono HB9.out.size))
      have HA10 := Aside0.mk (blk_below HA9.out hb)
      have HC10 := Aside0.mk (blk_below HC9.out hb)
      have HR10_ := Aside0.mk (Kd.R_below HR9.out hb)
      clear hb HB9 HA9 HC9 HR9 k0
      go_wp2_with fail
      have HP0 : Aside0 (PutTo w (w10.iter s 0) (w10.iter s 0) gc (headOf a)) := Aside0.mk ⟨HB10.out.alloc HB10.out.size _, Lib.OthersKept.refl _ _ _, _, blk_alloc HC10.out _, by
        have h := Kd.R_below HR10_.out ((Below.refl w10.heap.size w10).alloc (Nat.le_refl _) (.stringIter s 0))
        have e1 : headOf a = [a.kind] ++ be a.req 8 := by unfold headOf; rw [be_1]; have := HFits.out.1.1; rw [show a.kind % 256 = a.kind by omega]
        rw [e1]; exact h⟩
      have HA0 : Aside0 ((w10.iter s 0).heap[w.heap.size]? = some (.cells (cellsOf13 a A9 c9 A10 c10) 38 (0, 0))) := Aside0.mk (blk_alloc HA10.out _)
      have HI0 : Aside0 ((w10.iter s 0).heap[w10.heap.size]? = some (.stringIter s 0)) := Aside0.mk (blk_new w10 (.stringIter s 0))
      have HGI := Lib.hid HB10.out.size
      clear HB10 HA10 HC10 HR10_
      generalize w10.heap.size = gi at HI0 HGI ⊢
      go_loopg [] (f.length + 1) (fun kq wr => ∃ (P r : List Fld), f = P ++ r ∧ kq = r.length + 1 ∧ Aside0 (PutTo w wr wr gc (headOf a ++ P.flatMap a.put)) ∧ Aside0 (wr.heap[w.heap.size]? = some (.cells (cellsOf13 a A9 c9 A10 c10) 38 (0, 0))) ∧ Aside0 (wr.heap[gi]? = some (.stringIter s P.length)))
      case atStart => exact ⟨[], f, rfl, rfl, Aside0.mk (by simpa using HP0.out), HA0, HI0⟩
      case round =>
        clear HP0 HA0 HI0
        obtain ⟨P, r, hfP, hkq, HP, HA, HI⟩ := hrel
        have hxs : Hid ((headOf a ++ P.flatMap a.put).length ≤ 400) := Lib.hid (put_some a HRC.out HFO.out hfP)
        have HFP := Lib.hid hfP
        clear hfP
        subst hkq
        cases r with
        | nil =>
          have hP : f = P := by rw [HFP.out, List.append_nil]
          have HPP := Lib.hid hP
          clear hP
          have hnx : ∀ ty, (Instr.next (.pointer (some ⟨gi, 0, none⟩)) true ty).run Tryz.prog wr = .ok (.tuple #[.bool false]) wr := fun ty => next_fld_end wr gi s P (by rw [HTX.out, HPP.out]) HI.out ty
          obtain ⟨hB, _, v, hC, hR⟩ := HP.out
          obtain ⟨A1, c1, hv1⟩ := Kd.R_slice hR
          obtain ⟨n1, hn1⟩ : ∃ n1, n1 = (headOf a ++ P.flatMap a.put).length := ⟨_, rfl⟩
          rw [← hn1] at hv1
          clear hn1
          subst hv1
          have hcell : wr.cell? ⟨gc, 0, none⟩ = some (.slice A1 n1 c1) := blk_cell hC 0
          have HB := Aside0.mk hB
          have HR := Aside0.mk hR
          clear hB hC hR
          go_wp2
          go_ret2
          refine ⟨.slice A1 n1 c1, rfl, ?_, HB.out⟩
          have e1 : bytesOf13 a = headOf a ++ P.flatMap a.put := by
            unfold bytesOf13
            rw [show fieldsIn a.kind = f by unfold fieldsIn; rw [HFO.out]; rfl, HPP.out]
          show Kd.R _ _ _ _ _ _ (bytesOf13 a)
          rw [e1]
          exact HR.out
        | cons c r =>
          obtain ⟨wn, hwn0⟩ : ∃ wn, wn = wr.iterAt gi s (P.length + 1) := ⟨_, rfl⟩
          have hwn := Lib.hid hwn0
          have HPn : Aside0 (PutTo w wn wn gc (headOf a ++ P.flatMap a.put)) := Aside0.mk (by rw [hwn0]; exact put_iter HP.out HI.out HGI.out _)
          have HAn : Aside0 (wn.heap[w.heap.size]? = some (.cells (cellsOf13 a A9 c9 A10 c10) 38 (0, 0))) := Aside0.mk (by rw [hwn0, Lib.iterAt_other _ _ _ _ _ (put_ne3 HA.out HI.out)]; exact HA.out)
          have HIn : Aside0 (wn.heap[gi]? = some (.stringIter s (P.length + 1))) := Aside0.mk (by rw [hwn0]; exact Lib.iterAt_heap _ _ _ _ _ HI.out)
          clear hwn0 HP HA
          cases c with
          | i =>
            have hnx : ∀ ty, (Instr.next (.pointer (some ⟨gi, 0, none⟩)) true ty).run Tryz.prog wr = .ok (.tuple #[.bool true, .int .i64 P.length, .int .i32 105]) wn := fun ty => by rw [hwn.out]; exact next_fld wr gi s P r .i (by rw [HTX.out, HFP.out]) HI.out ty
            have k2 : wn.cell? ⟨w.heap.size, 2, none⟩ = some (.string a.item) := blk_cell HAn.out 2
            clear k2
            go_wp2_with fail
            obtain ⟨hB, hK, v, hC, hR⟩ := HPn.out
            have HB := Aside0.mk hB
            have HK := Aside0.mk hK
            have HC := Aside0.mk hC
            have HR := Aside0.mk hR
            have hgc := HGE
            have hys : Hid ((ints (putCode a.item.data.toList)).length ≤ 20) := Lib.hid (by unfold ints; rw [List.length_map]; have := putCode_len a.item.data.toList; omega)
            clear hB hK hC hR
            refine start_ (n := 6) (S := fun w' => w'.heap[gc]? = some (.cells #[v] 22 (0, 0)) ∧ w'.heap[w.heap.size]? = some (.cells (cellsOf13 a A9 c9 A10 c10) 38 (0, 0))) (ds := [5]) #[false, false, false, false, false, false] (by kernel_rfl) rfl rfl (⟨HC.out, HAn.out⟩) (fun hHeld => ?_); refine with_tabW put13.tab11 put13.bits11 (fun HT_ HW_ => ?_)
            have HB4 := Aside0.mk (below_drew1 HB.out)
            have HR4 : Aside0 (Kd.R (Kd.int .u8) 5 wn.drew w.heap.size (fun _ => True) v (headOf a ++ P.flatMap a.put)) := ⟨Kd.R_below HR.out (below_drew1 (Below.refl _ _))⟩
            have HK4 : Aside0 (Lib.OthersKept 5 (some gc) wn wn.drew) := ⟨HK.out.drew⟩
            generalize wn.drew = w4 at HB4 HR4 HK4 hHeld ⊢
            refine pure_ (i := 1) (N := some 40) (v := ?_) (a' := ?_) #[false, true, false, false, false, false] rfl rfl (any_of HT_.out (by kernel_rfl)) (fun _ _ _ h => h) (Or.inl ⟨by rfl, ?_⟩) ?_ ?_
            rotate_left
            · intro w'
              go_simp
              with_reducible rfl
            rotate_left
            · simp only [Act.put, List.setIfInBounds_toArray, List.set_cons_zero, List.set_cons_succ, i64_w, i32_w]
              rfl
            refine take_ (i := 0) (N := some 39) (v := ?_) (a' := ?_) #[true, true, false, false, false, false] rfl rfl (take_ofW HT_.out HW_.out (by kernel_rfl)) (fun _ _ _ h => h) (Or.inl ⟨by rfl, ?_⟩) hHeld ?_ ?_
            rotate_left
            · rintro w' hS
              have hc := blk_cell hS.1 0
              go_simp
              with_reducible rfl
            rotate_left
            · simp only [Act.put, List.setIfInBounds_toArray, List.set_cons_zero, List.set_cons_succ, i64_w, i32_w]
              rfl
            refine take_ (i := 2) (N := some 41) (v := ?_) (a' := ?_) #[true, true, true, false, false, false] rfl rfl (take_ofW HT_.out HW_.out (by kernel_rfl)) (fun _ _ _ h => h) (Or.inl ⟨by rfl, ?_⟩) hHeld ?_ ?_
            rotate_left
            · rintro w' hS
              have hc := blk_cell hS.2 2
              go_simp
              with_reducible rfl
            rotate_left
            · simp only [Act.put, List.setIfInBounds_toArray, List.set_cons_zero, List.set_cons_succ, i64_w, i32_w]
              rfl
            refine one_ (i := 3) (N := some 42) #[true, true, true, true, false, false] rfl rfl (one_of HT_.out (by kernel_rfl)) (by decide) (fun K hK => ?_)
            refine goes_ Tryz.func20 (by kernel_rfl) rfl #[.string a.item] (by rfl) rfl rfl (by (try simp only [List.map_toArray, List.map_cons, List.map_nil]); first | done | rfl) ?_
            refine (code_Put.calls a.item (ints (putCode a.item.data.toList)) w4 rfl).mono ?_
            rintro e w5 ⟨u, rfl, hru, hb⟩
            refine ⟨_, rfl, ?_⟩
            have HB5 := Aside0.mk (HB4.out.trans (hb.mono HB4.out.size))
            have HR5 := Aside0.mk (Kd.R_below HR4.out hb)
            have HK5 := Aside0.mk (kept_below HK4.out hb)
            obtain ⟨Au, cu, hue, _, hrd⟩ := Kd.R_reads hru
            have HRU := Aside0.mk hrd
            subst hue
            have hHeld5 := blk_below hHeld.1 hb
            have hHeld6 := blk_below hHeld.2 hb
            clear hru hrd HB4 HR4 HK4
            refine hK.out _ _ ⟨hHeld5, hHeld6⟩ (fun hHeld => ?_)
            clear hHeld5 hHeld6 hb
            clear hK K
            refine norm_ (a' := ?_) ?_ ?_
            rotate_left
            · show Act.put _ (some 42) _ = _
              simp only [Act.put, List.setIfInBounds_toArray, List.set_cons_zero, List.set_cons_succ, i64_w, i32_w]
              rfl
            refine one_ (i := 4) (N := some 43) #[true, true, true, true, true, false] rfl rfl (one_of HT_.out (by kernel_rfl)) (by decide) (fun K hK => ?_)
            refine Kd.R_append_rows_step (Kd.int .u8) w.heap.size (by rfl) _ _ 22 5 (.int .u8 0) 1 rfl Tryz.underlying22 info_u8 rfl (by decide) (by decide) v (headOf a ++ P.flatMap a.put) (ints (putCode a.item.data.toList)) Au (ints (putCode a.item.data.toList)).length cu (fun _ => True) (fun _ => False) (by rfl) (by rfl) HR5.out (Rr := (Kd.int .u8).K w5) HRU.out (fun _ _ h => h) (fun _ h => h.elim) (fun _ _ => trivial) HB5.out HB5.out.size (by have h1_ := hxs.out; have h2_ := hys.out; omega) ?_
            intro v1 w6 hr1 hb1 hg _
            obtain ⟨A1, c1, hv1⟩ := Kd.R_slice hr1
            subst hv1
            have hHeld5 := blk_grown hHeld.1 hg (Kd.R_ne HR5.out hHeld.1 (by decide))
            have HP9 := Aside0.mk (put_stored hgc.out HK5.out hHeld.1 HR5.out hb1 hg hr1)
            have hcell : w6.cell? ⟨gc, 0, none⟩ = some v := blk_cell hHeld5 0
            have hfr := blk_frozen hHeld5 0
            have hHeld6 := blk_grown hHeld.2 hg (Kd.R_ne HR5.out hHeld.2 (by decide))
            refine hK.out _ _ ⟨hHeld5, hHeld6⟩ (fun hHeld => ?_)
            clear hb1 hg hr1 HB5 HR5 HK5 HRU hHeld5 hHeld6
            clear hK K
            refine norm_ (a' := ?_) ?_ ?_
            rotate_left
            · show Act.put _ (some 43) _ = _
              simp only [Act.put, List.setIfInBounds_toArray, List.set_cons_zero, List.set_cons_succ, i64_w, i32_w]
              rfl
            refine last_ (i := 5) (N := none) #[true, true, true, true, true, true] rfl rfl (one_of HT_.out (by kernel_rfl)) (by decide) (fun K hK => ?_)
            refine skip_ (by rfl) rfl (w1 := w6.setCell ⟨gc, 0, none⟩ (.slice A1 ((headOf a ++ P.flatMap a.put) ++ ints (putCode a.item.data.toList)).length c1)) (by go_simp) ?_
            refine hK.out _ _ ?_
            refine done_ (done_of HT_.out (by kernel_rfl)) ?_
            generalize w6.setCell ⟨gc, 0, none⟩ (.slice A1 ((headOf a ++ P.flatMap a.put) ++ ints (putCode a.item.data.toList)).length c1) = w3 at HP9 ⊢
            clear HB HK HC HR
            have HA3 := Aside0.mk (HP9.out.2.1 _ _ HAn.out (put_ne HAn.out HPn.out) (fun c fz e_ => by injection e_ with _ e_; exact absurd e_ (by decide)))
            have HI3 := Aside0.mk (HP9.out.2.1 _ _ HIn.out (put_ne2 HIn.out HPn.out) (fun c fz e_ => by cases e_))
            have HP3 := Aside0.mk (put_self HP9.out)
            go_wp2
            go_roundg (r.length + 1)
            case measure => simp
            case rel => exact ⟨P ++ [.i], r, by rw [HFP.out]; simp, rfl, Aside0.mk (by rw [List.flatMap_append, ← List.append_assoc]; exact (by simpa [Cmd.put] using HP3.out)), HA3, Aside0.mk (HI3.out.trans (by simp))⟩
          | q =>
            have hnx : ∀ ty, (Instr.next (.pointer (some ⟨gi, 0, none⟩)) true ty).run Tryz.prog wr = .ok (.tuple #[.bool true, .int .i64 P.length, .int .i32 113]) wn := fun ty => by rw [hwn.out]; exact next_fld wr gi s P r .q (by rw [HTX.out, HFP.out]) HI.out ty
            have k3 : wn.cell? ⟨w.heap.size, 3, none⟩ = some (.int .i64 a.qty) := blk_cell HAn.out 3
            go_wp2_with fail
            refine (put1_8 a.qty w wn gc _ HGE.out HPn.out (by have := hxs.out; omega)).mono ?_
            rintro e w3 ⟨rfl, hp⟩
            have HP9 := Aside0.mk hp
            clear hp k3
            have HA3 := Aside0.mk (HP9.out.2.1 _ _ HAn.out (put_ne HAn.out HPn.out) (fun c fz e_ => by injection e_ with _ e_; exact absurd e_ (by decide)))
            have HI3 := Aside0.mk (HP9.out.2.1 _ _ HIn.out (put_ne2 HIn.out HPn.out) (fun c fz e_ => by cases e_))
            have HP3 := Aside0.mk (put_self HP9.out)
            go_wp2
            go_roundg (r.length + 1)
            case measure => simp
            case rel => exact ⟨P ++ [.q], r, by rw [HFP.out]; simp, rfl, Aside0.mk (by rw [List.flatMap_append, ← List.append_assoc]; exact (by simpa [Cmd.put] using HP3.out)), HA3, Aside0.mk (HI3.out.trans (by simp))⟩
          | d =>
            have hnx : ∀ ty, (Instr.next (.pointer (some ⟨gi, 0, none⟩)) true ty).run Tryz.prog wr = .ok (.tuple #[.bool true, .int .i64 P.length, .int .i32 100]) wn := fun ty => by rw [hwn.out]; exact next_fld wr gi s P r .d (by rw [HTX.out, HFP.out]) HI.out ty
            have k4 : wn.cell? ⟨w.heap.size, 4, none⟩ = some (.int .i64 a.day) := blk_cell HAn.out 4
            go_wp2_with fail
            refine (put1_2 a.day w wn gc _ HGE.out HPn.out (by have := hxs.out; omega)).mono ?_
            rintro e w3 ⟨rfl, hp⟩
            have HP9 := Aside0.mk hp
            clear hp k4
            have HA3 := Aside0.mk (HP9.out.2.1 _ _ HAn.out (put_ne HAn.out HPn.out) (fun c fz e_ => by injection e_ with _ e_; exact absurd e_ (by decide)))
            have HI3 := Aside0.mk (HP9.out.2.1 _ _ HIn.out (put_ne2 HIn.out HPn.out) (fun c fz e_ => by cases e_))
            have HP3 := Aside0.mk (put_self HP9.out)
            go_wp2
            go_roundg (r.length + 1)
            case measure => simp
            case rel => exact ⟨P ++ [.d], r, by rw [HFP.out]; simp, rfl, Aside0.mk (by rw [List.flatMap_append, ← List.append_assoc]; exact (by simpa [Cmd.put] using HP3.out)), HA3, Aside0.mk (HI3.out.trans (by simp))⟩
          | l =>
            have hnx : ∀ ty, (Instr.next (.pointer (some ⟨gi, 0, none⟩)) true ty).run Tryz.prog wr = .ok (.tuple #[.bool true, .int .i64 P.length, .int .i32 108]) wn := fun ty => by rw [hwn.out]; exact next_fld wr gi s P r .l (by rw [HTX.out, HFP.out]) HI.out ty
            have k5 : wn.cell? ⟨w.heap.size, 5, none⟩ = some (.int .i64 a.days) := blk_cell HAn.out 5
            go_wp2_with fail
            refine (put1_2 a.days w wn gc _ HGE.out HPn.out (by have := hxs.out; omega)).mono ?_
            rintro e w3 ⟨rfl, hp⟩
            have HP9 := Aside0.mk hp
            clear hp k5
            have HA3 := Aside0.mk (HP9.out.2.1 _ _ HAn.out (put_ne HAn.out HPn.out) (fun c fz e_ => by injection e_ with _ e_; exact absurd e_ (by decide)))
            have HI3 := Aside0.mk (HP9.out.2.1 _ _ HIn.out (put_ne2 HIn.out HPn.out) (fun c fz e_ => by cases e_))
            have HP3 := Aside0.mk (put_self HP9.out)
            go_wp2
            go_roundg (r.length + 1)
            case measure => simp
            case rel => exact ⟨P ++ [.l], r, by rw [HFP.out]; simp, rfl, Aside0.mk (by rw [List.flatMap_append, ← List.append_assoc]; exact (by simpa [Cmd.put] using HP3.out)), HA3, Aside0.mk (HI3.out.trans (by simp))⟩
          | r =>
            have hnx : ∀ ty, (Instr.next (.pointer (some ⟨gi, 0, none⟩)) true ty).run Tryz.prog wr = .ok (.tuple #[.bool true, .int .i64 P.length, .int .i32 114]) wn := fun ty => by rw [hwn.out]; exact next_fld wr gi s P r .r (by rw [HTX.out, HFP.out]) HI.out ty
            have k6 : wn.cell? ⟨w.heap.size, 6, none⟩ = some (.int .i64 a.rank) := blk_cell HAn.out 6
            go_wp2_with fail
            refine (put1_1 a.rank w wn gc _ HGE.out HPn.out (by have := hxs.out; omega)).mono ?_
            rintro e w3 ⟨rfl, hp⟩
            have HP9 := Aside0.mk hp
            clear hp k6
            have HA3 := Aside0.mk (HP9.out.2.1 _ _ HAn.out (put_ne HAn.out HPn.out) (fun c fz e_ => by injection e_ with _ e_; exact absurd e_ (by decide)))
            have HI3 := Aside0.mk (HP9.out.2.1 _ _ HIn.out (put_ne2 HIn.out HPn.out) (fun c fz e_ => by cases e_))
            have HP3 := Aside0.mk (put_self HP9.out)
            go_wp2
            go_roundg (r.length + 1)
            case measure => simp
            case rel => exact ⟨P ++ [.r], r, by rw [HFP.out]; simp, rfl, Aside0.mk (by rw [List.flatMap_append, ← List.append_assoc]; exact (by simpa [Cmd.put] using HP3.out)), HA3, Aside0.mk (HI3.out.trans (by simp))⟩
          | t =>
            have hnx : ∀ ty, (Instr.next (.pointer (some ⟨gi, 0, none⟩)) true ty).run Tryz.prog wr = .ok (.tuple #[.bool true, .int .i64 P.length, .int .i32 116]) wn := fun ty => by rw [hwn.out]; exact next_fld wr gi s P r .t (by rw [HTX.out, HFP.out]) HI.out ty
            have k7 : wn.cell? ⟨w.heap.size, 7, none⟩ = some (.int .i64 a.lot) := blk_cell HAn.out 7
            go_wp2_with fail
            refine (put1_8 a.lot w wn gc _ HGE.out HPn.out (by have := hxs.out; omega)).mono ?_
            rintro e w3 ⟨rfl, hp⟩
            have HP9 := Aside0.mk hp
            clear hp k7
            have HA3 := Aside0.mk (HP9.out.2.1 _ _ HAn.out (put_ne HAn.out HPn.out) (fun c fz e_ => by injection e_ with _ e_; exact absurd e_ (by decide)))
            have HI3 := Aside0.mk (HP9.out.2.1 _ _ HIn.out (put_ne2 HIn.out HPn.out) (fun c fz e_ => by cases e_))
            have HP3 := Aside0.mk (put_self HP9.out)
            go_wp2
            go_roundg (r.length + 1)
            case measure => simp
            case rel => exact ⟨P ++ [.t], r, by rw [HFP.out]; simp, rfl, Aside0.mk (by rw [List.flatMap_append, ← List.append_assoc]; exact (by simpa [Cmd.put] using HP3.out)), HA3, Aside0.mk (HI3.out.trans (by simp))⟩
          | n =>
            have hnx : ∀ ty, (Instr.next (.pointer (some ⟨gi, 0, none⟩)) true ty).run Tryz.prog wr = .ok (.tuple #[.bool true, .int .i64 P.length, .int .i32 110]) wn := fun ty => by rw [hwn.out]; exact next_fld wr gi s P r .n (by rw [HTX.out, HFP.out]) HI.out ty
            have k8 : wn.cell? ⟨w.heap.size, 8, none⟩ = some (.int .i64 a.line) := blk_cell HAn.out 8
            go_wp2_with fail
            refine (put1_8 a.line w wn gc _ HGE.out HPn.out (by have := hxs.out; omega)).mono ?_
            rintro e w3 ⟨rfl, hp⟩
            have HP9 := Aside0.mk hp
            clear hp k8
            have HA3 := Aside0.mk (HP9.out.2.1 _ _ HAn.out (put_ne HAn.out HPn.out) (fun c fz e_ => by injection e_ with _ e_; exact absurd e_ (by decide)))
            have HI3 := Aside0.mk (HP9.out.2.1 _ _ HIn.out (put_ne2 HIn.out HPn.out) (fun c fz e_ => by cases e_))
            have HP3 := Aside0.mk (put_self HP9.out)
            go_wp2
            go_roundg (r.length + 1)
            case measure => simp
            case rel => exact ⟨P ++ [.n], r, by rw [HFP.out]; simp, rfl, Aside0.mk (by rw [List.flatMap_append, ← List.append_assoc]; exact (by simpa [Cmd.put] using HP3.out)), HA3, Aside0.mk (HI3.out.trans (by simp))⟩
          | p =>
            have hnx : ∀ ty, (Instr.next (.pointer (some ⟨gi, 0, none⟩)) true ty).run Tryz.prog wr = .ok (.tuple #[.bool true, .int .i64 P.length, .int .i32 112]) wn := fun ty => by rw [hwn.out]; exact next_fld wr gi s P r .p (by rw [HTX.out, HFP.out]) HI.out ty
            have k9 : wn.cell? ⟨w.heap.size, 9, none⟩ = some (.slice A9 a.parts.length c9) := blk_cell HAn.out 9
            go_wp2_with fail
            refine (put1_1 a.parts.length w wn gc _ HGE.out HPn.out (by have := hxs.out; omega)).mono ?_
            rintro e w3 ⟨rfl, hp⟩
            have HP9 := Aside0.mk hp
            clear hp k9
            have HA3 := Aside0.mk (HP9.out.2.1 _ _ HAn.out (put_ne HAn.out HPn.out) (fun c fz e_ => by injection e_ with _ e_; exact absurd e_ (by decide)))
            have HI3 := Aside0.mk (HP9.out.2.1 _ _ HIn.out (put_ne2 HIn.out HPn.out) (fun c fz e_ => by cases e_))
            have HP3 := Aside0.mk (put_self HP9.out)
            have k9 : w3.cell? ⟨w.heap.size, 9, none⟩ = some (.slice A9 a.parts.length c9) := blk_cell HA3.out 9
            clear HP9 HPn HAn HIn hwn hnx HI
            go_wp2
            clear k9
            have hsh : Hid (∀ j, (headOf a ++ P.flatMap a.put ++ be a.parts.length 1 ++ (a.parts.take j).flatMap putPart).length ≤ 600) := Lib.hid fun j => put_short_p hxs.out (right_p HRC.out HFO.out HFP.out) j
            have hlen : a.parts.length ≤ 9223372036854775807 := by have := HFits.out.2; omega
            go_loopg [90] (a.parts.length + 1) (fun kq v90 wr => ∃ (j : Nat), v90 = .int .i64 j ∧ j + kq = a.parts.length + 1 ∧ 0 < kq ∧ Aside0 (PutTo w wr wr gc (headOf a ++ P.flatMap a.put ++ be a.parts.length 1 ++ (a.parts.take j).flatMap putPart)) ∧ Aside0 (wr.heap[w.heap.size]? = some (.cells (cellsOf13 a A9 c9 A10 c10) 38 (0, 0))) ∧ Aside0 (wr.heap[gi]? = some (.stringIter s (P.length + 1))))
            case atStart => exact ⟨0, rfl, by omega, by omega, Aside0.mk (by simpa using HP3.out), HA3, HI3⟩
            case round =>
              clear HP3 HA3 HI3
              obtain ⟨j, rfl, hj, hj0, HPq, HAq, HIq⟩ := hrel
              by_cases hjl : j < a.parts.length
              · obtain ⟨ad, hA9, hx0, hx1⟩ := A.at_T58 (Kd.C_below HR9.out HPq.out.1) j (by omega) (by omega)
                rw [Int.toNat_natCast] at hx0 hx1
                have hrd : A.rd_T58 a.parts j = a.parts[j] := by unfold A.rd_T58; simp [List.getD_eq_getElem?_getD, List.getElem?_eq_getElem hjl]
                rw [hrd] at hx0 hx1
                have HPJ : Hid (a.parts[j] ∈ a.parts) := Lib.hid (List.getElem_mem hjl)
                have HTK : Hid ((a.parts.take (j + 1)).flatMap putPart = (a.parts.take j).flatMap putPart ++ putPart a.parts[j]) := Lib.hid (by rw [List.take_succ_eq_append_getElem hjl, List.flatMap_append]; simp)
                clear hrd
                generalize a.parts[j] = q at hx0 hx1 HPJ HTK
                subst hA9
                go_wp2_with fail
                have HPz := Aside0.mk (put_alloc HPq.out (.cells #[.string q.f0, .int .i64 q.f1] 58))
                have HAz := Aside0.mk (blk_alloc HAq.out (.cells #[.string q.f0, .int .i64 q.f1] 58))
                have HIz := Aside0.mk (blk_alloc HIq.out (.cells #[.string q.f0, .int .i64 q.f1] 58))
                have HGz := Aside0.mk (blk_new wr (.cells #[.string q.f0, .int .i64 q.f1] 58))
                generalize wr.alloc (.cells #[.string q.f0, .int .i64 q.f1] 58) = wz at HPz HAz HIz HGz ⊢
                generalize wr.heap.size = gp at HGz ⊢
                clear HPq HAq HIq hx0 hx1
                obtain ⟨hB, hK, v, hC, hR⟩ := HPz.out
                have HB := Aside0.mk hB
                have HK := Aside0.mk hK
                have HC := Aside0.mk hC
                have HR := Aside0.mk hR
                have hgc := HGE
                have hxs := Lib.hid (hsh.out j)
                have hys : Hid ((ints (putCode q.f0.data.toList)).length ≤ 20) := Lib.hid (by unfold ints; rw [List.length_map]; have := putCode_len q.f0.data.toList; omega)
                clear hB hK hC hR
                refine start_ (n := 6) (S := fun w' => w'.heap[gc]? = some (.cells #[v] 22 (0, 0)) ∧ w'.heap[gp]? = some (.cells #[.string q.f0, .int .i64 q.f1] 58 (0, 0))) (ds := [5]) #[false, false, false, false, false, false] (by kernel_rfl) rfl rfl (⟨HC.out, HGz.out⟩) (fun hHeld => ?_); refine with_tabW put13.tab29 put13.bits29 (fun HT_ HW_ => ?_)
                have HB4 := Aside0.mk (below_drew1 HB.out)
                have HR4 : Aside0 (Kd.R (Kd.int .u8) 5 wz.drew w.heap.size (fun _ => True) v (headOf a ++ P.flatMap a.put ++ be a.parts.length 1 ++ (a.parts.take j).flatMap putPart)) := ⟨Kd.R_below HR.out (below_drew1 (Below.refl _ _))⟩
                have HK4 : Aside0 (Lib.OthersKept 5 (some gc) wz wz.drew) := ⟨HK.out.drew⟩
                generalize wz.drew = w4 at HB4 HR4 HK4 hHeld ⊢
                refine pure_ (i := 1) (N := some 95) (v := ?_) (a' := ?_) #[false, true, false, false, false, false] rfl rfl (any_of HT_.out (by kernel_rfl)) (fun _ _ _ h => h) (Or.inl ⟨by rfl, ?_⟩) ?_ ?_
                rotate_left
                · intro w'
                  go_simp
                  with_reducible rfl
                rotate_left
                · simp only [Act.put, List.setIfInBounds_toArray, List.set_cons_zero, List.set_cons_succ, i64_w, i32_w]
                  rfl
                refine take_ (i := 0) (N := some 94) (v := ?_) (a' := ?_) #[true, true, false, false, false, false] rfl rfl (take_ofW HT_.out HW_.out (by kernel_rfl)) (fun _ _ _ h => h) (Or.inl ⟨by rfl, ?_⟩) hHeld ?_ ?_
                rotate_left
                · rintro w' hS
                  have hc := blk_cell hS.1 0
                  go_simp
                  with_reducible rfl
                rotate_left
                · simp only [Act.put, List.setIfInBounds_toArray, List.set_cons_zero, List.set_cons_succ, i64_w, i32_w]
                  rfl
                refine take_ (i := 2) (N := some 96) (v := ?_) (a' := ?_) #[true, true, true, false, false, false] rfl rfl (take_ofW HT_.out HW_.out (by kernel_rfl)) (fun _ _ _ h => h) (Or.inl ⟨by rfl, ?_⟩) hHeld ?_ ?_
                rotate_left
                · rintro w' hS
                  have hc := blk_cell hS.2 0
                  go_simp
                  with_reducible rfl
                rotate_left
                · simp only [Act.put, List.setIfInBounds_toArray, List.set_cons_zero, List.set_cons_succ, i64_w, i32_w]
                  rfl
                refine one_ (i := 3) (N := some 97) #[true, true, true, true, false, false] rfl rfl (one_of HT_.out (by kernel_rfl)) (by decide) (fun K hK => ?_)
                refine goes_ Tryz.func20 (by kernel_rfl) rfl #[.string q.f0] (by rfl) rfl rfl (by (try simp only [List.map_toArray, List.map_cons, List.map_nil]); first | done | rfl) ?_
                refine (code_Put.calls q.f0 (ints (putCode q.f0.data.toList)) w4 rfl).mono ?_
                rintro e w5 ⟨u, rfl, hru, hb⟩
                refine ⟨_, rfl, ?_⟩
                have HB5 := Aside0.mk (HB4.out.trans (hb.mono HB4.out.size))
                have HR5 := Aside0.mk (Kd.R_below HR4.out hb)
                have HK5 := Aside0.mk (kept_below HK4.out hb)
                obtain ⟨Au, cu, hue, _, hrd⟩ := Kd.R_reads hru
                have HRU := Aside0.mk hrd
                subst hue
                have hHeld5 := blk_below hHeld.1 hb
                have hHeld6 := blk_below hHeld.2 hb
                clear hru hrd HB4 HR4 HK4
                refine hK.out _ _ ⟨hHeld5, hHeld6⟩ (fun hHeld => ?_)
                clear hHeld5 hHeld6 hb
                clear hK K
                refine norm_ (a' := ?_) ?_ ?_
                rotate_left
                · show Act.put _ (some 97) _ = _
                  simp only [Act.put, List.setIfInBounds_toArray, List.set_cons_zero, List.set_cons_succ, i64_w, i32_w]
                  rfl
                refine one_ (i := 4) (N := some 98) #[true, true, true, true, true, false] rfl rfl (one_of HT_.out (by kernel_rfl)) (by decide) (fun K hK => ?_)
                refine Kd.R_append_rows_step (Kd.int .u8) w.heap.size (by rfl) _ _ 22 5 (.int .u8 0) 1 rfl Tryz.underlying22 info_u8 rfl (by decide) (by decide) v (headOf a ++ P.flatMap a.put ++ be a.parts.length 1 ++ (a.parts.take j).flatMap putPart) (ints (putCode q.f0.data.toList)) Au (ints (putCode q.f0.data.toList)).length cu (fun _ => True) (fun _ => False) (by rfl) (by rfl) HR5.out (Rr := (Kd.int .u8).K w5) HRU.out (fun _ _ h => h) (fun _ h => h.elim) (fun _ _ => trivial) HB5.out HB5.out.size (by have h1_ := hxs.out; have h2_ := hys.out; omega) ?_
                intro v1 w6 hr1 hb1 hg _
                obtain ⟨A1, c1, hv1⟩ := Kd.R_slice hr1
                subst hv1
                have hHeld5 := blk_grown hHeld.1 hg (Kd.R_ne HR5.out hHeld.1 (by decide))
                have HP9 := Aside0.mk (put_stored hgc.out HK5.out hHeld.1 HR5.out hb1 hg hr1)
                have hcell : w6.cell? ⟨gc, 0, none⟩ = some v := blk_cell hHeld5 0
                have hfr := blk_frozen hHeld5 0
                have hHeld6 := blk_grown hHeld.2 hg (Kd.R_ne HR5.out hHeld.2 (by decide))
                refine hK.out _ _ ⟨hHeld5, hHeld6⟩ (fun hHeld => ?_)
                clear hb1 hg hr1 HB5 HR5 HK5 HRU hHeld5 hHeld6
                clear hK K
                refine norm_ (a' := ?_) ?_ ?_
                rotate_left
                · show Act.put _ (some 98) _ = _
                  simp only [Act.put, List.setIfInBounds_toArray, List.set_cons_zero, List.set_cons_succ, i64_w, i32_w]
                  rfl
                refine last_ (i := 5) (N := none) #[true, true, true, true, true, true] rfl rfl (one_of HT_.out (by kernel_rfl)) (by decide) (fun K hK => ?_)
                refine skip_ (by rfl) rfl (w1 := w6.setCell ⟨gc, 0, none⟩ (.slice A1 ((headOf a ++ P.flatMap a.put ++ be a.parts.length 1 ++ (a.parts.take j).flatMap putPart) ++ ints (putCode q.f0.data.toList)).length c1)) (by go_simp) ?_
                refine hK.out _ _ ?_
                refine done_ (done_of HT_.out (by kernel_rfl)) ?_
                generalize w6.setCell ⟨gc, 0, none⟩ (.slice A1 ((headOf a ++ P.flatMap a.put ++ be a.parts.length 1 ++ (a.parts.take j).flatMap putPart) ++ ints (putCode q.f0.data.toList)).length c1) = w7 at HP9 ⊢
                clear HB HK HC HR
                have HA7 := Aside0.mk (HP9.out.2.1 _ _ HAz.out (put_ne HAz.out HPz.out) (fun c fz e_ => by injection e_ with _ e_; exact absurd e_ (by decide)))
                have HI7 := Aside0.mk (HP9.out.2.1 _ _ HIz.out (put_ne2 HIz.out HPz.out) (fun c fz e_ => by cases e_))
                have HP7 := Aside0.mk (put_self HP9.out)
                have HG7 := Aside0.mk (HP9.out.2.1 _ _ HGz.out (put_ne4 HGz.out HPz.out) (fun c fz e_ => by injection e_ with _ e_; exact absurd e_ (by decide)))
                have kq : w7.cell? ⟨gp, 1, none⟩ = some (.int .i64 q.f1) := blk_cell HG7.out 1
                go_wp2_with fail
                refine (put1_8 q.f1 w w7 gc _ HGE.out HP7.out (by have := hxs.out; have := hys.out; rw [List.length_append]; omega)).mono ?_
                rintro e w8 ⟨rfl, hp⟩
                have HP10 := Aside0.mk hp
                clear hp kq
                have HA8 := Aside0.mk (HP10.out.2.1 _ _ HA7.out (put_ne HA7.out HP7.out) (fun c fz e_ => by injection e_ with _ e_; exact absurd e_ (by decide)))
                have HI8 := Aside0.mk (HP10.out.2.1 _ _ HI7.out (put_ne2 HI7.out HP7.out) (fun c fz e_ => by cases e_))
                have HP8 := Aside0.mk (put_self HP10.out)
                go_wp2
                go_roundg (a.parts.length - j)
                case measure => omega
                case rel => exact ⟨j + 1, by simp, by omega, by omega, Aside0.mk (by rw [HTK.out, show putPart q = ints (putCode q.f0.data.toList) ++ be q.f1 8 from rfl]; simpa using HP8.out), HA8, HI8⟩
              · have hje : j = a.parts.length := by omega
                subst hje
                go_wp2
                go_roundg (r.length + 1)
                case measure => simp
                case rel => exact ⟨P ++ [.p], r, by rw [HFP.out]; simp, rfl, Aside0.mk (by rw [List.flatMap_append, ← List.append_assoc]; exact (by simpa [Cmd.put] using HPq.out)), HAq, Aside0.mk (HIq.out.trans (by simp))⟩
          | o =>
            have hnx : ∀ ty, (Instr.next (.pointer (some ⟨gi, 0, none⟩)) true ty).run Tryz.prog wr = .ok (.tuple #[.bool true, .int .i64 P.length, .int .i32 111]) wn := fun ty => by rw [hwn.out]; exact next_fld wr gi s P r .o (by rw [HTX.out, HFP.out]) HI.out ty
            have k10 : wn.cell? ⟨w.heap.size, 10, none⟩ = some (.slice A10 a.others.length c10) := blk_cell HAn.out 10
            go_wp2_with fail
            refine (put1_1 a.others.length w wn gc _ HGE.out HPn.out (by have := hxs.out; omega)).mono ?_
            rintro e w3 ⟨rfl, hp⟩
            have HP9 := Aside0.mk hp
            clear hp k10
            have HA3 := Aside0.mk (HP9.out.2.1 _ _ HAn.out (put_ne HAn.out HPn.out) (fun c fz e_ => by injection e_ with _ e_; exact absurd e_ (by decide)))
            have HI3 := Aside0.mk (HP9.out.2.1 _ _ HIn.out (put_ne2 HIn.out HPn.out) (fun c fz e_ => by cases e_))
            have HP3 := Aside0.mk (put_self HP9.out)
            have k10 : w3.cell? ⟨w.heap.size, 10, none⟩ = some (.slice A10 a.others.length c10) := blk_cell HA3.out 10
            clear HP9 HPn HAn HIn hwn hnx HI
            go_wp2
            clear k10
            have hsh : Hid (∀ j, (headOf a ++ P.flatMap a.put ++ be a.others.length 1 ++ (a.others.take j).flatMap (fun s => ints (putCode s.data.toList))).length ≤ 600) := Lib.hid fun j => put_short_o hxs.out (right_o HRC.out HFO.out HFP.out) j
            have hlen : a.others.length ≤ 9223372036854775807 := HR10.out.2.1
            go_loopg [114] (a.others.length + 1) (fun kq v90 wr => ∃ (j : Nat), v90 = .int .i64 j ∧ j + kq = a.others.length + 1 ∧ 0 < kq ∧ Aside0 (PutTo w wr wr gc (headOf a ++ P.flatMap a.put ++ be a.others.length 1 ++ (a.others.take j).flatMap (fun s => ints (putCode s.data.toList)))) ∧ Aside0 (wr.heap[w.heap.size]? = some (.cells (cellsOf13 a A9 c9 A10 c10) 38 (0, 0))) ∧ Aside0 (wr.heap[gi]? = some (.stringIter s (P.length + 1))))
            case atStart => exact ⟨0, rfl, by omega, by omega, Aside0.mk (by simpa using HP3.out), HA3, HI3⟩
            case round =>
              clear HP3 HA3 HI3
              obtain ⟨j, rfl, hj, hj0, HPq, HAq, HIq⟩ := hrel
              by_cases hjl : j < a.others.length
              · obtain ⟨ad, hA10, hx0⟩ := Kd.at_string (Kd.C_below HR10.out HPq.out.1) j (by omega) (by omega)
                rw [Int.toNat_natCast, rdOf_at _ _ _ hjl] at hx0
                have HTK : Hid ((a.others.take (j + 1)).flatMap (fun s => ints (putCode s.data.toList)) = (a.others.take j).flatMap (fun s => ints (putCode s.data.toList)) ++ ints (putCode a.others[j].data.toList)) := Lib.hid (by rw [List.take_succ_eq_append_getElem hjl, List.flatMap_append]; simp)
                generalize a.others[j] = q at hx0 HTK
                subst hA10
                go_wp2_with fail
                have HPz := HPq
                have HAz := HAq
                have HIz := HIq
                clear hx0 HPq HAq HIq
                obtain ⟨hB, hK, v, hC, hR⟩ := HPz.out
                have HB := Aside0.mk hB
                have HK := Aside0.mk hK
                have HC := Aside0.mk hC
                have HR := Aside0.mk hR
                have hgc := HGE
                have hxs := Lib.hid (hsh.out j)
                have hys : Hid ((ints (putCode q.data.toList)).length ≤ 20) := Lib.hid (by unfold ints; rw [List.length_map]; have := putCode_len q.data.toList; omega)
                clear hB hK hC hR
                refine start_ (n := 5) (S := fun w' => w'.heap[gc]? = some (.cells #[v] 22 (0, 0)) ∧ True) (ds := [4]) #[false, false, false, false, false] (by kernel_rfl) rfl rfl (⟨HC.out, trivial⟩) (fun hHeld => ?_); refine with_tabW put13.tab37 put13.bits37 (fun HT_ HW_ => ?_)
                have HB4 := Aside0.mk (below_drew1 HB.out)
                have HR4 : Aside0 (Kd.R (Kd.int .u8) 5 wr.drew w.heap.size (fun _ => True) v (headOf a ++ P.flatMap a.put ++ be a.others.length 1 ++ (a.others.take j).flatMap (fun s => ints (putCode s.data.toList)))) := ⟨Kd.R_below HR.out (below_drew1 (Below.refl _ _))⟩
                have HK4 : Aside0 (Lib.OthersKept 5 (some gc) wr wr.drew) := ⟨HK.out.drew⟩
                generalize wr.drew = w4 at HB4 HR4 HK4 hHeld ⊢
                refine pure_ (i := 1) (N := some 119) (v := ?_) (a' := ?_) #[false, true, false, false, false] rfl rfl (any_of HT_.out (by kernel_rfl)) (fun _ _ _ h => h) (Or.inl ⟨by rfl, ?_⟩) ?_ ?_
                rotate_left
                · intro w'
                  go_simp
                  with_reducible rfl
                rotate_left
                · simp only [Act.put, List.setIfInBounds_toArray, List.set_cons_zero, List.set_cons_succ, i64_w, i32_w]
                  rfl
                refine take_ (i := 0) (N := some 118) (v := ?_) (a' := ?_) #[true, true, false, false, false] rfl rfl (take_ofW HT_.out HW_.out (by kernel_rfl)) (fun _ _ _ h => h) (Or.inl ⟨by rfl, ?_⟩) hHeld ?_ ?_
                rotate_left
                · rintro w' hS
                  have hc := blk_cell hS.1 0
                  go_simp
                  with_reducible rfl
                rotate_left
                · simp only [Act.put, List.setIfInBounds_toArray, List.set_cons_zero, List.set_cons_succ, i64_w, i32_w]
                  rfl
                refine one_ (i := 2) (N := some 120) #[true, true, true, false, false] rfl rfl (one_of HT_.out (by kernel_rfl)) (by decide) (fun K hK => ?_)
                refine goes_ Tryz.func20 (by kernel_rfl) rfl #[.string q] (by rfl) rfl rfl (by (try simp only [List.map_toArray, List.map_cons, List.map_nil]); first | done | rfl) ?_
                refine (code_Put.calls q (ints (putCode q.data.toList)) w4 rfl).mono ?_
                rintro e w5 ⟨u, rfl, hru, hb⟩
                refine ⟨_, rfl, ?_⟩
                have HB5 := Aside0.mk (HB4.out.trans (hb.mono HB4.out.size))
                have HR5 := Aside0.mk (Kd.R_below HR4.out hb)
                have HK5 := Aside0.mk (kept_below HK4.out hb)
                obtain ⟨Au, cu, hue, _, hrd⟩ := Kd.R_reads hru
                have HRU := Aside0.mk hrd
                subst hue
                have hHeld5 := blk_below hHeld.1 hb
                have hHeld6 := trivial
                clear hru hrd HB4 HR4 HK4
                refine hK.out _ _ ⟨hHeld5, hHeld6⟩ (fun hHeld => ?_)
                clear hHeld5 hHeld6 hb
                clear hK K
                refine norm_ (a' := ?_) ?_ ?_
                rotate_left
                · show Act.put _ (some 120) _ = _
                  simp only [Act.put, List.setIfInBounds_toArray, List.set_cons_zero, List.set_cons_succ, i64_w, i32_w]
                  rfl
                refine one_ (i := 3) (N := some 121) #[true, true, true, true, false] rfl rfl (one_of HT_.out (by kernel_rfl)) (by decide) (fun K hK => ?_)
                refine Kd.R_append_rows_step (Kd.int .u8) w.heap.size (by rfl) _ _ 22 5 (.int .u8 0) 1 rfl Tryz.underlying22 info_u8 rfl (by decide) (by decide) v (headOf a ++ P.flatMap a.put ++ be a.others.length 1 ++ (a.others.take j).flatMap (fun s => ints (putCode s.data.toList))) (ints (putCode q.data.toList)) Au (ints (putCode q.data.toList)).length cu (fun _ => True) (fun _ => False) (by rfl) (by rfl) HR5.out (Rr := (Kd.int .u8).K w5) HRU.out (fun _ _ h => h) (fun _ h => h.elim) (fun _ _ => trivial) HB5.out HB5.out.size (by have h1_ := hxs.out; have h2_ := hys.out; omega) ?_
                intro v1 w6 hr1 hb1 hg _
                obtain ⟨A1, c1, hv1⟩ := Kd.R_slice hr1
                subst hv1
                have hHeld5 := blk_grown hHeld.1 hg (Kd.R_ne HR5.out hHeld.1 (by decide))
                have HP9 := Aside0.mk (put_stored hgc.out HK5.out hHeld.1 HR5.out hb1 hg hr1)
                have hcell : w6.cell? ⟨gc, 0, none⟩ = some v := blk_cell hHeld5 0
                have hfr := blk_frozen hHeld5 0
                have hHeld6 := trivial
                refine hK.out _ _ ⟨hHeld5, hHeld6⟩ (fun hHeld => ?_)
                clear hb1 hg hr1 HB5 HR5 HK5 HRU hHeld5 hHeld6
                clear hK K
                refine norm_ (a' := ?_) ?_ ?_
                rotate_left
                · show Act.put _ (some 121) _ = _
                  simp only [Act.put, List.setIfInBounds_toArray, List.set_cons_zero, List.set_cons_succ, i64_w, i32_w]
                  rfl
                refine last_ (i := 4) (N := none) #[true, true, true, true, true] rfl rfl (one_of HT_.out (by kernel_rfl)) (by decide) (fun K hK => ?_)
                refine skip_ (by rfl) rfl (w1 := w6.setCell ⟨gc, 0, none⟩ (.slice A1 ((headOf a ++ P.flatMap a.put ++ be a.others.length 1 ++ (a.others.take j).flatMap (fun s => ints (putCode s.data.toList))) ++ ints (putCode q.data.toList)).length c1)) (by go_simp) ?_
                refine hK.out _ _ ?_
                refine done_ (done_of HT_.out (by kernel_rfl)) ?_
                generalize w6.setCell ⟨gc, 0, none⟩ (.slice A1 ((headOf a ++ P.flatMap a.put ++ be a.others.length 1 ++ (a.others.take j).flatMap (fun s => ints (putCode s.data.toList))) ++ ints (putCode q.data.toList)).length c1) = w7 at HP9 ⊢
                clear HB HK HC HR
                have HA7 := Aside0.mk (HP9.out.2.1 _ _ HAz.out (put_ne HAz.out HPz.out) (fun c fz e_ => by injection e_ with _ e_; exact absurd e_ (by decide)))
                have HI7 := Aside0.mk (HP9.out.2.1 _ _ HIz.out (put_ne2 HIz.out HPz.out) (fun c fz e_ => by cases e_))
                have HP7 := Aside0.mk (put_self HP9.out)
                go_wp2
                go_roundg (a.others.length - j)
                case measure => omega
                case rel => exact ⟨j + 1, by simp, by omega, by omega, Aside0.mk (by rw [HTK.out]; simpa using HP7.out), HA7, HI7⟩
              · have hje : j = a.others.length := by omega
                subst hje
                go_wp2
                go_roundg (r.length + 1)
                case measure => simp
                case rel => exact ⟨P ++ [.o], r, by rw [HFP.out]; simp, rfl, Aside0.mk (by rw [List.flatMap_append, ← List.append_assoc]; exact (by simpa [Cmd.put] using HPq.out)), HAq, Aside0.mk (HIq.out.trans (by simp))⟩
end Go.Proofs.YtkpedlhofalnjaaGreatDoor
