/- What ask.Get computes: the right command whose bytes these begin with, or none. -/
import Derived.Test.YtkpedlhofalnjaaGreatDoorGetBase13
namespace Go.Proofs.YtkpedlhofalnjaaGreatDoor
set_option linter.unusedVariables false
set_option linter.unusedSimpArgs false
open Go.RowKit Go.Proofs.YtkpedlhofalnjaaGreatDoorW.PrintWords Go.Proofs.YtkpedlhofalnjaaGreatDoorW.PrintLast Go.Proofs.YtkpedlhofalnjaaGreatDoorW.PrintMore

section
variable (A0 : Option Addr) (c0 : Nat) (l : List Int) (w0 w : World) (gb gat gok : Nat) (p : Pos) (hga : w0.heap.size ≤ gat) (hgo : w0.heap.size ≤ gok)
    (hr : Kd.C (Kd.int .u8) w0 A0 l.length l) (hc : l.length ≤ c0) (hl : l.length ≤ 1000000) (hb : bytesOk l) (hp : p.1 ≤ l.length) (h : GetSt w0 w gb gat gok A0 l.length c0 p)
include hga hgo hr hc hl hb hp h
theorem take1 : Calls Tryz.prog 98 #[.int .i64 1, .pointer (some ⟨gok, 0, none⟩), .pointer (some ⟨gat, 0, none⟩), .pointer (some ⟨gb, 0, none⟩)] w fun e w' => e = .returned (.int .i64 (takeN l 1 p).1) ∧ GetSt w0 w' gb gat gok A0 l.length c0 (takeN l 1 p).2 ∧ But2 gat gok w w' := take_calls 1 (.inl rfl) w0 w gb gat gok A0 c0 l p hga hgo hr hc hl hb hp h
theorem take2 : Calls Tryz.prog 98 #[.int .i64 2, .pointer (some ⟨gok, 0, none⟩), .pointer (some ⟨gat, 0, none⟩), .pointer (some ⟨gb, 0, none⟩)] w fun e w' => e = .returned (.int .i64 (takeN l 2 p).1) ∧ GetSt w0 w' gb gat gok A0 l.length c0 (takeN l 2 p).2 ∧ But2 gat gok w w' := take_calls 2 (.inr (.inl rfl)) w0 w gb gat gok A0 c0 l p hga hgo hr hc hl hb hp h
theorem take8 : Calls Tryz.prog 98 #[.int .i64 8, .pointer (some ⟨gok, 0, none⟩), .pointer (some ⟨gat, 0, none⟩), .pointer (some ⟨gb, 0, none⟩)] w fun e w' => e = .returned (.int .i64 (takeN l 8 p).1) ∧ GetSt w0 w' gb gat gok A0 l.length c0 (takeN l 8 p).2 ∧ But2 gat gok w w' := take_calls 8 (.inr (.inr rfl)) w0 w gb gat gok A0 c0 l p hga hgo hr hc hl hb hp h
end
theorem put_ne5 {w : World} {g gi : Nat} {cs : Array Value} {t : TypeId} {s : ByteArray} {p : Nat} (h : w.heap[g]? = some (.cells cs t (0, 0))) (hi : w.heap[gi]? = some (.stringIter s p)) : gi ≠ g := fun e => put_ne3 h hi e.symm
theorem row_ne_iter {α : Type} {d : Kd α} {e : Nat} {w : World} {base : Nat} {v : Value} {xs : List α} {gi : Nat} {s : ByteArray} {p : Nat} (h : Kd.R d e w base (fun _ => True) v xs) (hi : w.heap[gi]? = some (.stringIter s p)) : some gi ≠ v.ownBlock := fun h_ => by
  obtain ⟨inner, ho⟩ := Kd.R_own h
  obtain ⟨cells, hc⟩ := own_typed ho gi h_.symm
  exact put_ne3 hc hi rfl
theorem row_typed {α : Type} {d : Kd α} {e : Nat} {w : World} {base : Nat} {v : Value} {xs : List α} (h : Kd.R d e w base (fun _ => True) v xs) : ∀ g, v.ownBlock = some g → ∃ cells, w.heap[g]? = some (.cells cells e (0, 0)) := by
  obtain ⟨inner, ho⟩ := Kd.R_own h
  exact own_typed ho
theorem take1_nat {b : List Int} (hb : bytesOk b) (p : Pos) : ∃ m : Nat, (takeN b 1 p).1 = (m : Int) ∧ m ≤ 255 := by
  have h1 := take1_le hb p
  have h0 : 0 ≤ (takeN b 1 p).1 := by
    by_cases h : (takeN b 1 p).2.2 = true
    · exact ((take_bwd2 hb (.inl rfl) p h).2.2.2.2.2.2 rfl).1
    · unfold takeN at h ⊢
      split
      · rename_i hc; rw [if_pos hc] at h; exact absurd rfl h
      · exact Int.le_refl _
  exact ⟨(takeN b 1 p).1.toNat, by omega, by omega⟩
theorem four_blocks (w : World) (o1 o2 o3 o4 : Obj) : (((((w.alloc o1).alloc o2).alloc o3).alloc o4).heap[w.heap.size]? = some o1) ∧ ((((w.alloc o1).alloc o2).alloc o3).alloc o4).heap[w.heap.size + 1]? = some o2 ∧ ((((w.alloc o1).alloc o2).alloc o3).alloc o4).heap[w.heap.size + 1 + 1]? = some o3 ∧ ((((w.alloc o1).alloc o2).alloc o3).alloc o4).heap[w.heap.size + 1 + 1 + 1]? = some o4 ∧ Below w.heap.size w ((((w.alloc o1).alloc o2).alloc o3).alloc o4) := by
  have s1 : (w.alloc o1).heap.size = w.heap.size + 1 := by simp
  have s2 : ((w.alloc o1).alloc o2).heap.size = w.heap.size + 1 + 1 := by simp
  have s3 : (((w.alloc o1).alloc o2).alloc o3).heap.size = w.heap.size + 1 + 1 + 1 := by simp
  refine ⟨blk_alloc (blk_alloc (blk_alloc (blk_new w o1) o2) o3) o4, ?_, ?_, ?_, ?_⟩
  · have h := blk_alloc (blk_alloc (blk_new (w.alloc o1) o2) o3) o4
    rwa [s1] at h
  · have h := blk_alloc (blk_new ((w.alloc o1).alloc o2) o3) o4
    rwa [s2] at h
  · have h := blk_new (((w.alloc o1).alloc o2).alloc o3) o4
    rwa [s3] at h
  · exact ((((Below.refl _ _).alloc (Nat.le_refl _) _).alloc (by rw [s1]; omega) _).alloc (by rw [s2]; omega) _).alloc (by rw [s3]; omega) _

/-- Just block g is turned. -/
structure Only (g : Nat) (w w1 : World) : Prop where
  os : w1.os = w.os
  tape : w1.tape = w.tape
  output : w1.output = w.output
  size : w1.heap.size = w.heap.size
  block : ∀ k, k ≠ g → w1.heap[k]? = w.heap[k]?
theorem Only.below {B g : Nat} {w0 w w1 : World} (h : Only g w w1) (hg : B ≤ g) (hb : Below B w0 w) : Below B w0 w1 := hb.trans ⟨h.os, h.tape, h.output, Nat.le_of_eq h.size.symm, fun k hk => h.block k (by omega)⟩
theorem Only.row {α : Type} {d : Kd α} {e : Nat} {w w1 : World} {base : Nat} {v : Value} {xs : List α} {g : Nat} {t : TypeId} {cs : Array Value} (o : Only g w w1) (h : Kd.R d e w base (fun _ => True) v xs) (hb : w.heap[g]? = some (.cells cs t (0, 0))) (ht : ∀ q, q ∈ e :: d.E → q ≠ t) : Kd.R d e w1 base (fun _ => True) v xs :=
  R_but h fun k hk ⟨q, hq, cells, hc⟩ => o.block k (blk_ne hc hb (ht q hq))
theorem set_whole {g : Nat} {e : TypeId} {cur vs : Array Value} {w : World} (hh : w.heap[g]? = some (.cells cur e (0, 0))) (hs : cur.size = vs.size) : (w.setCells g 0 vs.toList).heap[g]? = some (.cells vs e (0, 0)) ∧ Only g w (w.setCells g 0 vs.toList) := by
  obtain ⟨cur', h3, h4, h5⟩ := setCells_row vs.toList 0 w cur hh (by simp [hs])
  obtain ⟨s1, s2, s3, s4⟩ := setCells_same g vs.toList 0 w
  refine ⟨?_, ⟨s1, s2, s3, s4, fun k hk => setCells_far _ _ k hk⟩⟩
  have e1 : cur' = vs := by
    apply Array.toList_inj.1
    rw [h5]
    simp [hs]
  rw [h3, e1]
section
variable {P : Program} {ops : Array Oper} {rest : List Oper} {o : Oper} {a : Act} {Q : Exit → Act → World → Prop}
theorem exec_whole {ev : Operand → Value} {W : World} {t : TypeId} {p x : Operand} (ho : o.op = .store t p x) {g : Nat} {vs cur : Array Value} {e : TypeId} (hp : ev p = .pointer (some ⟨g, 0, none⟩)) (hx : ev x = .agg vs) (hh : W.heap[g]? = some (.cells cur e (0, 0))) (ht : (P.info? t).map (·.size) = some vs.toList.length) (hs : cur.size = vs.size) (h1 : ∀ q ∈ vs.toList, q.oneCell' = true) :
    (execOp ev o).run P W = .ok .skip (W.setCells g 0 vs.toList) := by
  have hrun := run_store_run (P := P) (o := 0) t (.agg vs) vs.toList hh rfl ht (by simp [hs]) h1
  unfold execOp
  simp only [ho, hp, hx, Sem.run_bind, Sem.run_pure, Result.andThen_ok, hrun]
theorem store_whole {W : World} (hN : o.dst = none) (hgd : o.guard = none) {t : TypeId} {p x : Operand} (ho : o.op = .store t p x) {g : Nat} {vs cur : Array Value} {e : TypeId} (hp : a.eval p = .pointer (some ⟨g, 0, none⟩)) (hx : a.eval x = .agg vs) (hh : W.heap[g]? = some (.cells cur e (0, 0))) (ht : (P.info? t).map (·.size) = some vs.toList.length) (hs : cur.size = vs.size) (h1 : ∀ q ∈ vs.toList, q.oneCell' = true)
    (h : ∀ w1, w1.heap[g]? = some (.cells vs e (0, 0)) → Only g W w1 → wpList P ops Q rest a w1) : wpList P ops Q (o :: rest) a W := by
  refine wpList_plain hgd fun K hK => ?_
  unfold Oper.wp
  rw [exec_whole ho hp hx hh ht hs h1]
  show K (a.put o.dst undef) _
  rw [hN]
  obtain ⟨h2, h3⟩ := set_whole (vs := vs) hh hs
  exact hK a _ (h _ h2 h3)
end

namespace get13
noncomputable def T29 : Bool × List (List Nat × List Nat) := rtab .any (opsOf Tryz.f39 29)
def B29 : List Nat := [0, 1, 0, 0, 8, 28, 60, 127, 255, 511]
theorem tab29 : rtab .any (opsOf Tryz.f39 29) = T29 := rfl
theorem bits29 : waitsOk T29.2 B29 = true := by kernel_rfl
end get13
namespace get13
noncomputable def T34 : Bool × List (List Nat × List Nat) := rtab .any (opsOf Tryz.f39 34)
def B34 : List Nat := [0, 1, 0, 4, 12, 31, 63, 127]
theorem tab34 : rtab .any (opsOf Tryz.f39 34) = T34 := rfl
theorem bits34 : waitsOk T34.2 B34 = true := by kernel_rfl
end get13
namespace get13
noncomputable def T37 : Bool × List (List Nat × List Nat) := rtab .any (opsOf Tryz.f39 37)
def B37 : List Nat := [0, 0, 1, 7, 15]
theorem tab37 : rtab .any (opsOf Tryz.f39 37) = T37 := rfl
theorem bits37 : waitsOk T37.2 B37 = true := by kernel_rfl
end get13

set_option maxRecDepth 100000 in
set_option maxHeartbeats 16000000 in
theorem get_calls (A0 : Option Addr) (c0 : Nat) (l : List Int) (w : World) (hr : Kd.C (Kd.int .u8) w A0 l.length l) (hc : l.length ≤ c0) (hl : l.length ≤ 1000000) (hb : bytesOk l) (hL : Laid13 w) :
    Calls Tryz.prog 39 #[.slice A0 l.length c0] w fun e w' => ∃ v9 v10, e = .returned (.tuple #[.agg (gotCells (getCmd l).1 v9 v10), .int .i64 (getCmd l).2.1, .int .i64 (getCmd l).2.2]) ∧ Kd.R A.k58 58 w' w.heap.size (fun _ => True) v9 (getCmd l).1.parts ∧ Kd.R Kd.string 9 w' w.heap.size (fun _ => True) v10 (getCmd l).1.others ∧ Below w.heap.size w w' := by
  have HR := Lib.hid hr
  have HC := Lib.hid hc
  have HLN := Lib.hid hl
  have HBY := Lib.hid hb
  have HL := Lib.hid hL
  clear hr hc hl hb hL
  have hmf : ∀ (fn : Fn) (first cap : Array Value) (w : World), (Instr.makeFunc fn first cap).run Tryz.prog w = .ok (.func fn first cap) w := fun _ _ _ _ => rfl
  go_enter Tryz.func39, Tryz.ntmps39
  go_wp2_with fail
  have hfour := four_blocks w (.cells #[.slice A0 l.length c0] 22) (.cells (gotCells zeroCmd (.slice none 0 0) (.slice none 0 0)) 38) (.cells #[.int .i64 0] 3) (.cells #[.bool true] 4)
  generalize hwa : (((w.alloc (.cells #[.slice A0 l.length c0] 22)).alloc (.cells (gotCells zeroCmd (.slice none 0 0) (.slice none 0 0)) 38)).alloc (.cells #[.int .i64 0] 3)).alloc (.cells #[.bool true] 4) = wa at hfour
  have hwa2 := hwa
  simp only [gotCells, zeroCmd, noText] at hwa2
  rw [hwa2]
  clear hwa hwa2
  obtain ⟨q1, q2, q3, q4, q5⟩ := hfour
  have HGA : Hid (w.heap.size ≤ w.heap.size + 1 + 1) := Lib.hid (by omega)
  have HGO : Hid (w.heap.size ≤ w.heap.size + 1 + 1 + 1) := Lib.hid (by omega)
  have HGRL : Hid (w.heap.size + 1 < wa.heap.size) := Lib.hid (blk_lt q2)
  have HGR : Hid (w.heap.size ≤ w.heap.size + 1) := Lib.hid (by omega)
  have HG1 : Aside0 (GetSt w wa w.heap.size (w.heap.size + 1 + 1) (w.heap.size + 1 + 1 + 1) A0 l.length c0 (0, true)) := ⟨q5, q1, q3, q4⟩
  have HZ1 := Aside0.mk q2
  clear q1 q2 q3 q4 q5
  generalize w.heap.size + 1 + 1 + 1 = gok at *
  generalize w.heap.size + 1 + 1 = gat at *
  generalize w.heap.size + 1 = gr at *
  refine (take1 A0 c0 l w wa w.heap.size gat gok (0, true) HGA.out HGO.out HR.out HC.out HLN.out HBY.out (Nat.zero_le _) HG1.out).mono ?_
  rintro e w2 ⟨rfl, hg, hb⟩
  have HZ2 := Aside0.mk (hb.blk HZ1.out (blk_ne HZ1.out HG1.out.2.2.1 (by decide)) (blk_ne HZ1.out HG1.out.2.2.2 (by decide)))
  have HS2 := Lib.hid (Nat.lt_of_lt_of_le HGRL.out hb.1)
  have HG2 := Aside0.mk hg
  have hp2 := Lib.hid (take_le (b := l) (s := 1) (p := (0, true)) (Nat.zero_le _))
  clear hg hb HG1 HZ1
  have HT1 : Hid (getHead l = ((takeN l 8 (takeN l 1 (0, true)).2).2, { zeroCmd with kind := (takeN l 1 (0, true)).1 % 256, req := (takeN l 8 (takeN l 1 (0, true)).2).1 })) := Lib.hid rfl
  generalize takeN l 1 (0, true) = t1 at *
  obtain ⟨k1, p1⟩ := t1
  simp only at HG2 hp2 HT1
  go_wp2_with fail
  refine (take8 A0 c0 l w w2 w.heap.size gat gok p1 HGA.out HGO.out HR.out HC.out HLN.out HBY.out hp2.out HG2.out).mono ?_
  rintro e w3 ⟨rfl, hg, hb⟩
  have HZ3 := Aside0.mk (hb.blk HZ2.out (blk_ne HZ2.out HG2.out.2.2.1 (by decide)) (blk_ne HZ2.out HG2.out.2.2.2 (by decide)))
  have HS3 := Lib.hid (Nat.lt_of_lt_of_le HS2.out hb.1)
  have HG3 := Aside0.mk hg
  have hp3 := Lib.hid (take_le (b := l) (s := 8) (p := p1) hp2.out)
  clear hg hb HG2 HZ2 HS2
  generalize takeN l 8 p1 = t2 at *
  obtain ⟨k2, p2⟩ := t2
  simp only at HG3 hp3 HT1
  go_wp2_with fail
  have HKD : Hid (0 ≤ k1 % 256 ∧ k1 % 256 ≤ 255) := Lib.hid (by omega)
  obtain ⟨a0, ha0⟩ : ∃ a0, a0 = ({ zeroCmd with kind := k1 % 256, req := k2 } : Cmd) := ⟨_, rfl⟩
  have HG4 := Aside0.mk (get_below HG3.out ((Below.refl _ _).alloc (Nat.le_refl _) (.cells (gotCells a0 (.slice none 0 0) (.slice none 0 0)) 38)))
  have HZ4 := Aside0.mk (blk_alloc HZ3.out (.cells (gotCells a0 (.slice none 0 0) (.slice none 0 0)) 38))
  have HA4 : Aside0 (ASt w (w3.alloc (.cells (gotCells a0 (.slice none 0 0) (.slice none 0 0)) 38)) w3.heap.size a0) := ⟨_, _, blk_new w3 _, by rw [ha0]; exact Kd.R_nil _ _ _ _ _, by rw [ha0]; exact Kd.R_nil _ _ _ _ _⟩
  have HNR : Hid (gr ≠ w3.heap.size) := Lib.hid (Nat.ne_of_lt HS3.out)
  have HGE : Hid (w.heap.size ≤ w3.heap.size) := Lib.hid HG3.out.1.size
  have HF : Hid (∀ w, Laid13 w → Calls Tryz.prog 81 #[.int .u8 (k1 % 256)] w fun e w' => e = .returned (.tuple #[.string (textOf (k1 % 256)), .bool (fieldsOf (k1 % 256)).isSome]) ∧ Below w.heap.size w w') := Lib.hid fun w hL => fields_any _ HKD.out.1 HKD.out.2 w hL
  refine (HF.out _ (HL.out.below (by rw [ha0] at HG4; exact HG4.out.1))).mono ?_
  rintro e w5 ⟨rfl, hb⟩
  have hb' : Below (w3.alloc (.cells (gotCells a0 (.slice none 0 0) (.slice none 0 0)) 38)).heap.size (w3.alloc (.cells (gotCells a0 (.slice none 0 0) (.slice none 0 0)) 38)) w5 := by rw [ha0]; exact hb
  have HG5 := Aside0.mk (get_below HG4.out hb')
  have HA5 := Aside0.mk (ast_below HA4.out hb')
  have HZ5 := Aside0.mk (blk_below HZ4.out hb')
  clear hb hb' HG3 HG4 HA4 HZ3 HZ4 HS3
  have HFI : Hid (∃ f, f = fieldsIn (getHead l).2.kind ∧ (textOf (k1 % 256)).data.toList = f.map Fld.byte ∧ f.length ≤ 4) := Lib.hid ⟨_, rfl, by rw [HT1.out]; rfl, fieldsIn_len _⟩
  obtain ⟨f, hfi, htx, hf4⟩ := HFI.out
  have HFI2 := Lib.hid hfi
  have HTX := Lib.hid htx
  have HF4 := Lib.hid hf4
  clear HFI hfi htx hf4 HF
  generalize textOf (k1 % 256) = s at *
  generalize (fieldsOf (k1 % 256)).isSome = fb
  generalize w3.heap.size = ga at *
  have HHD : Hid (getHead l = (p2, a0)) := Lib.hid (by rw [HT1.out, ha0])
  clear HT1
  have HG6 := Aside0.mk (get_below HG5.out ((Below.refl _ _).alloc (Nat.le_refl _) (.stringIter s 0)))
  have HA6 := Aside0.mk (ast_below HA5.out ((Below.refl _ _).alloc (Nat.le_refl _) (.stringIter s 0)))
  have HZ6 := Aside0.mk (blk_alloc HZ5.out (.stringIter s 0))
  have HI6 := Aside0.mk (blk_new w5 (.stringIter s 0))
  have HGI := Lib.hid HG5.out.1.size
  clear HG5 HA5 HZ5
  go_wp2_with fail
  generalize hw6 : w5.alloc (.stringIter s 0) = w6 at *
  have hw7 : w5.iter s 0 = w6 := hw6
  rw [hw7]
  clear hw6 hw7
  generalize w5.heap.size = gi at *
  go_loopg [] (f.length + 1) (fun kq wr => ∃ (P r : List Fld), f = P ++ r ∧ kq = r.length + 1 ∧ Aside0 (GetSt w wr w.heap.size gat gok A0 l.length c0 (getFlds l P (getHead l)).1) ∧ Aside0 (ASt w wr ga (getFlds l P (getHead l)).2) ∧ Aside0 (wr.heap[gi]? = some (.stringIter s P.length)) ∧ Aside0 (wr.heap[gr]? = some (.cells (gotCells zeroCmd (.slice none 0 0) (.slice none 0 0)) 38 (0, 0))) ∧ (getFlds l P (getHead l)).1.1 ≤ l.length)
  case atStart => exact ⟨[], f, rfl, rfl, Aside0.mk (by rw [HHD.out]; exact HG6.out), Aside0.mk (by rw [HHD.out]; exact HA6.out), HI6, HZ6, by rw [HHD.out]; exact hp3.out⟩
  case round =>
    clear HG6 HA6 HZ6 HI6
    obtain ⟨P, r, hfP, hkq, HG, HA, HI, HZ, hple⟩ := hrel
    have HFP := Lib.hid hfP
    have hpl := Lib.hid hple
    clear hfP hple
    subst hkq
    generalize hst : getFlds l P (getHead l) = st at *
    have HST := Lib.hid hst
    clear hst
    obtain ⟨p, a⟩ := st
    simp only at HG HA hpl
    cases r with
    | nil =>
      have hP : f = P := by rw [HFP.out, List.append_nil]
      have hall : getAll l = (p, a) := by
        show getFlds l (fieldsIn (getHead l).2.kind) (getHead l) = _
        rw [← HFI2.out, hP, HST.out]
      have HALL := Lib.hid hall
      have HPP := Lib.hid hP
      clear hP hall
      have hnx : ∀ ty, (Instr.next (.pointer (some ⟨gi, 0, none⟩)) true ty).run Tryz.prog wr = .ok (.tuple #[.bool false]) wr := fun ty => next_fld_end wr gi s P (by rw [HTX.out, HPP.out]) HI.out ty
      obtain ⟨n, ok⟩ := p
      have kok : wr.cell? ⟨gok, 0, none⟩ = some (.bool ok) := blk_cell HG.out.2.2.2 0
      cases ok with
      | false =>
        have HGC : Hid (getCmd l = (zeroCmd, 0, 4)) := Lib.hid (by unfold getCmd; rw [HALL.out, if_neg (by simp)])
        have HZ0 := Aside0.mk HZ.out
        have HB0 := Aside0.mk HG.out.1
        go_wp2_with (first | (refine gate_ (.store 38 (.tmp 2) (.tmp 119)) rfl ?_; refine store_whole rfl rfl rfl (vs := gotCells zeroCmd (.slice none 0 0) (.slice none 0 0)) (by rfl) (by rfl) HZ0.out (by kernel_rfl) rfl (by decide) ?_; intro w7 hz7 ho7; have HZ9 := Aside0.mk hz7; have HB9 := Aside0.mk (ho7.below HGR.out HB0.out); clear hz7 ho7) | fail)
        refine bodyPost_ret (results_list (rs := [.cell 2 38, .tmp 3, .tmp 4]) (vs := [.agg (gotCells zeroCmd (.slice none 0 0) (.slice none 0 0)), _, _]) rfl (by simp) (Vals.cell gr 38 _ (0, 0) _ (by rfl) HZ9.out Tryz.underlying38 rfl (by kernel_rfl) (Vals.tmp (Vals.tmp Vals.nil)))) rfl ?_
        rw [HGC.out]
        exact ⟨.slice none 0 0, .slice none 0 0, rfl, Kd.R_nil _ _ _ _ _, Kd.R_nil _ _ _ _ _, HB9.out⟩
      | true =>
        obtain ⟨v9, v10, h1, h2, h3⟩ := HA.out
        obtain ⟨A9, c9, hv9, hc9, hr9⟩ := Kd.R_reads h2
        obtain ⟨A10, c10, hv10, hc10, hr10⟩ := Kd.R_reads h3
        subst hv9 hv10
        have hfit : a.fits := by have h_ := getAll_fits HBY.out; rw [HALL.out] at h_; exact h_
        have HRT := Lib.hid (right_calls a A9 c9 A10 c10 wr hr9 hc9 hr10 hc10 hfit (HL.out.below HG.out.1))
        have H1 := Aside0.mk h1
        have H2 := Aside0.mk h2
        have H3 := Aside0.mk h3
        clear h1 h2 h3 hr9 hr10 hc9 hc10 hfit
        have k0 : wr.cell? ⟨ga, 0, none⟩ = some (.int .u8 a.kind) := blk_cell H1.out 0
        have k1 : wr.cell? ⟨ga, 1, none⟩ = some (.int .i64 a.req) := blk_cell H1.out 1
        have k2 : wr.cell? ⟨ga, 2, none⟩ = some (.string a.item) := blk_cell H1.out 2
        have k3 : wr.cell? ⟨ga, 3, none⟩ = some (.int .i64 a.qty) := blk_cell H1.out 3
        have k4 : wr.cell? ⟨ga, 4, none⟩ = some (.int .i64 a.day) := blk_cell H1.out 4
        have k5 : wr.cell? ⟨ga, 5, none⟩ = some (.int .i64 a.days) := blk_cell H1.out 5
        have k6 : wr.cell? ⟨ga, 6, none⟩ = some (.int .i64 a.rank) := blk_cell H1.out 6
        have k7 : wr.cell? ⟨ga, 7, none⟩ = some (.int .i64 a.lot) := blk_cell H1.out 7
        have k8 : wr.cell? ⟨ga, 8, none⟩ = some (.int .i64 a.line) := blk_cell H1.out 8
        have k9 : wr.cell? ⟨ga, 9, none⟩ = some (.slice A9 a.parts.length c9) := blk_cell H1.out 9
        have k10 : wr.cell? ⟨ga, 10, none⟩ = some (.slice A10 a.others.length c10) := blk_cell H1.out 10
        go_wp2_with fail
        cases hrc : rightCmd a with
        | false =>
          have HGC : Hid (getCmd l = (zeroCmd, 0, 4)) := Lib.hid (by unfold getCmd; rw [HALL.out, if_neg (by simp [hrc])])
          rw [hrc] at HRT
          clear hrc
          refine HRT.out.mono ?_
          rintro e w2 ⟨rfl, hb⟩
          have HB2 := Aside0.mk (HG.out.1.trans (hb.mono HG.out.1.size))
          have HZ2 := Aside0.mk (blk_below HZ.out hb)
          clear hb k0 k1 k2 k3 k4 k5 k6 k7 k8 k9 k10
          have HZ0 := Aside0.mk HZ2.out
          have HB0 := Aside0.mk HB2.out
          go_wp2_with (first | (refine gate_ (.store 38 (.tmp 2) (.tmp 119)) rfl ?_; refine store_whole rfl rfl rfl (vs := gotCells zeroCmd (.slice none 0 0) (.slice none 0 0)) (by rfl) (by rfl) HZ0.out (by kernel_rfl) rfl (by decide) ?_; intro w7 hz7 ho7; have HZ9 := Aside0.mk hz7; have HB9 := Aside0.mk (ho7.below HGR.out HB0.out); clear hz7 ho7) | fail)
          refine bodyPost_ret (results_list (rs := [.cell 2 38, .tmp 3, .tmp 4]) (vs := [.agg (gotCells zeroCmd (.slice none 0 0) (.slice none 0 0)), _, _]) rfl (by simp) (Vals.cell gr 38 _ (0, 0) _ (by rfl) HZ9.out Tryz.underlying38 rfl (by kernel_rfl) (Vals.tmp (Vals.tmp Vals.nil)))) rfl ?_
          rw [HGC.out]
          exact ⟨.slice none 0 0, .slice none 0 0, rfl, Kd.R_nil _ _ _ _ _, Kd.R_nil _ _ _ _ _, HB9.out⟩
        | true =>
          have HGC : Hid (getCmd l = (a, (n : Int), 0)) := Lib.hid (by unfold getCmd; rw [HALL.out, if_pos ⟨rfl, hrc⟩])
          rw [hrc] at HRT
          clear hrc
          refine HRT.out.mono ?_
          rintro e w2 ⟨rfl, hb⟩
          have HB2 := Aside0.mk (HG.out.1.trans (hb.mono HG.out.1.size))
          have HZ2 := Aside0.mk (blk_below HZ.out hb)
          have H12 := Aside0.mk (blk_below H1.out hb)
          have HT2 := Aside0.mk (blk_below HG.out.2.2.1 hb)
          have H22 := Aside0.mk (Kd.R_below H2.out hb)
          have H32 := Aside0.mk (Kd.R_below H3.out hb)
          clear hb k0 k1 k2 k3 k4 k5 k6 k7 k8 k9 k10
          go_wp2_with fail
          refine start_ (n := 5) (S := fun w' => w'.heap[ga]? = some (.cells (gotCells a (.slice A9 a.parts.length c9) (.slice A10 a.others.length c10)) 38 (0, 0)) ∧ w'.heap[gat]? = some (.cells #[.int .i64 n] 3 (0, 0))) (ds := []) #[false, false, false, false, false] (by kernel_rfl) rfl rfl (⟨H12.out, HT2.out⟩) (fun hHeld => ?_); refine with_tabW get13.tab37 get13.bits37 (fun HT_ HW_ => ?_)
          have HB4 := Aside0.mk (below_drew1 HB2.out)
          have HZ4 : Aside0 (w2.drew.heap[gr]? = some (.cells (gotCells zeroCmd (.slice none 0 0) (.slice none 0 0)) 38 (0, 0))) := ⟨HZ2.out⟩
          have H24 := Aside0.mk (Kd.R_below H22.out (below_drew1 (Below.refl _ _)))
          have H34 := Aside0.mk (Kd.R_below H32.out (below_drew1 (Below.refl _ _)))
          generalize w2.drew = w4 at HB4 HZ4 H24 H34 hHeld ⊢
          refine take_ (i := 0) (N := some 120) (v := ?_) (a' := ?_) #[true, false, false, false, false] rfl rfl (take_ofW HT_.out HW_.out (by kernel_rfl)) (fun _ _ _ h => h) (Or.inl ⟨by rfl, ?_⟩) hHeld ?_ ?_
          rotate_left
          · rintro w' hS
            have hc := blk_cell hS.1 0
            have hc1 := blk_cell hS.1 1
            have hc2 := blk_cell hS.1 2
            have hc3 := blk_cell hS.1 3
            have hc4 := blk_cell hS.1 4
            have hc5 := blk_cell hS.1 5
            have hc6 := blk_cell hS.1 6
            have hc7 := blk_cell hS.1 7
            have hc8 := blk_cell hS.1 8
            have hc9 := blk_cell hS.1 9
            have hc10 := blk_cell hS.1 10
            go_simp
            with_reducible rfl
          rotate_left
          · simp only [Act.put, List.setIfInBounds_toArray, List.set_cons_zero, List.set_cons_succ, i64_w, i32_w]
            rfl
          refine take_ (i := 1) (N := some 121) (v := ?_) (a' := ?_) #[true, true, false, false, false] rfl rfl (take_ofW HT_.out HW_.out (by kernel_rfl)) (fun _ _ _ h => h) (Or.inl ⟨by rfl, ?_⟩) hHeld ?_ ?_
          rotate_left
          · rintro w' hS
            have hc := blk_cell hS.2 0
            go_simp
            with_reducible rfl
          rotate_left
          · simp only [Act.put, List.setIfInBounds_toArray, List.set_cons_zero, List.set_cons_succ, i64_w, i32_w]
            rfl
          refine one_ (i := 2) (N := none) #[true, true, true, false, false] rfl rfl (one_of HT_.out (by kernel_rfl)) (by decide) (fun K hK => ?_)
          obtain ⟨hz9, ho9⟩ := set_whole (vs := gotCells a (.slice A9 a.parts.length c9) (.slice A10 a.others.length c10)) HZ4.out rfl
          refine skip_ (by rfl) rfl (exec_whole rfl (vs := gotCells a (.slice A9 a.parts.length c9) (.slice A10 a.others.length c10)) (by rfl) (by rfl) HZ4.out (by kernel_rfl) rfl (by simp [Value.oneCell'])) ?_
          refine hK.out _ _ ⟨(ho9.block _ (fun e_ => HNR.out e_.symm)).trans hHeld.1, (ho9.block _ (blk_ne hHeld.2 HZ4.out (by decide))).trans hHeld.2⟩ (fun hHeld => ?_)
          have HZ9 := Aside0.mk hz9
          have HB9 := Aside0.mk (ho9.below HGR.out HB4.out)
          have H29 := Aside0.mk (ho9.row H24.out HZ4.out (by decide))
          have H39 := Aside0.mk (ho9.row H34.out HZ4.out (by decide))
          clear hz9 ho9 HB4 HZ4 H24 H34
          generalize w4.setCells gr 0 (gotCells a (.slice A9 a.parts.length c9) (.slice A10 a.others.length c10)).toList = w9 at HZ9 HB9 H29 H39 hHeld ⊢
          clear hK K
          refine pure_ (i := 3) (N := some 3) (v := ?_) (a' := ?_) #[true, true, true, true, false] rfl rfl (any_of HT_.out (by kernel_rfl)) (fun _ _ _ h => h) (Or.inl ⟨by rfl, ?_⟩) ?_ ?_
          rotate_left
          · intro w'
            go_simp
            with_reducible rfl
          rotate_left
          · simp only [Act.put, List.setIfInBounds_toArray, List.set_cons_zero, List.set_cons_succ, i64_w, i32_w]
            rfl
          refine pure_ (i := 4) (N := some 4) (v := ?_) (a' := ?_) #[true, true, true, true, true] rfl rfl (any_of HT_.out (by kernel_rfl)) (fun _ _ _ h => h) (Or.inl ⟨by rfl, ?_⟩) ?_ ?_
          rotate_left
          · intro w'
            go_simp
            with_reducible rfl
          rotate_left
          · simp only [Act.put, List.setIfInBounds_toArray, List.set_cons_zero, List.set_cons_succ, i64_w, i32_w]
            rfl
          refine done_ (done_of HT_.out (by kernel_rfl)) ?_
          go_wp2
          refine bodyPost_ret (results_list (rs := [.cell 2 38, .tmp 3, .tmp 4]) (vs := [.agg (gotCells a (.slice A9 a.parts.length c9) (.slice A10 a.others.length c10)), _, _]) rfl (by simp) (Vals.cell gr 38 _ (0, 0) _ (by rfl) HZ9.out Tryz.underlying38 rfl (by kernel_rfl) (Vals.tmp (Vals.tmp Vals.nil)))) rfl ?_
          rw [HGC.out]
          exact ⟨.slice A9 a.parts.length c9, .slice A10 a.others.length c10, rfl, H29.out, H39.out, HB9.out⟩
    | cons c r =>
      obtain ⟨wn, hwn0⟩ : ∃ wn, wn = wr.iterAt gi s (P.length + 1) := ⟨_, rfl⟩
      have hwn := Lib.hid hwn0
      have HGn : Aside0 (GetSt w wn w.heap.size gat gok A0 l.length c0 p) := Aside0.mk (by rw [hwn0]; exact get_iter HG.out HI.out HGI.out _)
      have HAn : Aside0 (ASt w wn ga a) := Aside0.mk (by rw [hwn0]; exact ast_iter HA.out HI.out _)
      have HZn : Aside0 (wn.heap[gr]? = some (.cells (gotCells zeroCmd (.slice none 0 0) (.slice none 0 0)) 38 (0, 0))) := Aside0.mk (by rw [hwn0, Lib.iterAt_other _ _ _ _ _ (put_ne3 HZ.out HI.out)]; exact HZ.out)
      have HIn : Aside0 (wn.heap[gi]? = some (.stringIter s (P.length + 1))) := Aside0.mk (by rw [hwn0]; exact Lib.iterAt_heap _ _ _ _ _ HI.out)
      clear hwn0 HG HA HZ
      cases c with
      | i =>
        have hnx : ∀ ty, (Instr.next (.pointer (some ⟨gi, 0, none⟩)) true ty).run Tryz.prog wr = .ok (.tuple #[.bool true, .int .i64 P.length, .int .i32 105]) wn := fun ty => by rw [hwn.out]; exact next_fld wr gi s P r .i (by rw [HTX.out, HFP.out]) HI.out ty
        go_wp2_with fail
        refine (coded_calls w wn w.heap.size gat gok A0 c0 l p HGA.out HGO.out HR.out HC.out HLN.out HBY.out hpl.out HGn.out).mono ?_
        rintro e w3 ⟨rfl, hg, hb⟩
        have HA3 := Aside0.mk (ast_but2 HAn.out HGn.out hb)
        have HI3 := Aside0.mk (hb.blk HIn.out (put_ne5 HGn.out.2.2.1 HIn.out) (put_ne5 HGn.out.2.2.2 HIn.out))
        have HZ3 := Aside0.mk (hb.blk HZn.out (blk_ne HZn.out HGn.out.2.2.1 (by decide)) (blk_ne HZn.out HGn.out.2.2.2 (by decide)))
        have HG3 := Aside0.mk hg
        clear hg hb HGn HAn HIn HZn
        obtain ⟨v9, v10, h1, h2, h3⟩ := HA3.out
        have hcell := (blk_cell h1 2).trans rfl
        have hfr := blk_frozen h1 2
        have HG4 := Aside0.mk (get_setA HG3.out h1 HGE.out 2 (.string (codedN l p).1))
        have HI4 := Aside0.mk (iter_setA HI3.out h1 2 (.string (codedN l p).1))
        have HZ4 := Aside0.mk (blk_far HZ3.out (p := ⟨ga, 2, none⟩) HNR.out (.string (codedN l p).1))
        have HA4 : Aside0 (ASt w (w3.setCell ⟨ga, 2, none⟩ (.string (codedN l p).1)) ga { a with item := (codedN l p).1 }) := Aside0.mk (ast_set 2 (.string (codedN l p).1) HA3.out (fun _ _ => rfl) rfl rfl)
        clear h1 h2 h3 HG3 HA3 HI3 HZ3
        go_wp2
        go_roundg (r.length + 1)
        case measure => simp
        case rel => exact ⟨P ++ [.i], r, by rw [HFP.out]; simp, rfl, Aside0.mk (by rw [getFlds_snoc, HST.out]; exact HG4.out), Aside0.mk (by rw [getFlds_snoc, HST.out]; exact HA4.out), Aside0.mk (HI4.out.trans (by simp)), HZ4, by rw [getFlds_snoc, HST.out]; exact getFld_le HBY.out _ _ hpl.out⟩
      | q =>
        have hnx : ∀ ty, (Instr.next (.pointer (some ⟨gi, 0, none⟩)) true ty).run Tryz.prog wr = .ok (.tuple #[.bool true, .int .i64 P.length, .int .i32 113]) wn := fun ty => by rw [hwn.out]; exact next_fld wr gi s P r .q (by rw [HTX.out, HFP.out]) HI.out ty
        go_wp2_with fail
        refine (take8 A0 c0 l w wn w.heap.size gat gok p HGA.out HGO.out HR.out HC.out HLN.out HBY.out hpl.out HGn.out).mono ?_
        rintro e w3 ⟨rfl, hg, hb⟩
        have HA3 := Aside0.mk (ast_but2 HAn.out HGn.out hb)
        have HI3 := Aside0.mk (hb.blk HIn.out (put_ne5 HGn.out.2.2.1 HIn.out) (put_ne5 HGn.out.2.2.2 HIn.out))
        have HZ3 := Aside0.mk (hb.blk HZn.out (blk_ne HZn.out HGn.out.2.2.1 (by decide)) (blk_ne HZn.out HGn.out.2.2.2 (by decide)))
        have HG3 := Aside0.mk hg
        clear hg hb HGn HAn HIn HZn
        obtain ⟨v9, v10, h1, h2, h3⟩ := HA3.out
        have hcell := (blk_cell h1 3).trans rfl
        have hfr := blk_frozen h1 3
        have HG4 := Aside0.mk (get_setA HG3.out h1 HGE.out 3 (.int .i64 (takeN l 8 p).1))
        have HI4 := Aside0.mk (iter_setA HI3.out h1 3 (.int .i64 (takeN l 8 p).1))
        have HZ4 := Aside0.mk (blk_far HZ3.out (p := ⟨ga, 3, none⟩) HNR.out (.int .i64 (takeN l 8 p).1))
        have HA4 : Aside0 (ASt w (w3.setCell ⟨ga, 3, none⟩ (.int .i64 (takeN l 8 p).1)) ga { a with qty := (takeN l 8 p).1 }) := Aside0.mk (ast_set 3 (.int .i64 (takeN l 8 p).1) HA3.out (fun _ _ => rfl) rfl rfl)
        clear h1 h2 h3 HG3 HA3 HI3 HZ3
        go_wp2
        go_roundg (r.length + 1)
        case measure => simp
        case rel => exact ⟨P ++ [.q], r, by rw [HFP.out]; simp, rfl, Aside0.mk (by rw [getFlds_snoc, HST.out]; exact HG4.out), Aside0.mk (by rw [getFlds_snoc, HST.out]; exact HA4.out), Aside0.mk (HI4.out.trans (by simp)), HZ4, by rw [getFlds_snoc, HST.out]; exact getFld_le HBY.out _ _ hpl.out⟩
      | d =>
        have hnx : ∀ ty, (Instr.next (.pointer (some ⟨gi, 0, none⟩)) true ty).run Tryz.prog wr = .ok (.tuple #[.bool true, .int .i64 P.length, .int .i32 100]) wn := fun ty => by rw [hwn.out]; exact next_fld wr gi s P r .d (by rw [HTX.out, HFP.out]) HI.out ty
        go_wp2_with fail
        refine (take2 A0 c0 l w wn w.heap.size gat gok p HGA.out HGO.out HR.out HC.out HLN.out HBY.out hpl.out HGn.out).mono ?_
        rintro e w3 ⟨rfl, hg, hb⟩
        have HA3 := Aside0.mk (ast_but2 HAn.out HGn.out hb)
        have HI3 := Aside0.mk (hb.blk HIn.out (put_ne5 HGn.out.2.2.1 HIn.out) (put_ne5 HGn.out.2.2.2 HIn.out))
        have HZ3 := Aside0.mk (hb.blk HZn.out (blk_ne HZn.out HGn.out.2.2.1 (by decide)) (blk_ne HZn.out HGn.out.2.2.2 (by decide)))
        have HG3 := Aside0.mk hg
        clear hg hb HGn HAn HIn HZn
        obtain ⟨v9, v10, h1, h2, h3⟩ := HA3.out
        have hcell := (blk_cell h1 4).trans rfl
        have hfr := blk_frozen h1 4
        have HG4 := Aside0.mk (get_setA HG3.out h1 HGE.out 4 (.int .i64 (takeN l 2 p).1))
        have HI4 := Aside0.mk (iter_setA HI3.out h1 4 (.int .i64 (takeN l 2 p).1))
        have HZ4 := Aside0.mk (blk_far HZ3.out (p := ⟨ga, 4, none⟩) HNR.out (.int .i64 (takeN l 2 p).1))
        have HA4 : Aside0 (ASt w (w3.setCell ⟨ga, 4, none⟩ (.int .i64 (takeN l 2 p).1)) ga { a with day := (takeN l 2 p).1 }) := Aside0.mk (ast_set 4 (.int .i64 (takeN l 2 p).1) HA3.out (fun _ _ => rfl) rfl rfl)
        clear h1 h2 h3 HG3 HA3 HI3 HZ3
        go_wp2
        go_roundg (r.length + 1)
        case measure => simp
        case rel => exact ⟨P ++ [.d], r, by rw [HFP.out]; simp, rfl, Aside0.mk (by rw [getFlds_snoc, HST.out]; exact HG4.out), Aside0.mk (by rw [getFlds_snoc, HST.out]; exact HA4.out), Aside0.mk (HI4.out.trans (by simp)), HZ4, by rw [getFlds_snoc, HST.out]; exact getFld_le HBY.out _ _ hpl.out⟩
      | l =>
        have hnx : ∀ ty, (Instr.next (.pointer (some ⟨gi, 0, none⟩)) true ty).run Tryz.prog wr = .ok (.tuple #[.bool true, .int .i64 P.length, .int .i32 108]) wn := fun ty => by rw [hwn.out]; exact next_fld wr gi s P r .l (by rw [HTX.out, HFP.out]) HI.out ty
        go_wp2_with fail
        refine (take2 A0 c0 l w wn w.heap.size gat gok p HGA.out HGO.out HR.out HC.out HLN.out HBY.out hpl.out HGn.out).mono ?_
        rintro e w3 ⟨rfl, hg, hb⟩
        have HA3 := Aside0.mk (ast_but2 HAn.out HGn.out hb)
        have HI3 := Aside0.mk (hb.blk HIn.out (put_ne5 HGn.out.2.2.1 HIn.out) (put_ne5 HGn.out.2.2.2 HIn.out))
        have HZ3 := Aside0.mk (hb.blk HZn.out (blk_ne HZn.out HGn.out.2.2.1 (by decide)) (blk_ne HZn.out HGn.out.2.2.2 (by decide)))
        have HG3 := Aside0.mk hg
        clear hg hb HGn HAn HIn HZn
        obtain ⟨v9, v10, h1, h2, h3⟩ := HA3.out
        have hcell := (blk_cell h1 5).trans rfl
        have hfr := blk_frozen h1 5
        have HG4 := Aside0.mk (get_setA HG3.out h1 HGE.out 5 (.int .i64 (takeN l 2 p).1))
        have HI4 := Aside0.mk (iter_setA HI3.out h1 5 (.int .i64 (takeN l 2 p).1))
        have HZ4 := Aside0.mk (blk_far HZ3.out (p := ⟨ga, 5, none⟩) HNR.out (.int .i64 (takeN l 2 p).1))
        have HA4 : Aside0 (ASt w (w3.setCell ⟨ga, 5, none⟩ (.int .i64 (takeN l 2 p).1)) ga { a with days := (takeN l 2 p).1 }) := Aside0.mk (ast_set 5 (.int .i64 (takeN l 2 p).1) HA3.out (fun _ _ => rfl) rfl rfl)
        clear h1 h2 h3 HG3 HA3 HI3 HZ3
        go_wp2
        go_roundg (r.length + 1)
        case measure => simp
        case rel => exact ⟨P ++ [.l], r, by rw [HFP.out]; simp, rfl, Aside0.mk (by rw [getFlds_snoc, HST.out]; exact HG4.out), Aside0.mk (by rw [getFlds_snoc, HST.out]; exact HA4.out), Aside0.mk (HI4.out.trans (by simp)), HZ4, by rw [getFlds_snoc, HST.out]; exact getFld_le HBY.out _ _ hpl.out⟩
      | r =>
        have hnx : ∀ ty, (Instr.next (.pointer (some ⟨gi, 0, none⟩)) true ty).run Tryz.prog wr = .ok (.tuple #[.bool true, .int .i64 P.length, .int .i32 114]) wn := fun ty => by rw [hwn.out]; exact next_fld wr gi s P r .r (by rw [HTX.out, HFP.out]) HI.out ty
        go_wp2_with fail
        refine (take1 A0 c0 l w wn w.heap.size gat gok p HGA.out HGO.out HR.out HC.out HLN.out HBY.out hpl.out HGn.out).mono ?_
        rintro e w3 ⟨rfl, hg, hb⟩
        have HA3 := Aside0.mk (ast_but2 HAn.out HGn.out hb)
        have HI3 := Aside0.mk (hb.blk HIn.out (put_ne5 HGn.out.2.2.1 HIn.out) (put_ne5 HGn.out.2.2.2 HIn.out))
        have HZ3 := Aside0.mk (hb.blk HZn.out (blk_ne HZn.out HGn.out.2.2.1 (by decide)) (blk_ne HZn.out HGn.out.2.2.2 (by decide)))
        have HG3 := Aside0.mk hg
        clear hg hb HGn HAn HIn HZn
        obtain ⟨v9, v10, h1, h2, h3⟩ := HA3.out
        have hcell := (blk_cell h1 6).trans rfl
        have hfr := blk_frozen h1 6
        have HG4 := Aside0.mk (get_setA HG3.out h1 HGE.out 6 (.int .i64 (takeN l 1 p).1))
        have HI4 := Aside0.mk (iter_setA HI3.out h1 6 (.int .i64 (takeN l 1 p).1))
        have HZ4 := Aside0.mk (blk_far HZ3.out (p := ⟨ga, 6, none⟩) HNR.out (.int .i64 (takeN l 1 p).1))
        have HA4 : Aside0 (ASt w (w3.setCell ⟨ga, 6, none⟩ (.int .i64 (takeN l 1 p).1)) ga { a with rank := (takeN l 1 p).1 }) := Aside0.mk (ast_set 6 (.int .i64 (takeN l 1 p).1) HA3.out (fun _ _ => rfl) rfl rfl)
        clear h1 h2 h3 HG3 HA3 HI3 HZ3
        go_wp2
        go_roundg (r.length + 1)
        case measure => simp
        case rel => exact ⟨P ++ [.r], r, by rw [HFP.out]; simp, rfl, Aside0.mk (by rw [getFlds_snoc, HST.out]; exact HG4.out), Aside0.mk (by rw [getFlds_snoc, HST.out]; exact HA4.out), Aside0.mk (HI4.out.trans (by simp)), HZ4, by rw [getFlds_snoc, HST.out]; exact getFld_le HBY.out _ _ hpl.out⟩
      | t =>
        have hnx : ∀ ty, (Instr.next (.pointer (some ⟨gi, 0, none⟩)) true ty).run Tryz.prog wr = .ok (.tuple #[.bool true, .int .i64 P.length, .int .i32 116]) wn := fun ty => by rw [hwn.out]; exact next_fld wr gi s P r .t (by rw [HTX.out, HFP.out]) HI.out ty
        go_wp2_with fail
        refine (take8 A0 c0 l w wn w.heap.size gat gok p HGA.out HGO.out HR.out HC.out HLN.out HBY.out hpl.out HGn.out).mono ?_
        rintro e w3 ⟨rfl, hg, hb⟩
        have HA3 := Aside0.mk (ast_but2 HAn.out HGn.out hb)
        have HI3 := Aside0.mk (hb.blk HIn.out (put_ne5 HGn.out.2.2.1 HIn.out) (put_ne5 HGn.out.2.2.2 HIn.out))
        have HZ3 := Aside0.mk (hb.blk HZn.out (blk_ne HZn.out HGn.out.2.2.1 (by decide)) (blk_ne HZn.out HGn.out.2.2.2 (by decide)))
        have HG3 := Aside0.mk hg
        clear hg hb HGn HAn HIn HZn
        obtain ⟨v9, v10, h1, h2, h3⟩ := HA3.out
        have hcell := (blk_cell h1 7).trans rfl
        have hfr := blk_frozen h1 7
        have HG4 := Aside0.mk (get_setA HG3.out h1 HGE.out 7 (.int .i64 (takeN l 8 p).1))
        have HI4 := Aside0.mk (iter_setA HI3.out h1 7 (.int .i64 (takeN l 8 p).1))
        have HZ4 := Aside0.mk (blk_far HZ3.out (p := ⟨ga, 7, none⟩) HNR.out (.int .i64 (takeN l 8 p).1))
        have HA4 : Aside0 (ASt w (w3.setCell ⟨ga, 7, none⟩ (.int .i64 (takeN l 8 p).1)) ga { a with lot := (takeN l 8 p).1 }) := Aside0.mk (ast_set 7 (.int .i64 (takeN l 8 p).1) HA3.out (fun _ _ => rfl) rfl rfl)
        clear h1 h2 h3 HG3 HA3 HI3 HZ3
        go_wp2
        go_roundg (r.length + 1)
        case measure => simp
        case rel => exact ⟨P ++ [.t], r, by rw [HFP.out]; simp, rfl, Aside0.mk (by rw [getFlds_snoc, HST.out]; exact HG4.out), Aside0.mk (by rw [getFlds_snoc, HST.out]; exact HA4.out), Aside0.mk (HI4.out.trans (by simp)), HZ4, by rw [getFlds_snoc, HST.out]; exact getFld_le HBY.out _ _ hpl.out⟩
      | n =>
        have hnx : ∀ ty, (Instr.next (.pointer (some ⟨gi, 0, none⟩)) true ty).run Tryz.prog wr = .ok (.tuple #[.bool true, .int .i64 P.length, .int .i32 110]) wn := fun ty => by rw [hwn.out]; exact next_fld wr gi s P r .n (by rw [HTX.out, HFP.out]) HI.out ty
        go_wp2_with fail
        refine (take8 A0 c0 l w wn w.heap.size gat gok p HGA.out HGO.out HR.out HC.out HLN.out HBY.out hpl.out HGn.out).mono ?_
        rintro e w3 ⟨rfl, hg, hb⟩
        have HA3 := Aside0.mk (ast_but2 HAn.out HGn.out hb)
        have HI3 := Aside0.mk (hb.blk HIn.out (put_ne5 HGn.out.2.2.1 HIn.out) (put_ne5 HGn.out.2.2.2 HIn.out))
        have HZ3 := Aside0.mk (hb.blk HZn.out (blk_ne HZn.out HGn.out.2.2.1 (by decide)) (blk_ne HZn.out HGn.out.2.2.2 (by decide)))
        have HG3 := Aside0.mk hg
        clear hg hb HGn HAn HIn HZn
        obtain ⟨v9, v10, h1, h2, h3⟩ := HA3.out
        have hcell := (blk_cell h1 8).trans rfl
        have hfr := blk_frozen h1 8
        have HG4 := Aside0.mk (get_setA HG3.out h1 HGE.out 8 (.int .i64 (takeN l 8 p).1))
        have HI4 := Aside0.mk (iter_setA HI3.out h1 8 (.int .i64 (takeN l 8 p).1))
        have HZ4 := Aside0.mk (blk_far HZ3.out (p := ⟨ga, 8, none⟩) HNR.out (.int .i64 (takeN l 8 p).1))
        have HA4 : Aside0 (ASt w (w3.setCell ⟨ga, 8, none⟩ (.int .i64 (takeN l 8 p).1)) ga { a with line := (takeN l 8 p).1 }) := Aside0.mk (ast_set 8 (.int .i64 (takeN l 8 p).1) HA3.out (fun _ _ => rfl) rfl rfl)
        clear h1 h2 h3 HG3 HA3 HI3 HZ3
        go_wp2
        go_roundg (r.length + 1)
        case measure => simp
        case rel => exact ⟨P ++ [.n], r, by rw [HFP.out]; simp, rfl, Aside0.mk (by rw [getFlds_snoc, HST.out]; exact HG4.out), Aside0.mk (by rw [getFlds_snoc, HST.out]; exact HA4.out), Aside0.mk (HI4.out.trans (by simp)), HZ4, by rw [getFlds_snoc, HST.out]; exact getFld_le HBY.out _ _ hpl.out⟩
      | p =>
        have hnx : ∀ ty, (Instr.next (.pointer (some ⟨gi, 0, none⟩)) true ty).run Tryz.prog wr = .ok (.tuple #[.bool true, .int .i64 P.length, .int .i32 112]) wn := fun ty => by rw [hwn.out]; exact next_fld wr gi s P r .p (by rw [HTX.out, HFP.out]) HI.out ty
        go_wp2_with fail
        refine (take1 A0 c0 l w wn w.heap.size gat gok p HGA.out HGO.out HR.out HC.out HLN.out HBY.out hpl.out HGn.out).mono ?_
        rintro e w3 ⟨rfl, hg, hb⟩
        have HA3 := Aside0.mk (ast_but2 HAn.out HGn.out hb)
        have HI3 := Aside0.mk (hb.blk HIn.out (put_ne5 HGn.out.2.2.1 HIn.out) (put_ne5 HGn.out.2.2.2 HIn.out))
        have HZ3 := Aside0.mk (hb.blk HZn.out (blk_ne HZn.out HGn.out.2.2.1 (by decide)) (blk_ne HZn.out HGn.out.2.2.2 (by decide)))
        have HG3 := Aside0.mk hg
        clear hg hb HGn HAn HIn HZn
        obtain ⟨m0, hm0, hm1⟩ := take1_nat HBY.out p
        have hp1 := take_le (s := 1) hpl.out
        generalize hq1 : (takeN l 1 p).2 = p1 at *
        have HM0 := Lib.hid hm0
        have HQ1 := Lib.hid hq1
        rw [hm0]
        clear hm0 hq1 hnx hwn
        go_wp2
        have hacc : Hid (a.parts.length ≤ 1020) := Lib.hid (by have h_ := getFlds_parts HBY.out P (getHead l); rw [HST.out] at h_; have h0_ : (getHead l).2.parts.length = 0 := rfl; have h4_ := HF4.out; have h5_ := congrArg List.length HFP.out; rw [List.length_append, List.length_cons] at h5_; simp only at h_; omega)
        go_loopg [14] (m0 + 1) (fun kq v14 wr => ∃ (m : Nat) (pp : Pos) (acc : List Part), v14 = .int .i64 m ∧ kq = m + 1 ∧ Aside0 (GetSt w wr w.heap.size gat gok A0 l.length c0 pp) ∧ Aside0 (ASt w wr ga { a with parts := acc }) ∧ Aside0 (wr.heap[gi]? = some (.stringIter s (P.length + 1))) ∧ Aside0 (wr.heap[gr]? = some (.cells (gotCells zeroCmd (.slice none 0 0) (.slice none 0 0)) 38 (0, 0))) ∧ Hid (pp.1 ≤ l.length) ∧ Hid (acc.length + m ≤ 1300) ∧ Hid (partsN l m pp acc = partsN l m0 p1 a.parts))
        case atStart => exact ⟨m0, p1, a.parts, rfl, rfl, HG3, HA3, HI3, HZ3, Lib.hid hp1, Lib.hid (by have := hacc.out; omega), Lib.hid rfl⟩
        case round =>
          clear HG3 HA3 HI3 HZ3 hp1 hm1
          obtain ⟨m, pp, acc, rfl, hkq, HGq, HAq, HIq, HZq, HPL, HAC, HEQ⟩ := hrel
          subst hkq
          obtain ⟨np, okp⟩ := pp
          cases m with
          | zero =>
            have HEX : Hid (partsN l 0 (np, okp) acc = (acc, (np, okp))) := Lib.hid rfl
            go_wp2
            go_roundg (r.length + 1)
            case measure => simp
            case rel => exact ⟨P ++ [.p], r, by rw [HFP.out]; simp, rfl, Aside0.mk (by rw [getFlds_snoc, HST.out]; show GetSt _ _ _ _ _ _ _ _ (partsN l (takeN l 1 p).1.toNat (takeN l 1 p).2 a.parts).2; rw [HM0.out, HQ1.out, Int.toNat_natCast, ← HEQ.out, HEX.out]; exact HGq.out), Aside0.mk (by rw [getFlds_snoc, HST.out]; show ASt _ _ _ { a with parts := (partsN l (takeN l 1 p).1.toNat (takeN l 1 p).2 a.parts).1 }; rw [HM0.out, HQ1.out, Int.toNat_natCast, ← HEQ.out, HEX.out]; exact HAq.out), Aside0.mk (HIq.out.trans (by simp)), HZq, by rw [getFlds_snoc, HST.out]; exact getFld_le HBY.out _ _ hpl.out⟩
          | succ m =>
            cases okp with
            | false =>
              have HEX : Hid (partsN l (m + 1) (np, false) acc = (acc, (np, false))) := Lib.hid (by unfold partsN; rw [if_neg (by simp)])
              have kok : wr.cell? ⟨gok, 0, none⟩ = some (.bool false) := blk_cell HGq.out.2.2.2 0
              go_wp2
              go_roundg (r.length + 1)
              case measure => simp
              case rel => exact ⟨P ++ [.p], r, by rw [HFP.out]; simp, rfl, Aside0.mk (by rw [getFlds_snoc, HST.out]; show GetSt _ _ _ _ _ _ _ _ (partsN l (takeN l 1 p).1.toNat (takeN l 1 p).2 a.parts).2; rw [HM0.out, HQ1.out, Int.toNat_natCast, ← HEQ.out, HEX.out]; exact HGq.out), Aside0.mk (by rw [getFlds_snoc, HST.out]; show ASt _ _ _ { a with parts := (partsN l (takeN l 1 p).1.toNat (takeN l 1 p).2 a.parts).1 }; rw [HM0.out, HQ1.out, Int.toNat_natCast, ← HEQ.out, HEX.out]; exact HAq.out), Aside0.mk (HIq.out.trans (by simp)), HZq, by rw [getFlds_snoc, HST.out]; exact getFld_le HBY.out _ _ hpl.out⟩
            | true =>
              have hmb : m ≤ 1299 := by have := HAC.out; omega
              have kok : wr.cell? ⟨gok, 0, none⟩ = some (.bool true) := blk_cell HGq.out.2.2.2 0
              go_wp2_with fail
              refine (coded_calls w wr w.heap.size gat gok A0 c0 l (np, true) HGA.out HGO.out HR.out HC.out HLN.out HBY.out HPL.out HGq.out).mono ?_
              rintro e w3 ⟨rfl, hg, hb⟩
              have HA3 := Aside0.mk (ast_but2 HAq.out HGq.out hb)
              have HI3 := Aside0.mk (hb.blk HIq.out (put_ne5 HGq.out.2.2.1 HIq.out) (put_ne5 HGq.out.2.2.2 HIq.out))
              have HZ3 := Aside0.mk (hb.blk HZq.out (blk_ne HZq.out HGq.out.2.2.1 (by decide)) (blk_ne HZq.out HGq.out.2.2.2 (by decide)))
              have HG3 := Aside0.mk hg
              clear hg hb HGq HAq HIq HZq
              have hp2 := Lib.hid (coded_le (p := (np, true)) HBY.out HPL.out)
              have HEQ2 : Hid (partsN l m (takeN l 8 (codedN l (np, true)).2).2 (acc ++ [⟨(codedN l (np, true)).1, (takeN l 8 (codedN l (np, true)).2).1⟩]) = partsN l m0 p1 a.parts) := Lib.hid (by rw [← HEQ.out]; rfl)
              generalize codedN l (np, true) = cd at *
              obtain ⟨it, p2⟩ := cd
              clear kok
              simp only at HG3 hp2 HEQ2
              go_wp2_with fail
              obtain ⟨v9, v10, h1, h2, h3⟩ := HA3.out
              refine start_ (n := 10) (S := fun w' => w'.heap[ga]? = some (.cells (gotCells ({ a with parts := acc } : Cmd) v9 v10) 38 (0, 0))) (ds := [9]) #[false, false, false, false, false, false, false, false, false, false] (by kernel_rfl) rfl rfl (h1) (fun hHeld => ?_); refine with_tabW get13.tab29 get13.bits29 (fun HT_ HW_ => ?_)
              have HG4 := Aside0.mk (get_below HG3.out (below_drew1 (Below.refl _ _)))
              have HI4 : Aside0 (w3.drew.heap[gi]? = some (.stringIter s (P.length + 1))) := ⟨HI3.out⟩
              have HZ4 : Aside0 (w3.drew.heap[gr]? = some (.cells (gotCells zeroCmd (.slice none 0 0) (.slice none 0 0)) 38 (0, 0))) := ⟨HZ3.out⟩
              have H94 := Aside0.mk (Kd.R_below h2 (below_drew1 (Below.refl _ _)))
              have H104 := Aside0.mk (Kd.R_below h3 (below_drew1 (Below.refl _ _)))
              clear h1 h2 h3 HG3 HA3 HI3 HZ3
              generalize w3.drew = w4 at HG4 HI4 HZ4 H94 H104 hHeld ⊢
              refine pure_ (i := 0) (N := some 85) (v := ?_) (a' := ?_) #[true, false, false, false, false, false, false, false, false, false] rfl rfl (any_of HT_.out (by kernel_rfl)) (fun _ _ _ h => h) (Or.inl ⟨by rfl, ?_⟩) ?_ ?_
              rotate_left
              · intro w'
                go_simp
                with_reducible rfl
              rotate_left
              · simp only [Act.put, List.setIfInBounds_toArray, List.set_cons_zero, List.set_cons_succ, i64_w, i32_w]
                rfl
              refine pure_ (i := 2) (N := some 87) (v := ?_) (a' := ?_) #[true, false, true, false, false, false, false, false, false, false] rfl rfl (any_of HT_.out (by kernel_rfl)) (fun _ _ _ h => h) (Or.inl ⟨by rfl, ?_⟩) ?_ ?_
              rotate_left
              · intro w'
                go_simp
                with_reducible rfl
              rotate_left
              · simp only [Act.put, List.setIfInBounds_toArray, List.set_cons_zero, List.set_cons_succ, i64_w, i32_w]
                rfl
              refine pure_ (i := 3) (N := some 88) (v := ?_) (a' := ?_) #[true, false, true, true, false, false, false, false, false, false] rfl rfl (any_of HT_.out (by kernel_rfl)) (fun _ _ _ h => h) (Or.inl ⟨by rfl, ?_⟩) ?_ ?_
              rotate_left
              · intro w'
                go_simp
                with_reducible rfl
              rotate_left
              · simp only [Act.put, List.setIfInBounds_toArray, List.set_cons_zero, List.set_cons_succ, i64_w, i32_w]
                rfl
              refine take_ (i := 1) (N := some 86) (v := ?_) (a' := ?_) #[true, true, true, true, false, false, false, false, false, false] rfl rfl (take_ofW HT_.out HW_.out (by kernel_rfl)) (fun _ _ _ h => h) (Or.inl ⟨by rfl, ?_⟩) hHeld ?_ ?_
              rotate_left
              · rintro w' hS
                have hc := blk_cell hS 9
                go_simp
                with_reducible rfl
              rotate_left
              · simp only [Act.put, List.setIfInBounds_toArray, List.set_cons_zero, List.set_cons_succ, i64_w, i32_w]
                rfl
              refine one_ (i := 4) (N := some 89) #[true, true, true, true, true, false, false, false, false, false] rfl rfl (one_of HT_.out (by kernel_rfl)) (by decide) (fun K hK => ?_)
              refine call_ 98 #[.int .i64 8, .pointer (some ⟨gok, 0, none⟩), .pointer (some ⟨gat, 0, none⟩), .pointer (some ⟨w.heap.size, 0, none⟩)] (by rfl) rfl (by go_simp; first | done | rfl | exact enters_ Tryz.func98 (by kernel_rfl) rfl _ _) ?_
              refine (take8 A0 c0 l w w4 w.heap.size gat gok p2 HGA.out HGO.out HR.out HC.out HLN.out HBY.out hp2.out HG4.out).mono ?_
              rintro e w5 ⟨rfl, hg, hb⟩
              refine ⟨_, rfl, ?_⟩
              have HI5 := Aside0.mk (hb.blk HI4.out (put_ne5 HG4.out.2.2.1 HI4.out) (put_ne5 HG4.out.2.2.2 HI4.out))
              have HZ5 := Aside0.mk (hb.blk HZ4.out (blk_ne HZ4.out HG4.out.2.2.1 (by decide)) (blk_ne HZ4.out HG4.out.2.2.2 (by decide)))
              have H95 := Aside0.mk (R_but2 H94.out hb HG4.out.2.2.1 HG4.out.2.2.2 (by decide))
              have H105 := Aside0.mk (R_but2 H104.out hb HG4.out.2.2.1 HG4.out.2.2.2 (by decide))
              have hHeld5 := hb.blk hHeld (blk_ne hHeld HG4.out.2.2.1 (by decide)) (blk_ne hHeld HG4.out.2.2.2 (by decide))
              have HG5 := Aside0.mk hg
              clear hg hb HG4 HI4 HZ4 H94 H104
              refine hK.out _ _ hHeld5 (fun hHeld => ?_)
              clear hHeld5
              clear hK K
              refine norm_ (a' := ?_) ?_ ?_
              rotate_left
              · show Act.put _ (some 89) _ = _
                simp only [Act.put, List.setIfInBounds_toArray, List.set_cons_zero, List.set_cons_succ, i64_w, i32_w]
                rfl
              refine pure_ (i := 5) (N := some 90) (v := ?_) (a' := ?_) #[true, true, true, true, true, true, false, false, false, false] rfl rfl (any_of HT_.out (by kernel_rfl)) (fun _ _ _ h => h) (Or.inl ⟨by rfl, ?_⟩) ?_ ?_
              rotate_left
              · intro w'
                go_simp
                with_reducible rfl
              rotate_left
              · simp only [Act.put, List.setIfInBounds_toArray, List.set_cons_zero, List.set_cons_succ, i64_w, i32_w]
                rfl
              refine one_ (i := 6) (N := some 91) #[true, true, true, true, true, true, true, false, false, false] rfl rfl (one_of HT_.out (by kernel_rfl)) (by decide) (fun K hK => ?_)
              refine event_step (by rfl) (v := .slice (some ⟨w5.heap.size, 0, none⟩) 1 1) (w1 := w5.alloc (.cells ([.string it, .int .i64 (takeN l 8 p2).1] : List Value).toArray 58)) (by go_simp; first | done | rfl) ?_
              refine hK.out _ _ (blk_alloc hHeld _) (fun _ => ?_)
              clear hK K
              refine norm_ (a' := ?_) ?_ ?_
              rotate_left
              · show Act.put _ (some 91) _ = _
                simp only [Act.put, List.setIfInBounds_toArray, List.set_cons_zero, List.set_cons_succ, i64_w, i32_w]
                rfl
              refine one_ (i := 7) (N := some 92) #[true, true, true, true, true, true, true, true, false, false] rfl rfl (one_of HT_.out (by kernel_rfl)) (by decide) (fun K hK => ?_)
              refine Kd.R_append_step A.k58 w.heap.size (by rfl) _ _ 35 58 (.agg #[.string ⟨#[]⟩, .int .i64 0]) 24 rfl Tryz.underlying35 info_part rfl (by decide) (by decide) v9 acc ⟨it, (takeN l 8 p2).1⟩ [.string it, .int .i64 (takeN l 8 p2).1] (fun _ => True) (fun _ => False) (by rfl) (by rfl) (A.k58_mkM _ _ _ ⟨it, (takeN l 8 p2).1⟩) (fun _ h => h.elim) (fun _ _ => trivial) H95.out HG5.out.1 HG5.out.1.size (by have := HAC.out; omega) ?_
              intro v1 w6 hr1 hb1 hg _
              obtain ⟨A1, c1, hv1⟩ := Kd.R_slice hr1
              subst hv1
              have hHeld6 := blk_grown hHeld hg (Kd.R_ne H95.out hHeld (by decide))
              have HG6 : Aside0 (GetSt w w6 w.heap.size gat gok A0 l.length c0 _) := Aside0.mk ⟨hb1, blk_grown HG5.out.2.1 hg (Kd.R_ne H95.out HG5.out.2.1 (by decide)), blk_grown HG5.out.2.2.1 hg (Kd.R_ne H95.out HG5.out.2.2.1 (by decide)), blk_grown HG5.out.2.2.2 hg (Kd.R_ne H95.out HG5.out.2.2.2 (by decide))⟩
              have HI6 := Aside0.mk (blk_grown HI5.out hg (row_ne_iter H95.out HI5.out))
              have HZ6 := Aside0.mk (blk_grown HZ5.out hg (Kd.R_ne H95.out HZ5.out (by decide)))
              have HO6 := Aside0.mk (R_far_row H105.out hg (row_typed H95.out) (by decide))
              have HN6 := Aside0.mk hr1
              clear hb1 hg hr1 HG5 HI5 HZ5 H95 H105
              have hcell := (blk_cell hHeld6 9).trans rfl
              have hfr := blk_frozen hHeld6 9
              refine hK.out _ _ hHeld6 (fun hHeld => ?_)
              clear hK K
              refine norm_ (a' := ?_) ?_ ?_
              rotate_left
              · show Act.put _ (some 92) _ = _
                simp only [Act.put, List.setIfInBounds_toArray, List.set_cons_zero, List.set_cons_succ, i64_w, i32_w]
                rfl
              refine pure_ (i := 8) (N := some 93) (v := ?_) (a' := ?_) #[true, true, true, true, true, true, true, true, true, false] rfl rfl (any_of HT_.out (by kernel_rfl)) (fun _ _ _ h => h) (Or.inl ⟨by rfl, ?_⟩) ?_ ?_
              rotate_left
              · intro w'
                go_simp
                with_reducible rfl
              rotate_left
              · simp only [Act.put, List.setIfInBounds_toArray, List.set_cons_zero, List.set_cons_succ, i64_w, i32_w]
                rfl
              refine last_ (i := 9) (N := none) #[true, true, true, true, true, true, true, true, true, true] rfl rfl (one_of HT_.out (by kernel_rfl)) (by decide) (fun K hK => ?_)
              refine skip_ (by rfl) rfl (w1 := w6.setCell ⟨ga, 9, none⟩ (.slice A1 (acc ++ [(⟨it, (takeN l 8 p2).1⟩ : Part)]).length c1)) (by go_simp) ?_
              refine hK.out _ _ ?_
              refine done_ (done_of HT_.out (by kernel_rfl)) ?_
              have HG7 := Aside0.mk (get_setA HG6.out hHeld6 HGE.out 9 (.slice A1 (acc ++ [(⟨it, (takeN l 8 p2).1⟩ : Part)]).length c1))
              have HI7 := Aside0.mk (iter_setA HI6.out hHeld6 9 (.slice A1 (acc ++ [(⟨it, (takeN l 8 p2).1⟩ : Part)]).length c1))
              have HZ7 := Aside0.mk (blk_far HZ6.out (p := ⟨ga, 9, none⟩) HNR.out (.slice A1 (acc ++ [(⟨it, (takeN l 8 p2).1⟩ : Part)]).length c1))
              have HA7 : Aside0 (ASt w (w6.setCell ⟨ga, 9, none⟩ (.slice A1 (acc ++ [(⟨it, (takeN l 8 p2).1⟩ : Part)]).length c1)) ga { a with parts := acc ++ [⟨it, (takeN l 8 p2).1⟩] }) := Aside0.mk ⟨(.slice A1 (acc ++ [(⟨it, (takeN l 8 p2).1⟩ : Part)]).length c1), v10, blk_put hHeld6 9 (.slice A1 (acc ++ [(⟨it, (takeN l 8 p2).1⟩ : Part)]).length c1) rfl, Kd.R_set HN6.out hHeld6 (by decide) 9 (.slice A1 (acc ++ [(⟨it, (takeN l 8 p2).1⟩ : Part)]).length c1), Kd.R_set HO6.out hHeld6 (by decide) 9 (.slice A1 (acc ++ [(⟨it, (takeN l 8 p2).1⟩ : Part)]).length c1)⟩
              clear HG6 HI6 HZ6 HO6 HN6 hcell hfr hHeld6
              generalize w6.setCell ⟨ga, 9, none⟩ (.slice A1 (acc ++ [(⟨it, (takeN l 8 p2).1⟩ : Part)]).length c1) = w7 at HG7 HI7 HZ7 HA7 ⊢
              go_wp2
              go_roundg (m + 1)
              case measure => omega
              case rel => exact ⟨m, (takeN l 8 p2).2, acc ++ [⟨it, (takeN l 8 p2).1⟩], by first | rfl | (simp; done) | (congr 1; omega), rfl, HG7, HA7, HI7, HZ7, Lib.hid (take_le hp2.out), Lib.hid (by have := HAC.out; rw [List.length_append, List.length_singleton]; omega), HEQ2⟩
      | o =>
        have hnx : ∀ ty, (Instr.next (.pointer (some ⟨gi, 0, none⟩)) true ty).run Tryz.prog wr = .ok (.tuple #[.bool true, .int .i64 P.length, .int .i32 111]) wn := fun ty => by rw [hwn.out]; exact next_fld wr gi s P r .o (by rw [HTX.out, HFP.out]) HI.out ty
        go_wp2_with fail
        refine (take1 A0 c0 l w wn w.heap.size gat gok p HGA.out HGO.out HR.out HC.out HLN.out HBY.out hpl.out HGn.out).mono ?_
        rintro e w3 ⟨rfl, hg, hb⟩
        have HA3 := Aside0.mk (ast_but2 HAn.out HGn.out hb)
        have HI3 := Aside0.mk (hb.blk HIn.out (put_ne5 HGn.out.2.2.1 HIn.out) (put_ne5 HGn.out.2.2.2 HIn.out))
        have HZ3 := Aside0.mk (hb.blk HZn.out (blk_ne HZn.out HGn.out.2.2.1 (by decide)) (blk_ne HZn.out HGn.out.2.2.2 (by decide)))
        have HG3 := Aside0.mk hg
        clear hg hb HGn HAn HIn HZn
        obtain ⟨m0, hm0, hm1⟩ := take1_nat HBY.out p
        have hp1 := take_le (s := 1) hpl.out
        generalize hq1 : (takeN l 1 p).2 = p1 at *
        have HM0 := Lib.hid hm0
        have HQ1 := Lib.hid hq1
        rw [hm0]
        clear hm0 hq1 hnx hwn
        go_wp2
        have hacc : Hid (a.others.length ≤ 1020) := Lib.hid (by have h_ := getFlds_others HBY.out P (getHead l); rw [HST.out] at h_; have h0_ : (getHead l).2.others.length = 0 := rfl; have h4_ := HF4.out; have h5_ := congrArg List.length HFP.out; rw [List.length_append, List.length_cons] at h5_; simp only at h_; omega)
        go_loopg [16] (m0 + 1) (fun kq v14 wr => ∃ (m : Nat) (pp : Pos) (acc : List ByteArray), v14 = .int .i64 m ∧ kq = m + 1 ∧ Aside0 (GetSt w wr w.heap.size gat gok A0 l.length c0 pp) ∧ Aside0 (ASt w wr ga { a with others := acc }) ∧ Aside0 (wr.heap[gi]? = some (.stringIter s (P.length + 1))) ∧ Aside0 (wr.heap[gr]? = some (.cells (gotCells zeroCmd (.slice none 0 0) (.slice none 0 0)) 38 (0, 0))) ∧ Hid (pp.1 ≤ l.length) ∧ Hid (acc.length + m ≤ 1300) ∧ Hid (othersN l m pp acc = othersN l m0 p1 a.others))
        case atStart => exact ⟨m0, p1, a.others, rfl, rfl, HG3, HA3, HI3, HZ3, Lib.hid hp1, Lib.hid (by have := hacc.out; omega), Lib.hid rfl⟩
        case round =>
          clear HG3 HA3 HI3 HZ3 hp1 hm1
          obtain ⟨m, pp, acc, rfl, hkq, HGq, HAq, HIq, HZq, HPL, HAC, HEQ⟩ := hrel
          subst hkq
          obtain ⟨np, okp⟩ := pp
          cases m with
          | zero =>
            have HEX : Hid (othersN l 0 (np, okp) acc = (acc, (np, okp))) := Lib.hid rfl
            go_wp2
            go_roundg (r.length + 1)
            case measure => simp
            case rel => exact ⟨P ++ [.o], r, by rw [HFP.out]; simp, rfl, Aside0.mk (by rw [getFlds_snoc, HST.out]; show GetSt _ _ _ _ _ _ _ _ (othersN l (takeN l 1 p).1.toNat (takeN l 1 p).2 a.others).2; rw [HM0.out, HQ1.out, Int.toNat_natCast, ← HEQ.out, HEX.out]; exact HGq.out), Aside0.mk (by rw [getFlds_snoc, HST.out]; show ASt _ _ _ { a with others := (othersN l (takeN l 1 p).1.toNat (takeN l 1 p).2 a.others).1 }; rw [HM0.out, HQ1.out, Int.toNat_natCast, ← HEQ.out, HEX.out]; exact HAq.out), Aside0.mk (HIq.out.trans (by simp)), HZq, by rw [getFlds_snoc, HST.out]; exact getFld_le HBY.out _ _ hpl.out⟩
          | succ m =>
            cases okp with
            | false =>
              have HEX : Hid (othersN l (m + 1) (np, false) acc = (acc, (np, false))) := Lib.hid (by unfold othersN; rw [if_neg (by simp)])
              have kok : wr.cell? ⟨gok, 0, none⟩ = some (.bool false) := blk_cell HGq.out.2.2.2 0
              go_wp2
              go_roundg (r.length + 1)
              case measure => simp
              case rel => exact ⟨P ++ [.o], r, by rw [HFP.out]; simp, rfl, Aside0.mk (by rw [getFlds_snoc, HST.out]; show GetSt _ _ _ _ _ _ _ _ (othersN l (takeN l 1 p).1.toNat (takeN l 1 p).2 a.others).2; rw [HM0.out, HQ1.out, Int.toNat_natCast, ← HEQ.out, HEX.out]; exact HGq.out), Aside0.mk (by rw [getFlds_snoc, HST.out]; show ASt _ _ _ { a with others := (othersN l (takeN l 1 p).1.toNat (takeN l 1 p).2 a.others).1 }; rw [HM0.out, HQ1.out, Int.toNat_natCast, ← HEQ.out, HEX.out]; exact HAq.out), Aside0.mk (HIq.out.trans (by simp)), HZq, by rw [getFlds_snoc, HST.out]; exact getFld_le HBY.out _ _ hpl.out⟩
            | true =>
              have hmb : m ≤ 1299 := by have := HAC.out; omega
              have kok : wr.cell? ⟨gok, 0, none⟩ = some (.bool true) := blk_cell HGq.out.2.2.2 0
              have HEQ2 : Hid (othersN l m (codedN l (np, true)).2 (acc ++ [(codedN l (np, true)).1]) = othersN l m0 p1 a.others) := Lib.hid (by rw [← HEQ.out]; rfl)
              go_wp2_with fail
              obtain ⟨v9, v10, h1, h2, h3⟩ := HAq.out
              refine start_ (n := 8) (S := fun w' => w'.heap[ga]? = some (.cells (gotCells ({ a with others := acc } : Cmd) v9 v10) 38 (0, 0))) (ds := [7]) #[false, false, false, false, false, false, false, false] (by kernel_rfl) rfl rfl (h1) (fun hHeld => ?_); refine with_tabW get13.tab34 get13.bits34 (fun HT_ HW_ => ?_)
              have HG4 := Aside0.mk (get_below HGq.out (below_drew1 (Below.refl _ _)))
              have HI4 : Aside0 (wr.drew.heap[gi]? = some (.stringIter s (P.length + 1))) := ⟨HIq.out⟩
              have HZ4 : Aside0 (wr.drew.heap[gr]? = some (.cells (gotCells zeroCmd (.slice none 0 0) (.slice none 0 0)) 38 (0, 0))) := ⟨HZq.out⟩
              have H94 := Aside0.mk (Kd.R_below h2 (below_drew1 (Below.refl _ _)))
              have H104 := Aside0.mk (Kd.R_below h3 (below_drew1 (Below.refl _ _)))
              clear h1 h2 h3 HGq HAq HIq HZq
              generalize wr.drew = w4 at HG4 HI4 HZ4 H94 H104 hHeld ⊢
              refine pure_ (i := 0) (N := some 105) (v := ?_) (a' := ?_) #[true, false, false, false, false, false, false, false] rfl rfl (any_of HT_.out (by kernel_rfl)) (fun _ _ _ h => h) (Or.inl ⟨by rfl, ?_⟩) ?_ ?_
              rotate_left
              · intro w'
                go_simp
                with_reducible rfl
              rotate_left
              · simp only [Act.put, List.setIfInBounds_toArray, List.set_cons_zero, List.set_cons_succ, i64_w, i32_w]
                rfl
              refine pure_ (i := 2) (N := some 107) (v := ?_) (a' := ?_) #[true, false, true, false, false, false, false, false] rfl rfl (any_of HT_.out (by kernel_rfl)) (fun _ _ _ h => h) (Or.inl ⟨by rfl, ?_⟩) ?_ ?_
              rotate_left
              · intro w'
                go_simp
                with_reducible rfl
              rotate_left
              · simp only [Act.put, List.setIfInBounds_toArray, List.set_cons_zero, List.set_cons_succ, i64_w, i32_w]
                rfl
              refine take_ (i := 1) (N := some 106) (v := ?_) (a' := ?_) #[true, true, true, false, false, false, false, false] rfl rfl (take_ofW HT_.out HW_.out (by kernel_rfl)) (fun _ _ _ h => h) (Or.inl ⟨by rfl, ?_⟩) hHeld ?_ ?_
              rotate_left
              · rintro w' hS
                have hc := blk_cell hS 10
                go_simp
                with_reducible rfl
              rotate_left
              · simp only [Act.put, List.setIfInBounds_toArray, List.set_cons_zero, List.set_cons_succ, i64_w, i32_w]
                rfl
              refine one_ (i := 3) (N := some 108) #[true, true, true, true, false, false, false, false] rfl rfl (one_of HT_.out (by kernel_rfl)) (by decide) (fun K hK => ?_)
              refine call_ 99 #[.pointer (some ⟨gok, 0, none⟩), .pointer (some ⟨w.heap.size, 0, none⟩), .pointer (some ⟨gat, 0, none⟩)] (by rfl) rfl (by go_simp; first | done | rfl | exact enters_ Tryz.func99 (by kernel_rfl) rfl _ _) ?_
              refine (coded_calls w w4 w.heap.size gat gok A0 c0 l (np, true) HGA.out HGO.out HR.out HC.out HLN.out HBY.out HPL.out HG4.out).mono ?_
              rintro e w5 ⟨rfl, hg, hb⟩
              refine ⟨_, rfl, ?_⟩
              have HI5 := Aside0.mk (hb.blk HI4.out (put_ne5 HG4.out.2.2.1 HI4.out) (put_ne5 HG4.out.2.2.2 HI4.out))
              have HZ5 := Aside0.mk (hb.blk HZ4.out (blk_ne HZ4.out HG4.out.2.2.1 (by decide)) (blk_ne HZ4.out HG4.out.2.2.2 (by decide)))
              have H95 := Aside0.mk (R_but2 H94.out hb HG4.out.2.2.1 HG4.out.2.2.2 (by decide))
              have H105 := Aside0.mk (R_but2 H104.out hb HG4.out.2.2.1 HG4.out.2.2.2 (by decide))
              have hHeld5 := hb.blk hHeld (blk_ne hHeld HG4.out.2.2.1 (by decide)) (blk_ne hHeld HG4.out.2.2.2 (by decide))
              have HG5 := Aside0.mk hg
              clear hg hb HG4 HI4 HZ4 H94 H104
              refine hK.out _ _ hHeld5 (fun hHeld => ?_)
              clear hHeld5
              clear hK K
              refine norm_ (a' := ?_) ?_ ?_
              rotate_left
              · show Act.put _ (some 108) _ = _
                simp only [Act.put, List.setIfInBounds_toArray, List.set_cons_zero, List.set_cons_succ, i64_w, i32_w]
                rfl
              refine one_ (i := 4) (N := some 109) #[true, true, true, true, true, false, false, false] rfl rfl (one_of HT_.out (by kernel_rfl)) (by decide) (fun K hK => ?_)
              refine event_step (by rfl) (v := .slice (some ⟨w5.heap.size, 0, none⟩) 1 1) (w1 := w5.alloc (.cells ([.string (codedN l (np, true)).1] : List Value).toArray 9)) (by go_simp; first | done | rfl) ?_
              refine hK.out _ _ (blk_alloc hHeld _) (fun _ => ?_)
              clear hK K
              refine norm_ (a' := ?_) ?_ ?_
              rotate_left
              · show Act.put _ (some 109) _ = _
                simp only [Act.put, List.setIfInBounds_toArray, List.set_cons_zero, List.set_cons_succ, i64_w, i32_w]
                rfl
              refine one_ (i := 5) (N := some 110) #[true, true, true, true, true, true, false, false] rfl rfl (one_of HT_.out (by kernel_rfl)) (by decide) (fun K hK => ?_)
              refine Kd.R_append_step Kd.string w.heap.size (by rfl) _ _ 36 9 (.string ⟨#[]⟩) 16 rfl Tryz.underlying36 info_text rfl (by decide) (by decide) v10 acc (codedN l (np, true)).1 [.string (codedN l (np, true)).1] (fun _ => True) (fun _ => False) (by rfl) (by rfl) rfl (fun _ h => h.elim) (fun _ _ => trivial) H105.out HG5.out.1 HG5.out.1.size (by have := HAC.out; omega) ?_
              intro v1 w6 hr1 hb1 hg _
              obtain ⟨A1, c1, hv1⟩ := Kd.R_slice hr1
              subst hv1
              have hHeld6 := blk_grown hHeld hg (Kd.R_ne H105.out hHeld (by decide))
              have HG6 : Aside0 (GetSt w w6 w.heap.size gat gok A0 l.length c0 _) := Aside0.mk ⟨hb1, blk_grown HG5.out.2.1 hg (Kd.R_ne H105.out HG5.out.2.1 (by decide)), blk_grown HG5.out.2.2.1 hg (Kd.R_ne H105.out HG5.out.2.2.1 (by decide)), blk_grown HG5.out.2.2.2 hg (Kd.R_ne H105.out HG5.out.2.2.2 (by decide))⟩
              have HI6 := Aside0.mk (blk_grown HI5.out hg (row_ne_iter H105.out HI5.out))
              have HZ6 := Aside0.mk (blk_grown HZ5.out hg (Kd.R_ne H105.out HZ5.out (by decide)))
              have HO6 := Aside0.mk (R_far_row H95.out hg (row_typed H105.out) (by decide))
              have HN6 := Aside0.mk hr1
              clear hb1 hg hr1 HG5 HI5 HZ5 H95 H105
              have hcell := (blk_cell hHeld6 10).trans rfl
              have hfr := blk_frozen hHeld6 10
              refine hK.out _ _ hHeld6 (fun hHeld => ?_)
              clear hK K
              refine norm_ (a' := ?_) ?_ ?_
              rotate_left
              · show Act.put _ (some 110) _ = _
                simp only [Act.put, List.setIfInBounds_toArray, List.set_cons_zero, List.set_cons_succ, i64_w, i32_w]
                rfl
              refine pure_ (i := 6) (N := some 111) (v := ?_) (a' := ?_) #[true, true, true, true, true, true, true, false] rfl rfl (any_of HT_.out (by kernel_rfl)) (fun _ _ _ h => h) (Or.inl ⟨by rfl, ?_⟩) ?_ ?_
              rotate_left
              · intro w'
                go_simp
                with_reducible rfl
              rotate_left
              · simp only [Act.put, List.setIfInBounds_toArray, List.set_cons_zero, List.set_cons_succ, i64_w, i32_w]
                rfl
              refine last_ (i := 7) (N := none) #[true, true, true, true, true, true, true, true] rfl rfl (one_of HT_.out (by kernel_rfl)) (by decide) (fun K hK => ?_)
              refine skip_ (by rfl) rfl (w1 := w6.setCell ⟨ga, 10, none⟩ (.slice A1 (acc ++ [(codedN l (np, true)).1]).length c1)) (by go_simp) ?_
              refine hK.out _ _ ?_
              refine done_ (done_of HT_.out (by kernel_rfl)) ?_
              have HG7 := Aside0.mk (get_setA HG6.out hHeld6 HGE.out 10 (.slice A1 (acc ++ [(codedN l (np, true)).1]).length c1))
              have HI7 := Aside0.mk (iter_setA HI6.out hHeld6 10 (.slice A1 (acc ++ [(codedN l (np, true)).1]).length c1))
              have HZ7 := Aside0.mk (blk_far HZ6.out (p := ⟨ga, 10, none⟩) HNR.out (.slice A1 (acc ++ [(codedN l (np, true)).1]).length c1))
              have HA7 : Aside0 (ASt w (w6.setCell ⟨ga, 10, none⟩ (.slice A1 (acc ++ [(codedN l (np, true)).1]).length c1)) ga { a with others := acc ++ [(codedN l (np, true)).1] }) := Aside0.mk ⟨v9, (.slice A1 (acc ++ [(codedN l (np, true)).1]).length c1), blk_put hHeld6 10 (.slice A1 (acc ++ [(codedN l (np, true)).1]).length c1) rfl, Kd.R_set HO6.out hHeld6 (by decide) 10 (.slice A1 (acc ++ [(codedN l (np, true)).1]).length c1), Kd.R_set HN6.out hHeld6 (by decide) 10 (.slice A1 (acc ++ [(codedN l (np, true)).1]).length c1)⟩
              clear HG6 HI6 HZ6 HO6 HN6 hcell hfr hHeld6
              generalize w6.setCell ⟨ga, 10, none⟩ (.slice A1 (acc ++ [(codedN l (np, true)).1]).length c1) = w7 at HG7 HI7 HZ7 HA7 ⊢
              go_wp2
              go_roundg (m + 1)
              case measure => omega
              case rel => exact ⟨m, (codedN l (np, true)).2, acc ++ [(codedN l (np, true)).1], by first | rfl | (simp; done) | (congr 1; omega), rfl, HG7, HA7, HI7, HZ7, Lib.hid (coded_le (p := (np, true)) HBY.out HPL.out), Lib.hid (by have := HAC.out; rw [List.length_append, List.length_singleton]; omega), HEQ2⟩
end Go.Proofs.YtkpedlhofalnjaaGreatDoor
