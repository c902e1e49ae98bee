/- ButMore, OverParts, OverTexts, OverAsk. -/
import Derived.Test.YtkpedlhofalnjaaGreatDoorFlat
import Derived.Test.YtkpedlhofalnjaaGreatDoorM14

section
/- But: what lies below, and the new, may be turned. -/
namespace Go.Proofs.YtkpedlhofalnjaaGreatDoor
open Go.RowKit Go.Proofs.YtkpedlhofalnjaaGreatDoorW.PrintWords Go.Proofs.YtkpedlhofalnjaaGreatDoorW.PrintLast Go.Proofs.YtkpedlhofalnjaaGreatDoorW.PrintMore

theorem But.below' {S : Nat → Prop} {a w w' : World} (h : But S a w) (hb : Below w.heap.size w w') : But S a w' :=
  ⟨h.old.trans (hb.mono (Nat.zero_le _)), fun b hb' hS => by rw [hb.block b (by have := h.old.size; omega)]; exact h.block b hb' hS⟩
end Go.Proofs.YtkpedlhofalnjaaGreatDoor
end

section
/- storemankit's OverParts, of a row that was lent: that row alone is written over. -/
namespace Go.Proofs.YtkpedlhofalnjaaGreatDoor
open Go.RowKit Go.Proofs.YtkpedlhofalnjaaGreatDoorW.PrintWords Go.Proofs.YtkpedlhofalnjaaGreatDoorW.PrintLast Go.Proofs.YtkpedlhofalnjaaGreatDoorW.PrintMore

set_option maxRecDepth 100000 in
set_option maxHeartbeats 2000000 in
theorem over_parts (g n : Nat) (hn : n ≤ 1000000) (cs : List Value) (base : Nat) (w : World)
    (ho : w.ownsRow base 58 2 (.slice (some ⟨g, 0, none⟩) (n + 12) (n + 12)) (n + 12) cs) :
    Calls Tryz.prog 90 #[.slice (some ⟨g, 0, none⟩) n (n + 12)] w fun e w' => e = .returned undef ∧ But (fun b => b = g) w w' := by
  obtain ⟨i0, hi, hz0, hz1, hz2⟩ := info_parts infoE_parts
  have hcut : ∀ W : World, (Instr.slice 35 (.slice (some ⟨g, 0, none⟩) n (n + 12)) none (some (.int .i64 ((n : Int) + 12))) none).run Tryz.prog W = .ok (.slice (some ⟨g, 0, none⟩) (n + 12) (n + 12)) W := by
    intro W
    have hel : Tryz.prog.elem 35 = 58 := by simp [Program.elem, Tryz.underlying35]
    have hu : Tryz.prog.underlying 35 = some (.slice (Tryz.prog.elem 35)) := by rw [hel]; exact Tryz.underlying35
    rw [run_slice_h W 35 (some ⟨g, 0, none⟩) n (n + 12) hu .i64 ((n : Int) + 12) (by omega) (by omega), hel, show ((n : Int) + 12).toNat = n + 12 by omega]
    simp [sizeOf, typeInfo, hi, hz1, sliced, Result.andThen, Addr.add]
  go_enter Tryz.func90, Tryz.ntmps90
  go_wp2
  go_loopg [3] (n + 13) (fun kq v3 wr => ∃ (k : Nat), v3 = .int .i64 k ∧ k + kq = n + 13 ∧ 0 < kq ∧ ∃ ys : List Value,
    Aside0 (wr.ownsRow base 58 2 (.slice (some ⟨g, 0, none⟩) (n + 12) (n + 12)) (n + 12) ys) ∧ Aside0 (But (fun b => b = g) w wr))
  case atStart => exact ⟨0, rfl, by omega, by omega, cs, ⟨ho⟩, ⟨But.refl⟩⟩
  case round =>
    obtain ⟨k, rfl, hk, hk0, ys, HO, HB⟩ := hrel
    by_cases h12 : k < n + 12
    · go_wp2_with fail
      refine (markParts_calls 2 k wr).mono ?_
      rintro e w3 ⟨rfl, hd⟩
      have ho3 := ownS_below HO.out hd
      have hb3 : But (fun b => b = g) w w3 := HB.out.below' hd
      obtain ⟨u0, hcell0⟩ : ∃ u, w3.cell? ⟨g, k * 2, none⟩ = some u := ⟨_, by rw [ho3.cellAt (k * 2) (by omega)]; exact List.getElem?_eq_getElem (by rw [ho3.1]; omega)⟩
      obtain ⟨u1, hcell1⟩ : ∃ u, w3.cell? ⟨g, k * 2 + 1, none⟩ = some u := ⟨_, by rw [ho3.cellAt (k * 2 + 1) (by omega)]; exact List.getElem?_eq_getElem (by rw [ho3.1]; omega)⟩
      have hfr0 := ho3.frozenAt (k * 2)
      have hfr1 := ho3.frozenAt (k * 2 + 1)
      have HO3 := Aside0.mk ho3
      have HB3 := Aside0.mk hb3
      clear ho3 hb3 hd
      go_wp2
      go_roundg (n + 12 - k)
      case measure => omega
      case rel => exact ⟨k + 1, by simp, by omega, by omega, _, ⟨(World.ownsRow.stored ((World.ownsRow.stored (HO3.out) _ _).1) _ _).1⟩, ⟨((HB3.out).grown (World.ownsRow.stored (HO3.out) _ _).2 (fun _ e => by cases e; exact .inl rfl)).grown (World.ownsRow.stored ((World.ownsRow.stored (HO3.out) _ _).1) _ _).2 (fun _ e => by cases e; exact .inl rfl)⟩⟩
    · obtain rfl : k = n + 12 := by omega
      go_wp2
      first | go_end0 | go_ret2
      exact ⟨rfl, HB.out⟩
end Go.Proofs.YtkpedlhofalnjaaGreatDoor
end

section
/- storemankit's OverTexts, of a row that was lent: that row alone is written over. -/
namespace Go.Proofs.YtkpedlhofalnjaaGreatDoor
open Go.RowKit Go.Proofs.YtkpedlhofalnjaaGreatDoorW.PrintWords Go.Proofs.YtkpedlhofalnjaaGreatDoorW.PrintLast Go.Proofs.YtkpedlhofalnjaaGreatDoorW.PrintMore

set_option maxRecDepth 100000 in
set_option maxHeartbeats 2000000 in
theorem over_texts (g n : Nat) (hn : n ≤ 1000000) (cs : List Value) (base : Nat) (w : World)
    (ho : w.ownsRow base 9 1 (.slice (some ⟨g, 0, none⟩) (n + 12) (n + 12)) (n + 12) cs) :
    Calls Tryz.prog 91 #[.slice (some ⟨g, 0, none⟩) n (n + 12)] w fun e w' => e = .returned undef ∧ But (fun b => b = g) w w' := by
  obtain ⟨i0, hi, hz0, hz1, hz2⟩ := info_parts infoE_texts
  have hcut : ∀ W : World, (Instr.slice 36 (.slice (some ⟨g, 0, none⟩) n (n + 12)) none (some (.int .i64 ((n : Int) + 12))) none).run Tryz.prog W = .ok (.slice (some ⟨g, 0, none⟩) (n + 12) (n + 12)) W := by
    intro W
    have hel : Tryz.prog.elem 36 = 9 := by simp [Program.elem, Tryz.underlying36]
    have hu : Tryz.prog.underlying 36 = some (.slice (Tryz.prog.elem 36)) := by rw [hel]; exact Tryz.underlying36
    rw [run_slice_h W 36 (some ⟨g, 0, none⟩) n (n + 12) hu .i64 ((n : Int) + 12) (by omega) (by omega), hel, show ((n : Int) + 12).toNat = n + 12 by omega]
    simp [sizeOf, typeInfo, hi, hz1, sliced, Result.andThen, Addr.add]
  go_enter Tryz.func91, Tryz.ntmps91
  go_wp2
  go_loopg [3] (n + 13) (fun kq v3 wr => ∃ (k : Nat), v3 = .int .i64 k ∧ k + kq = n + 13 ∧ 0 < kq ∧ ∃ ys : List Value,
    Aside0 (wr.ownsRow base 9 1 (.slice (some ⟨g, 0, none⟩) (n + 12) (n + 12)) (n + 12) ys) ∧ Aside0 (But (fun b => b = g) w wr))
  case atStart => exact ⟨0, rfl, by omega, by omega, cs, ⟨ho⟩, ⟨But.refl⟩⟩
  case round =>
    obtain ⟨k, rfl, hk, hk0, ys, HO, HB⟩ := hrel
    by_cases h12 : k < n + 12
    · go_wp2_with fail
      refine (markTexts_calls 2 k wr).mono ?_
      rintro e w3 ⟨rfl, hd⟩
      have ho3 := ownS_below HO.out hd
      have hb3 : But (fun b => b = g) w w3 := HB.out.below' hd
      obtain ⟨u0, hcell0⟩ : ∃ u, w3.cell? ⟨g, k, none⟩ = some u := ⟨_, by rw [ho3.cellAt k (by omega)]; exact List.getElem?_eq_getElem (by rw [ho3.1]; omega)⟩
      have hfr0 := ho3.frozenAt k
      have HO3 := Aside0.mk ho3
      have HB3 := Aside0.mk hb3
      clear ho3 hb3 hd
      go_wp2
      go_roundg (n + 12 - k)
      case measure => omega
      case rel => exact ⟨k + 1, by simp, by omega, by omega, _, ⟨(World.ownsRow.stored (HO3.out) _ _).1⟩, ⟨(HB3.out).grown (World.ownsRow.stored (HO3.out) _ _).2 (fun _ e => by cases e; exact .inl rfl)⟩⟩
    · obtain rfl : k = n + 12 := by omega
      go_wp2
      first | go_end0 | go_ret2
      exact ⟨rfl, HB.out⟩
end Go.Proofs.YtkpedlhofalnjaaGreatDoor
end

section
/- storemankit's OverAsk, of a command that was lent: its lists alone are written over. -/
namespace Go.Proofs.YtkpedlhofalnjaaGreatDoor
open Go.RowKit Go.Proofs.YtkpedlhofalnjaaGreatDoorW.PrintWords Go.Proofs.YtkpedlhofalnjaaGreatDoorW.PrintLast Go.Proofs.YtkpedlhofalnjaaGreatDoorW.PrintMore

theorem But.keep {S : Nat → Prop} {a w : World} (h : But S a w) {base : Nat} {e : TypeId} {size n : Nat} {v : Value} {xs : List Value} (ho : a.ownsRow base e size v n xs) (hne : ∀ g, v.ownBlock = some g → ¬ S g) : w.ownsRow base e size v n xs :=
  own_move ho (fun k hk => h.block k (ho.lt k hk).2 (hne k hk))
theorem But.trans {S : Nat → Prop} {a b c : World} (h : But S a b) (k : But S b c) : But S a c :=
  ⟨h.old.trans k.old, fun x hx hS => by rw [k.block x (by have := h.old.size; omega) hS]; exact h.block x hx hS⟩
theorem But.wide {S S' : Nat → Prop} {a b : World} (h : But S a b) (hS : ∀ x, S x → S' x) : But S' a b := ⟨h.old, fun x hx hn => h.block x hx (fun s => hn (hS x s))⟩

set_option maxRecDepth 100000 in
set_option maxHeartbeats 4000000 in
theorem over_ask (x : Cmd) (g9 g10 : Nat) (base : Nat) (w : World) (h9 : x.parts.length ≤ 1000000) (h10 : x.others.length ≤ 1000000) (hne : g9 < g10) (cs9 cs10 : List Value)
    (ho9 : w.ownsRow base 58 2 (.slice (some ⟨g9, 0, none⟩) (x.parts.length + 12) (x.parts.length + 12)) (x.parts.length + 12) cs9)
    (ho10 : w.ownsRow base 9 1 (.slice (some ⟨g10, 0, none⟩) (x.others.length + 12) (x.others.length + 12)) (x.others.length + 12) cs10) :
    Calls Tryz.prog 35 #[.agg #[.int .u8 x.kind, .int .i64 x.req, .string x.item, .int .i64 x.qty, .int .i64 x.day, .int .i64 x.days, .int .i64 x.rank, .int .i64 x.lot, .int .i64 x.line, .slice (some ⟨g9, 0, none⟩) x.parts.length (x.parts.length + 12), .slice (some ⟨g10, 0, none⟩) x.others.length (x.others.length + 12)]] w fun e w' => e = .returned undef ∧ But (fun b => b = g9 ∨ b = g10) w w' := by
  have HO9 := Aside0.mk ho9
  have HO10 := Aside0.mk ho10
  have HG := Aside0.mk (ho10.lt g10 rfl).2
  clear ho9 ho10
  go_enter Tryz.func35, Tryz.ntmps35
  go_wp2_with (first
    | ((with_reducible refine gate_dst (N := 1) rfl ?_); refine box_event ?hg (N := 1) ?hd (cs := #[.int .u8 x.kind, .int .i64 x.req, .string x.item, .int .i64 x.qty, .int .i64 x.day, .int .i64 x.days, .int .i64 x.rank, .int .i64 x.lot, .int .i64 x.line, .slice (some ⟨g9, 0, none⟩) x.parts.length (x.parts.length + 12), .slice (some ⟨g10, 0, none⟩) x.others.length (x.others.length + 12)]) (t := 38) ?hr ?_; (case hd => rfl); (case hg => rfl); (case hr => first | (go_simp; done) | (go_simp; rfl)); intro g1 hg1 w1 hbox1 hb1; have HX1 := Aside0.mk hbox1; have HB1 := Aside0.mk hb1; have HE1 := Aside0.mk hg1; have hc1 : w1.cell? ⟨g1, 9, none⟩ = some (.slice (some ⟨g9, 0, none⟩) x.parts.length (x.parts.length + 12)) := blk_cell HX1.out 9; clear hbox1 hb1 hg1)
    | fail)
  refine (over_parts g9 x.parts.length h9 cs9 base _ (ownS_below HO9.out HB1.out)).mono ?_
  rintro e w2 ⟨rfl, hb2⟩
  have HU2 := Aside0.mk (((But.refl (S := fun b => b = g9 ∨ b = g10)).below' HB1.out).trans (hb2.wide (fun b hb => .inl hb)))
  have hgn : ¬ g1 = g9 := by have h1 := HE1.out; have h2 := HG.out; omega
  have HX2 := Aside0.mk ((hb2.block g1 (blk_lt HX1.out) hgn).trans HX1.out)
  have HO2 := Aside0.mk (hb2.keep (ownS_below HO10.out HB1.out) (fun g hg => by (have e : g10 = g := by simpa [Value.ownBlock] using hg); omega))
  have hc2 : w2.cell? ⟨g1, 10, none⟩ = some (.slice (some ⟨g10, 0, none⟩) x.others.length (x.others.length + 12)) := blk_cell HX2.out 10
  clear hb2 hc1
  go_wp2_with fail
  refine (over_texts g10 x.others.length h10 cs10 base _ HO2.out).mono ?_
  rintro e w3 ⟨rfl, hb3⟩
  have HU3 := Aside0.mk (HU2.out.trans (hb3.wide (fun b hb => .inr hb)))
  clear hb3 hc2
  go_wp2
  first | go_end0 | go_ret2
  exact ⟨rfl, HU3.out⟩
end Go.Proofs.YtkpedlhofalnjaaGreatDoor
end
