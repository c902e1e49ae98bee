/- storemankit.ApartBytes, of two rows that lie apart: true. -/
import Derived.Test.YtkpedlhofalnjaaGreatDoorApart
namespace Go.Proofs.YtkpedlhofalnjaaGreatDoor
open Go.RowKit Go.Proofs.YtkpedlhofalnjaaGreatDoorW.PrintWords Go.Proofs.YtkpedlhofalnjaaGreatDoorW.PrintLast Go.Proofs.YtkpedlhofalnjaaGreatDoorW.PrintMore

def bagCells (v : Value) : List Value := [.slice none 0 0, .slice none 0 0, .slice none 0 0, .slice none 0 0, v, .slice none 0 0, .slice none 0 0, .slice none 0 0, .slice none 0 0, .slice none 0 0, .slice none 0 0, .slice none 0 0, .slice none 0 0, .slice none 0 0, .slice none 0 0, .slice none 0 0, .slice none 0 0, .slice none 0 0, .slice none 0 0, .slice none 0 0, .slice none 0 0, .slice none 0 0, .slice none 0 0]
/-- A bag as a row of one's own. -/
def BagO (w : World) (bg : Nat) (e : TypeId) (v : Value) : Prop := w.ownsRow 0 e 1 (.slice (some ⟨bg, 0, none⟩) 23 23) 23 (bagCells v)
theorem bagCells_get (v : Value) (i : Nat) (hi : i < 23) : (bagCells v)[i]? = some (if i = 4 then v else .slice none 0 0) :=
  match i, hi with
  | 0, _ => rfl | 1, _ => rfl | 2, _ => rfl | 3, _ => rfl | 4, _ => rfl | 5, _ => rfl | 6, _ => rfl | 7, _ => rfl | 8, _ => rfl | 9, _ => rfl | 10, _ => rfl | 11, _ => rfl
  | 12, _ => rfl | 13, _ => rfl | 14, _ => rfl | 15, _ => rfl | 16, _ => rfl | 17, _ => rfl | 18, _ => rfl | 19, _ => rfl | 20, _ => rfl | 21, _ => rfl | 22, _ => rfl
  | _ + 23, h => by omega
theorem BagO.bag {w : World} {bg : Nat} {e : TypeId} {v : Value} (h : BagO w bg e v) : Bag w bg v := fun i hi => by
  rw [World.ownsRow.cellAt h i (by omega)]; exact bagCells_get v i hi
theorem BagO.but {w w' : World} {bg : Nat} {e : TypeId} {v : Value} {S : Nat → Prop} (h : BagO w bg e v) (hb : But S w w') (hS : ¬ S bg) : BagO w' bg e v :=
  own_but h hb (fun g hg => by cases hg; exact hS)
theorem bagCells_set (v v' : Value) : (bagCells v).set 4 v' = bagCells v' := rfl

set_option maxRecDepth 100000 in
set_option maxHeartbeats 4000000 in
theorem put_bytes (bg : Nat) (e : TypeId) (n0 : Nat) (v : Value) (xs : List Value) (A : Option Addr) (ln cn : Nat) (w : World) (hbag : BagO w bg e v) (ho : w.ownsRow 0 22 1 v n0 xs) (hvb : v.ownBlock ≠ some bg) (hn : n0 ≤ 100) :
    Calls Tryz.prog 61 #[.pointer (some ⟨bg, 0, none⟩), .slice A ln cn] w fun e' w' => e' = .returned undef ∧ ∃ g c, BagO w' bg e (.slice (some ⟨g, 0, none⟩) (n0 + 1) c) ∧
      w'.ownsRow 0 22 1 (.slice (some ⟨g, 0, none⟩) (n0 + 1) c) (n0 + 1) (xs ++ [.slice A ln cn]) ∧ g ≠ bg ∧ (v.ownBlock = some g ∨ w.heap.size ≤ g) ∧ But (fun b => b = bg ∨ v.ownBlock = some b) w w' := by
  obtain ⟨i1, hi1, hy0, hy1, hy2⟩ := info_parts info_row
  have hc := World.ownsRow.cellAt hbag 4 (by decide)
  rw [bagCells_get v 4 (by decide), if_pos rfl] at hc
  have HBAG := Lib.hid hbag
  have HO := Lib.hid ho
  have HVB := Lib.hid hvb
  clear hbag hvb
  go_enter Tryz.func61, Tryz.ntmps61
  go_wp2_with (first
    | (at_builtin; (refine wp_append_two _ rfl _ _ 31 rfl 0 22 i1 _ 24 Tryz.underlying31 hi1 hy0 hy1 hy2 rfl _ n0 _ rfl (own_alloc ho _) _ 1 1 [.slice A ln cn] rfl (by decide) rfl (cells_one _ _ _) (by simp [Value.oneCell']) ?b1 ?b2 ?_))
    | fail)
  case b1 => simp only [maxLen]; omega
  case b2 => omega
  intro v' w4 hown4 hor
  clear ho hc
  have hbag1 : BagO (w.alloc (.cells #[.slice A ln cn] 22)) bg e v := own_alloc HBAG.out _
  obtain ⟨g, c, rfl, hbag4, hg1, hg2, hbut⟩ : ∃ g c, v' = .slice (some ⟨g, 0, none⟩) (n0 + 1) c ∧ BagO w4 bg e v ∧ g ≠ bg ∧ (v.ownBlock = some g ∨ w.heap.size ≤ g) ∧ But (fun b => b = bg ∨ v.ownBlock = some b) w w4 := by
    have hu : But (fun b => b = bg ∨ v.ownBlock = some b) w (w.alloc (.cells #[.slice A ln cn] 22)) := But.refl.grown (World.grownBy_alloc w _ none) (fun _ e => by cases e)
    rcases hor with ⟨g, c, e1, rfl, hg⟩ | ⟨g, c, hge, hgl, rfl, hg⟩
    · have e2 : v.ownBlock = some g := by rw [e1]; rfl
      exact ⟨g, c, rfl, own_other hbag1 hg (fun e3 => HVB.out (by rw [e2]; simpa [Value.ownBlock] using e3.symm)), fun e3 => HVB.out (by rw [e2, e3]), .inl e2, hu.grown hg (fun g2 e3 => by cases e3; exact .inl (.inr e2))⟩
    · have hlt : bg < (w.alloc (.cells #[.slice A ln cn] 22)).heap.size := by
        obtain ⟨g', h1, _, h3, _⟩ := own_addr hbag1 (by decide)
        simp only [Option.some.injEq, Addr.mk.injEq, and_true] at h1
        omega
      exact ⟨g, c, rfl, own_fresh hbag1 hg, by omega, .inr (by have := hu.old.size; omega), hu.grown hg (fun _ e => by cases e)⟩
  have hc := World.ownsRow.cellAt hbag4 4 (by decide)
  rw [bagCells_get v 4 (by decide), if_pos rfl] at hc
  have hfr := World.ownsRow.frozenAt hbag4 4
  have HST := Lib.hid (World.ownsRow.stored hbag4 4 (.slice (some ⟨g, 0, none⟩) (n0 + 1) c))
  have HO4 := Lib.hid hown4
  have HUT := Lib.hid hbut
  clear hbag4 hown4 hor hbut hbag1
  go_wp2
  first | go_end0 | go_ret2
  refine ⟨rfl, g, c, HST.out.1, ?_, hg1, hg2, HUT.out.grown HST.out.2 (fun g2 e => by cases e; exact .inl (.inl rfl))⟩
  exact own_base (own_other HO4.out HST.out.2 (fun e => hg1 (by simpa [Value.ownBlock] using e))) (Nat.zero_le _)

theorem But.weak {S S' : Nat → Prop} {a b : World} (h : But S a b) (hS : ∀ x, x < a.heap.size → S x → S' x) : But S' a b := ⟨h.old, fun x hx hn => h.block x hx (fun s => hn (hS x hx s))⟩
theorem own_cap {w : World} {base : Nat} {e : TypeId} {g l c n : Nat} {xs : List Value} (h : w.ownsRow base e 1 (.slice (some ⟨g, 0, none⟩) l c) n xs) : n ≤ c := by
  rcases h.2 with ⟨h2, _⟩ | ⟨b, cap, cur, h1, h2, h3, h4, h5, h6, h7⟩
  · cases h2
  · simp only [Value.slice.injEq] at h1
    omega
theorem Rows.cells_but {w w' : World} {m B : Nat} {ad : Nat → Option Addr} {n cp : Nat → Nat} {f : Nat → List Int} {S : Nat → Prop} (h : Rows w m B ad n cp f) (hm : 0 < m) (hb : But S w w') (hS : ∀ x, x < w.heap.size → ¬ S x) : ∀ j, j < m → w'.cell? ⟨B, j, none⟩ = some (.slice (ad j) (n j) (cp j)) := fun j hj => by
  have hB := h.ltB hm
  rw [cell_block (hb.block B hB (hS B hB)) j]; exact h.ls j hj

set_option maxRecDepth 100000 in
set_option maxHeartbeats 4000000 in
theorem apart_bytes (L cL : Nat) (ad : Nat → Option Addr) (n cp : Nat → Nat) (f0 : Nat → List Int) (w : World) (hn : ∀ j, n j ≤ 1000000) (HR : Rows w 2 L ad n cp f0) (HA : Lies 2 L ad) :
    Calls Tryz.prog 19 #[.slice (some ⟨L, 0, none⟩) 2 cL] w fun e w' => e = .returned (.bool true) ∧ But (blocks 2 ad) w w' := by
  have hl0 : ∀ o : Obj, (w.alloc o).cell? ⟨L, 0, none⟩ = some (.slice (ad 0) (n 0) (cp 0)) := fun o => HR.cells_but (by decide) (But.refl.grown (S := fun _ => False) (World.grownBy_alloc w o none) (fun _ e => by cases e)) (fun _ _ e => e) 0 (by decide)
  have HR0 := Lib.hid HR
  have HA0 := Lib.hid HA
  have HN := Lib.hid hn
  clear HR HA hn
  go_enter Tryz.func19, Tryz.ntmps19
  go_wp2
  refine wp_loop_rounds 3 ?_
  rw [rounds_succ]
  go_wp2_with fail
  refine (put_bytes w.heap.size _ 0 (.slice none 0 0) [] _ _ _ _ (World.ownsRow_lit (base := 0) (size := 1) w _ 23 (Nat.zero_le _) (by decide) rfl) (World.ownsRow_nil _ _ _ _) (by simp [Value.ownBlock]) (by decide)).mono ?_
  rintro e w2 ⟨rfl, g, c, hb2, ho2, hg1, hg2, hu2⟩
  have hge : w.heap.size + 1 ≤ g := by
    rcases hg2 with h | h
    · cases h
    · have := World.grownBy_alloc w (.cells #[] 0) none
      simpa using h
  have hu2' : But (fun b => w.heap.size ≤ b) w w2 := by
    refine but_trans ((But.refl (S := fun b => w.heap.size ≤ b)).grown (World.grownBy_alloc w _ none) (fun _ e => by cases e)) (hu2.weak ?_)
    intro x _ h
    rcases h with h | h
    · omega
    · cases h
  have hl1 := HR0.out.cells_but (by decide) hu2' (fun x hx h => by omega) 1 (by decide)
  have HB2 := Lib.hid hb2
  have HO2 := Lib.hid ho2
  have HU2 := Lib.hid hu2'
  clear hl0 hb2 ho2 hu2 hu2' hg2
  go_wp2
  rw [rounds_succ]
  go_wp2_with fail
  refine (put_bytes w.heap.size _ 1 (.slice (some ⟨g, 0, none⟩) 1 c) _ _ _ _ _ HB2.out HO2.out (fun e => hg1 (by simpa [Value.ownBlock] using e)) (by decide)).mono ?_
  rintro e w3 ⟨rfl, g', c', hb3, ho3, hg3, hg4, hu3⟩
  have hge' : w.heap.size ≤ g' := by
    rcases hg4 with h | h
    · simp only [Value.ownBlock, Option.some.injEq] at h; omega
    · have := HU2.out.old.size; omega
  have hu3' : But (fun b => w.heap.size ≤ b) w w3 := by
    refine but_trans HU2.out (hu3.weak ?_)
    intro x _ h
    rcases h with h | h
    · omega
    · simp only [Value.ownBlock, Option.some.injEq] at h; omega
  have HB3 := Lib.hid hb3
  have HO3 := Lib.hid ho3
  have HU3 := Lib.hid hu3'
  clear hl1 hb3 ho3 hu3 hu3' hg4
  go_wp2
  rw [rounds_succ]
  go_wp2_with fail
  have hrows : Rows w3 2 g' ad n cp f0 := by
    refine ⟨fun j hj => own_but (HR0.out.own j hj) HU3.out (fun b hb => ?_), fun j hj => ?_⟩
    · have := HR0.out.lt hj (HR0.out.hd hj hb); omega
    · rw [HO3.out.cellAt j (by omega)]
      match j, hj with
      | 0, _ => rfl
      | 1, _ => rfl
      | _ + 2, h => omega
  have hlies : Lies 2 g' ad := ⟨HA0.out.ne, fun i hi e => by have := HR0.out.lt hi e; omega⟩
  have hbb : ∀ j, j < 2 → ad j ≠ some ⟨w.heap.size, 0, none⟩ := fun j hj e => by have := HR0.out.lt hj e; omega
  refine (bag_apart w.heap.size 2 g' c' ad n cp f0 w3 (by decide) (by decide) HN.out hrows hlies (own_cap HO3.out) (BagO.bag HB3.out) (fun e => hg3 e.symm) hbb).mono ?_
  rintro e w4 ⟨rfl, hu4⟩
  clear hrows hlies hbb
  go_wp2
  go_ret
  exact ⟨rfl, but_trans (HU3.out.weak (fun x hx h => by omega)) hu4⟩
end Go.Proofs.YtkpedlhofalnjaaGreatDoor
