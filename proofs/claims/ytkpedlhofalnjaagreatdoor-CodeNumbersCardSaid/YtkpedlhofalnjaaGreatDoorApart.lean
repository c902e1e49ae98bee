/- A bag whose byte rows lie apart is told so. -/
import Derived.Test.YtkpedlhofalnjaaGreatDoorFlatBytes
import Derived.Test.YtkpedlhofalnjaaGreatDoorFlatNil
namespace Go.Proofs.YtkpedlhofalnjaaGreatDoor
open Go.RowKit Go.Proofs.YtkpedlhofalnjaaGreatDoorW.PrintWords Go.Proofs.YtkpedlhofalnjaaGreatDoorW.PrintLast Go.Proofs.YtkpedlhofalnjaaGreatDoorW.PrintMore

/-- A bag at bg in which nothing lies but the byte rows v. -/
def Bag (w : World) (bg : Nat) (v : Value) : Prop := ∀ i, i < 23 → w.cell? ⟨bg, i, none⟩ = some (if i = 4 then v else .slice none 0 0)
theorem Bag.but {w w' : World} {bg : Nat} {v : Value} {S : Nat → Prop} (h : Bag w bg v) (hb : But S w w') (hS : ¬ S bg) : Bag w' bg v := by
  intro i hi
  rw [cell_block (hb.block bg (World.block_lt_of_cell? w _ (h 0 (by decide))) hS) i]
  exact h i hi
theorem Bag.grown {w w' : World} {bg : Nat} {v : Value} (h : Bag w bg v) (hg : w.grownBy w' none) : Bag w' bg v :=
  h.but (S := fun _ => False) (But.refl.grown hg (fun _ e => by cases e)) (fun e => e)

theorem but_trans {S : Nat → Prop} {a b c : World} (h : But S a b) (k : But S b c) : But S a c :=
  ⟨h.old.trans k.old, fun x hx hS => by rw [k.block x (by have := h.old.size; omega) hS]; exact h.block x hx hS⟩

set_option maxRecDepth 100000 in
set_option maxHeartbeats 8000000 in
theorem bag_apart (bg m B cL : Nat) (ad : Nat → Option Addr) (n cp : Nat → Nat) (f0 : Nat → List Int) (w : World) (hm0 : 0 < m) (hm : m ≤ 1000) (hn : ∀ j, n j ≤ 1000000) (HR : Rows w m B ad n cp f0) (HA : Lies m B ad) (hcL : m ≤ cL)
    (hbag : Bag w bg (.slice (some ⟨B, 0, none⟩) m cL)) (hbB : bg ≠ B) (hba : ∀ j, j < m → ad j ≠ some ⟨bg, 0, none⟩) :
    Calls Tryz.prog 62 #[.pointer (some ⟨bg, 0, none⟩)] w fun e w' => e = .returned (.bool true) ∧ But (blocks m ad) w w' := by
  have FB := fun w' (h : Rows w' m B ad n cp f0) => flat_bytes m B cL ad n cp f0 w' hm0 hm hn h HA hcL
  have FB' := Lib.hid FB
  have HB0 := Lib.hid hbag
  have HR0 := Lib.hid HR
  have HU0 := Lib.hid (But.refl (S := blocks m ad) (w := w))
  have HK := Lib.hid hba
  have HBB := Lib.hid hbB
  clear FB HA hn hbag HR hba hbB
  go_enter Tryz.func62, Tryz.ntmps62
  have c0 := HB0.out 0 (by decide)
  rw [if_neg (by decide)] at c0
  go_wp2_with fail
  refine (nil_Words _).mono ?_
  rintro e w1 ⟨rfl, hg⟩
  have HB1 := Lib.hid (HB0.out.grown hg)
  have HR1 := Lib.hid (HR0.out.keep hg (by simp) (fun _ _ _ _ => by simp))
  have HU1 := Lib.hid (HU0.out.grown hg (fun _ e => by cases e))
  clear c0 HB0 HR0 HU0 hg
  have c1 := HB1.out 1 (by decide)
  rw [if_neg (by decide)] at c1
  go_wp2_with fail
  refine (nil_Ints _).mono ?_
  rintro e w2 ⟨rfl, hg⟩
  have HB2 := Lib.hid (HB1.out.grown hg)
  have HR2 := Lib.hid (HR1.out.keep hg (by simp) (fun _ _ _ _ => by simp))
  have HU2 := Lib.hid (HU1.out.grown hg (fun _ e => by cases e))
  clear c1 HB1 HR1 HU1 hg
  have c2 := HB2.out 2 (by decide)
  rw [if_neg (by decide)] at c2
  go_wp2_with fail
  refine (nil_Longs _).mono ?_
  rintro e w3 ⟨rfl, hg⟩
  have HB3 := Lib.hid (HB2.out.grown hg)
  have HR3 := Lib.hid (HR2.out.keep hg (by simp) (fun _ _ _ _ => by simp))
  have HU3 := Lib.hid (HU2.out.grown hg (fun _ e => by cases e))
  clear c2 HB2 HR2 HU2 hg
  have c3 := HB3.out 3 (by decide)
  rw [if_neg (by decide)] at c3
  go_wp2_with fail
  refine (nil_Texts _).mono ?_
  rintro e w4 ⟨rfl, hg⟩
  have HB4 := Lib.hid (HB3.out.grown hg)
  have HR4 := Lib.hid (HR3.out.keep hg (by simp) (fun _ _ _ _ => by simp))
  have HU4 := Lib.hid (HU3.out.grown hg (fun _ e => by cases e))
  clear c3 HB3 HR3 HU3 hg
  have c4 := HB4.out 4 (by decide)
  rw [if_pos rfl] at c4
  go_wp2_with fail
  refine (FB'.out _ HR4.out).mono ?_
  rintro e w5 ⟨rfl, hu⟩
  have HB5 := Lib.hid (HB4.out.but hu (fun ⟨j, hj, e⟩ => HK.out j hj e))
  have HU5 := Lib.hid (but_trans HU4.out hu)
  clear c4 HB4 HR4 HU4 hu
  have c5 := HB5.out 5 (by decide)
  rw [if_neg (by decide)] at c5
  go_wp2_with fail
  refine (nil_Windows _).mono ?_
  rintro e w6 ⟨rfl, hg⟩
  have HB6 := Lib.hid (HB5.out.grown hg)
  have HU6 := Lib.hid (HU5.out.grown hg (fun _ e => by cases e))
  clear c5 HB5 HU5 hg
  have c6 := HB6.out 6 (by decide)
  rw [if_neg (by decide)] at c6
  go_wp2_with fail
  refine (nil_Lots _).mono ?_
  rintro e w7 ⟨rfl, hg⟩
  have HB7 := Lib.hid (HB6.out.grown hg)
  have HU7 := Lib.hid (HU6.out.grown hg (fun _ e => by cases e))
  clear c6 HB6 HU6 hg
  have c7 := HB7.out 7 (by decide)
  rw [if_neg (by decide)] at c7
  go_wp2_with fail
  refine (nil_Wants _).mono ?_
  rintro e w8 ⟨rfl, hg⟩
  have HB8 := Lib.hid (HB7.out.grown hg)
  have HU8 := Lib.hid (HU7.out.grown hg (fun _ e => by cases e))
  clear c7 HB7 HU7 hg
  have c8 := HB8.out 8 (by decide)
  rw [if_neg (by decide)] at c8
  go_wp2_with fail
  refine (nil_Uses _).mono ?_
  rintro e w9 ⟨rfl, hg⟩
  have HB9 := Lib.hid (HB8.out.grown hg)
  have HU9 := Lib.hid (HU8.out.grown hg (fun _ e => by cases e))
  clear c8 HB8 HU8 hg
  have c9 := HB9.out 9 (by decide)
  rw [if_neg (by decide)] at c9
  go_wp2_with fail
  refine (nil_Parts _).mono ?_
  rintro e w10 ⟨rfl, hg⟩
  have HB10 := Lib.hid (HB9.out.grown hg)
  have HU10 := Lib.hid (HU9.out.grown hg (fun _ e => by cases e))
  clear c9 HB9 HU9 hg
  have c10 := HB10.out 10 (by decide)
  rw [if_neg (by decide)] at c10
  go_wp2_with fail
  refine (nil_Items _).mono ?_
  rintro e w11 ⟨rfl, hg⟩
  have HB11 := Lib.hid (HB10.out.grown hg)
  have HU11 := Lib.hid (HU10.out.grown hg (fun _ e => by cases e))
  clear c10 HB10 HU10 hg
  have c11 := HB11.out 11 (by decide)
  rw [if_neg (by decide)] at c11
  go_wp2_with fail
  refine (nil_Lines _).mono ?_
  rintro e w12 ⟨rfl, hg⟩
  have HB12 := Lib.hid (HB11.out.grown hg)
  have HU12 := Lib.hid (HU11.out.grown hg (fun _ e => by cases e))
  clear c11 HB11 HU11 hg
  have c12 := HB12.out 12 (by decide)
  rw [if_neg (by decide)] at c12
  go_wp2_with fail
  refine (nil_Asks _).mono ?_
  rintro e w13 ⟨rfl, hg⟩
  have HB13 := Lib.hid (HB12.out.grown hg)
  have HU13 := Lib.hid (HU12.out.grown hg (fun _ e => by cases e))
  clear c12 HB12 HU12 hg
  have c13 := HB13.out 13 (by decide)
  rw [if_neg (by decide)] at c13
  go_wp2_with fail
  refine (nil_Tells _).mono ?_
  rintro e w14 ⟨rfl, hg⟩
  have HB14 := Lib.hid (HB13.out.grown hg)
  have HU14 := Lib.hid (HU13.out.grown hg (fun _ e => by cases e))
  clear c13 HB13 HU13 hg
  have c14 := HB14.out 14 (by decide)
  rw [if_neg (by decide)] at c14
  go_wp2_with fail
  refine (nil_States _).mono ?_
  rintro e w15 ⟨rfl, hg⟩
  have HB15 := Lib.hid (HB14.out.grown hg)
  have HU15 := Lib.hid (HU14.out.grown hg (fun _ e => by cases e))
  clear c14 HB14 HU14 hg
  have c15 := HB15.out 15 (by decide)
  rw [if_neg (by decide)] at c15
  go_wp2_with fail
  refine (nil_Rows _).mono ?_
  rintro e w16 ⟨rfl, hg⟩
  have HB16 := Lib.hid (HB15.out.grown hg)
  have HU16 := Lib.hid (HU15.out.grown hg (fun _ e => by cases e))
  clear c15 HB15 HU15 hg
  have c16 := HB16.out 16 (by decide)
  rw [if_neg (by decide)] at c16
  go_wp2_with fail
  refine (nil_Turns _).mono ?_
  rintro e w17 ⟨rfl, hg⟩
  have HB17 := Lib.hid (HB16.out.grown hg)
  have HU17 := Lib.hid (HU16.out.grown hg (fun _ e => by cases e))
  clear c16 HB16 HU16 hg
  have c17 := HB17.out 17 (by decide)
  rw [if_neg (by decide)] at c17
  go_wp2_with fail
  refine (nil_Fates _).mono ?_
  rintro e w18 ⟨rfl, hg⟩
  have HB18 := Lib.hid (HB17.out.grown hg)
  have HU18 := Lib.hid (HU17.out.grown hg (fun _ e => by cases e))
  clear c17 HB17 HU17 hg
  have c18 := HB18.out 18 (by decide)
  rw [if_neg (by decide)] at c18
  go_wp2_with fail
  refine (nil_Dirties _).mono ?_
  rintro e w19 ⟨rfl, hg⟩
  have HB19 := Lib.hid (HB18.out.grown hg)
  have HU19 := Lib.hid (HU18.out.grown hg (fun _ e => by cases e))
  clear c18 HB18 HU18 hg
  have c19 := HB19.out 19 (by decide)
  rw [if_neg (by decide)] at c19
  go_wp2_with fail
  refine (nil_Opens _).mono ?_
  rintro e w20 ⟨rfl, hg⟩
  have HB20 := Lib.hid (HB19.out.grown hg)
  have HU20 := Lib.hid (HU19.out.grown hg (fun _ e => by cases e))
  clear c19 HB19 HU19 hg
  have c20 := HB20.out 20 (by decide)
  rw [if_neg (by decide)] at c20
  go_wp2_with fail
  refine (nil_Records _).mono ?_
  rintro e w21 ⟨rfl, hg⟩
  have HB21 := Lib.hid (HB20.out.grown hg)
  have HU21 := Lib.hid (HU20.out.grown hg (fun _ e => by cases e))
  clear c20 HB20 HU20 hg
  have c21 := HB21.out 21 (by decide)
  rw [if_neg (by decide)] at c21
  go_wp2_with fail
  refine (nil_Steps _).mono ?_
  rintro e w22 ⟨rfl, hg⟩
  have HB22 := Lib.hid (HB21.out.grown hg)
  have HU22 := Lib.hid (HU21.out.grown hg (fun _ e => by cases e))
  clear c21 HB21 HU21 hg
  have c22 := HB22.out 22 (by decide)
  rw [if_neg (by decide)] at c22
  go_wp2_with fail
  refine (nil_Tales _).mono ?_
  rintro e w23 ⟨rfl, hg⟩
  have HB23 := Lib.hid (HB22.out.grown hg)
  have HU23 := Lib.hid (HU22.out.grown hg (fun _ e => by cases e))
  clear c22 HB22 HU22 hg
  go_wp2
  go_ret
  exact ⟨rfl, HU23.out⟩
end Go.Proofs.YtkpedlhofalnjaaGreatDoor
