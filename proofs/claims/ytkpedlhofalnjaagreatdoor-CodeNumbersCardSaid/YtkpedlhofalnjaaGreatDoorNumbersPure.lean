/- Numbers at their ends, and texts that nearly say one. -/
import Derived.Test.YtkpedlhofalnjaaGreatDoorPure03
import Derived.Test.YtkpedlhofalnjaaGreatDoorC5
import Derived.Test.YtkpedlhofalnjaaGreatDoorR1
namespace Go.Proofs.YtkpedlhofalnjaaGreatDoor
open Go.RowKit Go.Proofs.YtkpedlhofalnjaaGreatDoorW.PrintWords Go.Proofs.YtkpedlhofalnjaaGreatDoorW.PrintLast Go.Proofs.YtkpedlhofalnjaaGreatDoorW.PrintMore

theorem number_of_ref (s : ByteArray) (n : Int) (b : Bool) (hs : s.size ≤ 30) (h : C.storemanref03_Number.f 60 s = some (n, b)) : code_Number.f s = some (n, b) := by
  have e := ref_number s (by omega) 60 (by omega)
  rw [h] at e
  unfold code_Number.f
  rw [if_pos (by omega), ← e]

def nos : List ByteArray := [⟨#[]⟩, ⟨#[45]⟩, ⟨#[45, 48]⟩, ⟨#[48, 48]⟩, ⟨#[48, 49]⟩, ⟨#[45, 48, 49]⟩, ⟨#[43, 49]⟩, ⟨#[49, 32]⟩, ⟨#[32, 49]⟩, ⟨#[49, 97]⟩, ⟨#[57, 50, 50, 51, 51, 55, 50, 48, 51, 54, 56, 53, 52, 55, 55, 53, 56, 48, 56]⟩, ⟨#[45, 57, 50, 50, 51, 51, 55, 50, 48, 51, 54, 56, 53, 52, 55, 55, 53, 56, 48, 57]⟩, ⟨#[49, 48, 48, 48, 48, 48, 48, 48, 48, 48, 48, 48, 48, 48, 48, 48, 48, 48, 48, 48]⟩, ⟨#[48, 120, 49]⟩, ⟨#[49, 46, 48]⟩, ⟨#[45, 45, 49]⟩]
theorem nos_small : ∀ s ∈ nos, s.size ≤ 30 := by decide +kernel
theorem nos_none : ∀ s ∈ nos, C.storemanref03_Number.f 60 s = some (0, false) := by decide +kernel
def yes : List (Int × ByteArray) := [((-9223372036854775808), ⟨#[45, 57, 50, 50, 51, 51, 55, 50, 48, 51, 54, 56, 53, 52, 55, 55, 53, 56, 48, 56]⟩), ((-9223372036854775807), ⟨#[45, 57, 50, 50, 51, 51, 55, 50, 48, 51, 54, 56, 53, 52, 55, 55, 53, 56, 48, 55]⟩), ((-10), ⟨#[45, 49, 48]⟩), ((-1), ⟨#[45, 49]⟩), (0, ⟨#[48]⟩), (1, ⟨#[49]⟩), (9, ⟨#[57]⟩), (10, ⟨#[49, 48]⟩), (9223372036854775807, ⟨#[57, 50, 50, 51, 51, 55, 50, 48, 51, 54, 56, 53, 52, 55, 55, 53, 56, 48, 55]⟩)]
theorem yes_number : ∀ p ∈ yes, C.storemanref03_Number.f 60 p.2 = some (p.1, true) := by decide +kernel
theorem yes_text : ∀ p ∈ yes, R.storemanref03_Text.f 60 p.1 = some p.2 := by decide +kernel
theorem yes_small : ∀ p ∈ yes, p.2.size ≤ 30 ∧ -9223372036854775808 ≤ p.1 ∧ p.1 ≤ 9223372036854775807 := by decide +kernel
theorem text_of (p : Int × ByteArray) (hp : p ∈ yes) : code_Text.f p.1 = some p.2 := by
  obtain ⟨hs, h0, h1⟩ := yes_small p hp
  have e := ref_number p.2 (by omega) 60 (by omega)
  rw [yes_number p hp] at e
  simp only [Option.some.injEq, Prod.mk.injEq] at e
  have hn : num p.2.data.toList = some p.1 := by
    cases h : num p.2.data.toList with
    | none => rw [h] at e; simp at e
    | some v => rw [h] at e; simp at e; rw [e]
  unfold code_Text.f
  rw [if_pos h0, if_pos h1, (num_some hn).1]
end Go.Proofs.YtkpedlhofalnjaaGreatDoor
