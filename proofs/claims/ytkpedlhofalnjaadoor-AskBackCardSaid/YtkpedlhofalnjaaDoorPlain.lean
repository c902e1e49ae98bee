/- Plain words on codes: what a code is, over lists of bytes (no program). -/
import Derived.Test.YtkpedlhofalnjaaDoorNum
namespace Go.Proofs.YtkpedlhofalnjaaDoor

theorem bind_if {α : Type} {x : Option Bool} {f g : Option α} (h : x = some true) : (x.bind fun t => if t = true then f else g) = f := by subst h; rfl
theorem bind_if_not {α : Type} {x : Option Bool} {f g : Option α} (h : x = some false) : (x.bind fun t => if t = true then f else g) = g := by subst h; rfl
theorem bind_is {α β : Type} {x : Option α} {a : α} {f : α → Option β} (h : x = some a) : x.bind f = f a := by subst h; rfl

def good (i : Nat) (c : UInt8) : Bool := (decide (65 ≤ c.toNat) && decide (c.toNat ≤ 90)) || (decide (0 < i) && ((decide (48 ≤ c.toNat) && decide (c.toNat ≤ 57)) || decide (c.toNat = 45)))
def goodFrom (i : Nat) : List UInt8 → Bool
  | [] => true
  | c :: r => good i c && goodFrom (i + 1) r
def isCode (l : List UInt8) : Bool := goodFrom 0 l && (!l.isEmpty && decide (l.length ≤ 12))

theorem goodFrom_drop (l : List UInt8) (i : Nat) (h : i < l.length) : goodFrom i (l.drop i) = (good i l[i] && goodFrom (i + 1) (l.drop (i + 1))) := by
  rw [List.drop_eq_getElem_cons h]; rfl
theorem goodFrom_end (l : List UInt8) (i : Nat) (h : l.length ≤ i) : goodFrom i (l.drop i) = true := by
  rw [List.drop_eq_nil_of_le h]; rfl

def goodN (i d : Nat) : Bool := (decide (65 ≤ d) && decide (d ≤ 90)) || (decide (0 < i) && ((decide (48 ≤ d) && decide (d ≤ 57)) || decide (d = 45)))
theorem goodN_high (i d : Nat) (h : 128 ≤ d) : goodN i d = false := by unfold goodN; simp; omega
theorem goodN_true {i d : Nat} (h : (65 ≤ d ∧ d ≤ 90) ∨ (0 < i ∧ ((48 ≤ d ∧ d ≤ 57) ∨ d = 45))) : goodN i d = true := by unfold goodN; simp; omega
theorem goodN_false {i d : Nat} (h : ¬ ((65 ≤ d ∧ d ≤ 90) ∨ (0 < i ∧ ((48 ≤ d ∧ d ≤ 57) ∨ d = 45)))) : goodN i d = false := by unfold goodN; simp; omega
theorem isCode_false {l : List UInt8} {i : Nat} (h : i < l.length) (hc : goodFrom i (l.drop i) = goodFrom 0 l) (hg : good i l[i] = false) : isCode l = false := by
  unfold isCode; rw [← hc, goodFrom_drop l i h, hg]; rfl
theorem isCode_end {l : List UInt8} {i : Nat} (h : l.length ≤ i) (hc : goodFrom i (l.drop i) = goodFrom 0 l) : isCode l = (!l.isEmpty && decide (l.length ≤ 12)) := by
  unfold isCode; rw [← hc, goodFrom_end l i h]; rfl

end Go.Proofs.YtkpedlhofalnjaaDoor
