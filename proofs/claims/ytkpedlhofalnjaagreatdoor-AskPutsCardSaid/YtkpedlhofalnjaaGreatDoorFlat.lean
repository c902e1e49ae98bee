/- RowsB that lie apart, marked and grown: what flatBytes does. First: the laws of such rows. -/
import Derived.Test.YtkpedlhofalnjaaGreatDoorM14
namespace Go.Proofs.YtkpedlhofalnjaaGreatDoor
open Go.RowKit Go.Proofs.YtkpedlhofalnjaaGreatDoorW.PrintWords Go.Proofs.YtkpedlhofalnjaaGreatDoorW.PrintLast Go.Proofs.YtkpedlhofalnjaaGreatDoorW.PrintMore

/-- The new world is the old one, but for S's blocks and new ones. -/
structure But (S : Nat → Prop) (w w' : World) : Prop where
  old : Below 0 w w'
  block : ∀ b, b < w.heap.size → ¬ S b → w'.heap[b]? = w.heap[b]?
namespace But
variable {S : Nat → Prop} {a w w' : World}
theorem refl : But S w w := ⟨Below.refl _ _, fun _ _ _ => rfl⟩
theorem grown (h : But S a w) {row : Option Nat} (hg : w.grownBy w' row) (hr : ∀ g, row = some g → S g ∨ a.heap.size ≤ g) : But S a w' :=
  ⟨h.old.grown hg (Nat.zero_le _) (fun _ _ => Nat.zero_le _), fun b hb hS => by
    rw [hg.block b (by have := h.old.size; omega) (fun e => (hr b e.symm).elim hS (by omega))]
    exact h.block b hb hS⟩
theorem drawn (h : But S a w) (hd : Drawn0 w w') : But S a w' := by
  obtain ⟨nd, rfl⟩ := hd
  exact ⟨pw_below_drewN h.old nd, h.block⟩
theorem below (h : But S w w') {base : Nat} (hS : ∀ b, S b → base ≤ b) (hb : base ≤ w.heap.size) : Below base w w' :=
  ⟨h.old.os, h.old.tape, h.old.output, h.old.size, fun k hk => h.block k (by omega) (fun hs => by have := hS k hs; omega)⟩
end But

section
variable {w w' : World} {base : Nat} {e : TypeId} {v : Value} {n : Nat} {xs : List Value}
theorem own_fresh (h : w.ownsRow base e 1 v n xs) (hg : w.grownBy w' none) : w'.ownsRow base e 1 v n xs := by
  refine ⟨h.1, ?_⟩
  rcases h.2 with h2 | ⟨b, cap, cur, h1, h2, h3, h4⟩
  · exact .inl h2
  · exact .inr ⟨b, cap, cur, h1, h2, by rw [hg.block b (Array.getElem?_eq_some_iff.1 h3).1 (by simp)]; exact h3, h4⟩
theorem own_but {S : Nat → Prop} (h : w.ownsRow base e 1 v n xs) (hb : But S w w') (hne : ∀ g, v.ownBlock = some g → ¬ S g) : w'.ownsRow base e 1 v n xs := by
  refine ⟨h.1, ?_⟩
  rcases h.2 with h2 | ⟨b, cap, cur, h1, h2, h3, h4⟩
  · exact .inl h2
  · exact .inr ⟨b, cap, cur, h1, h2, by rw [hb.block b (Array.getElem?_eq_some_iff.1 h3).1 (hne b (by subst h1; rfl))]; exact h3, h4⟩
theorem own_base (h : w.ownsRow base e 1 v n xs) {base' : Nat} (hb : base' ≤ base) : w.ownsRow base' e 1 v n xs := by
  refine ⟨h.1, ?_⟩
  rcases h.2 with h2 | ⟨b, cap, cur, h1, h2, h3, h4⟩
  · exact .inl h2
  · exact .inr ⟨b, cap, cur, h1, by omega, h3, h4⟩
/-- A row's head: its first elements. -/
theorem own_head {g l c : Nat} (h : w.ownsRow base e 1 (.slice (some ⟨g, 0, none⟩) l c) l xs) (k : Nat) (hk : k ≤ l) : w.ownsRow base e 1 (.slice (some ⟨g, 0, none⟩) k c) k (xs.take k) := by
  rcases h.2 with ⟨h2, _⟩ | ⟨b, cap, cur, h1, h2, h3, h4, h5, h6, h7⟩
  · cases h2
  · simp only [Value.slice.injEq, Option.some.injEq, Addr.mk.injEq, and_true, true_and] at h1
    obtain ⟨rfl, rfl⟩ := h1
    refine ⟨by rw [List.length_take, h.1]; omega, .inr ⟨g, c, cur, rfl, h2, h3, by omega, h5, h6, ?_⟩⟩
    rw [← h7, List.take_take, Nat.mul_one, Nat.mul_one, Nat.min_eq_left hk]
theorem own_addr {A : Option Addr} {l c : Nat} (h : w.ownsRow base e 1 (.slice A l c) n xs) (h0 : 0 < n) : ∃ g, A = some ⟨g, 0, none⟩ ∧ base ≤ g ∧ g < w.heap.size ∧ l = n := by
  rcases h.2 with ⟨_, h2⟩ | ⟨b, cap, cur, h1, h2, h3, _⟩
  · omega
  · simp only [Value.slice.injEq] at h1
    exact ⟨b, h1.1, h2, (Array.getElem?_eq_some_iff.1 h3).1, h1.2.1⟩
end

/-- What append has done: into the row's room, or a new row. -/
def Arms (v v' : Value) (n m : Nat) (w w' : World) : Prop :=
  (∃ g c, v = .slice (some ⟨g, 0, none⟩) n c ∧ v' = .slice (some ⟨g, 0, none⟩) (n + m) c ∧ w.grownBy w' (some g)) ∨ (∃ g c, w.heap.size ≤ g ∧ g < w'.heap.size ∧ v' = .slice (some ⟨g, 0, none⟩) (n + m) c ∧ w.grownBy w' none)

/-- append onto a row of one's own: into its room, or a new row. -/
theorem wp_append_two {P : Program} (w : World) {ops : Array Oper} {rest : List Oper} {o : Oper} {a : Act} {Q : Exit → Act → World → Prop}
    (hg : o.guard = none) (s x : Operand) (t : TypeId) (hop : o.op = Op.call { callee := Callee.builtin Builtin.append, args := #[s, x], argTypes := #[t, t] })
    (base : Nat) (e : TypeId) (i : TypeInfo) (z : Value) (bytes : Nat) (h1 : P.underlying t = some (.slice e)) (h2 : P.info? e = some i) (h3 : i.zero = some z) (h4 : i.size = 1) (h5 : i.bytes = bytes) (h6 : z.cells.size = 1)
    (v : Value) (n : Nat) (xs : List Value) (hs : a.eval s = v) (hown : w.ownsRow base e 1 v n xs) (ad : Addr) (m c : Nat) (news : List Value)
    (hx : a.eval x = .slice (some ad) m c) (hm : 0 < m) (hn : news.length = m) (hc : ∀ j u, news[j]? = some u → w.cell? (ad.add j) = some u) (h1c : ∀ u ∈ news, u.oneCell' = true) (b1 : n + m ≤ maxLen) (b2 : (n + m) * bytes ≤ 140737488355328)
    (hK : ∀ v' w', w'.ownsRow (min base w.heap.size) e 1 v' (n + m) (xs ++ news) →
      Arms v v' n m w w' → wpList P ops Q rest (a.put o.dst v') w') :
    wpList P ops Q (o :: rest) a w := by
  have form : ∀ (v' : Value) (w' : World), w'.ownsRow w.heap.size e 1 v' (n + m) (xs ++ news) → ∃ g c, w.heap.size ≤ g ∧ g < w'.heap.size ∧ v' = .slice (some ⟨g, 0, none⟩) (n + m) c := by
    intro v' w' h
    rcases h.2 with ⟨_, h0⟩ | ⟨g, cap, cur, e1, e2, e3, _⟩
    · omega
    · exact ⟨g, cap, e2, (Array.getElem?_eq_some_iff.1 e3).1, e1⟩
  refine wpList_plain hg fun K hK' => ?_
  rcases hown.2 with ⟨rfl, rfl⟩ | ⟨g, cap, cur, rfl, hb, hcur, hnc, hcm, hsz, htk⟩
  · obtain ⟨v', w', hrun, r1, r2, _⟩ := run_append_own (P := P) w w.heap.size t o.type e i z 1 bytes h1 h2 h3 h4 h5 h6 (by omega) (.slice none 0 0) 0 [] (World.ownsRow_nil w _ e 1) ad m c news (by omega) hc h1c b1 b2 (Nat.le_refl _)
    obtain rfl : xs = [] := List.eq_nil_of_length_eq_zero (by simpa using hown.1)
    obtain ⟨g, c', q1, q2, q3⟩ := form v' w' r1
    unfold Oper.wp
    simp [execOp, hop, resolve, invoke, builtin, hs, hx, hrun, Result.andThen]
    exact hK' _ _ (hK v' w' (own_base r1 (Nat.min_le_right _ _)) (.inr ⟨g, c', q1, q2, q3, r2⟩))
  · by_cases hr : n + m ≤ cap
    · obtain ⟨w', hrun, r1, r2⟩ := run_append_fits (P := P) w base t o.type e i 1 h1 h2 h4 g n cap xs hown ad m c news (by omega) hc h1c hr
      unfold Oper.wp
      simp [execOp, hop, resolve, invoke, builtin, hs, hx, hrun, Result.andThen]
      exact hK' _ _ (hK _ w' (own_base r1 (Nat.min_le_left _ _)) (.inl ⟨g, cap, rfl, rfl, r2⟩))
    · have hl : xs.length = n := by simpa using hown.1
      obtain ⟨v', w', hrun, r1, r2⟩ := run_append_arg_grows (P := P) w t o.type e i z 1 bytes h1 h2 h3 h4 h5 h6 (by omega) ⟨g, 0, none⟩ n cap xs (by omega) (fun j u hj => by
          have hj2 : j < n := by rw [← hl]; exact (List.getElem?_eq_some_iff.1 hj).1
          rw [Addr.add_lit, Nat.zero_add, hown.cellAt j (by omega)]; exact hj) ad m c news (by omega) hc (by omega) b1 b2
      obtain ⟨g', c', q1, q2, q3⟩ := form v' w' r1
      unfold Oper.wp
      simp [execOp, hop, resolve, invoke, builtin, hs, hx, hrun, Result.andThen]
      exact hK' _ _ (hK v' w' (own_base r1 (Nat.min_le_right _ _)) (.inr ⟨g', c', q1, q2, q3, r2⟩))

/-- m rows, told in a list of slices at B; what they hold is f. -/
structure RowsB (w : World) (m B : Nat) (ad : Nat → Option Addr) (n cp : Nat → Nat) (f : Nat → List Int) : Prop where
  own : ∀ j, j < m → w.ownsRow 0 5 1 (.slice (ad j) (n j) (cp j)) (n j) (nums .u8 (f j))
  ls : ∀ j, j < m → w.cell? ⟨B, j, none⟩ = some (.slice (ad j) (n j) (cp j))
/-- They lie apart. -/
structure Lies (m B : Nat) (ad : Nat → Option Addr) : Prop where
  ne : ∀ i j g, i < m → j < m → ad i = some ⟨g, 0, none⟩ → ad j = some ⟨g, 0, none⟩ → i = j
  B : ∀ i, i < m → ad i ≠ some ⟨B, 0, none⟩
/-- The rows' own blocks. -/
def blocks (m : Nat) (ad : Nat → Option Addr) (b : Nat) : Prop := ∃ j, j < m ∧ ad j = some ⟨b, 0, none⟩

theorem cell_block {w w' : World} {g : Nat} (h : w'.heap[g]? = w.heap[g]?) (i : Nat) : w'.cell? ⟨g, i, none⟩ = w.cell? ⟨g, i, none⟩ := World.cell?_of_block (a := ⟨g, i, none⟩) h

namespace RowsB
variable {w w' : World} {m B : Nat} {ad : Nat → Option Addr} {n cp : Nat → Nat} {f : Nat → List Int}
theorem len (h : RowsB w m B ad n cp f) {j : Nat} (hj : j < m) : (f j).length = n j := by
  have := (h.own j hj).1
  simpa [nums] using this
theorem drawn (h : RowsB w m B ad n cp f) (hd : Drawn0 w w') : RowsB w' m B ad n cp f := by
  obtain ⟨nd, rfl⟩ := hd
  exact ⟨h.own, h.ls⟩
theorem addr (h : RowsB w m B ad n cp f) {j : Nat} (hj : j < m) (h0 : 0 < n j) : ∃ g, ad j = some ⟨g, 0, none⟩ ∧ g < w.heap.size := by
  obtain ⟨g, h1, _, h3, _⟩ := own_addr (h.own j hj) h0
  exact ⟨g, h1, h3⟩
theorem lt (h : RowsB w m B ad n cp f) {j g : Nat} (hj : j < m) (ha : ad j = some ⟨g, 0, none⟩) : g < w.heap.size := by
  rcases (h.own j hj).2 with ⟨h1, _⟩ | ⟨b, cap, cur, h1, h2, h3, _⟩
  · rw [ha] at h1; cases h1
  · rw [ha] at h1
    simp only [Value.slice.injEq, Option.some.injEq, Addr.mk.injEq, and_true, true_and] at h1
    rw [h1.1]; exact (Array.getElem?_eq_some_iff.1 h3).1
theorem hd (h : RowsB w m B ad n cp f) {j : Nat} (hj : j < m) {g : Nat} (hg : (Value.slice (ad j) (n j) (cp j)).ownBlock = some g) : ad j = some ⟨g, 0, none⟩ := by
  rcases (h.own j hj).2 with ⟨h1, _⟩ | ⟨b, cap, cur, h1, h2, h3, _⟩
  · rw [h1] at hg; cases hg
  · rw [h1] at hg
    simp only [Value.slice.injEq] at h1
    simp only [Value.ownBlock, Option.some.injEq] at hg
    rw [h1.1, ← hg]
theorem ltB (h : RowsB w m B ad n cp f) (hm : 0 < m) : B < w.heap.size := by
  have := h.ls 0 hm
  exact World.block_lt_of_cell? w _ this
/-- What is turned is none of theirs. -/
theorem keep (h : RowsB w m B ad n cp f) {row : Option Nat} (hg : w.grownBy w' row) (hB : row ≠ some B) (hr : ∀ j, j < m → ∀ g, ad j = some ⟨g, 0, none⟩ → row ≠ some g) : RowsB w' m B ad n cp f := by
  refine ⟨fun j hj => ?_, fun j hj => ?_⟩
  · refine own_but (S := fun b => row = some b) (h.own j hj) ⟨(Below.refl _ _).grown hg (Nat.zero_le _) (fun _ _ => Nat.zero_le _), fun b hb hS => hg.block b hb (fun e => hS e.symm)⟩ (fun g hg2 => hr j hj g (h.hd hj hg2))
  · rw [cell_block (hg.block B (h.ltB (by omega)) (fun e => hB e.symm)) j]
    exact h.ls j hj
/-- One of them is turned. -/
theorem turn (h : RowsB w m B ad n cp f) (hA : Lies m B ad) {k g : Nat} (hk : k < m) (hgk : ad k = some ⟨g, 0, none⟩) (hg : w.grownBy w' (some g)) {ys : List Int} (ho : w'.ownsRow 0 5 1 (.slice (ad k) (n k) (cp k)) (n k) (nums .u8 ys)) :
    RowsB w' m B ad n cp (fun j => if j = k then ys else f j) := by
  refine ⟨fun j hj => ?_, fun j hj => ?_⟩
  · by_cases e : j = k
    · subst e; simpa using ho
    · rw [if_neg e]
      refine own_but (S := fun b => b = g) (h.own j hj) ⟨(Below.refl _ _).grown hg (Nat.zero_le _) (fun _ _ => Nat.zero_le _), fun b hb hS => hg.block b hb (fun e => hS (by simpa using e))⟩ (fun b hb e2 => ?_)
      subst e2
      exact e (hA.ne j k b hj hk (h.hd hj hb) hgk)
  · rw [cell_block (hg.block B (h.ltB (by omega)) (fun e => hA.B k hk (by rw [hgk]; simpa using e.symm))) j]
    exact h.ls j hj
theorem congr (h : RowsB w m B ad n cp f) {f' : Nat → List Int} (e : ∀ j, j < m → f' j = f j) : RowsB w m B ad n cp f' :=
  ⟨fun j hj => by rw [e j hj]; exact h.own j hj, h.ls⟩
end RowsB
/-- What the grown rows hold: m rows as they were handed out, all marked; of the first k what they have grown to (gb: their blocks). -/
structure St (w : World) (m B G : Nat) (ad : Nat → Option Addr) (n cp : Nat → Nat) (k : Nat) (gl : List Value) (gb gc : Nat → Nat) (f : Nat → List Int) : Prop where
  rows : RowsB w m B ad n cp (fun j => marks j 0 (n j))
  gs : w.ownsRow 0 22 1 (.slice (some ⟨G, 0, none⟩) m m) m gl
  at_ : ∀ j, j < k → gl[j]? = some (.slice (some ⟨gb j, 0, none⟩) (n j + 64) (gc j))
  own : ∀ j, j < k → w.ownsRow 0 5 1 (.slice (some ⟨gb j, 0, none⟩) (n j + 64) (gc j)) (n j + 64) (nums .u8 (f j))
  neG : ∀ j, j < k → gb j ≠ G
  neB : ∀ j, j < k → gb j ≠ B
  neA : ∀ j, j < k → ∀ i, i < m → i ≠ j → ad i ≠ some ⟨gb j, 0, none⟩
  ne : ∀ i, i < k → ∀ j, j < k → i ≠ j → gb i ≠ gb j
  GB : G ≠ B
  GA : ∀ j, j < m → ad j ≠ some ⟨G, 0, none⟩
/-- A block that is none of theirs, but of the k-th row at most. -/
structure Out (m B G : Nat) (ad : Nat → Option Addr) (k : Nat) (gb : Nat → Nat) (g : Nat) : Prop where
  G : g ≠ G
  B : g ≠ B
  A : ∀ j, j < m → j ≠ k → ad j ≠ some ⟨g, 0, none⟩
  b : ∀ j, j < k → gb j ≠ g
namespace St
variable {w w' : World} {m B G : Nat} {ad : Nat → Option Addr} {n cp : Nat → Nat} {k : Nat} {gl : List Value} {gb gc : Nat → Nat} {f : Nat → List Int}
theorem drawn (h : St w m B G ad n cp k gl gb gc f) (hd : Drawn0 w w') : St w' m B G ad n cp k gl gb gc f := by
  obtain ⟨nd, rfl⟩ := hd
  exact ⟨⟨h.rows.own, h.rows.ls⟩, h.gs, h.at_, h.own, h.neG, h.neB, h.neA, h.ne, h.GB, h.GA⟩
theorem own_keep {base : Nat} {e : TypeId} {g l c : Nat} {xs : List Value} {row : Option Nat} (h : w.ownsRow base e 1 (.slice (some ⟨g, 0, none⟩) l c) l xs) (hg : w.grownBy w' row) (hne : row ≠ some g) : w'.ownsRow base e 1 (.slice (some ⟨g, 0, none⟩) l c) l xs :=
  own_but (S := fun b => row = some b) h ⟨(Below.refl _ _).grown hg (Nat.zero_le _) (fun _ _ => Nat.zero_le _), fun b hb hS => hg.block b hb (fun e => hS e.symm)⟩ (fun b e => by cases e; exact hne)
/-- What is turned is none of theirs. -/
theorem keep (h : St w m B G ad n cp k gl gb gc f) {row : Option Nat} (hg : w.grownBy w' row) (hr : ∀ g, row = some g → Out m B G ad k gb g ∧ ∀ j, j < m → ad j ≠ some ⟨g, 0, none⟩) : St w' m B G ad n cp k gl gb gc f :=
  ⟨h.rows.keep hg (fun e => (hr B e).1.B rfl) (fun j hj g ha e => (hr g e).2 j hj ha), own_keep h.gs hg (fun e => (hr G e).1.G rfl), h.at_,
    fun j hj => own_keep (h.own j hj) hg (fun e => (hr _ e).1.b j hj rfl), h.neG, h.neB, h.neA, h.ne, h.GB, h.GA⟩
/-- The k-th row's block is turned, behind its end. -/
theorem turn (h : St w m B G ad n cp k gl gb gc f) (hA : Lies m B ad) {g : Nat} (hk : k < m) (hgk : ad k = some ⟨g, 0, none⟩) (hg : w.grownBy w' (some g)) (ho : w'.ownsRow 0 5 1 (.slice (ad k) (n k) (cp k)) (n k) (nums .u8 (marks k 0 (n k)))) : St w' m B G ad n cp k gl gb gc f :=
  ⟨(h.rows.turn hA hk hgk hg ho).congr (fun j hj => by by_cases e : j = k <;> simp [e]), own_keep h.gs hg (fun e => h.GA k hk (by rw [hgk]; cases e; rfl)), h.at_,
    fun j hj => own_keep (h.own j hj) hg (fun e => h.neA j hj k hk (by omega) (by rw [hgk]; cases e; rfl)), h.neG, h.neB, h.neA, h.ne, h.GB, h.GA⟩
/-- A new block is none of theirs. -/
theorem fresh (h : St w m B G ad n cp k gl gb gc f) (hk : k < m) {g : Nat} (hg : w.heap.size ≤ g) : Out m B G ad k gb g ∧ ∀ j, j < m → ad j ≠ some ⟨g, 0, none⟩ := by
  have hA : ∀ j, j < m → ad j ≠ some ⟨g, 0, none⟩ := fun j hj e => by have := h.rows.lt hj e; omega
  refine ⟨⟨fun e => ?_, fun e => ?_, fun j hj _ => hA j hj, fun j hj e => ?_⟩, hA⟩
  · obtain ⟨g', h1, _, h3, _⟩ := own_addr h.gs (by omega)
    simp only [Option.some.injEq, Addr.mk.injEq, and_true] at h1
    omega
  · have := h.rows.ltB (by omega); omega
  · obtain ⟨g', h1, _, h3, _⟩ := own_addr (h.own j hj) (by omega)
    simp only [Option.some.injEq, Addr.mk.injEq, and_true] at h1
    omega
/-- The k-th grown row is told. -/
theorem put (h : St w m B G ad n cp k gl gb gc f) (_hA : Lies m B ad) (hk : k < m) {g c : Nat} {ys : List Int} (ho : w.ownsRow 0 5 1 (.slice (some ⟨g, 0, none⟩) (n k + 64) c) (n k + 64) (nums .u8 ys)) (hO : Out m B G ad k gb g)
    (hg : w.grownBy w' (some G)) (hs : w'.ownsRow 0 22 1 (.slice (some ⟨G, 0, none⟩) m m) m (gl.set k (.slice (some ⟨g, 0, none⟩) (n k + 64) c))) :
    St w' m B G ad n cp (k + 1) (gl.set k (.slice (some ⟨g, 0, none⟩) (n k + 64) c)) (fun j => if j = k then g else gb j) (fun j => if j = k then c else gc j) (fun j => if j = k then ys else f j) := by
  have hlen : gl.length = m := by have := h.gs.1; omega
  refine ⟨h.rows.keep hg (fun e => h.GB (by cases e; rfl)) (fun j hj g' ha e => h.GA j hj (by rw [ha]; cases e; rfl)), hs, fun j hj => ?_, fun j hj => ?_, fun j hj => ?_, fun j hj => ?_, fun j hj i hi hij => ?_, fun i hi j hj hij => ?_, h.GB, h.GA⟩
  · by_cases e : j = k
    · subst e
      rw [List.getElem?_set_self (by omega)]; simp
    · rw [List.getElem?_set_ne (by omega), h.at_ j (by omega)]; simp [e]
  · by_cases e : j = k
    · subst e; simpa using own_keep ho hg (fun e => hO.G (by cases e; rfl))
    · simpa [e] using own_keep (h.own j (by omega)) hg (fun e2 => h.neG j (by omega) (by cases e2; rfl))
  · by_cases e : j = k
    · simpa [e] using hO.G
    · simpa [e] using h.neG j (by omega)
  · by_cases e : j = k
    · simpa [e] using hO.B
    · simpa [e] using h.neB j (by omega)
  · by_cases e : j = k
    · simpa [e] using hO.A i hi (by omega)
    · simpa [e] using h.neA j (by omega) i hi hij
  · by_cases e : i = k
    · have e2 : ¬ j = k := by omega
      simpa [e, e2] using fun x => hO.b j (by omega) x.symm
    · by_cases e2 : j = k
      · simpa [e, e2] using hO.b i (by omega)
      · simpa [e, e2] using h.ne i (by omega) j (by omega) hij
theorem outK (h : St w m B G ad n cp k gl gb gc f) (hA : Lies m B ad) (hk : k < m) {g : Nat} (hgk : ad k = some ⟨g, 0, none⟩) : Out m B G ad k gb g :=
  ⟨fun e => h.GA k hk (by rw [hgk, e]), fun e => hA.B k hk (by rw [hgk, e]), fun j hj hne ha => hne (hA.ne j k g hj hk ha hgk), fun j hj e => h.neA j hj k hk (by omega) (by rw [hgk, e])⟩
end St
theorem marks_take (k : Int) (i a b : Nat) (h : a ≤ b) : (marks k i b).take a = marks k i a := by
  induction b with
  | zero => obtain rfl : a = 0 := by omega
            rfl
  | succ b ih =>
    by_cases e : a = b + 1
    · subst e; rw [List.take_of_length_le (by rw [marks_length]; exact Nat.le_refl _)]
    · rw [marks, List.take_append_of_le_length (by rw [marks_length]; omega), ih (by omega)]
theorem marks_get (k : Int) (i b j : Nat) (h : j < b) : (marks k i b)[j]? = some (markOf k ((i + j : Nat) : Int)) := by
  induction b with
  | zero => omega
  | succ b ih =>
    rw [marks]
    by_cases e : j = b
    · subst e
      rw [List.getElem?_append_right (by rw [marks_length]; exact Nat.le_refl _), marks_length, Nat.sub_self]; rfl
    · rw [List.getElem?_append_left (by rw [marks_length]; omega), ih (by omega)]
end Go.Proofs.YtkpedlhofalnjaaGreatDoor
