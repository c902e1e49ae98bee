/- What comes in as data of a type (a struct with lists in it) is of the printed kind of that type: opened once, kind by kind. -/
import Derived.Test.YtkpedlhofalnjaaGreatDoorWWords
import Derived.OpenShut
import Derived.ChangeArms
import Derived.DataReads
import Derived.Test.YtkpedlhofalnjaaGreatDoorM5
namespace Go.Proofs.YtkpedlhofalnjaaGreatDoor
open Go.RowKit Go.Proofs.YtkpedlhofalnjaaGreatDoorW.PrintWords

/-- What reads as data of this type is of this kind, and ok. -/
def Opens {α : Type} (P : Program) (w : World) (κ : Kd α) (t : TypeId) (ok : α → Prop) : Prop :=
  κ.sz = P.cellsOf t ∧ ∀ {H : Type} (enc : TypeId × Value → H) (sp : Nat → Bool) (held : Bool) (fuel : Nat) (cs : List Value) (x : DataW H × List MemPlace), DataW.trod enc P w 0 sp held fuel t cs = some x → ∃ a, κ.K w a cs ∧ ok a

theorem opens_int {P : Program} {w : World} {t : TypeId} {k : IntKind} (ht : P.underlying t = some (.int k)) (hc : P.cellsOf t = 1) : Opens P w (Kd.int k) t (fun n => (Lit.int k n).wf = true) :=
  ⟨hc.symm, fun enc sp held fuel cs x h => by
    obtain ⟨n, hcs, _, hw⟩ := DataW.trod_int ht h
    exact ⟨n, hcs, hw⟩⟩
theorem opens_string {P : Program} {w : World} {t : TypeId} (ht : P.underlying t = some .string) (hc : P.cellsOf t = 1) : Opens P w Kd.string t (fun _ => True) :=
  ⟨hc.symm, fun enc sp held fuel cs x h => by
    obtain ⟨s, hcs, _, _⟩ := DataW.trod_string ht h
    exact ⟨s, hcs, trivial⟩⟩

theorem add_add (a : Addr) (i j : Nat) : (a.add i).add j = a.add (i + j) := by
  unfold Addr.add
  split <;> rename_i h
  · split <;> rename_i h2
    · first | rfl | (simp_all; omega) | simp_all
    · simp_all
  · split <;> rename_i h2
    · simp_all
    · first | (simp_all; omega) | simp_all

theorem opens_slice {α : Type} {P : Program} {w : World} {t e : TypeId} {κ : Kd α} {ok : α → Prop} (ht : P.underlying t = some (.slice e)) (hc : P.cellsOf t = 1) (h : Opens P w κ e ok) : Opens P w (Kd.slice e κ) t (fun l => ∀ a ∈ l, ok a) :=
  ⟨hc.symm, fun enc sp held fuel cs x hx => by
    rcases DataW.trod_slice ht hx with ⟨rfl, _⟩ | ⟨a, len, cap, elems, rest, n, _, rfl, _, hb, hl, hm, hel, hat, _, _⟩
    · exact ⟨[], ⟨none, 0, rfl, Nat.le_refl _, ⟨rfl, Nat.zero_le _, fun h => absurd h (Nat.lt_irrefl 0)⟩⟩, fun a ha => absurd ha (by simp)⟩
    · have key : ∀ m, m ≤ len → ∃ xs : List α, xs.length = m ∧ (∀ b ∈ xs, ok b) ∧ ∀ j p, xs[j]? = some p → ∃ c, c.length = κ.sz ∧ κ.K w p c ∧ ∀ i u, c[i]? = some u → w.cell? (a.add (j * κ.sz + i)) = some u := by
        intro m
        induction m with
        | zero => intro _; exact ⟨[], rfl, fun b hb' => absurd hb' (by simp), fun j p hj => absurd hj (by simp)⟩
        | succ m ih =>
          intro hm
          obtain ⟨xs, hxl, hok, hxs⟩ := ih (by omega)
          have h1 := hat m (by omega)
          rw [List.getElem?_eq_getElem (by omega)] at h1
          obtain ⟨c, hc1, hc2⟩ := Option.bind_eq_some_iff.1 h1
          obtain ⟨p, hp, hpo⟩ := h.2 enc sp held n c _ hc2
          obtain ⟨_, hcl, hcell⟩ := World.cells?_some hc1
          refine ⟨xs ++ [p], by simp [hxl], fun b hb => ?_, fun j q hj => ?_⟩
          · rcases List.mem_append.1 hb with hb | hb
            · exact hok b hb
            · rw [List.mem_singleton.1 hb]; exact hpo
          · rcases Nat.lt_or_ge j xs.length with hjl | hjl
            · rw [List.getElem?_append_left hjl] at hj
              exact hxs j q hj
            · rw [List.getElem?_append_right hjl] at hj
              have hj0 : j - xs.length = 0 := by
                rcases Nat.eq_zero_or_pos (j - xs.length) with h0 | h0
                · exact h0
                · rw [List.getElem?_eq_none (by simp; omega)] at hj; cases hj
              rw [hj0] at hj
              obtain rfl := Option.some.inj hj
              have hjm : j = m := by omega
              subst hjm
              refine ⟨c, κ.K_len hp, hp, fun i u hu => ?_⟩
              have hi : i < P.cellsOf e := by rw [← hcl]; exact (List.getElem?_eq_some_iff.1 hu).1
              have := hcell i hi
              rw [add_add, hu] at this
              rw [h.1]
              exact this
      obtain ⟨xs, hxl, hok, hxs⟩ := key len (Nat.le_refl _)
      refine ⟨xs, ⟨some a, cap, by rw [hxl], by omega, ⟨rfl, by rw [hxl]; unfold maxLen at hm; omega, fun _ => ⟨a, rfl, hxs⟩⟩⟩, hok⟩⟩

/-- Fields in line, from a cell on. -/
def OpensFs {α : Type} (P : Program) (w : World) (κ : Kd α) (fs : List Field) (off : Nat) (ok : α → Prop) : Prop :=
  ∀ {H : Type} (enc : TypeId × Value → H) (sp : Nat → Bool) (held : Bool) (n : Nat) (cs : List Value),
    (∀ f ∈ fs, ∃ x, DataW.trod enc P w 0 sp held n f.type ((cs.drop f.offset).take (P.cellsOf f.type)) = some x) → cs.length = off + κ.sz → ∃ a, κ.K w a (cs.drop off) ∧ ok a
theorem opensFs_last {α : Type} {P : Program} {w : World} {κ : Kd α} {f : Field} {off : Nat} {ok : α → Prop} (ho : f.offset = off) (h : Opens P w κ f.type ok) : OpensFs P w κ [f] off ok := by
  intro H enc sp held n cs hf hl
  obtain ⟨x, hx⟩ := hf f (by simp)
  obtain ⟨a, ha, hok⟩ := h.2 enc sp held n _ x hx
  rw [ho, ← h.1, List.take_of_length_le (by rw [List.length_drop]; omega)] at ha
  exact ⟨a, ha, hok⟩
theorem opensFs_cons {α β : Type} {P : Program} {w : World} {κ : Kd α} {μ : Kd β} {f : Field} {fs : List Field} {off : Nat} {ok : α → Prop} {ok2 : β → Prop} (ho : f.offset = off) (h : Opens P w κ f.type ok) (hs : OpensFs P w μ fs (off + κ.sz) ok2) :
    OpensFs P w (Kd.pair κ μ) (f :: fs) off (fun a => ok a.1 ∧ ok2 a.2) := by
  intro H enc sp held n cs hf hl
  have hsz : (Kd.pair κ μ).sz = κ.sz + μ.sz := rfl
  rw [hsz] at hl
  obtain ⟨x, hx⟩ := hf f (by simp)
  obtain ⟨a, ha, hok⟩ := h.2 enc sp held n _ x hx
  obtain ⟨b, hb, hok2⟩ := hs enc sp held n cs (fun g hg => hf g (List.mem_cons_of_mem _ hg)) (by omega)
  rw [ho, ← h.1] at ha
  refine ⟨(a, b), ⟨_, _, ?_, ha, hb⟩, hok, hok2⟩
  rw [← List.drop_drop]
  exact (List.take_append_drop _ _).symm
theorem opens_struct {α β : Type} {P : Program} {w : World} {t : TypeId} {fs : Array Field} {κ : Kd α} {ok : α → Prop} (ht : P.underlying t = some (.struct fs)) (hc : κ.sz = P.cellsOf t) (h : OpensFs P w κ fs.toList 0 ok) (g : β → α) (f : α → β) (hgf : ∀ a, g (f a) = a) :
    Opens P w (Kd.iso κ g) t (fun b => ok (g b)) :=
  ⟨hc, fun enc sp held fuel cs x hx => by
    obtain ⟨xs, n, _, _, hl, hxl, hf⟩ := DataW.trod_struct ht hx
    obtain ⟨a, ha, hok⟩ := h enc sp held n cs (fun fd hfd => by
      obtain ⟨i, hi⟩ := List.getElem?_of_mem hfd
      have hi' : fs[i]? = some fd := by simpa using hi
      have hlt : i < fs.size := (Array.getElem?_eq_some_iff.1 hi').1
      have := hf i fd hi'
      rw [List.getElem?_eq_getElem (by omega)] at this
      exact ⟨_, this⟩) (by rw [hl, ← hc]; omega)
    refine ⟨f a, ?_, ?_⟩
    · show κ.K w (g (f a)) cs
      rw [hgf]
      exact ha
    · show ok (g (f a))
      rw [hgf]
      exact hok⟩
end Go.Proofs.YtkpedlhofalnjaaGreatDoor

/- A command that comes in as an argument: its fields, its parts and its others. -/
namespace Go.Proofs.YtkpedlhofalnjaaGreatDoor
open Go Go.RowKit Go.ChangeShapes Go.Proofs.YtkpedlhofalnjaaGreatDoorW.PrintWords

set_option maxRecDepth 100000 in
theorem opens_part (W : World) : Opens Tryz.prog W A.k58 58 (fun _ => True) := by
  have h := opens_struct (κ := Kd.pair Kd.string (Kd.int .i64)) (w := W) Tryz.underlying58 (by kernel_rfl) (opensFs_cons rfl (opens_string Tryz.underlying9 (by kernel_rfl)) (opensFs_last rfl (opens_int Tryz.underlying2 (by kernel_rfl)))) (fun x : Part => (x.f0, x.f1)) (fun p => ⟨p.1, p.2⟩) (fun _ => rfl)
  exact ⟨h.1, fun enc sp held fuel cs x hx => by
    obtain ⟨a, ha, _⟩ := h.2 enc sp held fuel cs x hx
    exact ⟨a, ha, trivial⟩⟩

theorem wf_i64 {n : Int} (h : (Lit.int .i64 n).wf = true) : i64 n := by
  have := wf_bounds h
  exact this
theorem wf_u8 {n : Int} (h : (Lit.int .u8 n).wf = true) : 0 ≤ n ∧ n ≤ 255 := by
  exact wf_byte h

set_option maxRecDepth 100000 in
theorem ask_open {H : Type} {enc : TypeId × Value → H} {W : World} {sp : Nat → Bool} {held : Bool} {cs0 : Array Value} {d : DataW H} {p : List MemPlace} (h : DataW.Trod enc Tryz.prog W 0 sp held 38 (.agg cs0) d p) :
    ∃ (x : Cmd) (A9 : Option Addr) (c9 : Nat) (A10 : Option Addr) (c10 : Nat), cs0 = #[.int .u8 x.kind, .int .i64 x.req, .string x.item, .int .i64 x.qty, .int .i64 x.day, .int .i64 x.days, .int .i64 x.rank, .int .i64 x.lot, .int .i64 x.line, .slice A9 x.parts.length c9, .slice A10 x.others.length c10] ∧ x.nums ∧
      Kd.C A.k58 W A9 x.parts.length x.parts ∧ x.parts.length ≤ c9 ∧ Kd.C Kd.string W A10 x.others.length x.others ∧ x.others.length ≤ c10 := by
  obtain ⟨fuel, hf⟩ := h
  have I : ∀ {t : TypeId}, Tryz.prog.underlying t = some (.int .i64) → Tryz.prog.cellsOf t = 1 → Opens Tryz.prog W (Kd.int .i64) t _ := fun a b => opens_int a b
  have i1 := opens_int (w := W) Tryz.underlying2 (by kernel_rfl)
  have i2 := opens_int (w := W) Tryz.underlying3 (by kernel_rfl)
  have i0 := opens_int (w := W) Tryz.underlying34 (by kernel_rfl)
  have s0 := opens_string (w := W) Tryz.underlying9 (by kernel_rfl)
  have l9 := opens_slice Tryz.underlying35 (by kernel_rfl) (opens_part W)
  have l10 := opens_slice Tryz.underlying36 (by kernel_rfl) s0
  have hO := opens_struct (w := W) Tryz.underlying38 (by kernel_rfl) (opensFs_cons rfl i0 (opensFs_cons rfl i1 (opensFs_cons rfl s0 (opensFs_cons rfl i1 (opensFs_cons rfl i2 (opensFs_cons rfl i2 (opensFs_cons rfl i2 (opensFs_cons rfl i2 (opensFs_cons rfl i2 (opensFs_cons rfl l9 (opensFs_last rfl l10))))))))))) id id (fun _ => rfl)
  obtain ⟨⟨k0, k1, k2, k3, k4, k5, k6, k7, k8, k9, k10⟩, hK, o0, o1, _, o3, o4, o5, o6, o7, o8, _⟩ := hO.2 enc sp held fuel _ _ hf
  obtain ⟨_, _, e0, rfl, _, _, e1, rfl, _, _, e2, rfl, _, _, e3, rfl, _, _, e4, rfl, _, _, e5, rfl, _, _, e6, rfl, _, _, e7, rfl, _, _, e8, rfl, _, _, e9, ⟨A9, c9, rfl, hc9, hr9⟩, ⟨A10, c10, rfl, hc10, hr10⟩⟩ := hK
  subst e9 e8 e7 e6 e5 e4 e3 e2 e1
  refine ⟨⟨k0, k1, k2, k3, k4, k5, k6, k7, k8, k9, k10⟩, A9, c9, A10, c10, ?_, ⟨wf_u8 o0, wf_i64 o1, wf_i64 o3, wf_i64 o4, wf_i64 o5, wf_i64 o6, wf_i64 o7, wf_i64 o8⟩, hr9, hc9, hr10, hc10⟩
  exact Array.ext' e0
end Go.Proofs.YtkpedlhofalnjaaGreatDoor
