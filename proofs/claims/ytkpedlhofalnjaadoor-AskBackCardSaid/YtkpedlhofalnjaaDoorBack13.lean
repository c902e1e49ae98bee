/- AskBack, without program: the printed statement is true. -/
import Derived.Test.YtkpedlhofalnjaaDoorPure13
import Derived.Test.YtkpedlhofalnjaaDoorA11
namespace Go.Proofs.YtkpedlhofalnjaaDoor
open Go.RowKit Go.Proofs.YtkpedlhofalnjaaDoorW.PrintWords Go.Proofs.YtkpedlhofalnjaaDoorW.PrintLast Go.Proofs.YtkpedlhofalnjaaDoorW.PrintMore


theorem askBack_pure (x : Cmd) (hn : x.nums) (l : List Int) (hb : bytesOk l) (k : Nat) (hk : 2000 < k) :
    A.storemanlaw13_AskBack.f k x.kind x.req x.item x.qty x.day x.days x.rank x.lot x.line x.parts x.others l = some true := by
  obtain ⟨k, rfl⟩ : ∃ m, k = m + 1 := ⟨k - 1, by omega⟩
  unfold A.storemanlaw13_AskBack.f
  refine (bind_if (awake13 (k + 1) (by omega))).trans ?_
  have yes : A.storemanlaw13_AskBack.j0 (k + 1) l true x.kind x.req x.item x.qty x.day x.days x.rank x.lot x.line x.parts x.others = some true := by
    unfold A.storemanlaw13_AskBack.j0
    exact if_pos rfl
  have no : x.parts.length ≤ 1000 → x.others.length ≤ 1000 → l.length ≤ 100000 → A.storemanlaw13_AskBack.j0 (k + 1) l false x.kind x.req x.item x.qty x.day x.days x.rank x.lot x.line x.parts x.others = some true := by
    intro p9 p10 pl
    have hf : x.fits := ⟨hn, by omega⟩
    have hp : ask_Put.f x.kind x.req x.item x.qty x.day x.days x.rank x.lot x.line x.parts x.others = some (putCmd x) := by unfold ask_Put.f; rw [if_pos hf]
    have hr : ask_Right.f x.kind x.req x.item x.qty x.day x.days x.rank x.lot x.line x.parts x.others = some (rightCmd x) := by unfold ask_Right.f; rw [if_pos hf]
    unfold A.storemanlaw13_AskBack.j0
    refine (if_neg (by decide)).trans ?_
    refine (bind_is hp).trans ?_
    cases hrx : rightCmd x with
    | true =>
      rw [hrx] at hr
      refine (bind_if hr).trans ?_
      have e : putCmd x = (bytesOf13 x, 0) := by unfold putCmd; rw [hrx]; rfl
      rw [e]
      have hlen := put_len x hrx
      have hcp : A.storemankit_CopyBytes.f (bytesOf13 x) = some (bytesOf13 x) := by
        unfold A.storemankit_CopyBytes.f
        rw [if_pos (by simp only [List.length_nil]; omega), List.nil_append]
      refine (bind_is hcp).trans ?_
      refine (if_pos (by omega)).trans ?_
      have hby : bytesOk (bytesOf13 x ++ l) := by
        have hints : ∀ s : List UInt8, bytesOk (ints s) := fun s y hy => by
          unfold ints at hy
          obtain ⟨c, _, rfl⟩ := List.mem_map.1 hy
          have := c.toNat_lt
          omega
        have happ : ∀ {a b : List Int}, bytesOk a → bytesOk b → bytesOk (a ++ b) := fun ha hb y hy => (List.mem_append.1 hy).elim (ha y) (hb y)
        have hfl : ∀ {α : Type} (g : α → List Int) (l : List α), (∀ a ∈ l, bytesOk (g a)) → bytesOk (l.flatMap g) := fun g l h y hy => by
          obtain ⟨a, ha, hy⟩ := List.mem_flatMap.1 hy
          exact h a ha y hy
        refine happ (happ (happ (be_bytes _ _) (be_bytes _ _)) (hfl _ _ fun c _ => ?_)) hb
        cases c
        case i => exact hints _
        case p => exact happ (be_bytes _ _) (hfl _ _ fun p _ => happ (hints _) (be_bytes _ _))
        case o => exact happ (be_bytes _ _) (hfl _ _ fun p _ => hints _)
        all_goals exact be_bytes _ _
      have hg : ask_Get.f (bytesOf13 x ++ l) = some (gotOf (x, ((bytesOf13 x).length : Int), 0)) := by
        unfold ask_Get.f
        rw [if_pos ⟨hby, by rw [List.length_append]; omega⟩, get_putCmd x hf.wf hrx l]
      refine (bind_is hg).trans ?_
      refine (if_pos rfl).trans ?_
      refine (if_pos rfl).trans ?_
      refine (if_pos rfl).trans ?_
      exact bind_is (sameAsk x (by omega) (by omega) k (by omega) (by omega))
    | false =>
      rw [hrx] at hr
      refine (bind_if_not hr).trans ?_
      have e : putCmd x = ([], 2) := by unfold putCmd; rw [hrx]; rfl
      rw [e]
      exact if_pos rfl
  have hgr : A.storemanlaw13_great.f x.kind x.req x.item x.qty x.day x.days x.rank x.lot x.line x.parts x.others = some true ∨
      (A.storemanlaw13_great.f x.kind x.req x.item x.qty x.day x.days x.rank x.lot x.line x.parts x.others = some false ∧ x.parts.length ≤ 1000 ∧ x.others.length ≤ 1000) := by
    unfold A.storemanlaw13_great.f
    by_cases g1 : (x.item.size : Int) > 10000
    · exact .inl (if_pos g1)
    · rw [if_neg g1]
      by_cases g2 : (x.parts.length : Int) > 1000
      · exact .inl (if_pos g2)
      · rw [if_neg g2]
        by_cases g3 : (x.others.length : Int) > 1000
        · exact .inl (by rw [decide_eq_true g3])
        · exact .inr ⟨by rw [decide_eq_false g3], by omega, by omega⟩
  rcases hgr with hgr | ⟨hgr, p9, p10⟩
  · exact (bind_if hgr).trans yes
  · refine (bind_if_not hgr).trans ?_
    by_cases g : (l.length : Int) > 100000
    · rw [decide_eq_true g]; exact yes
    · rw [decide_eq_false g]; exact no p9 p10 (by omega)



end Go.Proofs.YtkpedlhofalnjaaDoor
