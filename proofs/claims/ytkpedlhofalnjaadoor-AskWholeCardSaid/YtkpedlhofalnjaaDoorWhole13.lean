/- AskWhole, without program: the printed statement is true. -/
import Derived.Test.YtkpedlhofalnjaaDoorPure13
import Derived.Test.YtkpedlhofalnjaaDoorA12
namespace Go.Proofs.YtkpedlhofalnjaaDoor
open Go.RowKit Go.Proofs.YtkpedlhofalnjaaDoorW.PrintWords Go.Proofs.YtkpedlhofalnjaaDoorW.PrintLast Go.Proofs.YtkpedlhofalnjaaDoorW.PrintMore


theorem whole_loop (b : List Int) (hb : bytesOk b) (hl : b.length ≤ 9000) (n : Nat) (hn : n ≤ b.length) (hx : ∀ k, k < n → (getCmd (b.take k)).2.2 = 4) : ∀ (d k i : Nat), n - i = d → i ≤ n → d < k → A.storemanlaw13_AskWhole.l0 k b n i = some true := by
  intro d
  induction d with
  | zero =>
    intro k i hd hi hk
    obtain ⟨k, rfl⟩ : ∃ m, k = m + 1 := ⟨k - 1, by omega⟩
    unfold A.storemanlaw13_AskWhole.l0
    exact if_neg (by omega)
  | succ d ih =>
    intro k i hd hi hk
    obtain ⟨k, rfl⟩ : ∃ m, k = m + 1 := ⟨k - 1, by omega⟩
    have hg : ask_Get.f (b.take i) = some (gotOf (getCmd (b.take i))) := by
      unfold ask_Get.f
      rw [if_pos ⟨fun y hy => hb y (List.mem_of_mem_take hy), by rw [List.length_take]; omega⟩]
    unfold A.storemanlaw13_AskWhole.l0
    refine (if_pos (by omega)).trans ?_
    refine (if_pos (by omega)).trans ?_
    refine (if_pos (by omega)).trans ?_
    rw [Int.toNat_natCast]
    refine (bind_is hg).trans ?_
    refine (if_pos (hx i (by omega))).trans ?_
    rw [wrap_step13 (show i < n by omega) (by omega)]
    exact ih k (i + 1) (by omega) (by omega) (by omega)

theorem askWhole_pure (b : List Int) (hb : bytesOk b) (k : Nat) (hk : 10000 < k) : A.storemanlaw13_AskWhole.f k b = some true := by
  obtain ⟨k, rfl⟩ : ∃ m, k = m + 1 := ⟨k - 1, by omega⟩
  unfold A.storemanlaw13_AskWhole.f
  refine (bind_if (awake13 (k + 1) (by omega))).trans ?_
  by_cases hl : (b.length : Int) > 9000
  · exact if_pos hl
  refine (if_neg hl).trans ?_
  have hg : ask_Get.f b = some (gotOf (getCmd b)) := by unfold ask_Get.f; rw [if_pos ⟨hb, by omega⟩]
  refine (bind_is hg).trans ?_
  by_cases hok : (getAll b).1.2 = true ∧ rightCmd (getAll b).2 = true
  · obtain ⟨x, hx⟩ : ∃ x, x = (getAll b).2 := ⟨_, rfl⟩
    obtain ⟨n, hn⟩ : ∃ n, n = (getAll b).1.1 := ⟨_, rfl⟩
    have hc : getCmd b = (x, (n : Int), 0) := by unfold getCmd; rw [if_pos hok, hx, hn]
    obtain ⟨e1, e2, e3⟩ := put_getCmd b hb hok.1
    have hpre := get_prefix b hb hc
    have hfits : x.fits := by
      rw [hx]
      exact getAll_fits hb
    have hr0 := hok.2
    rw [← hx] at hr0 e1
    rw [← hn] at e1 e2 e3
    have hp : ask_Put.f x.kind x.req x.item x.qty x.day x.days x.rank x.lot x.line x.parts x.others = some (bytesOf13 x, 0) := by
      unfold ask_Put.f; rw [if_pos hfits]; show some (putCmd x) = _; unfold putCmd; rw [if_pos hr0]
    have hr : ask_Right.f x.kind x.req x.item x.qty x.day x.days x.rank x.lot x.line x.parts x.others = some true := by
      unfold ask_Right.f; rw [if_pos hfits]; show some (rightCmd x) = _; rw [hr0]
    rw [hc]
    refine (if_pos rfl).trans ?_
    refine (bind_is hp).trans ?_
    refine (if_neg (by show ¬ ((n : Int) < 1); omega)).trans ?_
    refine (if_neg (by show ¬ ((n : Int) > (b.length : Int)); omega)).trans ?_
    refine (bind_if hr).trans ?_
    refine (if_pos rfl).trans ?_
    refine (if_pos (by show (0 : Int) ≤ (n : Int); omega)).trans ?_
    refine (if_pos (by show (n : Int) ≤ (b.length : Int); omega)).trans ?_
    have hs : A.storemankit_SameBytes.f (k + 1) (bytesOf13 x) (b.take ((gotOf (x, (n : Int), 0)).2.2.2.2.2.2.2.2.2.2.2.1).toNat) = some true := by
      show A.storemankit_SameBytes.f (k + 1) (bytesOf13 x) (b.take ((n : Int)).toNat) = some true
      rw [Int.toNat_natCast, e1]
      exact sameB _ (by rw [List.length_take]; omega) _ (by rw [List.length_take]; omega)
    refine (bind_is hs).trans ?_
    unfold A.storemanlaw13_AskWhole.j0
    refine (if_neg (by decide)).trans ?_
    show A.storemanlaw13_AskWhole.l0 k b (n : Int) (mx 0 (wrap64 ((n : Int) - 40))) = some true
    have hm : mx 0 (wrap64 ((n : Int) - 40)) = ((n - 40 : Nat) : Int) := by unfold mx wrap64; omega
    rw [hm]
    exact whole_loop b hb (by omega) n e3 hpre (n - (n - 40)) k (n - 40) rfl (by omega) (by omega)
  · have hc : getCmd b = (zeroCmd, 0, 4) := by unfold getCmd; rw [if_neg hok]
    rw [hc]
    refine (if_neg (by decide)).trans ?_
    refine (if_pos rfl).trans ?_
    refine (if_pos rfl).trans ?_
    exact bind_is (sameAsk zeroCmd (by decide) (by decide) (k + 1) (by show 0 < _; omega) (by show 0 < _; omega))
end Go.Proofs.YtkpedlhofalnjaaDoor
