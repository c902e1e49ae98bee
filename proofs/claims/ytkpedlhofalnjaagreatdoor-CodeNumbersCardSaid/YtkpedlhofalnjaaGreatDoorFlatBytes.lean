/- storemankit.flatBytes: rows that lie apart are told so. -/
import Derived.Test.YtkpedlhofalnjaaGreatDoorFlat
namespace Go.Proofs.YtkpedlhofalnjaaGreatDoor
open Go.RowKit Go.Proofs.YtkpedlhofalnjaaGreatDoorW.PrintWords Go.Proofs.YtkpedlhofalnjaaGreatDoorW.PrintLast Go.Proofs.YtkpedlhofalnjaaGreatDoorW.PrintMore

set_option linter.unusedSimpArgs false
set_option linter.unusedVariables false
namespace flatBytes
noncomputable def T7 : Bool × List (List Nat × List Nat) := rtab .any (opsOf Tryz.f128 7)
def B7 : List Nat := [0, 0, 3, 7, 0, 0, 0, 96, 255, 511]
theorem tab7 : rtab .any (opsOf Tryz.f128 7) = T7 := rfl
theorem bits7 : waitsOk T7.2 B7 = true := by kernel_rfl
end flatBytes

theorem drawn_trans {a b c : World} (h : Drawn0 a b) (k : Drawn0 b c) : Drawn0 a c := by
  obtain ⟨n, rfl⟩ := h
  obtain ⟨m, rfl⟩ := k
  exact ⟨n + m, World.drewN_drewN _ _ _⟩
theorem take_set {xs : List Int} {l i : Nat} {k : Int} (hl : xs.length = l) (hi : i < l) (h : xs.take i = marks k 0 i) : (xs.set i (markOf k (i : Nat))).take (i + 1) = marks k 0 (i + 1) := by
  rw [marks, Nat.zero_add, ← h, List.take_add_one]
  rw [List.take_set_of_le (Nat.le_refl _), List.getElem?_set_self (by omega)]
  rfl

theorem cells_one (w : World) (e : TypeId) (v : Value) : ∀ j u, ([v] : List Value)[j]? = some u → (w.alloc (.cells #[v] e)).cell? ((⟨w.heap.size, 0, none⟩ : Addr).add j) = some u := by
  intro j u hu
  have hj : j = 0 := by have := (List.getElem?_eq_some_iff.1 hu).1; simpa using this
  subst hj
  rw [Addr.add_lit, (World.ownsRow_lit (base := 0) (e := e) (size := 1) w #[v] 1 (Nat.zero_le _) (by decide) rfl).cellAt 0 (by decide)]
  exact hu
theorem own_cells {w : World} {base : Nat} {e : TypeId} {g l c : Nat} {xs : List Value} (h : w.ownsRow base e 1 (.slice (some ⟨g, 0, none⟩) l c) l xs) : ∀ j u, xs[j]? = some u → w.cell? ((⟨g, 0, none⟩ : Addr).add j) = some u := by
  intro j u hu
  have hj : j < l := by have := (List.getElem?_eq_some_iff.1 hu).1; have := h.1; omega
  rw [Addr.add_lit, Nat.zero_add, h.cellAt j (by omega)]; exact hu
theorem ints_one (ys : List Int) : ∀ u ∈ nums .u8 ys, u.oneCell' = true := by
  intro u hu
  obtain ⟨z, _, rfl⟩ := List.mem_map.1 hu
  rfl
theorem made64 : (madeCells #[Value.int .u8 0] 64).toList = nums .u8 (List.replicate 64 0) := by kernel_rfl
theorem info_row : (Tryz.prog.info? 22).map (fun i => (i.zero, i.size, i.bytes)) = some (some (.slice none 0 0), 1, 24) := by kernel_rfl

set_option maxRecDepth 100000 in
set_option maxHeartbeats 4000000 in
theorem flat_bytes (m B cL : Nat) (ad : Nat → Option Addr) (n cp : Nat → Nat) (f0 : Nat → List Int) (w : World) (hm0 : 0 < m) (hm : m ≤ 1000) (hn : ∀ j, n j ≤ 1000000) (HR : Rows w m B ad n cp f0) (HA : Lies m B ad) (hcL : m ≤ cL) :
    Calls Tryz.prog 128 #[.slice (some ⟨B, 0, none⟩) m cL] w fun e w' => e = .returned (.bool true) ∧ But (blocks m ad) w w' := by
  obtain ⟨i0, hi, hz0, hz1, hz2⟩ := info_parts info_u8
  have HA' := Aside0.mk HA
  have HN' := Aside0.mk hn
  clear HA hn
  go_enter Tryz.func128, Tryz.ntmps128
  go_wp2
  go_loopg [3] (m + 1) (fun kq v3 wr => ∃ (k : Nat), v3 = .int .i64 k ∧ k + kq = m + 1 ∧ 0 < kq ∧ ∃ f : Nat → List Int, Aside0 (Rows wr m B ad n cp f) ∧ Aside0 (∀ j, j < k → f j = marks j 0 (n j)) ∧ Aside0 (But (blocks m ad) w wr))
  case atStart => exact ⟨0, rfl, by omega, by omega, f0, ⟨HR⟩, ⟨fun j hj => by omega⟩, ⟨But.refl⟩⟩
  case round =>
    clear HR
    obtain ⟨k, rfl, hk, hk0, f, HR, HF, HB⟩ := hrel
    by_cases hkm : k < m
    · go_wp2
      go_loopg [4] (n k + 1) (fun kq v4 wr => ∃ (i : Nat), v4 = .int .i64 i ∧ i + kq = n k + 1 ∧ 0 < kq ∧ ∃ f : Nat → List Int, Aside0 (Rows wr m B ad n cp f) ∧ Aside0 (∀ j, j < k → f j = marks j 0 (n j)) ∧ Aside0 ((f k).take i = marks k 0 i) ∧ Aside0 (But (blocks m ad) w wr))
      case atStart => exact ⟨0, rfl, by omega, by omega, f, HR, HF, ⟨by simp [marks]⟩, HB⟩
      case round =>
        clear HR HF HB f
        obtain ⟨i, rfl, hi1, hi0, f, HR, HF, HT, HB⟩ := hrel
        have hls := HR.out.ls k hkm
        by_cases hin : i < n k
        · obtain ⟨g, hgk, hgl⟩ := HR.out.addr hkm (by omega)
          rw [hgk] at hls
          have ho := HR.out.own k hkm
          rw [hgk] at ho
          have hlen := HR.out.len hkm
          have hcv : wr.cell? ⟨g, i, none⟩ = some (.int .u8 ((f k).getD i 0)) := by
            rw [ho.cellAt i (by omega)]
            simp [nums, List.getD, show i < (f k).length by omega]
          have hla : ∀ w', Drawn0 wr w' → w'.cell? ⟨B, k, none⟩ = some (.slice (some ⟨g, 0, none⟩) (n k) (cp k)) := fun w' h => by obtain ⟨nd, rfl⟩ := h; exact hls
          have hfa : ∀ w', Drawn0 wr w' → w'.cell? ⟨g, i, none⟩ = some (.int .u8 ((f k).getD i 0)) := fun w' h => by obtain ⟨nd, rfl⟩ := h; exact hcv
          have hfz : ∀ w', Drawn0 wr w' → w'.frozen? ⟨g, i, none⟩ = false := fun w' h => by obtain ⟨nd, rfl⟩ := h; exact ho.frozenAt i
          go_wp2
          refine start_ (n := 10) (S := fun w' => Drawn0 wr w') (ds := [9]) #[false, false, false, false, false, false, false, false, false, false] (by kernel_rfl) rfl rfl ⟨1, rfl⟩ (fun hHeld => ?_); refine with_tabW flatBytes.tab7 flatBytes.bits7 (fun HT_ HW_ => ?_)
          generalize wr.drew = w15 at hHeld ⊢
          refine pure_ (i := 0) (N := some 31) (v := ?_) (a' := ?_) #[true, false, false, false, false, false, false, false, false, false] rfl rfl (any_of HT_.out (by kernel_rfl)) (fun _ _ _ h => h) (Or.inl ⟨by rfl, ?_⟩) ?_ ?_
          rotate_left
          · intro w'
            go_simp
            with_reducible rfl
          rotate_left
          · simp only [Act.put, List.setIfInBounds_toArray, List.set_cons_zero, List.set_cons_succ, i64_w, i32_w]
            rfl
          refine pure_ (i := 1) (N := some 32) (v := ?_) (a' := ?_) #[true, true, false, false, false, false, false, false, false, false] rfl rfl (any_of HT_.out (by kernel_rfl)) (fun _ _ _ h => h) (Or.inl ⟨by rfl, ?_⟩) ?_ ?_
          rotate_left
          · intro w'
            go_simp
            with_reducible rfl
          rotate_left
          · simp only [Act.put, List.setIfInBounds_toArray, List.set_cons_zero, List.set_cons_succ, i64_w, i32_w]
            rfl
          refine pure_ (i := 4) (N := some 35) (v := ?_) (a' := ?_) #[true, true, false, false, true, false, false, false, false, false] rfl rfl (any_of HT_.out (by kernel_rfl)) (fun _ _ _ h => h) (Or.inl ⟨by rfl, ?_⟩) ?_ ?_
          rotate_left
          · intro w'
            go_simp
            with_reducible rfl
          rotate_left
          · simp only [Act.put, List.setIfInBounds_toArray, List.set_cons_zero, List.set_cons_succ, i64_w, i32_w]
            rfl
          refine pure_ (i := 5) (N := some 36) (v := ?_) (a' := ?_) #[true, true, false, false, true, true, false, false, false, false] rfl rfl (any_of HT_.out (by kernel_rfl)) (fun _ _ _ h => h) (Or.inl ⟨by rfl, ?_⟩) ?_ ?_
          rotate_left
          · intro w'
            go_simp
            with_reducible rfl
          rotate_left
          · simp only [Act.put, List.setIfInBounds_toArray, List.set_cons_zero, List.set_cons_succ, i64_w, i32_w]
            rfl
          refine pure_ (i := 6) (N := some 37) (v := ?_) (a' := ?_) #[true, true, false, false, true, true, true, false, false, false] rfl rfl (any_of HT_.out (by kernel_rfl)) (fun _ _ _ h => h) (Or.inl ⟨by rfl, ?_⟩) ?_ ?_
          rotate_left
          · intro w'
            go_simp
            with_reducible rfl
          rotate_left
          · simp only [Act.put, List.setIfInBounds_toArray, List.set_cons_zero, List.set_cons_succ, i64_w, i32_w]
            rfl
          refine pure_ (i := 2) (N := some 33) (v := ?_) (a' := ?_) #[true, true, true, false, true, true, true, false, false, false] rfl rfl (any_of HT_.out (by kernel_rfl)) (fun _ _ _ h => h) (Or.inl ⟨by rfl, ?_⟩) ?_ ?_
          rotate_left
          · intro w'
            go_simp
            with_reducible rfl
          rotate_left
          · simp only [Act.put, List.setIfInBounds_toArray, List.set_cons_zero, List.set_cons_succ, i64_w, i32_w]
            rfl
          refine take_ (i := 3) (N := some 34) (v := ?_) (a' := ?_) #[true, true, true, true, true, true, true, false, false, false] rfl rfl (take_ofW HT_.out HW_.out (by kernel_rfl)) (fun _ _ _ h => h) (Or.inl ⟨by rfl, ?_⟩) hHeld ?_ ?_
          rotate_left
          · rintro w' hS
            have hc := hla w' hS
            go_simp
            with_reducible rfl
          rotate_left
          · simp only [Act.put, List.setIfInBounds_toArray, List.set_cons_zero, List.set_cons_succ, i64_w, i32_w]
            rfl
          refine one_ (i := 7) (N := some 38) #[true, true, true, true, true, true, true, true, false, false] rfl rfl (one_of HT_.out (by kernel_rfl)) (by decide) (fun K hK => ?_)
          refine goes_ Tryz.func59 (by kernel_rfl) rfl #[.int .i64 k, .int .i64 i] (by rfl) rfl rfl (by (try simp only [List.map_toArray, List.map_cons, List.map_nil]); first | done | rfl) ?_
          refine (mark_calls k i _).mono ?_
          rintro e w16 ⟨rfl, hd⟩
          refine ⟨_, rfl, ?_⟩
          have hHeld2 : Drawn0 wr w16 := drawn_trans hHeld hd
          refine hK.out _ _ hHeld2 (fun hHeld => ?_)
          clear hK K
          refine norm_ (a' := ?_) ?_ ?_
          rotate_left
          · show Act.put _ (some 38) _ = _
            simp only [Act.put, List.setIfInBounds_toArray, List.set_cons_zero, List.set_cons_succ, i64_w, i32_w]
            rfl
          refine pure_ (i := 8) (N := some 39) (v := ?_) (a' := ?_) #[true, true, true, true, true, true, true, true, true, false] rfl rfl (any_of HT_.out (by kernel_rfl)) (fun _ _ _ h => h) (Or.inl ⟨by rfl, ?_⟩) ?_ ?_
          rotate_left
          · intro w'
            go_simp
            with_reducible rfl
          rotate_left
          · simp only [Act.put, List.setIfInBounds_toArray, List.set_cons_zero, List.set_cons_succ, i64_w, i32_w]
            rfl
          refine last_ (i := 9) (N := none) #[true, true, true, true, true, true, true, true, true, true] rfl rfl (one_of HT_.out (by kernel_rfl)) (by decide) (fun K hK => ?_)
          have hcell := hfa w16 hHeld
          have hfr := hfz w16 hHeld
          refine skip_ (by rfl) rfl (w1 := w16.setCell ⟨g, i, none⟩ (.int .u8 (markOf k i))) (by go_simp) ?_
          refine hK.out _ _ ?_
          refine done_ (done_of HT_.out (by kernel_rfl)) ?_
          have hst := own_store (own_drawn ho hHeld) i (markOf k i)
          rw [show ((i : Int)).toNat = i from rfl] at hst
          have HST := Lib.hid hst
          clear hst ho hls hcell hfr hcv hla hfa hfz
          go_wp2
          go_roundg (n k - i)
          case measure => omega
          case rel =>
            have hnk := HN'.out k
            refine ⟨i + 1, by rw [show wrap64 ((i : Int) + 1) = ((i + 1 : Nat) : Int) from by unfold wrap64; omega], by omega, by omega, _, ⟨(HR.out.drawn hHeld).turn HA'.out hkm hgk HST.out.2 (by rw [hgk]; exact HST.out.1)⟩, ⟨fun j hj => ?_⟩, ⟨?_⟩, ⟨(HB.out.drawn hHeld).grown HST.out.2 (fun g' e => .inl ⟨k, hkm, by rw [hgk]; cases e; rfl⟩)⟩⟩
            · rw [if_neg (by omega)]; exact HF.out j hj
            · rw [if_pos rfl]
              exact take_set hlen hin HT.out
        · obtain rfl : i = n k := by omega
          go_wp2
          go_roundg (m - k)
          case measure => omega
          case rel =>
            refine ⟨k + 1, by simp, by omega, by omega, f, HR, ⟨fun j hj => ?_⟩, HB⟩
            by_cases e : j = k
            · subst e; rw [← HT.out, List.take_of_length_le (by rw [HR.out.len hkm]; exact Nat.le_refl _)]
            · exact HF.out j (by omega)
    · obtain rfl : m = k := by omega
      have hrows := HR.out.congr (f' := fun j => marks j 0 (n j)) (fun j hj => (HF.out j hj).symm)
      clear HR HF f f0 hk hk0 hkm
      obtain ⟨i1, hi1, hy0, hy1, hy2⟩ := info_parts info_row
      go_wp2_with (first
        | (at_make; refine wpList_make_full _ rfl _ _ 31 rfl 0 22 i1 _ 1 Tryz.underlying31 hi1 hy0 hy1 _ _ _ _ m rfl rfl rfl rfl ?b1 ?b2 ?b3 ?_)
        | fail)
      case b1 => rw [hy2]; omega
      case b2 => simp only [maxLen]; omega
      case b3 => exact Nat.zero_le _
      intro w2 hown2 hgrow2
      have hwG := HB.out.old.size
      have hst2 : St w2 m B wr.heap.size ad n cp 0 _ (fun _ => 0) (fun _ => 0) (fun _ => []) :=
        ⟨hrows.keep hgrow2 (by simp) (fun _ _ _ _ => by simp), hown2, fun j hj => by omega, fun j hj => by omega, fun j hj => by omega, fun j hj => by omega, fun j hj => by omega, fun j hj => by omega,
          fun e => by have := hrows.ltB hm0; omega, fun j hj e => by have := hrows.lt hj e; omega⟩
      have HB2 := Aside0.mk (HB.out.grown hgrow2 (fun g e => by cases e))
      have HST := Aside0.mk hst2
      clear hst2 hown2 hgrow2 hrows HB
      generalize wr.heap.size = G at hwG HST ⊢
      go_wp2
      go_loopg [6] (m + 1) (fun kq v6 wr => ∃ (k : Nat), v6 = .int .i64 k ∧ k + kq = m + 1 ∧ 0 < kq ∧ ∃ (gl : List Value) (gb gc : Nat → Nat), Aside0 (St wr m B G ad n cp k gl gb gc (fun j => marks j 0 (n j + 64))) ∧ Aside0 (But (blocks m ad) w wr))
      case atStart => exact ⟨0, rfl, by omega, by omega, _, fun _ => 0, fun _ => 0, ⟨⟨HST.out.rows, HST.out.gs, fun j hj => by omega, fun j hj => by omega, fun j hj => by omega, fun j hj => by omega, fun j hj => by omega, fun j hj => by omega, HST.out.GB, HST.out.GA⟩⟩, HB2⟩
      case round =>
        clear HST HB2
        obtain ⟨k, rfl, hk, hk0, gl, gb, gc, HS, HB⟩ := hrel
        by_cases hkm : k < m
        · have hls := HS.out.rows.ls k hkm
          go_wp2
          clear hls
          go_loopg [7, 8] 65 (fun kq v7 v8 wr => ∃ (i : Nat) (ga : Option Addr) (gc' : Nat), v7 = .slice ga (n k + i) gc' ∧ v8 = .int .i64 i ∧ i + kq = 65 ∧ 0 < kq ∧
            Aside0 (St wr m B G ad n cp k gl gb gc (fun j => marks j 0 (n j + 64))) ∧ Aside0 (wr.ownsRow 0 5 1 (.slice ga (n k + i) gc') (n k + i) (nums .u8 (marks k 0 (n k + i)))) ∧
            Aside0 ((ga = ad k ∧ gc' = cp k) ∨ (∃ g, ga = some ⟨g, 0, none⟩ ∧ Out m B G ad k gb g ∧ (∀ j, j < m → ad j ≠ some ⟨g, 0, none⟩) ∧ w.heap.size ≤ g)) ∧ Aside0 (But (blocks m ad) w wr))
          case atStart => exact ⟨0, ad k, cp k, rfl, rfl, by omega, by omega, HS, ⟨HS.out.rows.own k hkm⟩, ⟨.inl ⟨rfl, rfl⟩⟩, HB⟩
          case round =>
            clear HS HB
            obtain ⟨i, ga, gc', rfl, rfl, hi1, hi0, HS, HO, HC, HB⟩ := hrel
            have hnk := HN'.out k
            by_cases hin : i < 64
            · have hls := HS.out.rows.ls k hkm
              go_wp2_with fail
              refine (mark_calls k (n k + i) wr).mono ?_
              rintro e w3 ⟨rfl, hd⟩
              clear hls
              go_wp2_with (first
                | (at_builtin; refine wp_append_two _ rfl _ _ 22 rfl 0 5 i0 _ 1 Tryz.underlying22 hi hz0 hz1 hz2 rfl _ (n k + i) _ rfl (own_alloc (own_drawn HO.out hd) _) _ 1 1 [.int .u8 (markOf k (n k + i))] rfl (by decide) rfl (cells_one _ _ _) (by simp [Value.oneCell']) ?b1 ?b2 ?_)
                | fail)
              case b1 => simp only [maxLen]; omega
              case b2 => omega
              intro v' w4 hown4 hor
              have HS3 := Aside0.mk ((HS.out.drawn hd).keep (World.grownBy_alloc w3 (.cells #[.int .u8 (markOf k (n k + i))] 5) none) (fun _ e => by cases e))
              have HB3 := Aside0.mk ((HB.out.drawn hd).grown (World.grownBy_alloc w3 (.cells #[.int .u8 (markOf k (n k + i))] 5) none) (fun _ e => by cases e))
              have hcont : nums .u8 (marks k 0 (n k + i)) ++ [Value.int .u8 (markOf k (n k + i))] = nums .u8 (marks k 0 (n k + (i + 1))) := by
                rw [show n k + (i + 1) = (n k + i) + 1 from rfl, marks, Nat.zero_add, nums_append]; push_cast; rfl
              rw [hcont] at hown4
              have HO4 := Aside0.mk (own_base hown4 (Nat.zero_le _))
              clear hown4 hcont HS HO
              rcases hor with ⟨g, c, e1, rfl, hg⟩ | ⟨g, c, hge, hgl, rfl, hg⟩
              · simp only [Value.slice.injEq, true_and] at e1
                obtain ⟨e1, e2⟩ := e1
                go_wp2
                go_roundg (64 - i)
                case measure => omega
                case rel =>
                  refine ⟨i + 1, some ⟨g, 0, none⟩, c, by rw [Nat.add_assoc], by simp, by omega, by omega, ?_, HO4, ?_, ?_⟩
                  · rcases HC.out with ⟨q1, q2⟩ | ⟨g', q1, q2, q3, q4⟩
                    · refine ⟨HS3.out.turn HA'.out hkm (by rw [← q1, e1]) hg ?_⟩
                      have := own_head HO4.out (n k) (by omega)
                      rw [show (nums .u8 (marks k 0 (n k + (i + 1)))).take (n k) = nums .u8 (marks k 0 (n k)) by rw [nums, ← List.map_take, marks_take _ _ _ _ (by omega)]; rfl] at this
                      rw [← q1, e1, ← q2, e2]; exact this
                    · obtain rfl : g' = g := by rw [q1] at e1; simpa using e1
                      exact ⟨HS3.out.keep hg (fun g2 e => by cases e; exact ⟨q2, q3⟩)⟩
                  · rcases HC.out with ⟨q1, q2⟩ | ⟨g', q1, q2, q3, q4⟩
                    · exact ⟨.inl ⟨by rw [← q1, e1], by rw [← q2, e2]⟩⟩
                    · obtain rfl : g' = g := by rw [q1] at e1; simpa using e1
                      exact ⟨.inr ⟨g', rfl, q2, q3, q4⟩⟩
                  · refine ⟨HB3.out.grown hg (fun g2 e => ?_)⟩
                    cases e
                    rcases HC.out with ⟨q1, q2⟩ | ⟨g', q1, q2, q3, q4⟩
                    · exact .inl ⟨k, hkm, by rw [← q1, e1]⟩
                    · obtain rfl : g' = g := by rw [q1] at e1; simpa using e1
                      exact .inr q4
              · go_wp2
                go_roundg (64 - i)
                case measure => omega
                case rel =>
                  refine ⟨i + 1, some ⟨g, 0, none⟩, c, by rw [Nat.add_assoc], by simp, by omega, by omega, ⟨HS3.out.keep hg (fun _ e => by cases e)⟩, HO4, ⟨.inr ⟨g, rfl, ?_, ?_, ?_⟩⟩, ⟨HB3.out.grown hg (fun _ e => by cases e)⟩⟩
                  · exact (HS3.out.fresh hkm hge).1
                  · exact (HS3.out.fresh hkm hge).2
                  · have := HB3.out.old.size; omega
            · obtain rfl : i = 64 := by omega
              obtain ⟨g, rfl, _, hgl, _⟩ := own_addr HO.out (by omega)
              have hgs := HS.out.gs
              have hgln : gl.length = m := by have := hgs.1; omega
              have hcell : wr.cell? ⟨G, k, none⟩ = some (gl[k]'(by omega)) := by
                rw [hgs.cellAt k (by omega)]
                exact List.getElem?_eq_getElem (by omega)
              have hfr := hgs.frozenAt k
              have HSTO := Lib.hid (hgs.stored k (.slice (some ⟨g, 0, none⟩) (n k + 64) gc'))
              clear hgs
              go_wp2
              go_roundg (m - k)
              case measure => omega
              case rel =>
                have hO : Out m B G ad k gb g := by
                  rcases HC.out with ⟨q1, q2⟩ | ⟨g', q1, q2, q3, q4⟩
                  · exact HS.out.outK HA'.out hkm q1.symm
                  · obtain rfl : g = g' := by simpa using q1
                    exact q2
                have hp := HS.out.put HA'.out hkm HO.out hO HSTO.out.2 HSTO.out.1
                rw [show (fun j => if j = k then marks k 0 (n k + 64) else marks j 0 (n j + 64)) = fun (j : Nat) => marks j 0 (n j + 64) by funext j; split <;> simp_all] at hp
                exact ⟨k + 1, by simp, by omega, by omega, _, _, _, ⟨hp⟩, ⟨HB.out.grown HSTO.out.2 (fun g2 e => by cases e; exact .inr hwG)⟩⟩
        · have hkm2 : m = k := by omega
          clear hkm hk hk0
          subst hkm2
          generalize wr = wr4 at HS HB ⊢
          go_wp2
          go_loopg [9] (m + 1) (fun kq v9 wr => ∃ (i : Nat), v9 = .int .i64 i ∧ i + kq = m + 1 ∧ 0 < kq ∧ Aside0 (Drawn0 wr4 wr))
          case atStart => exact ⟨0, rfl, by omega, by omega, ⟨⟨0, rfl⟩⟩⟩
          case round =>
            obtain ⟨j, rfl, hj, hj0, HD⟩ := hrel
            by_cases hjm : j < m
            · go_wp2
              go_loopg [10] (n j + 65) (fun kq v10 wr => ∃ (i : Nat), v10 = .int .i64 i ∧ i + kq = n j + 65 ∧ 0 < kq ∧ Aside0 (Drawn0 wr4 wr))
              case atStart => exact ⟨0, rfl, by omega, by omega, HD⟩
              case round =>
                clear HD
                obtain ⟨i, rfl, hi1, hi0, HD⟩ := hrel
                have hnj := HN'.out j
                have HS1 := Aside0.mk (HS.out.drawn HD.out)
                have hat := HS1.out.gs.cellAt j (by omega)
                rw [HS1.out.at_ j hjm] at hat
                by_cases hin : i < n j + 64
                · have hgc := (HS1.out.own j hjm).cellAt i (by omega)
                  rw [show (nums .u8 (marks j 0 (n j + 64)))[i]? = some (.int .u8 (markOf j i)) by rw [nums, List.getElem?_map, marks_get _ _ _ _ hin, Nat.zero_add]; rfl] at hgc
                  have hls := HS1.out.rows.ls j hjm
                  by_cases hin2 : i < n j
                  · obtain ⟨g, hgk, hgl⟩ := HS1.out.rows.addr hjm (by omega)
                    have hlc := HS1.out.rows.own j hjm
                    rw [hgk] at hls hlc
                    have hlc := hlc.cellAt i (by omega)
                    rw [show (nums .u8 (marks j 0 (n j)))[i]? = some (.int .u8 (markOf j i)) by rw [nums, List.getElem?_map, marks_get _ _ _ _ hin2, Nat.zero_add]; rfl] at hlc
                    go_wp2
                    go_quiet (first | (go_at_call 59; (with_reducible refine (mark_calls _ _ _).mono ?_); rintro e w' ⟨rfl, ⟨nd, rfl⟩⟩; exact ⟨rfl, _, World.drewN_drewN _ _ _⟩))
                    go_wp2
                    go_roundg (n j + 64 - i)
                    case measure => omega
                    case rel => exact ⟨i + 1, by simp, by omega, by omega, ⟨drawn_trans HD.out ⟨nq, rfl⟩⟩⟩
                  · have hin3 : decide ((i : Int) < (n j : Int)) = false := decide_eq_false (by omega)
                    go_wp2
                    go_quiet (first | (go_at_call 59; (with_reducible refine (mark_calls _ _ _).mono ?_); rintro e w' ⟨rfl, ⟨nd, rfl⟩⟩; exact ⟨rfl, _, World.drewN_drewN _ _ _⟩))
                    go_wp2
                    go_roundg (n j + 64 - i)
                    case measure => omega
                    case rel => exact ⟨i + 1, by simp, by omega, by omega, ⟨drawn_trans HD.out ⟨nq, rfl⟩⟩⟩
                · go_wp2
                  go_roundg (m - j)
                  case measure => omega
                  case rel => exact ⟨j + 1, by simp, by omega, by omega, HD⟩
            · go_wp2
              have HS2 := Aside0.mk (HS.out.drawn HD.out)
              have HB2 := Aside0.mk (HB.out.drawn HD.out)
              have hz : St wr m B G ad n cp 0 gl gb gc (fun j => marks j 0 (n j + 64)) := ⟨HS2.out.rows, HS2.out.gs, fun j hj => by omega, fun j hj => by omega, fun j hj => by omega, fun j hj => by omega, fun j hj => by omega, fun j hj => by omega, HS2.out.GB, HS2.out.GA⟩
              clear hj hj0 HD hjm HS2 HB HS
              go_loopg [11] (m + 1) (fun kq v11 wr => ∃ (k : Nat), v11 = .int .i64 k ∧ k + kq = m + 1 ∧ 0 < kq ∧ ∃ (gl : List Value) (gb gc : Nat → Nat) (f : Nat → List Int), Aside0 (St wr m B G ad n cp k gl gb gc f) ∧ Aside0 (∀ j, j < k → (f j).take (n j) = marks j 0 (n j)) ∧ Aside0 (But (blocks m ad) w wr))
              case atStart => exact ⟨0, rfl, by omega, by omega, _, _, _, _, ⟨hz⟩, ⟨fun j hj => by omega⟩, HB2⟩
              case round =>
                clear hz HB2 gl gb gc
                obtain ⟨k, rfl, hk, hk0, gl, gb, gc, f, HS, HF, HB⟩ := hrel
                by_cases hkm : k < m
                · go_wp2_with (first
                    | (at_make; refine wpList_make_full _ rfl _ _ 22 rfl 0 5 i0 _ 1 Tryz.underlying22 hi hz0 hz1 _ _ _ _ 64 rfl rfl rfl rfl ?b1 ?b2 ?b3 ?_)
                    | fail)
                  case b1 => rw [hz2]; decide
                  case b2 => decide
                  case b3 => exact Nat.zero_le _
                  intro w5 hown5 hgrow5
                  have HM := Lib.hid (HS.out.fresh hkm (Nat.le_refl _))
                  have hwM := HB.out.old.size
                  have HS5 := Aside0.mk (HS.out.keep hgrow5 (fun _ e => by cases e))
                  have HB5 := Aside0.mk (HB.out.grown hgrow5 (fun _ e => by cases e))
                  have hown5' : w5.ownsRow 0 5 1 (.slice (some ⟨wr.heap.size, 0, none⟩) 64 64) 64 (nums .u8 (List.replicate 64 0)) := by rw [← made64]; exact hown5
                  have HO5 := Aside0.mk hown5'
                  clear hown5 hown5' hgrow5 HS HB
                  generalize wr.heap.size = M at HM hwM HO5 ⊢
                  go_wp2
                  go_loopg [13] 65 (fun kq v13 wr => ∃ (i : Nat), v13 = .int .i64 i ∧ i + kq = 65 ∧ 0 < kq ∧ ∃ ys : List Int, ys.length = 64 ∧ Aside0 (wr.ownsRow 0 5 1 (.slice (some ⟨M, 0, none⟩) 64 64) 64 (nums .u8 ys)) ∧ Aside0 (St wr m B G ad n cp k gl gb gc f) ∧ Aside0 (But (blocks m ad) w wr))
                  case atStart => exact ⟨0, rfl, by omega, by omega, _, List.length_replicate .., HO5, HS5, HB5⟩
                  case round =>
                    clear HO5 HS5 HB5
                    obtain ⟨i, rfl, hi1, hi0, ys, hy, HO, HS, HB⟩ := hrel
                    by_cases hin : i < 64
                    · go_wp2_with fail
                      refine (mark_calls (k + m) i wr).mono ?_
                      rintro e w3 ⟨rfl, hd⟩
                      have ho3 := own_drawn HO.out hd
                      have hcell : w3.cell? ⟨M, i, none⟩ = some (.int .u8 (ys.getD i 0)) := by
                        rw [ho3.cellAt i (by omega)]
                        simp [nums, List.getD, show i < ys.length by omega]
                      have hst := own_store ho3 i (markOf (k + m) i)
                      rw [show ((i : Int)).toNat = i from rfl] at hst
                      have hfr := ho3.frozenAt i
                      have HSTO := Lib.hid hst
                      clear hst ho3
                      go_wp2
                      go_roundg (64 - i)
                      case measure => omega
                      case rel => exact ⟨i + 1, by simp, by omega, by omega, _, by simpa using hy, ⟨HSTO.out.1⟩, ⟨(HS.out.drawn hd).keep HSTO.out.2 (fun g e => by cases e; exact HM.out)⟩, ⟨(HB.out.drawn hd).grown HSTO.out.2 (fun g e => by cases e; exact .inr hwM)⟩⟩
                    · have hls := HS.out.rows.ls k hkm
                      have hnk := HN'.out k
                      have HRO := HS.out.rows.own k hkm
                      go_wp2_with (first
                        | (at_builtin; refine wp_append_two _ rfl _ _ 22 rfl 0 5 i0 _ 1 Tryz.underlying22 hi hz0 hz1 hz2 rfl _ (n k) _ rfl HRO _ 64 64 (nums .u8 ys) rfl (by decide) (by simp [nums, hy]) (own_cells HO.out) (ints_one ys) ?b1 ?b2 ?_)
                        | fail)
                      case b1 => simp only [maxLen]; omega
                      case b2 => omega
                      intro v' w4 hown4 hor
                      rw [← nums_append] at hown4
                      have HO4 := Aside0.mk (own_base hown4 (Nat.zero_le _))
                      have htake : (marks k 0 (n k) ++ ys).take (n k) = marks k 0 (n k) := by
                        rw [List.take_append_of_le_length (by rw [marks_length]; exact Nat.le_refl _), List.take_of_length_le (by rw [marks_length]; exact Nat.le_refl _)]
                      have HT := Lib.hid htake
                      clear hown4 hls HRO htake
                      obtain ⟨g, c, rfl, HS4, HB4, HO'⟩ : ∃ g c, v' = .slice (some ⟨g, 0, none⟩) (n k + 64) c ∧ Aside0 (St w4 m B G ad n cp k gl gb gc f) ∧ Aside0 (But (blocks m ad) w w4) ∧ Aside0 (Out m B G ad k gb g) := by
                        rcases hor with ⟨g, c, e1, rfl, hg⟩ | ⟨g, c, hge, hgl, rfl, hg⟩
                        · simp only [Value.slice.injEq, true_and] at e1
                          refine ⟨g, c, rfl, ⟨HS.out.turn HA'.out hkm e1.1 hg ?_⟩, ⟨HB.out.grown hg (fun g2 e => by cases e; exact .inl ⟨k, hkm, e1.1⟩)⟩, ⟨HS.out.outK HA'.out hkm e1.1⟩⟩
                          have := own_head HO4.out (n k) (by omega)
                          rw [show (nums .u8 (marks k 0 (n k) ++ ys)).take (n k) = nums .u8 (marks k 0 (n k)) by rw [nums, ← List.map_take, HT.out]; rfl] at this
                          rw [e1.1, e1.2]; exact this
                        · exact ⟨g, c, rfl, ⟨HS.out.keep hg (fun _ e => by cases e)⟩, ⟨HB.out.grown hg (fun _ e => by cases e)⟩, ⟨(HS.out.fresh hkm hge).1⟩⟩
                      clear hor HS HB HO
                      have hgs := HS4.out.gs
                      have hgln : gl.length = m := by have := hgs.1; omega
                      have hcell : w4.cell? ⟨G, k, none⟩ = some (gl[k]'(by omega)) := by
                        rw [hgs.cellAt k (by omega)]
                        exact List.getElem?_eq_getElem (by omega)
                      have hfr := hgs.frozenAt k
                      have HSTO := Lib.hid (hgs.stored k (.slice (some ⟨g, 0, none⟩) (n k + 64) c))
                      clear hgs
                      go_wp2
                      go_roundg (m - k)
                      case measure => omega
                      case rel =>
                        refine ⟨k + 1, by simp, by omega, by omega, _, _, _, _, ⟨HS4.out.put HA'.out hkm HO4.out HO'.out HSTO.out.2 HSTO.out.1⟩, ⟨fun j hj => ?_⟩, ⟨HB4.out.grown HSTO.out.2 (fun g2 e => by cases e; exact .inr hwG)⟩⟩
                        by_cases e : j = k
                        · subst e; simpa using HT.out
                        · simpa [e] using HF.out j (by omega)
                · have hkm2 : m = k := by omega
                  clear hkm hk hk0
                  subst hkm2
                  generalize wr = wr4 at HS HB ⊢
                  go_wp2
                  go_loopg [14] (m + 1) (fun kq v14 wr => ∃ (i : Nat), v14 = .int .i64 i ∧ i + kq = m + 1 ∧ 0 < kq ∧ Aside0 (Drawn0 wr4 wr))
                  case atStart => exact ⟨0, rfl, by omega, by omega, ⟨⟨0, rfl⟩⟩⟩
                  case round =>
                    obtain ⟨j, rfl, hj, hj0, HD⟩ := hrel
                    by_cases hjm : j < m
                    · have hls := HS.out.rows.ls j hjm
                      go_wp2
                      clear hls
                      go_loopg [15] (n j + 1) (fun kq v15 wr => ∃ (i : Nat), v15 = .int .i64 i ∧ i + kq = n j + 1 ∧ 0 < kq ∧ Aside0 (Drawn0 wr4 wr))
                      case atStart => exact ⟨0, rfl, by omega, by omega, HD⟩
                      case round =>
                        clear HD
                        obtain ⟨i, rfl, hi1, hi0, HD⟩ := hrel
                        have hnj := HN'.out j
                        have HS1 := Aside0.mk (HS.out.drawn HD.out)
                        have hls := HS1.out.rows.ls j hjm
                        by_cases hin2 : i < n j
                        · have hat := HS1.out.gs.cellAt j (by omega)
                          rw [HS1.out.at_ j hjm] at hat
                          have hgc := (HS1.out.own j hjm).cellAt i (by omega)
                          have hfj : (f j)[i]? = some (markOf j i) := by
                            have := marks_get j 0 (n j) i hin2
                            rw [← HF.out j hjm, List.getElem?_take, if_pos hin2, Nat.zero_add] at this
                            exact this
                          rw [show (nums .u8 (f j))[i]? = some (.int .u8 (markOf j i)) by rw [nums, List.getElem?_map, hfj]; rfl] at hgc
                          obtain ⟨g, hgk, hgl⟩ := HS1.out.rows.addr hjm (by omega)
                          have hlc := HS1.out.rows.own j hjm
                          rw [hgk] at hls hlc
                          have hlc := hlc.cellAt i (by omega)
                          rw [show (nums .u8 (marks j 0 (n j)))[i]? = some (.int .u8 (markOf j i)) by rw [nums, List.getElem?_map, marks_get _ _ _ _ hin2, Nat.zero_add]; rfl] at hlc
                          go_wp2
                          go_quiet (first | (go_at_call 59; (with_reducible refine (mark_calls _ _ _).mono ?_); rintro e w' ⟨rfl, ⟨nd, rfl⟩⟩; exact ⟨rfl, _, World.drewN_drewN _ _ _⟩))
                          go_wp2
                          go_roundg (n j - i)
                          case measure => omega
                          case rel => exact ⟨i + 1, by simp, by omega, by omega, ⟨drawn_trans HD.out ⟨nq, rfl⟩⟩⟩
                        · go_wp2
                          go_roundg (m - j)
                          case measure => omega
                          case rel => exact ⟨j + 1, by simp, by omega, by omega, HD⟩
                    · go_wp2
                      go_ret
                      exact ⟨rfl, HB.out.drawn HD.out⟩
end Go.Proofs.YtkpedlhofalnjaaGreatDoor
