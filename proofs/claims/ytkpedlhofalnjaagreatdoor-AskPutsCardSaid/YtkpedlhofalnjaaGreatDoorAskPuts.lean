/- AskPuts, walked: for every command, in every world with the laid variables, it is true. -/
import Derived.Test.YtkpedlhofalnjaaGreatDoorM17
import Derived.Test.YtkpedlhofalnjaaGreatDoorM16
import Derived.Test.YtkpedlhofalnjaaGreatDoorM15
import Derived.Test.YtkpedlhofalnjaaGreatDoorM14
import Derived.Test.YtkpedlhofalnjaaGreatDoorRefCalls13
import Derived.Test.YtkpedlhofalnjaaGreatDoorExt13
import Derived.Test.YtkpedlhofalnjaaGreatDoorA11
import Derived.Test.YtkpedlhofalnjaaGreatDoorM6
namespace Go.Proofs.YtkpedlhofalnjaaGreatDoor
open Go.RowKit Go.Proofs.YtkpedlhofalnjaaGreatDoorW.PrintWords Go.Proofs.YtkpedlhofalnjaaGreatDoorW.PrintLast Go.Proofs.YtkpedlhofalnjaaGreatDoorW.PrintMore

set_option maxRecDepth 100000 in
set_option maxHeartbeats 4000000 in
theorem great13_calls (x : Cmd) (A9 : Option Addr) (c9 : Nat) (A10 : Option Addr) (c10 : Nat) (w : World) :
    Calls Tryz.prog 29 #[.agg #[.int .u8 x.kind, .int .i64 x.req, .string x.item, .int .i64 x.qty, .int .i64 x.day, .int .i64 x.days, .int .i64 x.rank, .int .i64 x.lot, .int .i64 x.line, .slice A9 x.parts.length c9, .slice A10 x.others.length c10]] w fun e w' => e = .returned (.bool (decide ((10000 : Int) < (x.item.size : Int)) || decide ((1000 : Int) < (x.parts.length : Int)) || decide ((1000 : Int) < (x.others.length : Int)))) ∧ Below w.heap.size w w' := by
  cases f1 : decide ((10000 : Int) < (x.item.size : Int)) <;> cases f2 : decide ((1000 : Int) < (x.parts.length : Int)) <;> cases f3 : decide ((1000 : Int) < (x.others.length : Int))
  all_goals
    go_enter Tryz.func29, Tryz.ntmps29
    go_wp2
    go_ret
    exact ⟨rfl, (Below.refl _ _).alloc (Nat.le_refl _) _⟩

theorem awake13_calls (w : World) (hL : Laid13 w) : Calls Tryz.prog 30 #[] w fun e w' => e = .returned (.bool true) ∧ Below w.heap.size w w' :=
  A.storemanlaw13_awake.calls 31 true w (awake13 31 (by decide)) hL

theorem same_bytes (l : List Int) (A0 : Option Addr) (c0 : Nat) (A1 : Option Addr) (c1 : Nat) (w : World) (hn : l.length ≤ 1000000) (hr0 : Kd.C (Kd.int .u8) w A0 l.length l) (hc0 : l.length ≤ c0) (hr1 : Kd.C (Kd.int .u8) w A1 l.length l) (hc1 : l.length ≤ c1) :
    Calls Tryz.prog 38 #[.slice A0 l.length c0, .slice A1 l.length c1] w fun e w' => e = .returned (.bool true) ∧ Drawn0 w w' :=
  A.storemankit_SameBytes.calls (l.length + 1) A0 c0 l A1 c1 l true w hr0 hc0 hr1 hc1 (sameB l (by omega) _ (by omega))

theorem own_form13 {w : World} {base : Nat} {e : TypeId} {v : Value} {n : Nat} {xs : List Value} (h : w.ownsRow base e 1 v n xs) : ∃ A c, v = .slice A n c ∧ (∀ g, A = some ⟨g, 0, none⟩ → base ≤ g ∧ g < w.heap.size) := by
  rcases h.2 with ⟨h2, h3⟩ | ⟨b, cap, cur, h1, h2, h3, h4⟩
  · exact ⟨none, 0, by rw [h2, h3], fun g hg => by cases hg⟩
  · exact ⟨_, cap, h1, fun g hg => by cases hg; exact ⟨h2, (Array.getElem?_eq_some_iff.1 h3).1⟩⟩
theorem reads_R {α : Type} {d : Kd α} {e base : Nat} {ok : Nat → Prop} {w : World} {A : Option Addr} {n c : Nat} {xs : List α} (h : d.R e w base ok (.slice A n c) xs) : xs.length = n ∧ xs.length ≤ c ∧ d.C w A xs.length xs := by
  obtain ⟨A', c', he, hl, hr⟩ := Kd.R_reads h
  injection he with h1 h2 h3
  subst h1 h2 h3
  exact ⟨rfl, hl, hr⟩
theorem put_short (x : Cmd) : (putCmd x).1.length ≤ 1000000 := by
  unfold putCmd
  split
  · have := put_len x ‹_›
    show (bytesOf13 x).length ≤ _
    omega
  · show ([] : List Int).length ≤ _
    simp

set_option maxRecDepth 100000 in
set_option maxHeartbeats 16000000 in
theorem askPuts_calls (x : Cmd) (A9 : Option Addr) (c9 : Nat) (A10 : Option Addr) (c10 : Nat) (w : World) (hr9 : Kd.C A.k58 w A9 x.parts.length x.parts) (hc9 : x.parts.length ≤ c9) (hr10 : Kd.C Kd.string w A10 x.others.length x.others) (hc10 : x.others.length ≤ c10) (hn : x.nums) (hL : Laid13 w) :
    Calls Tryz.prog 6 #[.agg #[.int .u8 x.kind, .int .i64 x.req, .string x.item, .int .i64 x.qty, .int .i64 x.day, .int .i64 x.days, .int .i64 x.rank, .int .i64 x.lot, .int .i64 x.line, .slice A9 x.parts.length c9, .slice A10 x.others.length c10]] w fun e w' => e = .returned (.bool true) ∧ Below w.heap.size w w' := by
  have HR9 := Aside0.mk hr9
  have HC9 := Aside0.mk hc9
  have HR10 := Aside0.mk hr10
  have HC10 := Aside0.mk hc10
  have HN := Aside0.mk hn
  have HL := Aside0.mk hL
  have HS9 := Aside0.mk (reads_of_kd encParts rfl part_K hr9)
  have HS10 := Aside0.mk (reads_of_kd encTexts rfl text_K hr10)
  clear hr9 hc9 hr10 hc10 hn hL
  go_enter Tryz.func6, Tryz.ntmps6
  go_wp2_with (first
    | ((with_reducible refine gate_dst (N := 1) rfl ?_); refine box_event ?hg (N := 1) ?hd (cs := #[.int .u8 x.kind, .int .i64 x.req, .string x.item, .int .i64 x.qty, .int .i64 x.day, .int .i64 x.days, .int .i64 x.rank, .int .i64 x.lot, .int .i64 x.line, .slice A9 x.parts.length c9, .slice A10 x.others.length c10]) (t := 38) ?hr ?_; (case hd => rfl); (case hg => rfl); (case hr => first | (go_simp; done) | (go_simp; rfl)); intro gb hgb w1 hbox hb1; have HX1 := Aside0.mk hbox; have HB1 := Aside0.mk hb1; have HGB := Aside0.mk hgb; clear hbox hb1 hgb)
    | (refine gate_ (.load 38 (.tmp 1)) rfl ?_; refine wpList_load_row rfl 38 _ rfl gb (by rfl) 38 #[.int .u8 x.kind, .int .i64 x.req, .string x.item, .int .i64 x.qty, .int .i64 x.day, .int .i64 x.days, .int .i64 x.rank, .int .i64 x.lot, .int .i64 x.line, .slice A9 x.parts.length c9, .slice A10 x.others.length c10] (0, 0) _ HX1.out Tryz.underlying38 rfl (by kernel_rfl) ?_)
    | fail)
  refine (great13_calls x A9 c9 A10 c10 w1).mono ?_
  rintro e w2 ⟨rfl, hb2⟩
  have HX2 := Aside0.mk (blk_below HX1.out hb2)
  have HB2 := Aside0.mk (below_step HB1.out hb2)
  clear hb2 HX1
  cases hgr : (decide ((10000 : Int) < (x.item.size : Int)) || decide ((1000 : Int) < (x.parts.length : Int)) || decide ((1000 : Int) < (x.others.length : Int))) with
  | true =>
    go_wp2_with fail
    refine (awake13_calls w2 (HL.out.below HB2.out)).mono ?_
    rintro e w3 ⟨rfl, hb3⟩
    have HB3 := Aside0.mk (below_step HB2.out hb3)
    clear hb3
    go_wp2_with fail
    go_ret
    exact ⟨rfl, HB3.out⟩
  | false =>
    simp only [Bool.or_eq_false_iff, decide_eq_false_iff_not, Int.not_lt] at hgr
    obtain ⟨⟨_, h9⟩, h10⟩ := hgr
    have h9' : x.parts.length ≤ 1000000 := by omega
    have h10' : x.others.length ≤ 1000000 := by omega
    clear h9 h10
    go_wp2_with (first
      | (refine gate_ (.load 38 (.tmp 1)) rfl ?_; refine wpList_load_row rfl 38 _ rfl gb (by rfl) 38 #[.int .u8 x.kind, .int .i64 x.req, .string x.item, .int .i64 x.qty, .int .i64 x.day, .int .i64 x.days, .int .i64 x.rank, .int .i64 x.lot, .int .i64 x.line, .slice A9 x.parts.length c9, .slice A10 x.others.length c10] (0, 0) _ HX2.out Tryz.underlying38 rfl (by kernel_rfl) ?_)
      | fail)
    refine (lent_ask x A9 c9 A10 c10 w2 (Kd.C_below HS9.out HB2.out) (Kd.C_below HS10.out HB2.out) h9' h10').mono ?_
    rintro e w3 ⟨g9, g10, rfl, hlt, ho9, ho10, hb3⟩
    have HLT := Aside0.mk hlt
    have HX3 := Aside0.mk (blk_below HX2.out hb3)
    have HB3 := Aside0.mk (below_step HB2.out hb3)
    have HO9 := Aside0.mk ho9
    have HO10 := Aside0.mk ho10
    have HG9 := Aside0.mk (show w2.heap.size ≤ g9 ∧ g9 < w3.heap.size from ho9.lt g9 rfl)
    have HG10 := Aside0.mk (show w2.heap.size ≤ g10 ∧ g10 < w3.heap.size from ho10.lt g10 rfl)
    have HGB2 := Aside0.mk (blk_lt HX2.out)
    clear hlt ho9 ho10 hb3 HX2
    go_wp2_with (first
      | ((with_reducible refine gate_dst (N := 3) rfl ?_); refine box_event ?hg (N := 3) ?hd (cs := #[.int .u8 0, .int .i64 0, .string ByteArray.empty, .int .i64 0, .int .i64 0, .int .i64 0, .int .i64 0, .int .i64 0, .int .i64 0, .slice none 0 0, .slice none 0 0]) (t := 38) ?hr ?_; (case hd => rfl); (case hg => rfl); (case hr => first | (go_simp; done) | (go_simp; rfl)); intro gi hgi w4 hbox hb4; have HI4 := Aside0.mk hbox; have HB4 := Aside0.mk (below_step HB3.out hb4); have HX4 := Aside0.mk (blk_below HX3.out hb4); have HO94 := Aside0.mk (ownS_below HO9.out hb4); have HO104 := Aside0.mk (ownS_below HO10.out hb4); have HGI := Aside0.mk hgi; clear hbox hb4 hgi)
      | (refine gate_ (.store 38 (.tmp 3) (.tmp 15)) rfl ?_; refine blk_store_whole rfl rfl rfl (vs := #[.int .u8 x.kind, .int .i64 x.req, .string x.item, .int .i64 x.qty, .int .i64 x.day, .int .i64 x.days, .int .i64 x.rank, .int .i64 x.lot, .int .i64 x.line, .slice (some ⟨g9, 0, none⟩) x.parts.length (x.parts.length + 12), .slice (some ⟨g10, 0, none⟩) x.others.length (x.others.length + 12)]) (by rfl) (by rfl) HI4.out (by kernel_rfl) rfl (by simp [Value.oneCell']) ?_; intro w5 hz5 hoz5; have HI5 := Aside0.mk hz5; have HZ5 := Aside0.mk hoz5; clear hz5 hoz5)
      | (refine gate_ (.load 38 (.tmp 3)) rfl ?_; refine wpList_load_row rfl 38 _ rfl gi (by rfl) 38 #[.int .u8 x.kind, .int .i64 x.req, .string x.item, .int .i64 x.qty, .int .i64 x.day, .int .i64 x.days, .int .i64 x.rank, .int .i64 x.lot, .int .i64 x.line, .slice (some ⟨g9, 0, none⟩) x.parts.length (x.parts.length + 12), .slice (some ⟨g10, 0, none⟩) x.others.length (x.others.length + 12)] (0, 0) _ HI5.out Tryz.underlying38 rfl (by kernel_rfl) ?_)
      | fail)
    have hib : gi ≠ gb ∧ gi ≠ g9 ∧ gi ≠ g10 := by have h1 := HGI.out; have h2 := HG9.out; have h3 := HG10.out; have h4 := blk_lt HX3.out; omega
    have HIB := Aside0.mk hib
    have HX5 := Aside0.mk ((HZ5.out.block gb hib.1.symm).trans HX4.out)
    have HO95 := Aside0.mk (own_move HO94.out (fun k hk => HZ5.out.block k (by cases hk; exact hib.2.1.symm)))
    have HO105 := Aside0.mk (own_move HO104.out (fun k hk => HZ5.out.block k (by cases hk; exact hib.2.2.symm)))
    have HB5 := Aside0.mk (HZ5.out.below (show w.heap.size ≤ gi by have h1 := HGI.out; have h2 := HB3.out.size; omega) HB4.out)
    have hwf : (Cmd.mk x.kind x.req x.item x.qty x.day x.days x.rank x.lot x.line x.parts x.others).fits := ⟨HN.out, h9'⟩
    have hpf : ask_Put.f x.kind x.req x.item x.qty x.day x.days x.rank x.lot x.line x.parts x.others = some ((putCmd x).1, (putCmd x).2) := by unfold ask_Put.f; rw [if_pos hwf]
    have hrf : ask_Right.f x.kind x.req x.item x.qty x.day x.days x.rank x.lot x.line x.parts x.others = some (rightCmd x) := by unfold ask_Right.f; rw [if_pos hwf]
    have HPF := Aside0.mk hpf
    have HS35 := Aside0.mk (show w3.heap.size < w5.heap.size by have h1 := blk_lt HI5.out; have h2 := HGI.out; omega)
    have HRF := Aside0.mk hrf
    clear hib hwf hpf hrf HX4 HX3 HO94 HO104 HO9 HO10 HB4 HI4
    refine (ask_Put.calls x.kind x.req x.item x.qty x.day x.days x.rank x.lot x.line (some ⟨g9, 0, none⟩) (x.parts.length + 12) x.parts (some ⟨g10, 0, none⟩) (x.others.length + 12) x.others _ _ w5 (kd_of_reads encParts rfl part_K' (Enc.own_reads (E := encParts) HO95.out x.parts.length (by omega) (by omega) x.parts (List.take_left ..))) (by omega) (kd_of_reads encTexts rfl text_K' (Enc.own_reads (E := encTexts) HO105.out x.others.length (by omega) (by omega) x.others (List.take_left ..))) (by omega) HPF.out (HL.out.below HB5.out)).mono ?_
    rintro e w6 ⟨va, rfl, hra, hb6⟩
    obtain ⟨A6, c6, rfl, hg6⟩ := own_form13 (Kd.own_of_R hra)
    have HG6 := Aside0.mk hg6
    clear hg6
    have HRA6 := Aside0.mk hra
    have HI6 := Aside0.mk (blk_below HI5.out hb6)
    have HX6 := Aside0.mk (blk_below HX5.out hb6)
    have HO96 := Aside0.mk (ownS_below HO95.out hb6)
    have HO106 := Aside0.mk (ownS_below HO105.out hb6)
    have HB6 := Aside0.mk (below_step HB5.out hb6)
    have HS56 := Aside0.mk hb6.size
    clear hra hb6 HI5 HX5 HO95 HO105
    go_wp2_with (first
      | (refine gate_ (.load 38 (.tmp 3)) rfl ?_; refine wpList_load_row rfl 38 _ rfl gi (by rfl) 38 #[.int .u8 x.kind, .int .i64 x.req, .string x.item, .int .i64 x.qty, .int .i64 x.day, .int .i64 x.days, .int .i64 x.rank, .int .i64 x.lot, .int .i64 x.line, .slice (some ⟨g9, 0, none⟩) x.parts.length (x.parts.length + 12), .slice (some ⟨g10, 0, none⟩) x.others.length (x.others.length + 12)] (0, 0) _ HI6.out Tryz.underlying38 rfl (by kernel_rfl) ?_)
      | fail)
    refine (ask_Put.calls x.kind x.req x.item x.qty x.day x.days x.rank x.lot x.line (some ⟨g9, 0, none⟩) (x.parts.length + 12) x.parts (some ⟨g10, 0, none⟩) (x.others.length + 12) x.others _ _ w6 (kd_of_reads encParts rfl part_K' (Enc.own_reads (E := encParts) HO96.out x.parts.length (by omega) (by omega) x.parts (List.take_left ..))) (by omega) (kd_of_reads encTexts rfl text_K' (Enc.own_reads (E := encTexts) HO106.out x.others.length (by omega) (by omega) x.others (List.take_left ..))) (by omega) HPF.out (HL.out.below HB6.out)).mono ?_
    rintro e w7 ⟨vc, rfl, hrc, hb7⟩
    obtain ⟨A7, c7, rfl, hg7⟩ := own_form13 (Kd.own_of_R hrc)
    have HG7 := Aside0.mk hg7
    clear hg7
    have HRC7 := Aside0.mk hrc
    have HRA7 := Aside0.mk (Kd.R_below HRA6.out hb7)
    have HI7 := Aside0.mk (blk_below HI6.out hb7)
    have HX7 := Aside0.mk (blk_below HX6.out hb7)
    have HO97 := Aside0.mk (ownS_below HO96.out hb7)
    have HO107 := Aside0.mk (ownS_below HO106.out hb7)
    have HB7 := Aside0.mk (below_step HB6.out hb7)
    have HS67 := Aside0.mk hb7.size
    clear hrc hb7 HI6 HX6 HO96 HO106 HRA6
    go_wp2_with (first
      | (refine gate_ (.load 38 (.tmp 3)) rfl ?_; refine wpList_load_row rfl 38 _ rfl gi (by rfl) 38 #[.int .u8 x.kind, .int .i64 x.req, .string x.item, .int .i64 x.qty, .int .i64 x.day, .int .i64 x.days, .int .i64 x.rank, .int .i64 x.lot, .int .i64 x.line, .slice (some ⟨g9, 0, none⟩) x.parts.length (x.parts.length + 12), .slice (some ⟨g10, 0, none⟩) x.others.length (x.others.length + 12)] (0, 0) _ HI7.out Tryz.underlying38 rfl (by kernel_rfl) ?_)
      | fail)
    refine (ask_Right.calls x.kind x.req x.item x.qty x.day x.days x.rank x.lot x.line (some ⟨g9, 0, none⟩) (x.parts.length + 12) x.parts (some ⟨g10, 0, none⟩) (x.others.length + 12) x.others _ w7 (kd_of_reads encParts rfl part_K' (Enc.own_reads (E := encParts) HO97.out x.parts.length (by omega) (by omega) x.parts (List.take_left ..))) (by omega) (kd_of_reads encTexts rfl text_K' (Enc.own_reads (E := encTexts) HO107.out x.others.length (by omega) (by omega) x.others (List.take_left ..))) (by omega) HRF.out (HL.out.below HB7.out)).mono ?_
    rintro e w8 ⟨rfl, hb8⟩
    have HRC8 := Aside0.mk (Kd.R_below HRC7.out hb8)
    have HRA8 := Aside0.mk (Kd.R_below HRA7.out hb8)
    have HI8 := Aside0.mk (blk_below HI7.out hb8)
    have HX8 := Aside0.mk (blk_below HX7.out hb8)
    have HO98 := Aside0.mk (ownS_below HO97.out hb8)
    have HO108 := Aside0.mk (ownS_below HO107.out hb8)
    have HB8 := Aside0.mk (below_step HB7.out hb8)
    have HS78 := Aside0.mk hb8.size
    clear hb8 HI7 HX7 HO97 HO107 HRA7 HRC7
    go_wp2_with (first
      | (refine gate_ (.load 38 (.tmp 3)) rfl ?_; refine wpList_load_row rfl 38 _ rfl gi (by rfl) 38 #[.int .u8 x.kind, .int .i64 x.req, .string x.item, .int .i64 x.qty, .int .i64 x.day, .int .i64 x.days, .int .i64 x.rank, .int .i64 x.lot, .int .i64 x.line, .slice (some ⟨g9, 0, none⟩) x.parts.length (x.parts.length + 12), .slice (some ⟨g10, 0, none⟩) x.others.length (x.others.length + 12)] (0, 0) _ HI8.out Tryz.underlying38 rfl (by kernel_rfl) ?_)
      | (refine gate_ (.load 38 (.tmp 1)) rfl ?_; refine wpList_load_row rfl 38 _ rfl gb (by rfl) 38 #[.int .u8 x.kind, .int .i64 x.req, .string x.item, .int .i64 x.qty, .int .i64 x.day, .int .i64 x.days, .int .i64 x.rank, .int .i64 x.lot, .int .i64 x.line, .slice A9 x.parts.length c9, .slice A10 x.others.length c10] (0, 0) _ HX8.out Tryz.underlying38 rfl (by kernel_rfl) ?_)
      | fail)
    refine (kept_ask x g9 g10 A9 c9 A10 c10 _ w8 h9' h10' HO98.out HO108.out (Kd.C_below HS9.out HB8.out) (Kd.C_below HS10.out HB8.out)).mono ?_
    rintro e w9 ⟨rfl, hb9⟩
    have HRC9 := Aside0.mk (Kd.R_below HRC8.out hb9)
    have HRA9 := Aside0.mk (Kd.R_below HRA8.out hb9)
    have HI9 := Aside0.mk (blk_below HI8.out hb9)
    have HX9 := Aside0.mk (blk_below HX8.out hb9)
    have HO99 := Aside0.mk (ownS_below HO98.out hb9)
    have HO109 := Aside0.mk (ownS_below HO108.out hb9)
    have HB9 := Aside0.mk (below_step HB8.out hb9)
    have HS89 := Aside0.mk hb9.size
    clear hb9 HI8 HX8 HO98 HO108 HRA8 HRC8
    go_wp2_with (first
      | (refine gate_ (.load 38 (.tmp 3)) rfl ?_; refine wpList_load_row rfl 38 _ rfl gi (by rfl) 38 #[.int .u8 x.kind, .int .i64 x.req, .string x.item, .int .i64 x.qty, .int .i64 x.day, .int .i64 x.days, .int .i64 x.rank, .int .i64 x.lot, .int .i64 x.line, .slice (some ⟨g9, 0, none⟩) x.parts.length (x.parts.length + 12), .slice (some ⟨g10, 0, none⟩) x.others.length (x.others.length + 12)] (0, 0) _ HI9.out Tryz.underlying38 rfl (by kernel_rfl) ?_)
      | fail)
    refine (over_ask x g9 g10 _ w9 h9' h10' HLT.out _ _ HO99.out HO109.out).mono ?_
    rintro e wA ⟨rfl, hbA⟩
    have HXA := Aside0.mk ((hbA.block gb (blk_lt HX9.out) (by have h1 := HG9.out; have h2 := HG10.out; have h3 := HGB2.out; rintro (rfl | rfl) <;> omega)).trans HX9.out)
    have HBA := Aside0.mk (HB9.out.trans (hbA.below (base := w.heap.size) (fun b hb => by have h1 := HG9.out; have h2 := HG10.out; have h3 := HB2.out.size; rcases hb with rfl | rfl <;> omega) HB9.out.size))
    have HRAA := Aside0.mk (Kd.R_mono (Kd.R_move (Kd.R_bound HRA9.out) (fun k hk => hbA.block k hk.2.2.1 (by have h0 := hk.2.1; have h1 := HG9.out; have h2 := HG10.out; have h3 := HS35.out; rintro (rfl | rfl) <;> omega))) (fun _ h => h.1))
    have HRCA := Aside0.mk (Kd.R_mono (Kd.R_move (Kd.R_bound HRC9.out) (fun k hk => hbA.block k hk.2.2.1 (by have h0 := hk.2.1; have h1 := HG9.out; have h2 := HG10.out; have h3 := HS35.out; have h4 := HS56.out; rintro (rfl | rfl) <;> omega))) (fun _ h => h.1))
    have HS9A := Aside0.mk hbA.old.size
    clear hbA HI9 HX9 HO99 HO109 HB9 HRA9 HRC9
    go_wp2_with (first
      | (refine gate_ (.load 38 (.tmp 1)) rfl ?_; refine wpList_load_row rfl 38 _ rfl gb (by rfl) 38 #[.int .u8 x.kind, .int .i64 x.req, .string x.item, .int .i64 x.qty, .int .i64 x.day, .int .i64 x.days, .int .i64 x.rank, .int .i64 x.lot, .int .i64 x.line, .slice A9 x.parts.length c9, .slice A10 x.others.length c10] (0, 0) _ HXA.out Tryz.underlying38 rfl (by kernel_rfl) ?_)
      | fail)
    refine (ref_put_calls x A9 c9 A10 c10 wA (Kd.C_below HR9.out HBA.out) HC9.out (Kd.C_below HR10.out HBA.out) HC10.out HN.out h9' h10').mono ?_
    rintro e wB ⟨vb, rfl, hrb, hbB⟩
    obtain ⟨AB, cB, rfl, _⟩ := own_form13 (Kd.own_of_R hrb)
    have HRBB := Aside0.mk hrb
    have HXB := Aside0.mk (blk_below HXA.out hbB)
    have HRAB := Aside0.mk (Kd.R_below HRAA.out hbB)
    have HRCB := Aside0.mk (Kd.R_below HRCA.out hbB)
    have HBB := Aside0.mk (below_step HBA.out hbB)
    have HSAB := Aside0.mk hbB.size
    clear hrb hbB HXA HRAA HRCA HBA
    go_wp2_with (first
      | (refine gate_ (.load 38 (.tmp 1)) rfl ?_; refine wpList_load_row rfl 38 _ rfl gb (by rfl) 38 #[.int .u8 x.kind, .int .i64 x.req, .string x.item, .int .i64 x.qty, .int .i64 x.day, .int .i64 x.days, .int .i64 x.rank, .int .i64 x.lot, .int .i64 x.line, .slice A9 x.parts.length c9, .slice A10 x.others.length c10] (0, 0) _ HXB.out Tryz.underlying38 rfl (by kernel_rfl) ?_)
      | fail)
    refine (ref_right_calls x A9 c9 A10 c10 wB (Kd.C_below HR9.out HBB.out) HC9.out (Kd.C_below HR10.out HBB.out) HC10.out HN.out h9' h10').mono ?_
    rintro e wC ⟨rfl, hbC⟩
    have HRBC := Aside0.mk (Kd.R_below HRBB.out hbC)
    have HRAC := Aside0.mk (Kd.R_below HRAB.out hbC)
    have HRCC := Aside0.mk (Kd.R_below HRCB.out hbC)
    have HBC := Aside0.mk (below_step HBB.out hbC)
    have HSBC := Aside0.mk hbC.size
    clear hbC HXB HRAB HRCB HRBB HBB
    go_wp2_with fail
    refine (same_bytes (putCmd x).1 A6 c6 AB cB wC (put_short x) (reads_R HRAC.out).2.2 (reads_R HRAC.out).2.1 (reads_R HRBC.out).2.2 (reads_R HRBC.out).2.1).mono ?_
    rintro e wD ⟨rfl, hdD⟩
    have hbD : Below wC.heap.size wC wD := by obtain ⟨nd, rfl⟩ := hdD; exact pw_below_drewN (Below.refl _ _) nd
    have HRAD := Aside0.mk (Kd.R_below HRAC.out hbD)
    have HRCD := Aside0.mk (Kd.R_below HRCC.out hbD)
    have HBD := Aside0.mk (below_step HBC.out hbD)
    have HSCD := Aside0.mk hbD.size
    clear hbD hdD HRAC HRCC HRBC HBC
    go_wp2_with fail
    have HO6 := Aside0.mk (Kd.own_of_R HRAD.out)
    have HO7 := Aside0.mk (Kd.own_of_R HRCD.out)
    have hN := put_short x
    generalize (putCmd x).1 = xs at HO6 HO7 hN
    have HOL : Aside0 (w5.heap.size ≤ w6.heap.size ∧ w6.heap.size ≤ w7.heap.size ∧ w7.heap.size ≤ wD.heap.size) := ⟨HS56.out, HS67.out, by have h1 := HS78.out; have h2 := HS89.out; have h3 := HS9A.out; have h4 := HSAB.out; have h5 := HSBC.out; have h6 := HSCD.out; omega⟩
    refine (apart_bytes wD.heap.size 2 (fun j => if j = 0 then A6 else A7) (fun _ => xs.length) (fun j => if j = 0 then c6 else c7) (fun _ => xs) _ (fun _ => hN) ⟨fun j hj => ?_, fun j hj => ?_⟩ ⟨fun i j g hi hj h1 h2 => ?_, fun i hi h => ?_⟩).mono ?_
    · match j, hj with
      | 0, _ => exact own_alloc (own_base HO6.out (Nat.zero_le _)) _
      | 1, _ => exact own_alloc (own_base HO7.out (Nat.zero_le _)) _
      | _ + 2, h => omega
    · rw [World.ownsRow.cellAt (World.ownsRow_lit (base := 0) (size := 1) wD _ 2 (Nat.zero_le _) (by decide) rfl) j (by omega)]
      match j, hj with
      | 0, _ => rfl
      | 1, _ => rfl
      | _ + 2, h => omega
    · have q0 := HOL.out
      match i, j, hi, hj with
      | 0, 0, _, _ => rfl
      | 1, 1, _, _ => rfl
      | 0, 1, _, _ =>
        have q1 := (HG6.out g h1).2; have q2 := (HG7.out g h2).1; omega
      | 1, 0, _, _ =>
        have q1 := (HG6.out g h2).2; have q2 := (HG7.out g h1).1; omega
      | _ + 2, _, h, _ => omega
      | _, _ + 2, _, h => omega
    · have q0 := HOL.out
      match i, hi with
      | 0, _ => have q1 := (HG6.out _ h).2; omega
      | 1, _ => have q1 := (HG7.out _ h).2; omega
      | _ + 2, h => omega
    rintro e wE ⟨rfl, hu⟩
    have hbE : Below w.heap.size w wE := by
      have q5 : w.heap.size ≤ w5.heap.size := by have h1 := HB3.out.size; have h2 := HS35.out; omega
      have q0 := HOL.out
      refine (HBD.out.alloc HBD.out.size _).trans (hu.below (fun b ⟨j, hj, h⟩ => ?_) (HBD.out.alloc HBD.out.size _).size)
      match j, hj with
      | 0, _ => have q1 := (HG6.out _ h).1; omega
      | 1, _ => have q1 := (HG7.out _ h).1; omega
      | _ + 2, h => omega
    have HBE := Aside0.mk hbE
    clear hu hbE HBD
    go_wp2_with fail
    refine (awake13_calls wE (HL.out.below HBE.out)).mono ?_
    rintro e wF ⟨rfl, hbF⟩
    have HBF := Aside0.mk (below_step HBE.out hbF)
    clear hbF HBE
    go_wp2_with fail
    go_ret
    exact ⟨rfl, HBF.out⟩
end Go.Proofs.YtkpedlhofalnjaaGreatDoor
