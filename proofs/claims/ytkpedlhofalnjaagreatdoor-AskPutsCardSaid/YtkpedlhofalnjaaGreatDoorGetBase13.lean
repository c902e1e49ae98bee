/- What ask.Get's two closures compute: the next number of so many bytes; the next code. -/
import Derived.Test.YtkpedlhofalnjaaGreatDoorPut13
import Derived.Laws.Bits64
namespace Go.Proofs.YtkpedlhofalnjaaGreatDoor
set_option linter.unusedVariables false
set_option linter.unusedSimpArgs false
open Go.RowKit Go.Proofs.YtkpedlhofalnjaaGreatDoorW.PrintWords Go.Proofs.YtkpedlhofalnjaaGreatDoorW.PrintLast Go.Proofs.YtkpedlhofalnjaaGreatDoorW.PrintMore

theorem i64_or8 (x c : Int) (hx : x % 256 = 0) (h0 : 0 ≤ c) (h1 : c < 256) : bits .or .i64 x c = wrap64 (x + c) := by
  obtain ⟨b, rfl⟩ := Int.eq_ofNat_of_zero_le h0
  have hb : b < 2 ^ 8 := by omega
  have h2 : (BitVec.ofInt 64 (b : Int)).toNat = b := by
    rw [BitVec.ofInt_natCast, BitVec.toNat_ofNat]; exact Nat.mod_eq_of_lt (by omega)
  have h3 : (((BitVec.ofInt 64 x).toNat : Nat) : Int) = x % 18446744073709551616 := by
    rw [BitVec.toNat_ofInt]; omega
  show IntKind.i64.wrap ((BitVec.ofInt 64 x ||| BitVec.ofInt 64 (b : Int)).toNat : Int) = _
  rw [BitVec.toNat_or, h2]
  generalize (BitVec.ofInt 64 x).toNat = X at h3
  have hX : X = 2 ^ 8 * (X / 256) := by omega
  rw [hX, ← Nat.two_pow_add_eq_or_of_lt hb (X / 256), ← hX]
  rw [IntKind.wrap_i64]
  unfold wrap64
  omega
theorem beVal_take {l : List Int} {k : Nat} (h : k < l.length) : beVal (l.take (k + 1)) = 256 * beVal (l.take k) + l[k] := by
  rw [List.take_succ_eq_append_getElem h, beVal_snoc]

/-- What ask.Get has at its closures' calls: b, the place, and whether all is right so far; the rest of what it has stands in blocks of its own. -/
def GetSt (w0 w : World) (gb gat gok : Nat) (A0 : Option Addr) (n c0 : Nat) (p : Pos) : Prop :=
  Below w0.heap.size w0 w ∧ w.heap[gb]? = some (.cells #[.slice A0 n c0] 22 (0, 0)) ∧ w.heap[gat]? = some (.cells #[.int .i64 p.1] 3 (0, 0)) ∧ w.heap[gok]? = some (.cells #[.bool p.2] 4 (0, 0))
/-- But for two blocks all of w stands. -/
def But2 (g1 g2 : Nat) (w w' : World) : Prop := w.heap.size ≤ w'.heap.size ∧ ∀ k, k < w.heap.size → k ≠ g1 → k ≠ g2 → w'.heap[k]? = w.heap[k]?
theorem But2.refl (g1 g2 : Nat) (w : World) : But2 g1 g2 w w := ⟨Nat.le_refl _, fun _ _ _ _ => rfl⟩
theorem But2.trans {g1 g2 : Nat} {a b c : World} (h : But2 g1 g2 a b) (k : But2 g1 g2 b c) : But2 g1 g2 a c :=
  ⟨Nat.le_trans h.1 k.1, fun i hi h1 h2 => (k.2 i (Nat.lt_of_lt_of_le hi h.1) h1 h2).trans (h.2 i hi h1 h2)⟩
theorem But2.below {g1 g2 : Nat} {a b : World} (h : Below a.heap.size a b) : But2 g1 g2 a b := ⟨h.size, fun i hi _ _ => h.block i hi⟩
theorem set_size (w : World) (p : Addr) (v : Value) : (w.setCell p v).heap.size = w.heap.size := by
  unfold World.setCell
  split <;> simp
theorem But2.set1 {g1 g2 : Nat} (w : World) (v : Value) : But2 g1 g2 w (w.setCell ⟨g1, 0, none⟩ v) :=
  ⟨by rw [set_size]; exact Nat.le_refl _, fun k _ h1 _ => Below.heap_setCell w ⟨g1, 0, none⟩ v k h1⟩
theorem But2.set2 {g1 g2 : Nat} (w : World) (v : Value) : But2 g1 g2 w (w.setCell ⟨g2, 0, none⟩ v) :=
  ⟨by rw [set_size]; exact Nat.le_refl _, fun k _ _ h2 => Below.heap_setCell w ⟨g2, 0, none⟩ v k h2⟩
theorem But2.blk {g1 g2 k : Nat} {w w' : World} {o : Obj} (h : But2 g1 g2 w w') (hk : w.heap[k]? = some o) (h1 : k ≠ g1) (h2 : k ≠ g2) : w'.heap[k]? = some o := (h.2 k (blk_lt hk) h1 h2).trans hk

theorem ne_types {w : World} {g1 g2 : Nat} {t1 t2 : TypeId} {c1 c2 : Array Value} (h1 : w.heap[g1]? = some (.cells c1 t1 (0, 0))) (h2 : w.heap[g2]? = some (.cells c2 t2 (0, 0))) (ht : t1 ≠ t2) : g1 ≠ g2 := blk_ne h1 h2 ht

/-- The place moves on, and whether all is right: both are set. -/
theorem get_setOk {w0 w : World} {gb gat gok : Nat} {A0 : Option Addr} {n c0 : Nat} {p : Pos} (h : GetSt w0 w gb gat gok A0 n c0 p) (hg : w0.heap.size ≤ gok) (b : Bool) : GetSt w0 (w.setCell ⟨gok, 0, none⟩ (.bool b)) gb gat gok A0 n c0 (p.1, b) :=
  ⟨h.1.setCell hg _, blk_far h.2.1 (ne_types h.2.1 h.2.2.2 (by decide)) _, blk_far h.2.2.1 (ne_types h.2.2.1 h.2.2.2 (by decide)) _, blk_put h.2.2.2 0 (.bool b) rfl⟩
theorem get_setAt {w0 w : World} {gb gat gok : Nat} {A0 : Option Addr} {n c0 : Nat} {p : Pos} (h : GetSt w0 w gb gat gok A0 n c0 p) (hg : w0.heap.size ≤ gat) (m : Nat) : GetSt w0 (w.setCell ⟨gat, 0, none⟩ (.int .i64 m)) gb gat gok A0 n c0 (m, p.2) :=
  ⟨h.1.setCell hg _, blk_far h.2.1 (ne_types h.2.1 h.2.2.1 (by decide)) _, blk_put h.2.2.1 0 (.int .i64 m) rfl, blk_far h.2.2.2 (ne_types h.2.2.2 h.2.2.1 (by decide)) _⟩

set_option maxRecDepth 100000 in
set_option maxHeartbeats 8000000 in
theorem take_calls (s : Nat) (hs : s = 1 ∨ s = 2 ∨ s = 8) (w0 w : World) (gb gat gok : Nat) (A0 : Option Addr) (c0 : Nat) (l : List Int) (p : Pos) (hga : w0.heap.size ≤ gat) (hgo : w0.heap.size ≤ gok)
    (hr : Kd.C (Kd.int .u8) w0 A0 l.length l) (hc : l.length ≤ c0) (hl : l.length ≤ 1000000) (hb : bytesOk l) (hp : p.1 ≤ l.length) (h : GetSt w0 w gb gat gok A0 l.length c0 p) :
    Calls Tryz.prog 98 #[.int .i64 s, .pointer (some ⟨gok, 0, none⟩), .pointer (some ⟨gat, 0, none⟩), .pointer (some ⟨gb, 0, none⟩)] w fun e w' => e = .returned (.int .i64 (takeN l s p).1) ∧ GetSt w0 w' gb gat gok A0 l.length c0 (takeN l s p).2 ∧ But2 gat gok w w' := by
  obtain ⟨n, ok⟩ := p
  have HST := Lib.hid h
  have HGA := Lib.hid hga
  have HGO := Lib.hid hgo
  have hne : gat ≠ gok := ne_types h.2.2.1 h.2.2.2 (by decide)
  have hnb : gb ≠ gok := ne_types h.2.1 h.2.2.2 (by decide)
  have hnb2 : gb ≠ gat := ne_types h.2.1 h.2.2.1 (by decide)
  have HNE := Lib.hid hne
  have HNB := Lib.hid hnb
  have HNB2 := Lib.hid hnb2
  clear hne hnb hnb2
  have kb : w.cell? ⟨gb, 0, none⟩ = some (.slice A0 l.length c0) := blk_cell h.2.1 0
  have ka : w.cell? ⟨gat, 0, none⟩ = some (.int .i64 n) := blk_cell h.2.2.1 0
  have ko : w.cell? ⟨gok, 0, none⟩ = some (.bool ok) := blk_cell h.2.2.2 0
  have zo : w.frozen? ⟨gok, 0, none⟩ = false := blk_frozen h.2.2.2 0
  clear h hga hgo
  have hpn : n ≤ l.length := hp
  clear hp
  cases ok with
  | false =>
    have HT : Hid (takeN l s (n, false) = (0, (n, false))) := Lib.hid (by unfold takeN; rw [if_neg (by simp)])
    have HS2 := get_setOk HST.out HGO.out false
    have kb2 : (w.setCell ⟨gok, 0, none⟩ (.bool false)).cell? ⟨gok, 0, none⟩ = some (.bool false) := blk_cell HS2.2.2.2 0
    have HS := Lib.hid HS2
    clear HS2
    rw [HT.out]
    go_enter Tryz.func98, Tryz.ntmps98
    go_wp2
    go_ret
    exact ⟨rfl, HS.out, But2.set2 _ _⟩
  | true =>
    by_cases hle : n + s ≤ l.length
    · have HT : Hid (takeN l s (n, true) = (wrap64 (beVal ((l.drop n).take s)), (n + s, true))) := Lib.hid (by unfold takeN; rw [if_pos ⟨rfl, hle⟩])
      have hs0 : 0 < s := by omega
      obtain ⟨ad, rfl, _⟩ := Kd.at_int hr 0 (Int.le_refl _) (by omega)
      obtain ⟨i0, hi, hz0, hz1, hz2⟩ := info_parts info_u8
      obtain ⟨A', hcut, hA, hC⟩ := print_mid_of (P := Tryz.prog) (Value.int .u8) 0 22 5 .i64 .i64 Tryz.underlying22 hi hz1 (some ad) c0 l n (n + s) (by omega) (by omega) (by omega) hc
      have e2 : (l.take ((n : Int) + (s : Int)).toNat).drop (n : Int).toNat = (l.drop n).take s := by
        rw [show ((n : Int) + (s : Int)).toNat = n + s by omega, Int.toNat_natCast, List.drop_take, show n + s - n = s by omega]
      have hsb : bytesOk ((l.drop n).take s) := fun x hx => hb x (List.mem_of_mem_drop (List.mem_of_mem_take hx))
      have hsl : ((l.drop n).take s).length = s := by rw [List.length_take, List.length_drop]; omega
      have hRd := hA w0 (Kd.reads_of_C hr)
      rw [e2] at hcut hRd
      rw [hsl] at hcut hRd
      generalize (l.drop n).take s = sub at HT hsb hsl hRd
      have HS2 := get_setOk HST.out HGO.out true
      have kb2 : (w.setCell ⟨gok, 0, none⟩ (.bool true)).cell? ⟨gok, 0, none⟩ = some (.bool true) := blk_cell HS2.2.2.2 0
      have ka2 : (w.setCell ⟨gok, 0, none⟩ (.bool true)).cell? ⟨gat, 0, none⟩ = some (.int .i64 n) := blk_cell HS2.2.2.1 0
      have za2 : (w.setCell ⟨gok, 0, none⟩ (.bool true)).frozen? ⟨gat, 0, none⟩ = false := blk_frozen HS2.2.2.1 0
      have kl2 : (w.setCell ⟨gok, 0, none⟩ (.bool true)).cell? ⟨gb, 0, none⟩ = some (.slice (some ad) l.length c0) := blk_cell HS2.2.1 0
      have HCS := Lib.hid (Kd.C_below (Kd.C_of_reads (d := (0 : Int)) (h1 := fun _ => rfl) hRd : Kd.C (Kd.int .u8) w0 A' s sub) (HS2.1))
      have hs3 := get_setAt HS2 HGA.out (n + s)
      rw [Int.natCast_add] at hs3
      have HS3 := Lib.hid hs3
      clear hs3
      have HSB := Lib.hid hsb
      have HSL := Lib.hid hsl
      have HS := Lib.hid HS2
      clear HS2 hRd hsb hsl hA hC hi hz0 hz1 hz2 e2
      have hd : decide ((n : Int) + (s : Int) ≤ (l.length : Int)) = true := decide_eq_true (by omega)
      have hd2 : decide (n + s ≤ l.length) = true := decide_eq_true (by omega)
      have hs8 : s ≤ 8 := by omega
      rw [HT.out]
      clear hr hb hs
      generalize l.length = len at *
      go_enter Tryz.func98, Tryz.ntmps98
      go_wp2
      go_loop [6, 27] (fun v6 v27 => ∃ k : Nat, k ≤ s ∧ v27 = .int .i64 k ∧ v6 = .int .i64 (wrap64 (beVal (sub.take k)))) (fun _ v27 => s - (intOf v27).toNat)
      case atStart => exact ⟨0, Nat.zero_le _, rfl, congrArg (Value.int .i64) (show (0 : Int) = wrap64 (beVal (sub.take 0)) by rw [List.take_zero]; show (0 : Int) = wrap64 0; unfold wrap64; omega)⟩
      case round =>
        obtain ⟨k, hk, rfl, rfl⟩ := hrel
        by_cases hks : k < s
        · obtain ⟨ad', hA', hx⟩ := Kd.at_int HCS.out k (by omega) (by omega)
          have hsk : k < sub.length := by rw [HSL.out]; exact hks
          have hrd : rd sub (k : Int) = sub[k] := by unfold rd; simp [List.getD_eq_getElem?_getD, List.getElem?_eq_getElem hsk]
          rw [Int.toNat_natCast, hrd] at hx
          have hb2 := HSB.out _ (List.getElem_mem hsk)
          have HBT := Lib.hid (beVal_take hsk)
          clear hrd
          generalize sub[k] = c at hx hb2 HBT
          have hb0 : 0 ≤ c := hb2.1
          have hb1 : c ≤ 255 := hb2.2
          clear hb2
          subst hA'
          go_wp2
          go_round
          case rel => exact ⟨k + 1, by omega, by go_num, congrArg (Value.int .i64) (by rw [i64_or8 _ _ (by unfold wrap64; omega) hb0 (by omega), HBT.out]; unfold wrap64; omega)⟩
          case measure => simp [intOf]; omega
        · have hke : k = s := by omega
          subst hke
          go_wp2
          go_ret
          have e1 : sub.take k = sub := List.take_of_length_le (by rw [HSL.out]; exact Nat.le_refl _)
          exact ⟨by show Ending.returned (.int .i64 (wrap64 (beVal (sub.take k)))) = _; rw [e1], HS3.out, (But2.set2 _ _).trans (But2.set1 _ _)⟩
    · have HT : Hid (takeN l s (n, true) = (0, (n, false))) := Lib.hid (by unfold takeN; rw [if_neg (by simp; omega)])
      have HS2 := get_setOk HST.out HGO.out false
      have kb2 : (w.setCell ⟨gok, 0, none⟩ (.bool false)).cell? ⟨gok, 0, none⟩ = some (.bool false) := blk_cell HS2.2.2.2 0
      have HS := Lib.hid HS2
      clear HS2
      rw [HT.out]
      have hd : decide ((n : Int) + (s : Int) ≤ (l.length : Int)) = false := decide_eq_false (by omega)
      have hd2 : decide (n + s ≤ l.length) = false := decide_eq_false (by omega)
      have hs8 : s ≤ 8 := by omega
      generalize l.length = len at *
      go_enter Tryz.func98, Tryz.ntmps98
      go_wp2
      go_ret
      exact ⟨rfl, HS.out, But2.set2 _ _⟩

set_option maxRecDepth 100000 in
set_option maxHeartbeats 8000000 in
theorem coded_calls (w0 w : World) (gb gat gok : Nat) (A0 : Option Addr) (c0 : Nat) (l : List Int) (p : Pos) (hga : w0.heap.size ≤ gat) (hgo : w0.heap.size ≤ gok)
    (hr : Kd.C (Kd.int .u8) w0 A0 l.length l) (hc : l.length ≤ c0) (hl : l.length ≤ 1000000) (hb : bytesOk l) (hp : p.1 ≤ l.length) (h : GetSt w0 w gb gat gok A0 l.length c0 p) :
    Calls Tryz.prog 99 #[.pointer (some ⟨gok, 0, none⟩), .pointer (some ⟨gb, 0, none⟩), .pointer (some ⟨gat, 0, none⟩)] w fun e w' => e = .returned (.string (codedN l p).1) ∧ GetSt w0 w' gb gat gok A0 l.length c0 (codedN l p).2 ∧ But2 gat gok w w' := by
  obtain ⟨n, ok⟩ := p
  have HST := Lib.hid h
  have HGA := Lib.hid hga
  have HGO := Lib.hid hgo
  have kb : w.cell? ⟨gb, 0, none⟩ = some (.slice A0 l.length c0) := blk_cell h.2.1 0
  have ka : w.cell? ⟨gat, 0, none⟩ = some (.int .i64 n) := blk_cell h.2.2.1 0
  have ko : w.cell? ⟨gok, 0, none⟩ = some (.bool ok) := blk_cell h.2.2.2 0
  clear h hga hgo
  have hpn : n ≤ l.length := hp
  clear hp
  cases ok with
  | false =>
    have HT : Hid (codedN l (n, false) = (noText, (n, false))) := Lib.hid (by unfold codedN; rw [if_neg (by simp)])
    rw [HT.out]
    go_enter Tryz.func99, Tryz.ntmps99
    go_wp2
    go_ret
    exact ⟨rfl, HST.out, But2.refl _ _ _⟩
  | true =>
    obtain ⟨t, m, is, e, hsz, hcase⟩ := got_put (l.drop n) fun x hx => hb x (List.mem_of_mem_drop hx)
    have hm : 0 ≤ m ∧ n + m.toNat ≤ l.length := by
      rcases hcase with ⟨_, _, rfl, hle, _⟩ | ⟨_, _, rfl⟩
      · rw [List.length_drop] at hle; omega
      · exact ⟨Int.le_refl _, by simpa using hpn⟩
    have HT : Hid (codedN l (n, true) = (t, (n + m.toNat, is))) := Lib.hid (by unfold codedN; rw [if_pos rfl, e])
    obtain ⟨i0, hi, hz0, hz1, hz2⟩ := info_parts info_u8
    obtain ⟨A', hcut, hA, hC⟩ := print_drop_of (P := Tryz.prog) (Value.int .u8) 0 22 5 .i64 Tryz.underlying22 hi hz1 A0 c0 l n (by omega) (by omega) hc
    have hRd := hA w0 (Kd.reads_of_C hr)
    rw [Int.toNat_natCast] at hcut hRd hC
    have HCS := Lib.hid (Kd.C_below (Kd.C_of_reads (d := (0 : Int)) (h1 := fun _ => rfl) hRd : Kd.C (Kd.int .u8) w0 A' (l.drop n).length (l.drop n)) HST.out.1)
    have HG := Lib.hid (code_Get.calls A' (c0 - n) (l.drop n) t m is w HCS.out hC e)
    clear hRd hA hi hz0 hz1 hz2 HCS hC hcase e
    have hm0 := hm.1
    have hm1 := hm.2
    clear hm hr hb hc
    obtain ⟨m, rfl⟩ := Int.eq_ofNat_of_zero_le hm0
    rw [Int.toNat_natCast] at hm1 HT
    clear hm0
    rw [HT.out]
    generalize l.drop n = dl at HG hcut
    generalize l.length = len at *
    go_enter Tryz.func99, Tryz.ntmps99
    go_wp2_with fail
    refine HG.out.mono ?_
    rintro e w2 ⟨rfl, hb2⟩
    have HS2 : Hid (GetSt w0 w2 gb gat gok A0 len c0 (n, true)) := Lib.hid ⟨HST.out.1.trans (hb2.mono HST.out.1.size), blk_below HST.out.2.1 hb2, blk_below HST.out.2.2.1 hb2, blk_below HST.out.2.2.2 hb2⟩
    have HBU := Lib.hid (But2.below (g1 := gat) (g2 := gok) hb2)
    clear hb2 ka ko kb
    have ko2 : w2.cell? ⟨gok, 0, none⟩ = some (.bool true) := blk_cell HS2.out.2.2.2 0
    have zo2 : w2.frozen? ⟨gok, 0, none⟩ = false := blk_frozen HS2.out.2.2.2 0
    have hs3 := get_setOk HS2.out HGO.out is
    have ka3 : (w2.setCell ⟨gok, 0, none⟩ (.bool is)).cell? ⟨gat, 0, none⟩ = some (.int .i64 n) := blk_cell hs3.2.2.1 0
    have za3 : (w2.setCell ⟨gok, 0, none⟩ (.bool is)).frozen? ⟨gat, 0, none⟩ = false := blk_frozen hs3.2.2.1 0
    have hs4 := get_setAt hs3 HGA.out (n + m)
    rw [Int.natCast_add] at hs4
    have HS4 := Lib.hid hs4
    clear hs3 hs4
    go_wp2
    go_ret
    exact ⟨rfl, HS4.out, (HBU.out.trans (But2.set2 _ _)).trans (But2.set1 _ _)⟩
end Go.Proofs.YtkpedlhofalnjaaGreatDoor

/- What ask.Get has while it goes through the fields: the command so far, in a block of its own; how that stands over its calls. -/
namespace Go.Proofs.YtkpedlhofalnjaaGreatDoor
set_option linter.unusedVariables false
set_option linter.unusedSimpArgs false
open Go.RowKit Go.Proofs.YtkpedlhofalnjaaGreatDoorW.PrintWords Go.Proofs.YtkpedlhofalnjaaGreatDoorW.PrintLast Go.Proofs.YtkpedlhofalnjaaGreatDoorW.PrintMore

theorem info_part : (Tryz.prog.info? 58).map (fun i => (i.zero, i.size, i.bytes)) = some (some (.agg #[.string ⟨#[]⟩, .int .i64 0]), 2, 24) := by kernel_rfl
theorem info_text : (Tryz.prog.info? 9).map (fun i => (i.zero, i.size, i.bytes)) = some (some (.string ⟨#[]⟩), 1, 16) := by kernel_rfl

section
variable {α : Type} {d : Kd α} {e : Nat} {w w1 : World} {base : Nat} {v : Value} {xs : List α}
/-- A row whose blocks are of other types than some that were written stands. -/
theorem R_but (h : Kd.R d e w base (fun _ => True) v xs) (hm : ∀ k, k < w.heap.size → (∃ q, q ∈ e :: d.E ∧ ∃ cells, w.heap[k]? = some (.cells cells q (0, 0))) → w1.heap[k]? = w.heap[k]?) : Kd.R d e w1 base (fun _ => True) v xs :=
  Kd.R_mono (Kd.R_move (Kd.R_bound h) (fun k hk => hm k hk.2.2.1 hk.2.2.2)) (fun _ _ => trivial)
theorem R_but2 {g1 g2 : Nat} {t1 t2 : TypeId} {c1 c2 : Array Value} (h : Kd.R d e w base (fun _ => True) v xs) (hb : But2 g1 g2 w w1) (h1 : w.heap[g1]? = some (.cells c1 t1 (0, 0))) (h2 : w.heap[g2]? = some (.cells c2 t2 (0, 0))) (ht : ∀ q, q ∈ e :: d.E → q ≠ t1 ∧ q ≠ t2) : Kd.R d e w1 base (fun _ => True) v xs :=
  R_but h fun k hk ⟨q, hq, cells, hc⟩ => hb.2 k hk (blk_ne hc h1 (ht q hq).1) (blk_ne hc h2 (ht q hq).2)
theorem R_iter {gi : Nat} {s : ByteArray} {p : Nat} (h : Kd.R d e w base (fun _ => True) v xs) (hi : w.heap[gi]? = some (.stringIter s p)) (q : Nat) : Kd.R d e (w.iterAt gi s q) base (fun _ => True) v xs :=
  R_but h fun k hk ⟨t, ht, cells, hc⟩ => Lib.iterAt_other _ _ _ _ _ (put_ne3 hc hi)
theorem R_far_row {row : Option Nat} {t : TypeId} (h : Kd.R d e w base (fun _ => True) v xs) (hg : w.grownBy w1 row) (hr : ∀ g, row = some g → ∃ cells, w.heap[g]? = some (.cells cells t (0, 0))) (ht : ∀ q, q ∈ e :: d.E → q ≠ t) : Kd.R d e w1 base (fun _ => True) v xs :=
  R_but h fun k hk ⟨q, hq, cells, hc⟩ => hg.block k hk fun hrow => by
    obtain ⟨c2, h2⟩ := hr k hrow.symm
    exact blk_ne hc h2 (ht q hq) rfl
end

/-- The command's cells, its lists' values given. -/
abbrev gotCells (a : Cmd) (v9 v10 : Value) : Array Value :=
  #[.int .u8 a.kind, .int .i64 a.req, .string a.item, .int .i64 a.qty, .int .i64 a.day, .int .i64 a.days, .int .i64 a.rank, .int .i64 a.lot, .int .i64 a.line, v9, v10]
/-- The command so far stands in block ga; its lists' rows are the call's own. -/
def ASt (w0 w : World) (ga : Nat) (a : Cmd) : Prop := ∃ v9 v10, w.heap[ga]? = some (.cells (gotCells a v9 v10) 38 (0, 0)) ∧ Kd.R A.k58 58 w w0.heap.size (fun _ => True) v9 a.parts ∧ Kd.R Kd.string 9 w w0.heap.size (fun _ => True) v10 a.others

theorem ast_below {w0 w w1 : World} {ga : Nat} {a : Cmd} (h : ASt w0 w ga a) (hb : Below w.heap.size w w1) : ASt w0 w1 ga a := by
  obtain ⟨v9, v10, h1, h2, h3⟩ := h
  exact ⟨v9, v10, blk_below h1 hb, Kd.R_below h2 hb, Kd.R_below h3 hb⟩
theorem ast_but2 {w0 w w1 : World} {gb gat gok ga : Nat} {A0 : Option Addr} {n c0 : Nat} {p : Pos} {a : Cmd} (h : ASt w0 w ga a) (hg : GetSt w0 w gb gat gok A0 n c0 p) (hb : But2 gat gok w w1) : ASt w0 w1 ga a := by
  obtain ⟨v9, v10, h1, h2, h3⟩ := h
  exact ⟨v9, v10, hb.blk h1 (blk_ne h1 hg.2.2.1 (by decide)) (blk_ne h1 hg.2.2.2 (by decide)), R_but2 h2 hb hg.2.2.1 hg.2.2.2 (by decide), R_but2 h3 hb hg.2.2.1 hg.2.2.2 (by decide)⟩
theorem ast_iter {w0 w : World} {ga gi : Nat} {s : ByteArray} {p : Nat} {a : Cmd} (h : ASt w0 w ga a) (hi : w.heap[gi]? = some (.stringIter s p)) (q : Nat) : ASt w0 (w.iterAt gi s q) ga a := by
  obtain ⟨v9, v10, h1, h2, h3⟩ := h
  exact ⟨v9, v10, (Lib.iterAt_other _ _ _ _ _ (put_ne3 h1 hi)).trans h1, R_iter h2 hi q, R_iter h3 hi q⟩
theorem get_iter {w0 w : World} {gb gat gok gi : Nat} {A0 : Option Addr} {n c0 : Nat} {p : Pos} {s : ByteArray} {k : Nat} (h : GetSt w0 w gb gat gok A0 n c0 p) (hi : w.heap[gi]? = some (.stringIter s k)) (hg : w0.heap.size ≤ gi) (q : Nat) : GetSt w0 (w.iterAt gi s q) gb gat gok A0 n c0 p :=
  ⟨Lib.below_iterAt h.1 hg s q, (Lib.iterAt_other _ _ _ _ _ (put_ne3 h.2.1 hi)).trans h.2.1, (Lib.iterAt_other _ _ _ _ _ (put_ne3 h.2.2.1 hi)).trans h.2.2.1, (Lib.iterAt_other _ _ _ _ _ (put_ne3 h.2.2.2 hi)).trans h.2.2.2⟩
theorem get_below {w0 w w1 : World} {gb gat gok : Nat} {A0 : Option Addr} {n c0 : Nat} {p : Pos} (h : GetSt w0 w gb gat gok A0 n c0 p) (hb : Below w.heap.size w w1) : GetSt w0 w1 gb gat gok A0 n c0 p :=
  ⟨h.1.trans (hb.mono h.1.size), blk_below h.2.1 hb, blk_below h.2.2.1 hb, blk_below h.2.2.2 hb⟩
/-- A field of the command is stored: all else stands. -/
theorem get_setA {w0 w : World} {gb gat gok ga : Nat} {A0 : Option Addr} {n c0 : Nat} {p : Pos} {cs : Array Value} (h : GetSt w0 w gb gat gok A0 n c0 p) (ha : w.heap[ga]? = some (.cells cs 38 (0, 0))) (hg : w0.heap.size ≤ ga) (i : Nat) (v : Value) : GetSt w0 (w.setCell ⟨ga, i, none⟩ v) gb gat gok A0 n c0 p :=
  ⟨h.1.setCell hg v, blk_far h.2.1 (p := ⟨ga, i, none⟩) (blk_ne h.2.1 ha (by decide)) v, blk_far h.2.2.1 (p := ⟨ga, i, none⟩) (blk_ne h.2.2.1 ha (by decide)) v, blk_far h.2.2.2 (p := ⟨ga, i, none⟩) (blk_ne h.2.2.2 ha (by decide)) v⟩
theorem iter_setA {w : World} {gi ga : Nat} {s : ByteArray} {p : Nat} {cs : Array Value} {t : TypeId} (hi : w.heap[gi]? = some (.stringIter s p)) (ha : w.heap[ga]? = some (.cells cs t (0, 0))) (i : Nat) (v : Value) : (w.setCell ⟨ga, i, none⟩ v).heap[gi]? = some (.stringIter s p) :=
  (Below.heap_setCell w ⟨ga, i, none⟩ v gi (fun e => put_ne3 ha hi e.symm)).trans hi
/-- A field that is no list. -/
theorem ast_set {w0 w : World} {ga : Nat} {a a' : Cmd} (i : Nat) (v : Value) (h : ASt w0 w ga a) (hc : ∀ v9 v10, (gotCells a v9 v10).setIfInBounds i v = gotCells a' v9 v10) (hp : a'.parts = a.parts) (ho : a'.others = a.others) : ASt w0 (w.setCell ⟨ga, i, none⟩ v) ga a' := by
  obtain ⟨v9, v10, h1, h2, h3⟩ := h
  refine ⟨v9, v10, blk_put h1 i v (hc v9 v10), ?_, ?_⟩
  · rw [hp]; exact Kd.R_set h2 h1 (by decide) i v
  · rw [ho]; exact Kd.R_set h3 h1 (by decide) i v

theorem getFld_le {b : List Int} (hb : bytesOk b) (c : Fld) (s : Pos × Cmd) (h : s.1.1 ≤ b.length) : (getFld b c s).1.1 ≤ b.length := by
  cases c
  case i => exact coded_le hb h
  case p => exact parts_le hb _ _ _ (take_le h)
  case o => exact others_le hb _ _ _ (take_le h)
  all_goals exact take_le h
theorem othersN_len (b : List Int) : ∀ (n : Nat) (p : Pos) (acc : List ByteArray), (othersN b n p acc).1.length ≤ acc.length + n
  | 0, p, acc => Nat.le_refl _
  | n + 1, p, acc => by
    unfold othersN
    split
    · have := othersN_len b n (codedN b p).2 (acc ++ [(codedN b p).1])
      rw [List.length_append, List.length_singleton] at this
      dsimp only
      omega
    · dsimp only; omega
theorem getFlds_others {b : List Int} (hb : bytesOk b) : ∀ (f : List Fld) (s : Pos × Cmd), (getFlds b f s).2.others.length ≤ s.2.others.length + 255 * f.length
  | [], s => Nat.le_refl _
  | c :: f, s => by
    have h := getFlds_others hb f (getFld b c s)
    have h2 : (getFld b c s).2.others.length ≤ s.2.others.length + 255 := by
      cases c
      case o =>
        have h3 := othersN_len b (takeN b 1 s.1).1.toNat (takeN b 1 s.1).2 s.2.others
        have h4 := take1_le hb s.1
        show (othersN b (takeN b 1 s.1).1.toNat (takeN b 1 s.1).2 s.2.others).1.length ≤ _
        omega
      all_goals exact Nat.le_add_right _ _
    show (getFlds b f (getFld b c s)).2.others.length ≤ _
    rw [List.length_cons]
    omega
theorem getFlds_snoc (b : List Int) (P : List Fld) (c : Fld) (s : Pos × Cmd) : getFlds b (P ++ [c]) s = getFld b c (getFlds b P s) := by
  unfold getFlds; rw [List.foldl_append]; rfl
end Go.Proofs.YtkpedlhofalnjaaGreatDoor
