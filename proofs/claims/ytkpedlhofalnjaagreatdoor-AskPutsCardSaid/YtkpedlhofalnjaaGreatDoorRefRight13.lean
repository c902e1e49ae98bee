/- storemanref13.Right tells the right commands. -/
import Derived.Test.YtkpedlhofalnjaaGreatDoorM20
import Derived.Test.YtkpedlhofalnjaaGreatDoorM18
namespace Go.Proofs.YtkpedlhofalnjaaGreatDoor
open Go.RowKit Go.Proofs.YtkpedlhofalnjaaGreatDoorW.PrintWords Go.Proofs.YtkpedlhofalnjaaGreatDoorW.PrintLast Go.Proofs.YtkpedlhofalnjaaGreatDoorW.PrintMore

set_option linter.unusedSimpArgs false
set_option linter.unusedVariables false
theorem drawn_below1 {w w' : World} {o : Obj} (h : Drawn0 (w.alloc o) w') : Below w.heap.size w w' := by
  obtain ⟨nd, rfl⟩ := h
  exact pw_below_drewN ((Below.refl _ _).alloc (Nat.le_refl _) _) nd
theorem below_d (w : World) (o : Obj) {n : Nat} : Below w.heap.size w ((w.alloc o).drewN n) := pw_below_drewN ((Below.refl _ _).alloc (Nat.le_refl _) _) n

/-- What storemanref13.Right asks, test by test: true: it says no. -/
def rb2 (kn : Bool) (x : Cmd) : Bool := !kn || decide (x.req < 0) || decide (4611686018427387904 < x.req)
def rb4 (b : Bool) (x : Cmd) : Bool := (b != !x.item.toList.isEmpty) || (!x.item.toList.isEmpty && !isRight x.item)
def rbA (b : Bool) (v M : Int) : Bool := if b then decide (v < 1) || decide (M < v) else v != 0
def rbB (b : Bool) (v M : Int) : Bool := decide (v < 0) || decide (M < v) || (!b && v != 0)
def rbC (b : Bool) (v : Int) : Bool := if b then decide (v < 1) else v != 0
def rb16 (b : Bool) (x : Cmd) : Bool := if b then !partedOk x.parts else decide (0 < x.parts.length)
def rb18 (b : Bool) (x : Cmd) : Bool := if b then othersOk x.others x.item else decide (x.others.length = 0)
set_option maxRecDepth 100000 in
set_option maxHeartbeats 16000000 in
theorem ref_right_core (x : Cmd) (A9 : Option Addr) (c9 : Nat) (A10 : Option Addr) (c10 : Nat) (s : ByteArray) (kn bi bq bd bl br bt bn bp bo : Bool) (w : World)
    (hf : ∀ W : World, Calls Tryz.prog 92 #[.int .u8 x.kind] W fun e w' => e = .returned (.tuple #[.string s, .bool kn]) ∧ Drawn0 W w')
    (hi : ∀ W : World, Calls Tryz.prog 95 #[.string s, .int .u8 105] W fun e w' => e = .returned (.bool bi) ∧ Drawn0 W w') (hq : ∀ W : World, Calls Tryz.prog 95 #[.string s, .int .u8 113] W fun e w' => e = .returned (.bool bq) ∧ Drawn0 W w') (hd : ∀ W : World, Calls Tryz.prog 95 #[.string s, .int .u8 100] W fun e w' => e = .returned (.bool bd) ∧ Drawn0 W w') (hl : ∀ W : World, Calls Tryz.prog 95 #[.string s, .int .u8 108] W fun e w' => e = .returned (.bool bl) ∧ Drawn0 W w') (hr : ∀ W : World, Calls Tryz.prog 95 #[.string s, .int .u8 114] W fun e w' => e = .returned (.bool br) ∧ Drawn0 W w') (ht : ∀ W : World, Calls Tryz.prog 95 #[.string s, .int .u8 116] W fun e w' => e = .returned (.bool bt) ∧ Drawn0 W w') (hn : ∀ W : World, Calls Tryz.prog 95 #[.string s, .int .u8 110] W fun e w' => e = .returned (.bool bn) ∧ Drawn0 W w') (hp : ∀ W : World, Calls Tryz.prog 95 #[.string s, .int .u8 112] W fun e w' => e = .returned (.bool bp) ∧ Drawn0 W w') (ho : ∀ W : World, Calls Tryz.prog 95 #[.string s, .int .u8 111] W fun e w' => e = .returned (.bool bo) ∧ Drawn0 W w')
    (hright : ∀ W : World, Calls Tryz.prog 60 #[.string x.item] W fun e w' => e = .returned (.bool (isRight x.item)) ∧ Drawn0 W w')
    (hp9 : ∀ W : World, Below w.heap.size w W → Calls Tryz.prog 96 #[.slice A9 x.parts.length c9] W fun e w' => e = .returned (.bool (partedOk x.parts)) ∧ Drawn0 W w')
    (ho10 : ∀ W : World, Below w.heap.size w W → Calls Tryz.prog 97 #[.slice A10 x.others.length c10, .string x.item] W fun e w' => e = .returned (.bool (othersOk x.others x.item)) ∧ Drawn0 W w') :
    Calls Tryz.prog 37 #[.agg #[.int .u8 x.kind, .int .i64 x.req, .string x.item, .int .i64 x.qty, .int .i64 x.day, .int .i64 x.days, .int .i64 x.rank, .int .i64 x.lot, .int .i64 x.line, .slice A9 x.parts.length c9, .slice A10 x.others.length c10]] w fun e w' => e = .returned (.bool (!rb2 kn x && !rb4 bi x && !rbA bq x.qty 1073741824 && !rbB bd x.day 4000 && !rbA bl x.days 2000 && !rbB br x.rank 99 && !(rbC bt x.lot || rbC bn x.line) && !rb16 bp x && rb18 bo x)) ∧ Below w.heap.size w w' := by
  have HF := Aside0.mk hf
  have Hi := Aside0.mk hi
  have Hq := Aside0.mk hq
  have Hd := Aside0.mk hd
  have Hl := Aside0.mk hl
  have Hr := Aside0.mk hr
  have Ht := Aside0.mk ht
  have Hn := Aside0.mk hn
  have Hp := Aside0.mk hp
  have Ho := Aside0.mk ho
  have HR := Aside0.mk hright
  have HP := Aside0.mk hp9
  have HO := Aside0.mk ho10
  clear hf hi hq hd hl hr ht hn hp ho hright hp9 ho10
  go_enter Tryz.func37, Tryz.ntmps37
  go_wp2_with fail
  refine (HF.out _).mono ?_
  rintro e w' ⟨rfl, ⟨nd0, rfl⟩⟩
  go_upto_region 2 with (fail)
  go_cut [22] (fun v22 wc => v22 = .bool (rb2 kn x) ∧ Drawn0 (w.alloc (.cells #[.int .u8 x.kind, .int .i64 x.req, .string x.item, .int .i64 x.qty, .int .i64 x.day, .int .i64 x.days, .int .i64 x.rank, .int .i64 x.lot, .int .i64 x.line, .slice A9 x.parts.length c9, .slice A10 x.others.length c10] 38)) wc)
  case first => as_aux_lemma =>
    cases kn with
    | false =>
      go_wp2
      go_meet
      case rel => first | exact ⟨congrArg Value.bool (by simp [rb2]), ⟨_, rfl⟩⟩ | exact ⟨congrArg Value.bool (by simp [rb2]), ⟨_, World.drewN_drewN _ _ _⟩⟩
    | true =>
      cases f1 : decide (x.req < 0) with
      | true =>
        go_wp2
        go_meet
        case rel => first | exact ⟨congrArg Value.bool (by simp [rb2, f1]), ⟨_, rfl⟩⟩ | exact ⟨congrArg Value.bool (by simp [rb2, f1]), ⟨_, World.drewN_drewN _ _ _⟩⟩
      | false =>
        cases f2 : decide (4611686018427387904 < x.req) with
        | true =>
          go_wp2
          go_meet
          case rel => first | exact ⟨congrArg Value.bool (by simp [rb2, f1, f2]), ⟨_, rfl⟩⟩ | exact ⟨congrArg Value.bool (by simp [rb2, f1, f2]), ⟨_, World.drewN_drewN _ _ _⟩⟩
        | false =>
          go_wp2
          go_meet
          case rel => first | exact ⟨congrArg Value.bool (by simp [rb2, f1, f2]), ⟨_, rfl⟩⟩ | exact ⟨congrArg Value.bool (by simp [rb2, f1, f2]), ⟨_, World.drewN_drewN _ _ _⟩⟩
  case rest =>
    obtain ⟨rfl, ⟨nd2, rfl⟩⟩ := hcut
    cases hB2 : (rb2 kn x) with
    | true =>
      go_wp2
      go_ret
      exact ⟨congrArg (fun b => Ending.returned (Value.bool b)) (by rw [hB2]; simp), (drawn_below1 ⟨_, rfl⟩)⟩
    | false =>
      go_upto_region 4 with (fail)
      go_cut [39] (fun v39 wc => v39 = .bool (rb4 bi x) ∧ Drawn0 (w.alloc (.cells #[.int .u8 x.kind, .int .i64 x.req, .string x.item, .int .i64 x.qty, .int .i64 x.day, .int .i64 x.days, .int .i64 x.rank, .int .i64 x.lot, .int .i64 x.line, .slice A9 x.parts.length c9, .slice A10 x.others.length c10] 38)) wc)
      case first => as_aux_lemma =>
        cases bi with
        | true =>
          cases f1 : x.item.toList.isEmpty with
          | true =>
            have f2 : (!x.item.toList.isEmpty) = false := by rw [f1]; rfl
            go_wp2
            go_quiet (first | (go_at_call 95; (with_reducible refine (Hi.out _).mono ?_); rintro e w' ⟨rfl, ⟨nd, rfl⟩⟩; (first | exact ⟨rfl, _, World.drewN_drewN _ _ _⟩ | exact ⟨rfl, _, (World.drewN_drewN _ _ _).trans (congrArg _ (Nat.add_assoc _ _ _))⟩)) | (go_at_call 60; (with_reducible refine (HR.out _).mono ?_); rintro e w' ⟨rfl, ⟨nd, rfl⟩⟩; (first | exact ⟨rfl, _, World.drewN_drewN _ _ _⟩ | exact ⟨rfl, _, (World.drewN_drewN _ _ _).trans (congrArg _ (Nat.add_assoc _ _ _))⟩)))
            go_wp2
            go_meet
            case rel => first | exact ⟨congrArg Value.bool (by simp [rb4, f1]), ⟨_, rfl⟩⟩ | exact ⟨congrArg Value.bool (by simp [rb4, f1]), ⟨_, World.drewN_drewN _ _ _⟩⟩
          | false =>
            have f2 : (!x.item.toList.isEmpty) = true := by rw [f1]; rfl
            cases f3 : isRight x.item with
            | true =>
              rw [f3] at HR
              go_wp2
              go_quiet (first | (go_at_call 95; (with_reducible refine (Hi.out _).mono ?_); rintro e w' ⟨rfl, ⟨nd, rfl⟩⟩; (first | exact ⟨rfl, _, World.drewN_drewN _ _ _⟩ | exact ⟨rfl, _, (World.drewN_drewN _ _ _).trans (congrArg _ (Nat.add_assoc _ _ _))⟩)) | (go_at_call 60; (with_reducible refine (HR.out _).mono ?_); rintro e w' ⟨rfl, ⟨nd, rfl⟩⟩; (first | exact ⟨rfl, _, World.drewN_drewN _ _ _⟩ | exact ⟨rfl, _, (World.drewN_drewN _ _ _).trans (congrArg _ (Nat.add_assoc _ _ _))⟩)))
              go_wp2
              go_meet
              case rel => first | exact ⟨congrArg Value.bool (by simp [rb4, f1, f3]), ⟨_, rfl⟩⟩ | exact ⟨congrArg Value.bool (by simp [rb4, f1, f3]), ⟨_, World.drewN_drewN _ _ _⟩⟩
            | false =>
              rw [f3] at HR
              go_wp2
              go_quiet (first | (go_at_call 95; (with_reducible refine (Hi.out _).mono ?_); rintro e w' ⟨rfl, ⟨nd, rfl⟩⟩; (first | exact ⟨rfl, _, World.drewN_drewN _ _ _⟩ | exact ⟨rfl, _, (World.drewN_drewN _ _ _).trans (congrArg _ (Nat.add_assoc _ _ _))⟩)) | (go_at_call 60; (with_reducible refine (HR.out _).mono ?_); rintro e w' ⟨rfl, ⟨nd, rfl⟩⟩; (first | exact ⟨rfl, _, World.drewN_drewN _ _ _⟩ | exact ⟨rfl, _, (World.drewN_drewN _ _ _).trans (congrArg _ (Nat.add_assoc _ _ _))⟩)))
              go_wp2
              go_meet
              case rel => first | exact ⟨congrArg Value.bool (by simp [rb4, f1, f3]), ⟨_, rfl⟩⟩ | exact ⟨congrArg Value.bool (by simp [rb4, f1, f3]), ⟨_, World.drewN_drewN _ _ _⟩⟩
        | false =>
          cases f1 : x.item.toList.isEmpty with
          | true =>
            have f2 : (!x.item.toList.isEmpty) = false := by rw [f1]; rfl
            go_wp2
            go_quiet (first | (go_at_call 95; (with_reducible refine (Hi.out _).mono ?_); rintro e w' ⟨rfl, ⟨nd, rfl⟩⟩; (first | exact ⟨rfl, _, World.drewN_drewN _ _ _⟩ | exact ⟨rfl, _, (World.drewN_drewN _ _ _).trans (congrArg _ (Nat.add_assoc _ _ _))⟩)) | (go_at_call 60; (with_reducible refine (HR.out _).mono ?_); rintro e w' ⟨rfl, ⟨nd, rfl⟩⟩; (first | exact ⟨rfl, _, World.drewN_drewN _ _ _⟩ | exact ⟨rfl, _, (World.drewN_drewN _ _ _).trans (congrArg _ (Nat.add_assoc _ _ _))⟩)))
            go_wp2
            go_meet
            case rel => first | exact ⟨congrArg Value.bool (by simp [rb4, f1]), ⟨_, rfl⟩⟩ | exact ⟨congrArg Value.bool (by simp [rb4, f1]), ⟨_, World.drewN_drewN _ _ _⟩⟩
          | false =>
            have f2 : (!x.item.toList.isEmpty) = true := by rw [f1]; rfl
            go_wp2
            go_quiet (first | (go_at_call 95; (with_reducible refine (Hi.out _).mono ?_); rintro e w' ⟨rfl, ⟨nd, rfl⟩⟩; (first | exact ⟨rfl, _, World.drewN_drewN _ _ _⟩ | exact ⟨rfl, _, (World.drewN_drewN _ _ _).trans (congrArg _ (Nat.add_assoc _ _ _))⟩)) | (go_at_call 60; (with_reducible refine (HR.out _).mono ?_); rintro e w' ⟨rfl, ⟨nd, rfl⟩⟩; (first | exact ⟨rfl, _, World.drewN_drewN _ _ _⟩ | exact ⟨rfl, _, (World.drewN_drewN _ _ _).trans (congrArg _ (Nat.add_assoc _ _ _))⟩)))
            go_wp2
            go_meet
            case rel => first | exact ⟨congrArg Value.bool (by simp [rb4, f1]), ⟨_, rfl⟩⟩ | exact ⟨congrArg Value.bool (by simp [rb4, f1]), ⟨_, World.drewN_drewN _ _ _⟩⟩
      case rest =>
        obtain ⟨rfl, ⟨nd4, rfl⟩⟩ := hcut
        cases hB4 : (rb4 bi x) with
        | true =>
          go_wp2
          go_ret
          exact ⟨congrArg (fun b => Ending.returned (Value.bool b)) (by rw [hB4]; simp), (drawn_below1 ⟨_, rfl⟩)⟩
        | false =>
          go_upto_region 6 with (fail)
          go_cut [61] (fun v61 wc => v61 = .bool (rbA bq x.qty 1073741824) ∧ Drawn0 (w.alloc (.cells #[.int .u8 x.kind, .int .i64 x.req, .string x.item, .int .i64 x.qty, .int .i64 x.day, .int .i64 x.days, .int .i64 x.rank, .int .i64 x.lot, .int .i64 x.line, .slice A9 x.parts.length c9, .slice A10 x.others.length c10] 38)) wc)
          case first => as_aux_lemma =>
            cases bq with
            | true =>
              by_cases h1 : x.qty < 1
              · have f1 : decide (x.qty < 1) = true := decide_eq_true h1
                go_wp2_with (first | (go_at_call 95; refine (Hq.out _).mono ?_; rintro e w' ⟨rfl, ⟨nd', rfl⟩⟩) | fail)
                go_meet
                case rel => first | exact ⟨congrArg Value.bool (by simp [rbA, f1]), ⟨_, rfl⟩⟩ | exact ⟨congrArg Value.bool (by simp [rbA, f1]), ⟨_, World.drewN_drewN _ _ _⟩⟩
              · have f1 : decide (x.qty < 1) = false := decide_eq_false h1
                cases f2 : decide (1073741824 < x.qty) with
                | true =>
                  go_wp2_with (first | (go_at_call 95; refine (Hq.out _).mono ?_; rintro e w' ⟨rfl, ⟨nd', rfl⟩⟩) | fail)
                  go_meet
                  case rel => first | exact ⟨congrArg Value.bool (by simp [rbA, f1, f2]), ⟨_, rfl⟩⟩ | exact ⟨congrArg Value.bool (by simp [rbA, f1, f2]), ⟨_, World.drewN_drewN _ _ _⟩⟩
                | false =>
                  go_wp2_with (first | (go_at_call 95; refine (Hq.out _).mono ?_; rintro e w' ⟨rfl, ⟨nd', rfl⟩⟩) | fail)
                  go_meet
                  case rel => first | exact ⟨congrArg Value.bool (by simp [rbA, f1, f2]), ⟨_, rfl⟩⟩ | exact ⟨congrArg Value.bool (by simp [rbA, f1, f2]), ⟨_, World.drewN_drewN _ _ _⟩⟩
            | false =>
              cases f3 : (x.qty == 0) with
              | true =>
                have f4 : (x.qty != 0) = false := by rw [bne, f3]; rfl
                go_wp2_with (first | (go_at_call 95; refine (Hq.out _).mono ?_; rintro e w' ⟨rfl, ⟨nd', rfl⟩⟩) | fail)
                go_meet
                case rel => first | exact ⟨congrArg Value.bool (by simp [rbA, f4]), ⟨_, rfl⟩⟩ | exact ⟨congrArg Value.bool (by simp [rbA, f4]), ⟨_, World.drewN_drewN _ _ _⟩⟩
              | false =>
                have f4 : (x.qty != 0) = true := by rw [bne, f3]; rfl
                go_wp2_with (first | (go_at_call 95; refine (Hq.out _).mono ?_; rintro e w' ⟨rfl, ⟨nd', rfl⟩⟩) | fail)
                go_meet
                case rel => first | exact ⟨congrArg Value.bool (by simp [rbA, f4]), ⟨_, rfl⟩⟩ | exact ⟨congrArg Value.bool (by simp [rbA, f4]), ⟨_, World.drewN_drewN _ _ _⟩⟩
          case rest =>
            obtain ⟨rfl, ⟨nd6, rfl⟩⟩ := hcut
            cases hB6 : (rbA bq x.qty 1073741824) with
            | true =>
              go_wp2
              go_ret
              exact ⟨congrArg (fun b => Ending.returned (Value.bool b)) (by rw [hB6]; simp), (drawn_below1 ⟨_, rfl⟩)⟩
            | false =>
              go_upto_region 8 with (fail)
              go_cut [79] (fun v79 wc => v79 = .bool (rbB bd x.day 4000) ∧ Drawn0 (w.alloc (.cells #[.int .u8 x.kind, .int .i64 x.req, .string x.item, .int .i64 x.qty, .int .i64 x.day, .int .i64 x.days, .int .i64 x.rank, .int .i64 x.lot, .int .i64 x.line, .slice A9 x.parts.length c9, .slice A10 x.others.length c10] 38)) wc)
              case first => as_aux_lemma =>
                cases f1 : decide (x.day < 0) with
                | true =>
                  go_wp2_with (first | (go_at_call 95; refine (Hd.out _).mono ?_; rintro e w' ⟨rfl, ⟨nd', rfl⟩⟩) | fail)
                  go_meet
                  case rel => first | exact ⟨congrArg Value.bool (by simp [rbB, f1]), ⟨_, rfl⟩⟩ | exact ⟨congrArg Value.bool (by simp [rbB, f1]), ⟨_, World.drewN_drewN _ _ _⟩⟩
                | false =>
                  cases f2 : decide (4000 < x.day) with
                  | true =>
                    go_wp2_with (first | (go_at_call 95; refine (Hd.out _).mono ?_; rintro e w' ⟨rfl, ⟨nd', rfl⟩⟩) | fail)
                    go_meet
                    case rel => first | exact ⟨congrArg Value.bool (by simp [rbB, f1, f2]), ⟨_, rfl⟩⟩ | exact ⟨congrArg Value.bool (by simp [rbB, f1, f2]), ⟨_, World.drewN_drewN _ _ _⟩⟩
                  | false =>
                    cases bd with
                    | true =>
                      go_wp2_with (first | (go_at_call 95; refine (Hd.out _).mono ?_; rintro e w' ⟨rfl, ⟨nd', rfl⟩⟩) | fail)
                      go_meet
                      case rel => first | exact ⟨congrArg Value.bool (by simp [rbB, f1, f2]), ⟨_, rfl⟩⟩ | exact ⟨congrArg Value.bool (by simp [rbB, f1, f2]), ⟨_, World.drewN_drewN _ _ _⟩⟩
                    | false =>
                      cases f3 : (x.day == 0) with
                      | true =>
                        have f4 : (x.day != 0) = false := by rw [bne, f3]; rfl
                        go_wp2_with (first | (go_at_call 95; refine (Hd.out _).mono ?_; rintro e w' ⟨rfl, ⟨nd', rfl⟩⟩) | fail)
                        go_meet
                        case rel => first | exact ⟨congrArg Value.bool (by simp [rbB, f1, f2, f4]), ⟨_, rfl⟩⟩ | exact ⟨congrArg Value.bool (by simp [rbB, f1, f2, f4]), ⟨_, World.drewN_drewN _ _ _⟩⟩
                      | false =>
                        have f4 : (x.day != 0) = true := by rw [bne, f3]; rfl
                        go_wp2_with (first | (go_at_call 95; refine (Hd.out _).mono ?_; rintro e w' ⟨rfl, ⟨nd', rfl⟩⟩) | fail)
                        go_meet
                        case rel => first | exact ⟨congrArg Value.bool (by simp [rbB, f1, f2, f4]), ⟨_, rfl⟩⟩ | exact ⟨congrArg Value.bool (by simp [rbB, f1, f2, f4]), ⟨_, World.drewN_drewN _ _ _⟩⟩
              case rest =>
                obtain ⟨rfl, ⟨nd8, rfl⟩⟩ := hcut
                cases hB8 : (rbB bd x.day 4000) with
                | true =>
                  go_wp2
                  go_ret
                  exact ⟨congrArg (fun b => Ending.returned (Value.bool b)) (by rw [hB8]; simp), (drawn_below1 ⟨_, rfl⟩)⟩
                | false =>
                  go_upto_region 10 with (fail)
                  go_cut [101] (fun v101 wc => v101 = .bool (rbA bl x.days 2000) ∧ Drawn0 (w.alloc (.cells #[.int .u8 x.kind, .int .i64 x.req, .string x.item, .int .i64 x.qty, .int .i64 x.day, .int .i64 x.days, .int .i64 x.rank, .int .i64 x.lot, .int .i64 x.line, .slice A9 x.parts.length c9, .slice A10 x.others.length c10] 38)) wc)
                  case first => as_aux_lemma =>
                    cases bl with
                    | true =>
                      by_cases h1 : x.days < 1
                      · have f1 : decide (x.days < 1) = true := decide_eq_true h1
                        go_wp2_with (first | (go_at_call 95; refine (Hl.out _).mono ?_; rintro e w' ⟨rfl, ⟨nd', rfl⟩⟩) | fail)
                        go_meet
                        case rel => first | exact ⟨congrArg Value.bool (by simp [rbA, f1]), ⟨_, rfl⟩⟩ | exact ⟨congrArg Value.bool (by simp [rbA, f1]), ⟨_, World.drewN_drewN _ _ _⟩⟩
                      · have f1 : decide (x.days < 1) = false := decide_eq_false h1
                        cases f2 : decide (2000 < x.days) with
                        | true =>
                          go_wp2_with (first | (go_at_call 95; refine (Hl.out _).mono ?_; rintro e w' ⟨rfl, ⟨nd', rfl⟩⟩) | fail)
                          go_meet
                          case rel => first | exact ⟨congrArg Value.bool (by simp [rbA, f1, f2]), ⟨_, rfl⟩⟩ | exact ⟨congrArg Value.bool (by simp [rbA, f1, f2]), ⟨_, World.drewN_drewN _ _ _⟩⟩
                        | false =>
                          go_wp2_with (first | (go_at_call 95; refine (Hl.out _).mono ?_; rintro e w' ⟨rfl, ⟨nd', rfl⟩⟩) | fail)
                          go_meet
                          case rel => first | exact ⟨congrArg Value.bool (by simp [rbA, f1, f2]), ⟨_, rfl⟩⟩ | exact ⟨congrArg Value.bool (by simp [rbA, f1, f2]), ⟨_, World.drewN_drewN _ _ _⟩⟩
                    | false =>
                      cases f3 : (x.days == 0) with
                      | true =>
                        have f4 : (x.days != 0) = false := by rw [bne, f3]; rfl
                        go_wp2_with (first | (go_at_call 95; refine (Hl.out _).mono ?_; rintro e w' ⟨rfl, ⟨nd', rfl⟩⟩) | fail)
                        go_meet
                        case rel => first | exact ⟨congrArg Value.bool (by simp [rbA, f4]), ⟨_, rfl⟩⟩ | exact ⟨congrArg Value.bool (by simp [rbA, f4]), ⟨_, World.drewN_drewN _ _ _⟩⟩
                      | false =>
                        have f4 : (x.days != 0) = true := by rw [bne, f3]; rfl
                        go_wp2_with (first | (go_at_call 95; refine (Hl.out _).mono ?_; rintro e w' ⟨rfl, ⟨nd', rfl⟩⟩) | fail)
                        go_meet
                        case rel => first | exact ⟨congrArg Value.bool (by simp [rbA, f4]), ⟨_, rfl⟩⟩ | exact ⟨congrArg Value.bool (by simp [rbA, f4]), ⟨_, World.drewN_drewN _ _ _⟩⟩
                  case rest =>
                    obtain ⟨rfl, ⟨nd10, rfl⟩⟩ := hcut
                    cases hB10 : (rbA bl x.days 2000) with
                    | true =>
                      go_wp2
                      go_ret
                      exact ⟨congrArg (fun b => Ending.returned (Value.bool b)) (by rw [hB10]; simp), (drawn_below1 ⟨_, rfl⟩)⟩
                    | false =>
                      go_upto_region 12 with (fail)
                      go_cut [119] (fun v119 wc => v119 = .bool (rbB br x.rank 99) ∧ Drawn0 (w.alloc (.cells #[.int .u8 x.kind, .int .i64 x.req, .string x.item, .int .i64 x.qty, .int .i64 x.day, .int .i64 x.days, .int .i64 x.rank, .int .i64 x.lot, .int .i64 x.line, .slice A9 x.parts.length c9, .slice A10 x.others.length c10] 38)) wc)
                      case first => as_aux_lemma =>
                        cases f1 : decide (x.rank < 0) with
                        | true =>
                          go_wp2_with (first | (go_at_call 95; refine (Hr.out _).mono ?_; rintro e w' ⟨rfl, ⟨nd', rfl⟩⟩) | fail)
                          go_meet
                          case rel => first | exact ⟨congrArg Value.bool (by simp [rbB, f1]), ⟨_, rfl⟩⟩ | exact ⟨congrArg Value.bool (by simp [rbB, f1]), ⟨_, World.drewN_drewN _ _ _⟩⟩
                        | false =>
                          cases f2 : decide (99 < x.rank) with
                          | true =>
                            go_wp2_with (first | (go_at_call 95; refine (Hr.out _).mono ?_; rintro e w' ⟨rfl, ⟨nd', rfl⟩⟩) | fail)
                            go_meet
                            case rel => first | exact ⟨congrArg Value.bool (by simp [rbB, f1, f2]), ⟨_, rfl⟩⟩ | exact ⟨congrArg Value.bool (by simp [rbB, f1, f2]), ⟨_, World.drewN_drewN _ _ _⟩⟩
                          | false =>
                            cases br with
                            | true =>
                              go_wp2_with (first | (go_at_call 95; refine (Hr.out _).mono ?_; rintro e w' ⟨rfl, ⟨nd', rfl⟩⟩) | fail)
                              go_meet
                              case rel => first | exact ⟨congrArg Value.bool (by simp [rbB, f1, f2]), ⟨_, rfl⟩⟩ | exact ⟨congrArg Value.bool (by simp [rbB, f1, f2]), ⟨_, World.drewN_drewN _ _ _⟩⟩
                            | false =>
                              cases f3 : (x.rank == 0) with
                              | true =>
                                have f4 : (x.rank != 0) = false := by rw [bne, f3]; rfl
                                go_wp2_with (first | (go_at_call 95; refine (Hr.out _).mono ?_; rintro e w' ⟨rfl, ⟨nd', rfl⟩⟩) | fail)
                                go_meet
                                case rel => first | exact ⟨congrArg Value.bool (by simp [rbB, f1, f2, f4]), ⟨_, rfl⟩⟩ | exact ⟨congrArg Value.bool (by simp [rbB, f1, f2, f4]), ⟨_, World.drewN_drewN _ _ _⟩⟩
                              | false =>
                                have f4 : (x.rank != 0) = true := by rw [bne, f3]; rfl
                                go_wp2_with (first | (go_at_call 95; refine (Hr.out _).mono ?_; rintro e w' ⟨rfl, ⟨nd', rfl⟩⟩) | fail)
                                go_meet
                                case rel => first | exact ⟨congrArg Value.bool (by simp [rbB, f1, f2, f4]), ⟨_, rfl⟩⟩ | exact ⟨congrArg Value.bool (by simp [rbB, f1, f2, f4]), ⟨_, World.drewN_drewN _ _ _⟩⟩
                      case rest =>
                        obtain ⟨rfl, ⟨nd12, rfl⟩⟩ := hcut
                        cases hB12 : (rbB br x.rank 99) with
                        | true =>
                          go_wp2
                          go_ret
                          exact ⟨congrArg (fun b => Ending.returned (Value.bool b)) (by rw [hB12]; simp), (drawn_below1 ⟨_, rfl⟩)⟩
                        | false =>
                          go_upto_region 14 with (fail)
                          go_cut [155] (fun v155 wc => v155 = .bool (rbC bt x.lot || rbC bn x.line) ∧ Drawn0 (w.alloc (.cells #[.int .u8 x.kind, .int .i64 x.req, .string x.item, .int .i64 x.qty, .int .i64 x.day, .int .i64 x.days, .int .i64 x.rank, .int .i64 x.lot, .int .i64 x.line, .slice A9 x.parts.length c9, .slice A10 x.others.length c10] 38)) wc)
                          case first => as_aux_lemma =>
                            cases bt with
                            | true =>
                              cases gt : decide (x.lot < 1) with
                              | true =>
                                go_wp2_with (first | (go_at_call 95; (first | (with_reducible refine (Ht.out _).mono ?_) | (with_reducible refine (Hn.out _).mono ?_)); rintro e w' ⟨rfl, ⟨nd', rfl⟩⟩) | fail)
                                go_meet
                                case rel => first | exact ⟨congrArg Value.bool (by simp [rbC, gt]), ⟨_, rfl⟩⟩ | exact ⟨congrArg Value.bool (by simp [rbC, gt]), ⟨_, World.drewN_drewN _ _ _⟩⟩
                              | false =>
                                cases bn with
                                | true =>
                                  cases gn : decide (x.line < 1) with
                                  | true =>
                                    go_wp2_with (first | (go_at_call 95; (first | (with_reducible refine (Ht.out _).mono ?_) | (with_reducible refine (Hn.out _).mono ?_)); rintro e w' ⟨rfl, ⟨nd', rfl⟩⟩) | fail)
                                    go_meet
                                    case rel => first | exact ⟨congrArg Value.bool (by simp [rbC, gt, gn]), ⟨_, rfl⟩⟩ | exact ⟨congrArg Value.bool (by simp [rbC, gt, gn]), ⟨_, World.drewN_drewN _ _ _⟩⟩
                                  | false =>
                                    go_wp2_with (first | (go_at_call 95; (first | (with_reducible refine (Ht.out _).mono ?_) | (with_reducible refine (Hn.out _).mono ?_)); rintro e w' ⟨rfl, ⟨nd', rfl⟩⟩) | fail)
                                    go_meet
                                    case rel => first | exact ⟨congrArg Value.bool (by simp [rbC, gt, gn]), ⟨_, rfl⟩⟩ | exact ⟨congrArg Value.bool (by simp [rbC, gt, gn]), ⟨_, World.drewN_drewN _ _ _⟩⟩
                                | false =>
                                  cases kn : (x.line == 0) with
                                  | true =>
                                    have gn : (x.line != 0) = false := by rw [bne, kn]; rfl
                                    go_wp2_with (first | (go_at_call 95; (first | (with_reducible refine (Ht.out _).mono ?_) | (with_reducible refine (Hn.out _).mono ?_)); rintro e w' ⟨rfl, ⟨nd', rfl⟩⟩) | fail)
                                    go_meet
                                    case rel => first | exact ⟨congrArg Value.bool (by simp [rbC, gt, gn]), ⟨_, rfl⟩⟩ | exact ⟨congrArg Value.bool (by simp [rbC, gt, gn]), ⟨_, World.drewN_drewN _ _ _⟩⟩
                                  | false =>
                                    have gn : (x.line != 0) = true := by rw [bne, kn]; rfl
                                    go_wp2_with (first | (go_at_call 95; (first | (with_reducible refine (Ht.out _).mono ?_) | (with_reducible refine (Hn.out _).mono ?_)); rintro e w' ⟨rfl, ⟨nd', rfl⟩⟩) | fail)
                                    go_meet
                                    case rel => first | exact ⟨congrArg Value.bool (by simp [rbC, gt, gn]), ⟨_, rfl⟩⟩ | exact ⟨congrArg Value.bool (by simp [rbC, gt, gn]), ⟨_, World.drewN_drewN _ _ _⟩⟩
                            | false =>
                              cases kt : (x.lot == 0) with
                              | true =>
                                have gt : (x.lot != 0) = false := by rw [bne, kt]; rfl
                                cases bn with
                                | true =>
                                  cases gn : decide (x.line < 1) with
                                  | true =>
                                    go_wp2_with (first | (go_at_call 95; (first | (with_reducible refine (Ht.out _).mono ?_) | (with_reducible refine (Hn.out _).mono ?_)); rintro e w' ⟨rfl, ⟨nd', rfl⟩⟩) | fail)
                                    go_meet
                                    case rel => first | exact ⟨congrArg Value.bool (by simp [rbC, gt, gn]), ⟨_, rfl⟩⟩ | exact ⟨congrArg Value.bool (by simp [rbC, gt, gn]), ⟨_, World.drewN_drewN _ _ _⟩⟩
                                  | false =>
                                    go_wp2_with (first | (go_at_call 95; (first | (with_reducible refine (Ht.out _).mono ?_) | (with_reducible refine (Hn.out _).mono ?_)); rintro e w' ⟨rfl, ⟨nd', rfl⟩⟩) | fail)
                                    go_meet
                                    case rel => first | exact ⟨congrArg Value.bool (by simp [rbC, gt, gn]), ⟨_, rfl⟩⟩ | exact ⟨congrArg Value.bool (by simp [rbC, gt, gn]), ⟨_, World.drewN_drewN _ _ _⟩⟩
                                | false =>
                                  cases kn : (x.line == 0) with
                                  | true =>
                                    have gn : (x.line != 0) = false := by rw [bne, kn]; rfl
                                    go_wp2_with (first | (go_at_call 95; (first | (with_reducible refine (Ht.out _).mono ?_) | (with_reducible refine (Hn.out _).mono ?_)); rintro e w' ⟨rfl, ⟨nd', rfl⟩⟩) | fail)
                                    go_meet
                                    case rel => first | exact ⟨congrArg Value.bool (by simp [rbC, gt, gn]), ⟨_, rfl⟩⟩ | exact ⟨congrArg Value.bool (by simp [rbC, gt, gn]), ⟨_, World.drewN_drewN _ _ _⟩⟩
                                  | false =>
                                    have gn : (x.line != 0) = true := by rw [bne, kn]; rfl
                                    go_wp2_with (first | (go_at_call 95; (first | (with_reducible refine (Ht.out _).mono ?_) | (with_reducible refine (Hn.out _).mono ?_)); rintro e w' ⟨rfl, ⟨nd', rfl⟩⟩) | fail)
                                    go_meet
                                    case rel => first | exact ⟨congrArg Value.bool (by simp [rbC, gt, gn]), ⟨_, rfl⟩⟩ | exact ⟨congrArg Value.bool (by simp [rbC, gt, gn]), ⟨_, World.drewN_drewN _ _ _⟩⟩
                              | false =>
                                have gt : (x.lot != 0) = true := by rw [bne, kt]; rfl
                                go_wp2_with (first | (go_at_call 95; (first | (with_reducible refine (Ht.out _).mono ?_) | (with_reducible refine (Hn.out _).mono ?_)); rintro e w' ⟨rfl, ⟨nd', rfl⟩⟩) | fail)
                                go_meet
                                case rel => first | exact ⟨congrArg Value.bool (by simp [rbC, gt]), ⟨_, rfl⟩⟩ | exact ⟨congrArg Value.bool (by simp [rbC, gt]), ⟨_, World.drewN_drewN _ _ _⟩⟩
                          case rest =>
                            obtain ⟨rfl, ⟨nd14, rfl⟩⟩ := hcut
                            cases hB14 : (rbC bt x.lot || rbC bn x.line) with
                            | true =>
                              go_wp2
                              go_ret
                              exact ⟨congrArg (fun b => Ending.returned (Value.bool b)) (by rw [hB14]; simp), (drawn_below1 ⟨_, rfl⟩)⟩
                            | false =>
                              go_upto_region 16 with (fail)
                              go_cut [174] (fun v174 wc => v174 = .bool (rb16 bp x) ∧ Drawn0 (w.alloc (.cells #[.int .u8 x.kind, .int .i64 x.req, .string x.item, .int .i64 x.qty, .int .i64 x.day, .int .i64 x.days, .int .i64 x.rank, .int .i64 x.lot, .int .i64 x.line, .slice A9 x.parts.length c9, .slice A10 x.others.length c10] 38)) wc)
                              case first => as_aux_lemma =>
                                cases bp with
                                | true =>
                                  cases f1 : partedOk x.parts with
                                  | true =>
                                    rw [f1] at HP
                                    go_wp2_with (first | (go_at_call 95; refine (Hp.out _).mono ?_; rintro e w' ⟨rfl, ⟨nd', rfl⟩⟩) | (go_at_call 96; refine (HP.out _ (below_d _ _)).mono ?_; rintro e w' ⟨rfl, ⟨nd', rfl⟩⟩) | fail)
                                    go_meet
                                    case rel => first | exact ⟨congrArg Value.bool (by simp [rb16, f1]), ⟨_, rfl⟩⟩ | exact ⟨congrArg Value.bool (by simp [rb16, f1]), ⟨_, World.drewN_drewN _ _ _⟩⟩
                                  | false =>
                                    rw [f1] at HP
                                    go_wp2_with (first | (go_at_call 95; refine (Hp.out _).mono ?_; rintro e w' ⟨rfl, ⟨nd', rfl⟩⟩) | (go_at_call 96; refine (HP.out _ (below_d _ _)).mono ?_; rintro e w' ⟨rfl, ⟨nd', rfl⟩⟩) | fail)
                                    go_meet
                                    case rel => first | exact ⟨congrArg Value.bool (by simp [rb16, f1]), ⟨_, rfl⟩⟩ | exact ⟨congrArg Value.bool (by simp [rb16, f1]), ⟨_, World.drewN_drewN _ _ _⟩⟩
                                | false =>
                                  cases f1 : decide (0 < x.parts.length) with
                                  | true =>
                                    go_wp2_with (first | (go_at_call 95; refine (Hp.out _).mono ?_; rintro e w' ⟨rfl, ⟨nd', rfl⟩⟩) | (go_at_call 96; refine (HP.out _ (below_d _ _)).mono ?_; rintro e w' ⟨rfl, ⟨nd', rfl⟩⟩) | fail)
                                    go_meet
                                    case rel => first | exact ⟨congrArg Value.bool (by simp [rb16, f1]), ⟨_, rfl⟩⟩ | exact ⟨congrArg Value.bool (by simp [rb16, f1]), ⟨_, World.drewN_drewN _ _ _⟩⟩
                                  | false =>
                                    go_wp2_with (first | (go_at_call 95; refine (Hp.out _).mono ?_; rintro e w' ⟨rfl, ⟨nd', rfl⟩⟩) | (go_at_call 96; refine (HP.out _ (below_d _ _)).mono ?_; rintro e w' ⟨rfl, ⟨nd', rfl⟩⟩) | fail)
                                    go_meet
                                    case rel => first | exact ⟨congrArg Value.bool (by simp [rb16, f1]), ⟨_, rfl⟩⟩ | exact ⟨congrArg Value.bool (by simp [rb16, f1]), ⟨_, World.drewN_drewN _ _ _⟩⟩
                              case rest =>
                                obtain ⟨rfl, ⟨nd16, rfl⟩⟩ := hcut
                                cases hB16 : (rb16 bp x) with
                                | true =>
                                  go_wp2
                                  go_ret
                                  exact ⟨congrArg (fun b => Ending.returned (Value.bool b)) (by rw [hB16]; simp), (drawn_below1 ⟨_, rfl⟩)⟩
                                | false =>
                                  cases bo with
                                  | true =>
                                    cases f1 : othersOk x.others x.item with
                                    | true =>
                                      rw [f1] at HO
                                      go_wp2_with (first | (go_at_call 95; refine (Ho.out _).mono ?_; rintro e w' ⟨rfl, ⟨nd', rfl⟩⟩) | (go_at_call 97; refine (HO.out _ (below_d _ _)).mono ?_; rintro e w' ⟨rfl, ⟨nd', rfl⟩⟩) | fail)
                                      go_ret
                                      exact ⟨congrArg (fun b => Ending.returned (Value.bool b)) (by rw [hB2, hB4, hB6, hB8, hB10, hB12, hB14, hB16]; simp [rb18, f1]), (drawn_below1 ⟨_, rfl⟩)⟩
                                    | false =>
                                      rw [f1] at HO
                                      go_wp2_with (first | (go_at_call 95; refine (Ho.out _).mono ?_; rintro e w' ⟨rfl, ⟨nd', rfl⟩⟩) | (go_at_call 97; refine (HO.out _ (below_d _ _)).mono ?_; rintro e w' ⟨rfl, ⟨nd', rfl⟩⟩) | fail)
                                      go_ret
                                      exact ⟨congrArg (fun b => Ending.returned (Value.bool b)) (by rw [hB2, hB4, hB6, hB8, hB10, hB12, hB14, hB16]; simp [rb18, f1]), (drawn_below1 ⟨_, rfl⟩)⟩
                                  | false =>
                                    cases f1 : decide (x.others.length = 0) with
                                    | true =>
                                      have f2 : ((x.others.length : Int) == 0) = true := by simpa using f1
                                      go_wp2_with (first | (go_at_call 95; refine (Ho.out _).mono ?_; rintro e w' ⟨rfl, ⟨nd', rfl⟩⟩) | (go_at_call 97; refine (HO.out _ (below_d _ _)).mono ?_; rintro e w' ⟨rfl, ⟨nd', rfl⟩⟩) | fail)
                                      go_ret
                                      have f4 : x.others = [] := by simpa using f1
                                      exact ⟨congrArg (fun b => Ending.returned (Value.bool b)) (by rw [hB2, hB4, hB6, hB8, hB10, hB12, hB14, hB16]; simp [rb18, f4]), (drawn_below1 ⟨_, rfl⟩)⟩
                                    | false =>
                                      have f2 : ((x.others.length : Int) == 0) = false := by simpa using f1
                                      go_wp2_with (first | (go_at_call 95; refine (Ho.out _).mono ?_; rintro e w' ⟨rfl, ⟨nd', rfl⟩⟩) | (go_at_call 97; refine (HO.out _ (below_d _ _)).mono ?_; rintro e w' ⟨rfl, ⟨nd', rfl⟩⟩) | fail)
                                      go_ret
                                      have f4 : ¬ x.others = [] := by simpa using f1
                                      exact ⟨congrArg (fun b => Ending.returned (Value.bool b)) (by rw [hB2, hB4, hB6, hB8, hB10, hB12, hB14, hB16]; simp [rb18, f4]), (drawn_below1 ⟨_, rfl⟩)⟩
end Go.Proofs.YtkpedlhofalnjaaGreatDoor
