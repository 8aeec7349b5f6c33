import Derived.Test.YtcdleippdegibaaDoorNPCx0
import Derived.Test.YtcdleippdegibaaDoorNPCx1
namespace Go.Proofs.YtcdleippdegibaaDoor.PC
open Go.RowKit Go.Proofs.YtcdleippdegibaaDoorW.PrintWords Go.Proofs.YtcdleippdegibaaDoorW.PrintLast Go.Proofs.YtcdleippdegibaaDoorW.PrintMore
open Go.Proofs.YtcdleippdegibaaDoor.LibG (SH SH.below SH.drewN SH.drew SH.alloc)
open Go.Proofs.YtcdleippdegibaaDoor.PK
attribute [local go_sem] max2_int min2_int max_two min_two max_three min_three max_four min_four
set_option linter.unusedVariables false
set_option linter.unusedSimpArgs false
mutual
def ctok_Float.j0 : Nat → Int → Int → ByteArray → Option (Bool)
  | 0, _, _, _ => none
  | k + 1, x3, x4, x5 => (Go.Proofs.YtcdleippdegibaaDoor.Digits.ctok_run.f x5 x3).bind fun t104 => (if t104 < (x5.size : Int) then (if 0 ≤ t104 then (ctok_Float.j1 k x3 x4 x5 t104 ((bt x5 t104) == 46)) else (none)) else (ctok_Float.j1 k x3 x4 x5 t104 false))
def ctok_Float.j1 : Nat → Int → Int → ByteArray → Int → Bool → Option (Bool)
  | 0, _, _, _, _, _ => none
  | k + 1, x3, x4, x5, x6, x7 => if 0 ≤ x6 then (if x6 ≤ (x5.size : Int) then (if x7 = true then (if 1 ≤ ((x5.extract (x6 : Int).toNat x5.size).size : Int) then ((Go.Proofs.YtcdleippdegibaaDoor.Digits.ctok_run.f ((x5.extract (x6 : Int).toNat x5.size).extract 1 (x5.extract (x6 : Int).toNat x5.size).size) x3).bind fun t105 => (if 0 ≤ (wrap64 (1 + t105)) then (if (wrap64 (1 + t105)) ≤ ((x5.extract (x6 : Int).toNat x5.size).size : Int) then (ctok_Float.j2 k x3 x4 ((x5.extract (x6 : Int).toNat x5.size).extract ((wrap64 (1 + t105)) : Int).toNat (x5.extract (x6 : Int).toNat x5.size).size) (wrap64 (x6 + t105)) x7) else (none)) else (none))) else (none)) else (ctok_Float.j2 k x3 x4 (x5.extract (x6 : Int).toNat x5.size) x6 x7)) else (none)) else (none)
def ctok_Float.j2 : Nat → Int → Int → ByteArray → Int → Bool → Option (Bool)
  | 0, _, _, _, _, _ => none
  | k + 1, x3, x4, x5, x6, x7 => (ctok_exponent.f k x5 x4).bind fun t106 => (if x6 = 0 then (ctok_Float.j3 k x5 t106 true) else (if t106 = 0 then (if x7 = true then (ctok_Float.j3 k x5 t106 (x3 == 16)) else (ctok_Float.j3 k x5 t106 true)) else (ctok_Float.j3 k x5 t106 false)))
def ctok_Float.j3 : Nat → ByteArray → Int → Bool → Option (Bool)
  | 0, _, _, _ => none
  | k + 1, x5, x9, x59 => if x59 = true then (some false) else (if 0 ≤ x9 then (if x9 ≤ (x5.size : Int) then (if (x5.extract (x9 : Int).toNat x5.size).toList = ([] : List UInt8) then (some true) else (if (x5.extract (x9 : Int).toNat x5.size).toList = ([102] : List UInt8) then (some true) else (if (x5.extract (x9 : Int).toNat x5.size).toList = ([70] : List UInt8) then (some true) else (if (x5.extract (x9 : Int).toNat x5.size).toList = ([108] : List UInt8) then (some true) else (if (x5.extract (x9 : Int).toNat x5.size).toList = ([76] : List UInt8) then (some true) else (some false)))))) else (none)) else (none))
end
def ctok_Float.f (k : Nat) (a0 : ByteArray) : Option (Bool) := (Go.Proofs.YtcdleippdegibaaDoor.PB.ctok_hexed.f a0).bind fun t103 => (if t103 = true then (if 2 ≤ (a0.size : Int) then (ctok_Float.j0 k 16 112 (a0.extract 2 a0.size)) else (none)) else (ctok_Float.j0 k 10 101 a0))
set_option maxHeartbeats 8000000 in
set_option maxRecDepth 100000 in
theorem ctok_Float.calls (k : Nat) (a0 : ByteArray) (r : Bool) (w : World) (h : ctok_Float.f k a0 = some r) :
    Calls Tryd.prog 15 #[.string a0] w fun e w' => e = .returned (.bool r) ∧ Below w.heap.size w w' := by
  have HB := Aside0.mk (Below.refl w.heap.size w)
  have H : ((Go.Proofs.YtcdleippdegibaaDoor.PB.ctok_hexed.f a0).bind fun t103 => (if t103 = true then (if 2 ≤ (a0.size : Int) then (ctok_Float.j0 k 16 112 (a0.extract 2 a0.size)) else (none)) else (ctok_Float.j0 k 10 101 a0))) = some r := h
  clear h
  replace H := Option.bind_eq_some_iff.mp H
  obtain ⟨t103, A20, H⟩ := H
  replace H : (if t103 = true then (if 2 ≤ (a0.size : Int) then (ctok_Float.j0 k 16 112 (a0.extract 2 a0.size)) else (none)) else (ctok_Float.j0 k 10 101 a0)) = some r := H
  have A2 := Aside0.mk A20
  clear A20
  have HC3 := Aside0.mk H
  clear H
  go_enter Tryd.func15, Tryd.ntmps15
  go_upto_if 12 with (first | (go_at_call 31; (with_reducible refine (Go.Proofs.YtcdleippdegibaaDoor.PB.ctok_hexed.calls a0 t103 _ A2.out).mono ?_); rintro e w' ⟨rfl, ⟨nd, rfl⟩⟩; (try first | exact ⟨rfl, _, World.drewN_drewN _ _ _⟩ | exact ⟨rfl, _, Eq.trans (World.drewN_drewN _ _ _) (congrArg (World.drewN _) (Nat.add_assoc _ _ _))⟩)))
  repeat (go_quiet (first | (go_at_call 31; (with_reducible refine (Go.Proofs.YtcdleippdegibaaDoor.PB.ctok_hexed.calls a0 t103 _ A2.out).mono ?_); rintro e w' ⟨rfl, ⟨nd, rfl⟩⟩; (try first | exact ⟨rfl, _, World.drewN_drewN _ _ _⟩ | exact ⟨rfl, _, Eq.trans (World.drewN_drewN _ _ _) (congrArg (World.drewN _) (Nat.add_assoc _ _ _))⟩))); go_upto_if 12 with (first | (go_at_call 31; (with_reducible refine (Go.Proofs.YtcdleippdegibaaDoor.PB.ctok_hexed.calls a0 t103 _ A2.out).mono ?_); rintro e w' ⟨rfl, ⟨nd, rfl⟩⟩; (try first | exact ⟨rfl, _, World.drewN_drewN _ _ _⟩ | exact ⟨rfl, _, Eq.trans (World.drewN_drewN _ _ _) (congrArg (World.drewN _) (Nat.add_assoc _ _ _))⟩))))
  (try simp only [Act.put, List.setIfInBounds_toArray, List.set_cons_zero, List.set_cons_succ])
  go_cut [3, 4, 5] (fun v3 v4 v5 wc => ∃ (kq : Nat) (x3_2 : Int) (x4_2 : Int) (x5_2 : ByteArray), v3 = .int .i64 x3_2 ∧ v4 = .int .u8 x4_2 ∧ v5 = .string x5_2 ∧ Aside0 (ctok_Float.j0 kq x3_2 x4_2 x5_2 = some r) ∧ Aside0 (kq ≤ k) ∧ Aside0 (Below w.heap.size w wc))
  case first =>
    have H := HC3.out
    clear HC3
    by_cases c4 : t103 = true
    · subst c4
      have H1 : (if 2 ≤ (a0.size : Int) then (ctok_Float.j0 k 16 112 (a0.extract 2 a0.size)) else (none)) = some r := by rw [if_pos rfl] at H; exact H
      clear H
      have H := H1
      clear H1
      by_cases c5 : 2 ≤ (a0.size : Int)
      · rw [if_pos c5] at H
        have c5b0 := eq_true c5
        have c5b1 : decide (2 ≤ (a0.size : Int)) = true := decide_eq_true c5
        clear c5
        have H' := Aside0.mk H
        clear H
        go_wp2
        repeat (go_quiet (fail); try go_wp2)
        go_meet
        case rel => exact ⟨_, (16), (112), (a0.extract 2 a0.size), (by first | rfl | (simp; done) | (simp [*]; done)), (by first | rfl | (simp; done) | (simp [*]; done)), (by first | rfl | (simp; done) | (simp [*]; done)), H', ⟨by first | omega | exact Nat.le_refl _⟩, ⟨by repeat (first | (with_reducible first | exact HB.out | apply below_alloc | apply pw_below_drewN | apply below_drew1) | exact HB.out)⟩⟩
      · rw [if_neg c5] at H
        exact absurd H (by simp)
    · replace c4 := Bool.eq_false_iff.mpr c4
      subst c4
      have H1 : (ctok_Float.j0 k 10 101 a0) = some r := by rw [if_neg (show ¬ (false = true) by decide)] at H; exact H
      clear H
      have H := H1
      clear H1
      have H' := Aside0.mk H
      clear H
      go_wp2
      repeat (go_quiet (fail); try go_wp2)
      go_meet
      case rel => exact ⟨_, (10), (101), (a0), (by first | rfl | (simp; done) | (simp [*]; done)), (by first | rfl | (simp; done) | (simp [*]; done)), (by first | rfl | (simp; done) | (simp [*]; done)), H', ⟨by first | omega | exact Nat.le_refl _⟩, ⟨by repeat (first | (with_reducible first | exact HB.out | apply below_alloc | apply pw_below_drewN | apply below_drew1) | exact HB.out)⟩⟩
  case rest =>
    clear HC3
    try clear c1
    try clear p2
    try clear c4
    try clear c5
    try clear c5b0
    try clear c5b1
    obtain ⟨kq, x3_2, x4_2, x5_2, rfl, rfl, rfl, HA, HJ2, HB⟩ := hcut
    cases kq with
    | zero => exact absurd HA.out (by simp [ctok_Float.j0])
    | succ kj2 =>
      have H := HA.out
      clear HA
      simp only [ctok_Float.j0] at H
      replace H := Option.bind_eq_some_iff.mp H
      obtain ⟨t104, A60, H⟩ := H
      replace H : (if t104 < (x5_2.size : Int) then (if 0 ≤ t104 then (ctok_Float.j1 kj2 x3_2 x4_2 x5_2 t104 ((bt x5_2 t104) == 46)) else (none)) else (ctok_Float.j1 kj2 x3_2 x4_2 x5_2 t104 false)) = some r := H
      have A6 := Aside0.mk A60
      clear A60
      have HC7 := Aside0.mk H
      clear H
      go_upto_region 5 with (first | (go_at_call 32; (with_reducible refine (Go.Proofs.YtcdleippdegibaaDoor.Digits.ctok_run.calls x5_2 x3_2 t104 _ A6.out).mono ?_); rintro e w8 ⟨rfl, hb⟩; have n0_ := Aside0.mk (below_step (by repeat (first | (with_reducible first | exact HB.out | apply below_alloc | apply pw_below_drewN | apply below_drew1) | exact HB.out)) hb); clear HB; have HB := n0_; clear n0_; (try clear hb); (try clear hb2); (try clear hk); (try clear hi)))
      repeat (go_quiet (first | (go_at_call 32; (with_reducible refine (Go.Proofs.YtcdleippdegibaaDoor.Digits.ctok_run.calls x5_2 x3_2 t104 _ A6.out).mono ?_); rintro e w8 ⟨rfl, hb⟩; have n0_ := Aside0.mk (below_step (by repeat (first | (with_reducible first | exact HB.out | apply below_alloc | apply pw_below_drewN | apply below_drew1) | exact HB.out)) hb); clear HB; have HB := n0_; clear n0_; (try clear hb); (try clear hb2); (try clear hk); (try clear hi))); go_upto_region 5 with (first | (go_at_call 32; (with_reducible refine (Go.Proofs.YtcdleippdegibaaDoor.Digits.ctok_run.calls x5_2 x3_2 t104 _ A6.out).mono ?_); rintro e w8 ⟨rfl, hb⟩; have n0_ := Aside0.mk (below_step (by repeat (first | (with_reducible first | exact HB.out | apply below_alloc | apply pw_below_drewN | apply below_drew1) | exact HB.out)) hb); clear HB; have HB := n0_; clear n0_; (try clear hb); (try clear hb2); (try clear hk); (try clear hi))))
      (try simp only [Act.put, List.setIfInBounds_toArray, List.set_cons_zero, List.set_cons_succ])
      go_cut [7] (fun v7 wc => ∃ (kq : Nat) (x7_6 : Bool), v7 = .bool x7_6 ∧ Aside0 (ctok_Float.j1 kq x3_2 x4_2 x5_2 t104 x7_6 = some r) ∧ Aside0 (kq ≤ kj2) ∧ Aside0 (Below w.heap.size w wc))
      case first =>
        have H := HC7.out
        clear HC7
        by_cases c9 : t104 < (x5_2.size : Int)
        · rw [if_pos c9] at H
          have c9b0 : decide (t104 < (x5_2.size : Int)) = true := decide_eq_true c9
          clear c9
          (first | rw [c9b0] | (simp only [i64_w, i32_w]; rw [c9b0]) | skip)
          by_cases c10 : 0 ≤ t104
          · rw [if_pos c10] at H
            have c10b0 : decide (0 ≤ t104) = true := decide_eq_true c10
            clear c10
            have H' := Aside0.mk H
            clear H
            have p11 : 0 ≤ (t104 : Int) := of_decide_eq_true (by first | (with_reducible assumption) | assumption)
            have q11 : t104 < (x5_2.size : Int) := of_decide_eq_true (by first | (with_reducible assumption) | assumption)
            have hx11 := bt_at x5_2 t104
            replace p11 := eq_true p11
            replace q11 := eq_true q11
            go_wp2
            repeat (go_quiet (fail); try go_wp2)
            go_meet
            case rel => exact ⟨_, (((bt x5_2 t104) == 46)), (by first | rfl | (simp; done) | (simp [*]; done)), H', ⟨by have := HJ2.out; first | omega | exact Nat.le_refl _⟩, ⟨by repeat (first | (with_reducible first | exact HB.out | apply below_alloc | apply pw_below_drewN | apply below_drew1) | exact HB.out)⟩⟩
          · rw [if_neg c10] at H
            exact absurd H (by simp)
        · rw [if_neg c9] at H
          have c9b0 : decide (t104 < (x5_2.size : Int)) = false := decide_eq_false c9
          clear c9
          (first | rw [c9b0] | (simp only [i64_w, i32_w]; rw [c9b0]) | skip)
          have H' := Aside0.mk H
          clear H
          go_wp2
          repeat (go_quiet (fail); try go_wp2)
          go_meet
          case rel => exact ⟨_, (false), (by first | rfl | (simp; done) | (simp [*]; done)), H', ⟨by have := HJ2.out; first | omega | exact Nat.le_refl _⟩, ⟨by repeat (first | (with_reducible first | exact HB.out | apply below_alloc | apply pw_below_drewN | apply below_drew1) | exact HB.out)⟩⟩
      case rest =>
        clear HC7
        try clear c1
        try clear p1
        try clear q1
        try clear hx1
        try clear p2
        try clear c4
        try clear c5
        try clear c5b0
        try clear c5b1
        try clear c9
        try clear c9b0
        try clear c10
        try clear c10b0
        try clear p11
        try clear q11
        try clear hx11
        try clear p11
        try clear p2
        try clear q11
        obtain ⟨kq, x7_6, rfl, HA, HJ6, HB⟩ := hcut
        cases kq with
        | zero => exact absurd HA.out (by simp [ctok_Float.j1])
        | succ kj6 =>
          have H := HA.out
          clear HA
          simp only [ctok_Float.j1] at H
          by_cases c12 : 0 ≤ t104
          · rw [if_pos c12] at H
            have c12b0 := eq_true c12
            have c12b1 : decide (0 ≤ t104) = true := decide_eq_true c12
            clear c12
            by_cases c13 : t104 ≤ (x5_2.size : Int)
            · rw [if_pos c13] at H
              have c13b0 := eq_true c13
              have c13b1 : decide (t104 ≤ (x5_2.size : Int)) = true := decide_eq_true c13
              clear c13
              have HC14 := Aside0.mk H
              clear H
              go_upto_if 31 with (fail)
              repeat (go_quiet (fail); go_upto_if 31 with (fail))
              go_cut [5, 6] (fun v5 v6 wc => ∃ (kq : Nat) (x5_13 : ByteArray) (x6_13 : Int), v5 = .string x5_13 ∧ v6 = .int .i64 x6_13 ∧ Aside0 (ctok_Float.j2 kq x3_2 x4_2 x5_13 x6_13 x7_6 = some r) ∧ Aside0 (kq ≤ kj6) ∧ Aside0 (Below w.heap.size w wc))
              case first =>
                have H := HC14.out
                clear HC14
                by_cases c15 : x7_6 = true
                · subst c15
                  have H1 : (if 1 ≤ ((x5_2.extract (t104 : Int).toNat x5_2.size).size : Int) then ((Go.Proofs.YtcdleippdegibaaDoor.Digits.ctok_run.f ((x5_2.extract (t104 : Int).toNat x5_2.size).extract 1 (x5_2.extract (t104 : Int).toNat x5_2.size).size) x3_2).bind fun t105 => (if 0 ≤ (wrap64 (1 + t105)) then (if (wrap64 (1 + t105)) ≤ ((x5_2.extract (t104 : Int).toNat x5_2.size).size : Int) then (ctok_Float.j2 kj6 x3_2 x4_2 ((x5_2.extract (t104 : Int).toNat x5_2.size).extract ((wrap64 (1 + t105)) : Int).toNat (x5_2.extract (t104 : Int).toNat x5_2.size).size) (wrap64 (t104 + t105)) true) else (none)) else (none))) else (none)) = some r := by rw [if_pos rfl] at H; exact H
                  clear H
                  have H := H1
                  clear H1
                  obtain ⟨xs, hxs⟩ : ∃ xs, x5_2.extract (t104 : Int).toNat x5_2.size = xs := ⟨_, rfl⟩
                  rw [hxs] at H
                  by_cases c16 : 1 ≤ (xs.size : Int)
                  · rw [if_pos c16] at H
                    have c16b0 := eq_true c16
                    have c16b1 : decide (1 ≤ (xs.size : Int)) = true := decide_eq_true c16
                    clear c16
                    replace H := Option.bind_eq_some_iff.mp H
                    obtain ⟨t105, A170, H⟩ := H
                    replace H : (if 0 ≤ (wrap64 (1 + t105)) then (if (wrap64 (1 + t105)) ≤ (xs.size : Int) then (ctok_Float.j2 kj6 x3_2 x4_2 (xs.extract ((wrap64 (1 + t105)) : Int).toNat xs.size) (wrap64 (t104 + t105)) true) else (none)) else (none)) = some r := H
                    have A17 := Aside0.mk A170
                    clear A170
                    obtain ⟨ji18, hji18⟩ : ∃ j_ : Int, (wrap64 (1 + t105)) = j_ := ⟨_, rfl⟩
                    replace H : (if 0 ≤ (ji18) then (if (ji18) ≤ (xs.size : Int) then (ctok_Float.j2 kj6 x3_2 x4_2 (xs.extract ((ji18) : Int).toNat xs.size) (wrap64 (t104 + t105)) true) else (none)) else (none)) = some r := by first | (rw [hji18] at H; exact H) | (simp only [hji18] at H ⊢; exact H)
                    (try rw [hji18] at A17)
                    have hji18w : (IntKind.i64.wrap (1 + t105)) = ji18 := (i64_w _).trans hji18
                    by_cases c19 : 0 ≤ (ji18)
                    · rw [if_pos c19] at H
                      have c19b0 := eq_true c19
                      have c19b1 : decide (0 ≤ (ji18)) = true := decide_eq_true c19
                      clear c19
                      by_cases c20 : (ji18) ≤ (xs.size : Int)
                      · rw [if_pos c20] at H
                        have c20b0 := eq_true c20
                        have c20b1 : decide ((ji18) ≤ (xs.size : Int)) = true := decide_eq_true c20
                        clear c20
                        have H' := Aside0.mk H
                        clear H
                        go_wp2_with (first | (go_at_call 32; (with_reducible refine (Go.Proofs.YtcdleippdegibaaDoor.Digits.ctok_run.calls (xs.extract 1 xs.size) x3_2 t105 _ A17.out).mono ?_); rintro e w21 ⟨rfl, hb⟩; have n0_ := Aside0.mk (below_step (by repeat (first | (with_reducible first | exact HB.out | apply below_alloc | apply pw_below_drewN | apply below_drew1) | exact HB.out)) hb); clear HB; have HB := n0_; clear n0_; (try clear hb); (try clear hb2); (try clear hk); (try clear hi)))
                        repeat (go_quiet (first | (go_at_call 32; (with_reducible refine (Go.Proofs.YtcdleippdegibaaDoor.Digits.ctok_run.calls (xs.extract 1 xs.size) x3_2 t105 _ A17.out).mono ?_); rintro e w21 ⟨rfl, hb⟩; have n0_ := Aside0.mk (below_step (by repeat (first | (with_reducible first | exact HB.out | apply below_alloc | apply pw_below_drewN | apply below_drew1) | exact HB.out)) hb); clear HB; have HB := n0_; clear n0_; (try clear hb); (try clear hb2); (try clear hk); (try clear hi))); try go_wp2_with (first | (go_at_call 32; (with_reducible refine (Go.Proofs.YtcdleippdegibaaDoor.Digits.ctok_run.calls (xs.extract 1 xs.size) x3_2 t105 _ A17.out).mono ?_); rintro e w21 ⟨rfl, hb⟩; have n0_ := Aside0.mk (below_step (by repeat (first | (with_reducible first | exact HB.out | apply below_alloc | apply pw_below_drewN | apply below_drew1) | exact HB.out)) hb); clear HB; have HB := n0_; clear n0_; (try clear hb); (try clear hb2); (try clear hk); (try clear hi))))
                        go_meet
                        case rel => exact ⟨_, (xs.extract ((ji18) : Int).toNat xs.size), (wrap64 (t104 + t105)), (by first | rfl | (simp; done) | (simp only [← hji18] <;> (first | rfl | simp)) | (simp [*]; done)), (by first | rfl | (simp; done) | (simp [*]; done)), H', ⟨by have := HJ2.out; have := HJ6.out; first | omega | exact Nat.le_refl _⟩, ⟨by repeat (first | (with_reducible first | exact HB.out | apply below_alloc | apply pw_below_drewN | apply below_drew1) | exact HB.out)⟩⟩
                      · rw [if_neg c20] at H
                        exact absurd H (by simp)
                    · rw [if_neg c19] at H
                      exact absurd H (by simp)
                  · rw [if_neg c16] at H
                    exact absurd H (by simp)
                · replace c15 := Bool.eq_false_iff.mpr c15
                  subst c15
                  have H1 : (ctok_Float.j2 kj6 x3_2 x4_2 (x5_2.extract (t104 : Int).toNat x5_2.size) t104 false) = some r := by rw [if_neg (show ¬ (false = true) by decide)] at H; exact H
                  clear H
                  have H := H1
                  clear H1
                  have H' := Aside0.mk H
                  clear H
                  go_wp2
                  repeat (go_quiet (fail); try go_wp2)
                  go_meet
                  case rel => exact ⟨_, (x5_2.extract (t104 : Int).toNat x5_2.size), (t104), (by first | rfl | (simp; done) | (simp [*]; done)), (by first | rfl | (simp; done) | (simp [*]; done)), H', ⟨by have := HJ2.out; have := HJ6.out; first | omega | exact Nat.le_refl _⟩, ⟨by repeat (first | (with_reducible first | exact HB.out | apply below_alloc | apply pw_below_drewN | apply below_drew1) | exact HB.out)⟩⟩
              case rest =>
                clear HC14
                try clear c1
                try clear p1
                try clear q1
                try clear hx1
                try clear c2
                try clear p2
                try clear c4
                try clear c5
                try clear c5b0
                try clear c5b1
                try clear p6
                try clear c9
                try clear c9b0
                try clear c10
                try clear c10b0
                try clear p11
                try clear q11
                try clear hx11
                try clear c12
                try clear c12b0
                try clear c12b1
                try clear c13
                try clear c13b0
                try clear c13b1
                try clear c15
                try clear c16
                try clear c16b0
                try clear c16b1
                try clear c19
                try clear c19b0
                try clear c19b1
                try clear c20
                try clear c20b0
                try clear c20b1
                try clear p1
                try clear p11
                try clear p2
                try clear q1
                try clear q11
                obtain ⟨kq, x5_13, x6_13, rfl, rfl, HA, HJ13, HB⟩ := hcut
                cases kq with
                | zero => exact absurd HA.out (by simp [ctok_Float.j2])
                | succ kj13 =>
                  have H := HA.out
                  clear HA
                  simp only [ctok_Float.j2] at H
                  replace H := Option.bind_eq_some_iff.mp H
                  obtain ⟨t106, A220, H⟩ := H
                  replace H : (if x6_13 = 0 then (ctok_Float.j3 kj13 x5_13 t106 true) else (if t106 = 0 then (if x7_6 = true then (ctok_Float.j3 kj13 x5_13 t106 (x3_2 == 16)) else (ctok_Float.j3 kj13 x5_13 t106 true)) else (ctok_Float.j3 kj13 x5_13 t106 false))) = some r := H
                  have A22 := Aside0.mk A220
                  clear A220
                  have HC23 := Aside0.mk H
                  clear H
                  go_upto_region 12 with (first | (go_at_call 33; (with_reducible refine (ctok_exponent.calls kj13 x5_13 x4_2 t106 _ A22.out).mono ?_); rintro e w24 ⟨rfl, hb⟩; have n0_ := Aside0.mk (below_step (by repeat (first | (with_reducible first | exact HB.out | apply below_alloc | apply pw_below_drewN | apply below_drew1) | exact HB.out)) hb); clear HB; have HB := n0_; clear n0_; (try clear hb); (try clear hb2); (try clear hk); (try clear hi)))
                  repeat (go_quiet (first | (go_at_call 33; (with_reducible refine (ctok_exponent.calls kj13 x5_13 x4_2 t106 _ A22.out).mono ?_); rintro e w24 ⟨rfl, hb⟩; have n0_ := Aside0.mk (below_step (by repeat (first | (with_reducible first | exact HB.out | apply below_alloc | apply pw_below_drewN | apply below_drew1) | exact HB.out)) hb); clear HB; have HB := n0_; clear n0_; (try clear hb); (try clear hb2); (try clear hk); (try clear hi))); go_upto_region 12 with (first | (go_at_call 33; (with_reducible refine (ctok_exponent.calls kj13 x5_13 x4_2 t106 _ A22.out).mono ?_); rintro e w24 ⟨rfl, hb⟩; have n0_ := Aside0.mk (below_step (by repeat (first | (with_reducible first | exact HB.out | apply below_alloc | apply pw_below_drewN | apply below_drew1) | exact HB.out)) hb); clear HB; have HB := n0_; clear n0_; (try clear hb); (try clear hb2); (try clear hk); (try clear hi))))
                  (try simp only [Act.put, List.setIfInBounds_toArray, List.set_cons_zero, List.set_cons_succ])
                  go_cut [59] (fun v59 wc => ∃ (kq : Nat) (x59_22 : Bool), v59 = .bool x59_22 ∧ Aside0 (ctok_Float.j3 kq x5_13 t106 x59_22 = some r) ∧ Aside0 (kq ≤ kj13) ∧ Aside0 (Below w.heap.size w wc))
                  case first =>
                    have H := HC23.out
                    clear HC23
                    by_cases c25 : x6_13 = 0
                    · rw [if_pos c25] at H
                      have c25b0 : (x6_13 == 0) = true := beq_iff_eq.mpr c25
                      have c25b1 : (x6_13 != 0) = false := bne_eq_false_iff_eq.mpr c25
                      clear c25
                      (first | rw [c25b0] | (simp only [i64_w, i32_w]; rw [c25b0]) | skip)
                      have H' := Aside0.mk H
                      clear H
                      go_wp2
                      repeat (go_quiet (fail); try go_wp2)
                      go_meet
                      case rel => exact ⟨_, (true), (by first | rfl | (simp; done) | (simp [*]; done)), H', ⟨by have := HJ2.out; have := HJ6.out; have := HJ13.out; first | omega | exact Nat.le_refl _⟩, ⟨by repeat (first | (with_reducible first | exact HB.out | apply below_alloc | apply pw_below_drewN | apply below_drew1) | exact HB.out)⟩⟩
                    · rw [if_neg c25] at H
                      have c25b0 : (x6_13 == 0) = false := beq_eq_false_iff_ne.mpr c25
                      have c25b1 : (x6_13 != 0) = true := bne_iff_ne.mpr c25
                      (first | rw [c25b0] | (simp only [i64_w, i32_w]; rw [c25b0]) | skip)
                      by_cases c26 : t106 = 0
                      · rw [if_pos c26] at H
                        have c26b0 : (t106 == 0) = true := beq_iff_eq.mpr c26
                        have c26b1 : (t106 != 0) = false := bne_eq_false_iff_eq.mpr c26
                        clear c26
                        by_cases c27 : x7_6 = true
                        · subst c27
                          have H1 : (ctok_Float.j3 kj13 x5_13 t106 (x3_2 == 16)) = some r := by rw [if_pos rfl] at H; exact H
                          clear H
                          have H := H1
                          clear H1
                          have H' := Aside0.mk H
                          clear H
                          go_wp2
                          repeat (go_quiet (fail); try go_wp2)
                          go_meet
                          case rel => exact ⟨_, ((x3_2 == 16)), (by first | rfl | (simp; done) | (simp [*]; done)), H', ⟨by have := HJ2.out; have := HJ6.out; have := HJ13.out; first | omega | exact Nat.le_refl _⟩, ⟨by repeat (first | (with_reducible first | exact HB.out | apply below_alloc | apply pw_below_drewN | apply below_drew1) | exact HB.out)⟩⟩
                        · replace c27 := Bool.eq_false_iff.mpr c27
                          subst c27
                          have H1 : (ctok_Float.j3 kj13 x5_13 t106 true) = some r := by rw [if_neg (show ¬ (false = true) by decide)] at H; exact H
                          clear H
                          have H := H1
                          clear H1
                          have H' := Aside0.mk H
                          clear H
                          go_wp2
                          repeat (go_quiet (fail); try go_wp2)
                          go_meet
                          case rel => exact ⟨_, (true), (by first | rfl | (simp; done) | (simp [*]; done)), H', ⟨by have := HJ2.out; have := HJ6.out; have := HJ13.out; first | omega | exact Nat.le_refl _⟩, ⟨by repeat (first | (with_reducible first | exact HB.out | apply below_alloc | apply pw_below_drewN | apply below_drew1) | exact HB.out)⟩⟩
                      · rw [if_neg c26] at H
                        have c26b0 : (t106 == 0) = false := beq_eq_false_iff_ne.mpr c26
                        have c26b1 : (t106 != 0) = true := bne_iff_ne.mpr c26
                        have H' := Aside0.mk H
                        clear H
                        go_wp2
                        repeat (go_quiet (fail); try go_wp2)
                        go_meet
                        case rel => exact ⟨_, (false), (by first | rfl | (simp; done) | (simp [*]; done)), H', ⟨by have := HJ2.out; have := HJ6.out; have := HJ13.out; first | omega | exact Nat.le_refl _⟩, ⟨by repeat (first | (with_reducible first | exact HB.out | apply below_alloc | apply pw_below_drewN | apply below_drew1) | exact HB.out)⟩⟩
                  case rest =>
                    clear HC23
                    try clear c1
                    try clear p1
                    try clear q1
                    try clear hx1
                    try clear c2
                    try clear p2
                    try clear c4
                    try clear c5
                    try clear c5b0
                    try clear c5b1
                    try clear p6
                    try clear c9
                    try clear c9b0
                    try clear c10
                    try clear c10b0
                    try clear p11
                    try clear q11
                    try clear hx11
                    try clear c12
                    try clear c12b0
                    try clear c12b1
                    try clear c13
                    try clear c13b0
                    try clear c13b1
                    try clear c15
                    try clear c16
                    try clear c16b0
                    try clear c16b1
                    try clear c19
                    try clear c19b0
                    try clear c19b1
                    try clear c20
                    try clear c20b0
                    try clear c20b1
                    try clear c25
                    try clear c25b0
                    try clear c25b1
                    try clear c26
                    try clear c26b0
                    try clear c26b1
                    try clear c27
                    try clear p1
                    try clear p11
                    try clear p2
                    try clear p6
                    try clear q1
                    try clear q11
                    obtain ⟨kq, x59_22, rfl, HA, HJ22, HB⟩ := hcut
                    cases kq with
                    | zero => exact absurd HA.out (by simp [ctok_Float.j3])
                    | succ kj22 =>
                      have H := HA.out
                      clear HA
                      simp only [ctok_Float.j3] at H
                      by_cases c28 : x59_22 = true
                      · subst c28
                        have H1 : (some false) = some r := by rw [if_pos rfl] at H; exact H
                        clear H
                        have H := H1
                        clear H1
                        obtain rfl := Option.some.inj H
                        go_wp2
                        repeat (go_quiet (fail); try go_wp2)
                        go_ret
                        exact ⟨by first | rfl | (simp [errW_none, errW_some] <;> rfl) | (simp [*, errW_none, errW_some] <;> rfl), by repeat (first | (with_reducible first | exact HB.out | apply below_alloc | apply pw_below_drewN | apply below_drew1) | exact HB.out)⟩
                      · replace c28 := Bool.eq_false_iff.mpr c28
                        subst c28
                        have H1 : (if 0 ≤ t106 then (if t106 ≤ (x5_13.size : Int) then (if (x5_13.extract (t106 : Int).toNat x5_13.size).toList = ([] : List UInt8) then (some true) else (if (x5_13.extract (t106 : Int).toNat x5_13.size).toList = ([102] : List UInt8) then (some true) else (if (x5_13.extract (t106 : Int).toNat x5_13.size).toList = ([70] : List UInt8) then (some true) else (if (x5_13.extract (t106 : Int).toNat x5_13.size).toList = ([108] : List UInt8) then (some true) else (if (x5_13.extract (t106 : Int).toNat x5_13.size).toList = ([76] : List UInt8) then (some true) else (some false)))))) else (none)) else (none)) = some r := by rw [if_neg (show ¬ (false = true) by decide)] at H; exact H
                        clear H
                        have H := H1
                        clear H1
                        by_cases c29 : 0 ≤ t106
                        · rw [if_pos c29] at H
                          have c29b0 := eq_true c29
                          have c29b1 : decide (0 ≤ t106) = true := decide_eq_true c29
                          clear c29
                          by_cases c30 : t106 ≤ (x5_13.size : Int)
                          · rw [if_pos c30] at H
                            have c30b0 := eq_true c30
                            have c30b1 : decide (t106 ≤ (x5_13.size : Int)) = true := decide_eq_true c30
                            clear c30
                            by_cases c31 : (x5_13.extract (t106 : Int).toNat x5_13.size).toList = ([] : List UInt8)
                            · rw [if_pos c31] at H
                              have c31b0 : ((x5_13.extract (t106 : Int).toNat x5_13.size).toList == ([] : List UInt8)) = true := beq_iff_eq.mpr c31
                              have c31b1 : ((x5_13.extract (t106 : Int).toNat x5_13.size).toList != ([] : List UInt8)) = false := bne_eq_false_iff_eq.mpr c31
                              clear c31
                              obtain rfl := Option.some.inj H
                              go_wp2
                              repeat (go_quiet (fail); try go_wp2)
                              go_ret
                              exact ⟨by first | rfl | (simp [errW_none, errW_some] <;> rfl) | (simp [*, errW_none, errW_some] <;> rfl), by repeat (first | (with_reducible first | exact HB.out | apply below_alloc | apply pw_below_drewN | apply below_drew1) | exact HB.out)⟩
                            · rw [if_neg c31] at H
                              have c31b0 : ((x5_13.extract (t106 : Int).toNat x5_13.size).toList == ([] : List UInt8)) = false := beq_eq_false_iff_ne.mpr c31
                              have c31b1 : ((x5_13.extract (t106 : Int).toNat x5_13.size).toList != ([] : List UInt8)) = true := bne_iff_ne.mpr c31
                              by_cases c32 : (x5_13.extract (t106 : Int).toNat x5_13.size).toList = ([102] : List UInt8)
                              · rw [if_pos c32] at H
                                have c32b0 : ((x5_13.extract (t106 : Int).toNat x5_13.size).toList == ([102] : List UInt8)) = true := beq_iff_eq.mpr c32
                                have c32b1 : ((x5_13.extract (t106 : Int).toNat x5_13.size).toList != ([102] : List UInt8)) = false := bne_eq_false_iff_eq.mpr c32
                                clear c32
                                obtain rfl := Option.some.inj H
                                go_wp2
                                repeat (go_quiet (fail); try go_wp2)
                                go_ret
                                exact ⟨by first | rfl | (simp [errW_none, errW_some] <;> rfl) | (simp [*, errW_none, errW_some] <;> rfl), by repeat (first | (with_reducible first | exact HB.out | apply below_alloc | apply pw_below_drewN | apply below_drew1) | exact HB.out)⟩
                              · rw [if_neg c32] at H
                                have c32b0 : ((x5_13.extract (t106 : Int).toNat x5_13.size).toList == ([102] : List UInt8)) = false := beq_eq_false_iff_ne.mpr c32
                                have c32b1 : ((x5_13.extract (t106 : Int).toNat x5_13.size).toList != ([102] : List UInt8)) = true := bne_iff_ne.mpr c32
                                by_cases c33 : (x5_13.extract (t106 : Int).toNat x5_13.size).toList = ([70] : List UInt8)
                                · rw [if_pos c33] at H
                                  have c33b0 : ((x5_13.extract (t106 : Int).toNat x5_13.size).toList == ([70] : List UInt8)) = true := beq_iff_eq.mpr c33
                                  have c33b1 : ((x5_13.extract (t106 : Int).toNat x5_13.size).toList != ([70] : List UInt8)) = false := bne_eq_false_iff_eq.mpr c33
                                  clear c33
                                  obtain rfl := Option.some.inj H
                                  go_wp2
                                  repeat (go_quiet (fail); try go_wp2)
                                  go_ret
                                  exact ⟨by first | rfl | (simp [errW_none, errW_some] <;> rfl) | (simp [*, errW_none, errW_some] <;> rfl), by repeat (first | (with_reducible first | exact HB.out | apply below_alloc | apply pw_below_drewN | apply below_drew1) | exact HB.out)⟩
                                · rw [if_neg c33] at H
                                  have c33b0 : ((x5_13.extract (t106 : Int).toNat x5_13.size).toList == ([70] : List UInt8)) = false := beq_eq_false_iff_ne.mpr c33
                                  have c33b1 : ((x5_13.extract (t106 : Int).toNat x5_13.size).toList != ([70] : List UInt8)) = true := bne_iff_ne.mpr c33
                                  by_cases c34 : (x5_13.extract (t106 : Int).toNat x5_13.size).toList = ([108] : List UInt8)
                                  · rw [if_pos c34] at H
                                    have c34b0 : ((x5_13.extract (t106 : Int).toNat x5_13.size).toList == ([108] : List UInt8)) = true := beq_iff_eq.mpr c34
                                    have c34b1 : ((x5_13.extract (t106 : Int).toNat x5_13.size).toList != ([108] : List UInt8)) = false := bne_eq_false_iff_eq.mpr c34
                                    clear c34
                                    obtain rfl := Option.some.inj H
                                    go_wp2
                                    repeat (go_quiet (fail); try go_wp2)
                                    go_ret
                                    exact ⟨by first | rfl | (simp [errW_none, errW_some] <;> rfl) | (simp [*, errW_none, errW_some] <;> rfl), by repeat (first | (with_reducible first | exact HB.out | apply below_alloc | apply pw_below_drewN | apply below_drew1) | exact HB.out)⟩
                                  · rw [if_neg c34] at H
                                    have c34b0 : ((x5_13.extract (t106 : Int).toNat x5_13.size).toList == ([108] : List UInt8)) = false := beq_eq_false_iff_ne.mpr c34
                                    have c34b1 : ((x5_13.extract (t106 : Int).toNat x5_13.size).toList != ([108] : List UInt8)) = true := bne_iff_ne.mpr c34
                                    by_cases c35 : (x5_13.extract (t106 : Int).toNat x5_13.size).toList = ([76] : List UInt8)
                                    · rw [if_pos c35] at H
                                      have c35b0 : ((x5_13.extract (t106 : Int).toNat x5_13.size).toList == ([76] : List UInt8)) = true := beq_iff_eq.mpr c35
                                      have c35b1 : ((x5_13.extract (t106 : Int).toNat x5_13.size).toList != ([76] : List UInt8)) = false := bne_eq_false_iff_eq.mpr c35
                                      clear c35
                                      obtain rfl := Option.some.inj H
                                      go_wp2
                                      repeat (go_quiet (fail); try go_wp2)
                                      go_ret
                                      exact ⟨by first | rfl | (simp [errW_none, errW_some] <;> rfl) | (simp [*, errW_none, errW_some] <;> rfl), by repeat (first | (with_reducible first | exact HB.out | apply below_alloc | apply pw_below_drewN | apply below_drew1) | exact HB.out)⟩
                                    · rw [if_neg c35] at H
                                      have c35b0 : ((x5_13.extract (t106 : Int).toNat x5_13.size).toList == ([76] : List UInt8)) = false := beq_eq_false_iff_ne.mpr c35
                                      have c35b1 : ((x5_13.extract (t106 : Int).toNat x5_13.size).toList != ([76] : List UInt8)) = true := bne_iff_ne.mpr c35
                                      obtain rfl := Option.some.inj H
                                      go_wp2
                                      repeat (go_quiet (fail); try go_wp2)
                                      go_ret
                                      exact ⟨by first | rfl | (simp [errW_none, errW_some] <;> rfl) | (simp [*, errW_none, errW_some] <;> rfl), by repeat (first | (with_reducible first | exact HB.out | apply below_alloc | apply pw_below_drewN | apply below_drew1) | exact HB.out)⟩
                          · rw [if_neg c30] at H
                            exact absurd H (by simp)
                        · rw [if_neg c29] at H
                          exact absurd H (by simp)
            · rw [if_neg c13] at H
              exact absurd H (by simp)
          · rw [if_neg c12] at H
            exact absurd H (by simp)
def regletlaw04_worth.f (a0 : ByteArray) (a1 : Int) (a2 : Bool) : Option (Bool) := (Go.Proofs.YtcdleippdegibaaDoor.Digits.ctok_Int.f a0).bind fun bt118 => (if bt118.2.2 = 0 then (if bt118.1 = a1 then (some (bt118.2.1 == a2)) else (some false)) else (some false))
set_option maxHeartbeats 8000000 in
set_option maxRecDepth 100000 in
theorem regletlaw04_worth.calls (a0 : ByteArray) (a1 : Int) (a2 : Bool) (r : Bool) (w : World) (hsh : SH w) (h : regletlaw04_worth.f a0 a1 a2 = some r) :
    Calls Tryd.prog 20 #[.string a0, .int .u64 a1, .bool a2] w fun e w' => e = .returned (.bool r) ∧ Below w.heap.size w w' := by
  have HSH := Aside0.mk hsh
  clear hsh
  have HB := Aside0.mk (Below.refl w.heap.size w)
  have H : ((Go.Proofs.YtcdleippdegibaaDoor.Digits.ctok_Int.f a0).bind fun bt118 => (if bt118.2.2 = 0 then (if bt118.1 = a1 then (some (bt118.2.1 == a2)) else (some false)) else (some false))) = some r := h
  clear h
  replace H := Option.bind_eq_some_iff.mp H
  obtain ⟨⟨t118, t119, t120⟩, A40, H⟩ := H
  replace H : (if t120 = 0 then (if t118 = a1 then (some (t119 == a2)) else (some false)) else (some false)) = some r := H
  have A4 := Aside0.mk A40
  clear A40
  by_cases c5 : t120 = 0
  · rw [if_pos c5] at H
    have c5b0 : (t120 == 0) = true := beq_iff_eq.mpr c5
    have c5b1 : (t120 != 0) = false := bne_eq_false_iff_eq.mpr c5
    clear c5
    by_cases c6 : t118 = a1
    · rw [if_pos c6] at H
      have c6b0 : (t118 == a1) = true := beq_iff_eq.mpr c6
      have c6b1 : (t118 != a1) = false := bne_eq_false_iff_eq.mpr c6
      clear c6
      obtain rfl := Option.some.inj H
      go_enter Tryd.func20, Tryd.ntmps20
      go_wp2_with (first | ((with_reducible refine gate_callee (f := 28) rfl ?_); refine goesL_ (some 12) rfl rfl Tryd.func28 (by kernel_rfl) rfl #[.string a0] rfl (by (try simp only [List.map_toArray, List.map_cons, List.map_nil]); first | done | rfl | (simp only [List.length_drop, List.length_take]; rfl) | (simp only [ByteArray.size_extract, Nat.min_self]; rfl) | (simp; done)) ?_; (with_reducible refine (Go.Proofs.YtcdleippdegibaaDoor.Digits.ctok_Int.calls a0 t118 t119 t120 _ ?side1 A4.out).mono ?_); (case side1 => first | exact SH.below HSH.out (by repeat (first | (with_reducible first | exact HB.out | apply below_alloc | apply pw_below_drewN | apply below_drew1) | exact HB.out)) | (repeat (first | exact HSH.out | (with_reducible refine SH.drewN ?_ _) | (with_reducible refine SH.drew ?_) | (with_reducible refine SH.alloc ?_ _)))); rintro e w7 ⟨rfl, hb⟩; refine ⟨_, rfl, ?_⟩; have n0_ := Aside0.mk (below_step (by repeat (first | (with_reducible first | exact HB.out | apply below_alloc | apply pw_below_drewN | apply below_drew1) | exact HB.out)) hb); clear HB; have HB := n0_; clear n0_; (try clear hb); (try clear hb2); (try clear hk); (try clear hi)))
      go_ret
      exact ⟨by first | rfl | (simp [errW_none, errW_some] <;> rfl) | (simp [*, errW_none, errW_some] <;> rfl), by repeat (first | (with_reducible first | exact HB.out | apply below_alloc | apply pw_below_drewN | apply below_drew1) | exact HB.out)⟩
    · rw [if_neg c6] at H
      have c6b0 : (t118 == a1) = false := beq_eq_false_iff_ne.mpr c6
      have c6b1 : (t118 != a1) = true := bne_iff_ne.mpr c6
      obtain rfl := Option.some.inj H
      go_enter Tryd.func20, Tryd.ntmps20
      go_wp2_with (first | ((with_reducible refine gate_callee (f := 28) rfl ?_); refine goesL_ (some 12) rfl rfl Tryd.func28 (by kernel_rfl) rfl #[.string a0] rfl (by (try simp only [List.map_toArray, List.map_cons, List.map_nil]); first | done | rfl | (simp only [List.length_drop, List.length_take]; rfl) | (simp only [ByteArray.size_extract, Nat.min_self]; rfl) | (simp; done)) ?_; (with_reducible refine (Go.Proofs.YtcdleippdegibaaDoor.Digits.ctok_Int.calls a0 t118 t119 t120 _ ?side1 A4.out).mono ?_); (case side1 => first | exact SH.below HSH.out (by repeat (first | (with_reducible first | exact HB.out | apply below_alloc | apply pw_below_drewN | apply below_drew1) | exact HB.out)) | (repeat (first | exact HSH.out | (with_reducible refine SH.drewN ?_ _) | (with_reducible refine SH.drew ?_) | (with_reducible refine SH.alloc ?_ _)))); rintro e w8 ⟨rfl, hb⟩; refine ⟨_, rfl, ?_⟩; have n0_ := Aside0.mk (below_step (by repeat (first | (with_reducible first | exact HB.out | apply below_alloc | apply pw_below_drewN | apply below_drew1) | exact HB.out)) hb); clear HB; have HB := n0_; clear n0_; (try clear hb); (try clear hb2); (try clear hk); (try clear hi)))
      go_ret
      exact ⟨by first | rfl | (simp [errW_none, errW_some] <;> rfl) | (simp [*, errW_none, errW_some] <;> rfl), by repeat (first | (with_reducible first | exact HB.out | apply below_alloc | apply pw_below_drewN | apply below_drew1) | exact HB.out)⟩
  · rw [if_neg c5] at H
    have c5b0 : (t120 == 0) = false := beq_eq_false_iff_ne.mpr c5
    have c5b1 : (t120 != 0) = true := bne_iff_ne.mpr c5
    obtain rfl := Option.some.inj H
    go_enter Tryd.func20, Tryd.ntmps20
    go_wp2_with (first | ((with_reducible refine gate_callee (f := 28) rfl ?_); refine goesL_ (some 12) rfl rfl Tryd.func28 (by kernel_rfl) rfl #[.string a0] rfl (by (try simp only [List.map_toArray, List.map_cons, List.map_nil]); first | done | rfl | (simp only [List.length_drop, List.length_take]; rfl) | (simp only [ByteArray.size_extract, Nat.min_self]; rfl) | (simp; done)) ?_; (with_reducible refine (Go.Proofs.YtcdleippdegibaaDoor.Digits.ctok_Int.calls a0 t118 t119 t120 _ ?side1 A4.out).mono ?_); (case side1 => first | exact SH.below HSH.out (by repeat (first | (with_reducible first | exact HB.out | apply below_alloc | apply pw_below_drewN | apply below_drew1) | exact HB.out)) | (repeat (first | exact HSH.out | (with_reducible refine SH.drewN ?_ _) | (with_reducible refine SH.drew ?_) | (with_reducible refine SH.alloc ?_ _)))); rintro e w9 ⟨rfl, hb⟩; refine ⟨_, rfl, ?_⟩; have n0_ := Aside0.mk (below_step (by repeat (first | (with_reducible first | exact HB.out | apply below_alloc | apply pw_below_drewN | apply below_drew1) | exact HB.out)) hb); clear HB; have HB := n0_; clear n0_; (try clear hb); (try clear hb2); (try clear hk); (try clear hi)))
    go_ret
    exact ⟨by first | rfl | (simp [errW_none, errW_some] <;> rfl) | (simp [*, errW_none, errW_some] <;> rfl), by repeat (first | (with_reducible first | exact HB.out | apply below_alloc | apply pw_below_drewN | apply below_drew1) | exact HB.out)⟩
end Go.Proofs.YtcdleippdegibaaDoor.PC
