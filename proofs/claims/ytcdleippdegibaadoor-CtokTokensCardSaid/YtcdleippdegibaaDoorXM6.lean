import Derived.Test.YtcdleippdegibaaDoorXM4
import Derived.Test.YtcdleippdegibaaDoorXM5
import Derived.StillTailTactics
set_option maxHeartbeats 8000000
set_option maxRecDepth 100000
set_option linter.unusedVariables false
set_option linter.unusedSimpArgs false
set_option linter.unusedSectionVars false
namespace Go.Proofs.YtcdleippdegibaaDoor.PR
open Go.RowKit Go.Proofs.YtcdleippdegibaaDoorW.PrintWords Go.Proofs.YtcdleippdegibaaDoorW.PrintLast Go.Proofs.YtcdleippdegibaaDoorW.PrintMore
open Go.Proofs.YtcdleippdegibaaDoor.LibG (SH SH.below SH.drewN SH.drew SH.alloc)
open Go.Proofs.YtcdleippdegibaaDoor.PK
attribute [local go_sem] max2_int min2_int max_two min_two max_three min_three max_four min_four
def b_IsWord.l0 : Nat → ByteArray → Int → Option (Bool)
 | 0, _, _ => none
 | k + 1, x0, x3 => if x3 < (x0.size : Int) then (if 0 ≤ x3 then ((b_letter.f (bt x0 x3)).bind fun t114 => (if t114 = true then (b_IsWord.l0 k x0 (wrap64 (x3 + 1))) else (if x3 = 0 then (some false) else ((b_digit.f (bt x0 x3)).bind fun t115 => (if t115 = true then (b_IsWord.l0 k x0 (wrap64 (x3 + 1))) else (some false)))))) else (none)) else (some (decide ((x0.size : Int) > 0)))
def b_IsWord.f (k : Nat) (a0 : ByteArray) : Option (Bool) := b_IsWord.l0 k a0 0
theorem b_IsWord.mono_l : ∀ k, (∀ y0 y1, LeO (b_IsWord.l0 k y0 y1) (b_IsWord.l0 (k + 1) y0 y1))
 | 0 => fun _ _ r h => by simp [b_IsWord.l0] at h
 | k + 1 => by
  have ih0 := b_IsWord.mono_l k
  intro y0 y1
  unfold b_IsWord.l0
  repeat' first
  | (with_reducible exact ih0 _ _)
  | (with_reducible exact LeO.refl _)
  | (with_reducible exact LeO.none _)
  | (with_reducible refine LeO.ite ?_ ?_)
  | (with_reducible refine LeO.bind ?_ (fun _ => ?_))
theorem b_IsWord.mono : ∀ a0 k, LeO (b_IsWord.f k a0) (b_IsWord.f (k + 1) a0) := by
 intro a0 k
 have ih0 := b_IsWord.mono_l k
 unfold b_IsWord.f
 repeat' first
   | (with_reducible exact ih0 _ _)
   | (with_reducible exact LeO.refl _)
   | (with_reducible exact LeO.none _)
   | (with_reducible refine LeO.ite ?_ ?_)
   | (with_reducible refine LeO.bind ?_ (fun _ => ?_))
theorem b_IsWord.calls (k : Nat) (a0 : ByteArray) (r : Bool) (w : World) (h : b_IsWord.f k a0 = some r) :
  Calls Tryd.prog 100 #[.string a0] w fun e w' => e = .returned (.bool r) ∧ Drawn0 w w' := by
 have H : (b_IsWord.l0 k a0 0) = some r := h
 clear h
 have H' := Aside0.mk H
 clear H
 go_enter Tryd.func100, Tryd.ntmps100
 go_wp2
 go_loopg [3] k (fun kq v3 w' => ∃ (x3_1 : Int), v3 = .int .i64 x3_1 ∧ Aside0 (b_IsWord.l0 kq a0 x3_1 = some r) ∧ Aside0 (kq ≤ k) ∧ Drawn0 w w')
 case atStart => exact ⟨(0), er_, H', ⟨Nat.le_refl _⟩, dr_⟩
 case round =>
  clear H'
  obtain ⟨x3_1, rfl, HA, HK1, ⟨m1, rfl⟩⟩ := hrel
  cases gk with
  | zero => exact absurd HA.out (by simp [b_IsWord.l0])
  | succ k1 =>
   have H := HA.out
   clear HA
   simp only [b_IsWord.l0] at H
   replace H := id_ H
   obtain ⟨-, c2b0, H⟩ | ⟨-, c2b0, H⟩ := H
   ·replace H := id_ H
    obtain ⟨-, c3b0, H⟩ | ⟨-, -, H⟩ := H
    ·replace H := Option.bind_eq_some_iff.mp H
     obtain ⟨t114, A50, H⟩ := H
     replace H : (if t114 = true then (b_IsWord.l0 k1 a0 (wrap64 (x3_1 + 1))) else (if x3_1 = 0 then (some false) else ((b_digit.f (bt a0 x3_1)).bind fun t115 => (if t115 = true then (b_IsWord.l0 k1 a0 (wrap64 (x3_1 + 1))) else (some false))))) = some r := H
     have A5 := Aside0.mk A50
     clear A50
     by_cases c6 : t114 = true
     ·subst c6
      have H1 : (b_IsWord.l0 k1 a0 (wrap64 (x3_1 + 1))) = some r := by rw [if_pos rfl] at H; exact H
      clear H
      have H := H1
      clear H1
      have H' := Aside0.mk H
      clear H
      have p4 : 0 ≤ (x3_1 : Int) := da_
      have q4 : x3_1 < (a0.size : Int) := da_
      have hx4 := bt_at a0 x3_1
      replace p4 := eq_true p4
      replace q4 := eq_true q4
      go_wp2_with (first | ((with_reducible refine gate_callee (f := 104) rfl ?_); refine goesL_ (some 13) rfl rfl Tryd.func104 (by kernel_rfl) rfl #[.int .u8 (bt a0 x3_1)] rfl ar_ ?_; (with_reducible refine (b_letter.calls (bt a0 x3_1) true _ A5.out).mono ?_); rintro e w' ⟨rfl, ⟨nd, rfl⟩⟩; refine ⟨_, rfl, ?_⟩))
      go_roundg k1
      case measure => have := HK1.out; omega
      case rel => exact ⟨(wrap64 (x3_1 + 1)), er_, H', ⟨by have := HK1.out; omega⟩, dr_⟩
     replace c6 := Bool.eq_false_iff.mpr c6
     subst c6
     have H1 : (if x3_1 = 0 then (some false) else ((b_digit.f (bt a0 x3_1)).bind fun t115 => (if t115 = true then (b_IsWord.l0 k1 a0 (wrap64 (x3_1 + 1))) else (some false)))) = some r := by rw [if_neg (show ¬ (false = true) by decide)] at H; exact H
     clear H
     have H := H1
     clear H1
     replace H := ie_ H
     obtain ⟨c7b0, c7b1, H⟩ | ⟨c7b0, c7b1, c7, H⟩ := H
     ·obtain rfl := Option.some.inj H
      have p4 : 0 ≤ (x3_1 : Int) := da_
      have q4 : x3_1 < (a0.size : Int) := da_
      have hx4 := bt_at a0 x3_1
      replace p4 := eq_true p4
      replace q4 := eq_true q4
      go_wp2_with (first | ((with_reducible refine gate_callee (f := 104) rfl ?_); refine goesL_ (some 13) rfl rfl Tryd.func104 (by kernel_rfl) rfl #[.int .u8 (bt a0 x3_1)] rfl ar_ ?_; (with_reducible refine (b_letter.calls (bt a0 x3_1) false _ A5.out).mono ?_); rintro e w' ⟨rfl, ⟨nd, rfl⟩⟩; refine ⟨_, rfl, ?_⟩))
      go_ret
      exact ⟨er_, dr_⟩
     replace H := Option.bind_eq_some_iff.mp H
     obtain ⟨t115, A90, H⟩ := H
     replace H : (if t115 = true then (b_IsWord.l0 k1 a0 (wrap64 (x3_1 + 1))) else (some false)) = some r := H
     have A9 := Aside0.mk A90
     clear A90
     by_cases c10 : t115 = true
     ·subst c10
      have H1 : (b_IsWord.l0 k1 a0 (wrap64 (x3_1 + 1))) = some r := by rw [if_pos rfl] at H; exact H
      clear H
      have H := H1
      clear H1
      have H' := Aside0.mk H
      clear H
      have p4 : 0 ≤ (x3_1 : Int) := da_
      have q4 : x3_1 < (a0.size : Int) := da_
      have hx4 := bt_at a0 x3_1
      replace p4 := eq_true p4
      replace q4 := eq_true q4
      go_wp2_with (first | ((with_reducible refine gate_callee (f := 104) rfl ?_); refine goesL_ (some 13) rfl rfl Tryd.func104 (by kernel_rfl) rfl #[.int .u8 (bt a0 x3_1)] rfl ar_ ?_; (with_reducible refine (b_letter.calls (bt a0 x3_1) false _ A5.out).mono ?_); rintro e w' ⟨rfl, ⟨nd, rfl⟩⟩; refine ⟨_, rfl, ?_⟩; have p8 : 0 ≤ (x3_1 : Int) := da_; have q8 : x3_1 < (a0.size : Int) := da_; have hx8 := bt_at a0 x3_1; replace p8 := eq_true p8; replace q8 := eq_true q8) | (go_at_call 105; (with_reducible refine (b_digit.calls (bt a0 x3_1) true _ A9.out).mono ?_); rintro e w' ⟨rfl, ⟨nd, rfl⟩⟩))
      go_roundg k1
      case measure => have := HK1.out; omega
      case rel => exact ⟨(wrap64 (x3_1 + 1)), er_, H', ⟨by have := HK1.out; omega⟩, dr_⟩
     replace c10 := Bool.eq_false_iff.mpr c10
     subst c10
     have H1 : (some false) = some r := by rw [if_neg (show ¬ (false = true) by decide)] at H; exact H
     clear H
     have H := H1
     clear H1
     obtain rfl := Option.some.inj H
     have p4 : 0 ≤ (x3_1 : Int) := da_
     have q4 : x3_1 < (a0.size : Int) := da_
     have hx4 := bt_at a0 x3_1
     replace p4 := eq_true p4
     replace q4 := eq_true q4
     go_wp2_with (first | ((with_reducible refine gate_callee (f := 104) rfl ?_); refine goesL_ (some 13) rfl rfl Tryd.func104 (by kernel_rfl) rfl #[.int .u8 (bt a0 x3_1)] rfl ar_ ?_; (with_reducible refine (b_letter.calls (bt a0 x3_1) false _ A5.out).mono ?_); rintro e w' ⟨rfl, ⟨nd, rfl⟩⟩; refine ⟨_, rfl, ?_⟩; have p8 : 0 ≤ (x3_1 : Int) := da_; have q8 : x3_1 < (a0.size : Int) := da_; have hx8 := bt_at a0 x3_1; replace p8 := eq_true p8; replace q8 := eq_true q8) | (go_at_call 105; (with_reducible refine (b_digit.calls (bt a0 x3_1) false _ A9.out).mono ?_); rintro e w' ⟨rfl, ⟨nd, rfl⟩⟩))
     go_ret
     exact ⟨er_, dr_⟩
    exact absurd H (by simp)
   obtain rfl := Option.some.inj H
   go_wp2
   go_ret
   exact ⟨er_, dr_⟩
def b_sign.f (a0 : Int) : Option (Bool) := if a0 = 43 then (some true) else (some (a0 == 45))
theorem b_sign.calls (a0 : Int) (r : Bool) (w : World) (h : b_sign.f a0 = some r) :
  Calls Tryd.prog 106 #[.int .u8 a0] w fun e w' => e = .returned (.bool r) ∧ Drawn0 w w' := by
 have H : (if a0 = 43 then (some true) else (some (a0 == 45))) = some r := h
 clear h
 replace H := ie_ H
 obtain ⟨c2b0, c2b1, H⟩ | ⟨c2b0, c2b1, c2, H⟩ := H
 ·obtain rfl := Option.some.inj H
  go_enter Tryd.func106, Tryd.ntmps106
  go_wp2
  go_ret
  exact ⟨er_, dr_⟩
 obtain rfl := Option.some.inj H
 go_enter Tryd.func106, Tryd.ntmps106
 go_wp2
 go_ret
 exact ⟨er_, dr_⟩
def b_expo.f (a0 : Int) : Option (Bool) := if a0 = 101 then (some true) else (if a0 = 69 then (some true) else (if a0 = 112 then (some true) else (some (a0 == 80))))
theorem b_expo.calls (a0 : Int) (r : Bool) (w : World) (h : b_expo.f a0 = some r) :
  Calls Tryd.prog 107 #[.int .u8 a0] w fun e w' => e = .returned (.bool r) ∧ Drawn0 w w' := by
 have H : (if a0 = 101 then (some true) else (if a0 = 69 then (some true) else (if a0 = 112 then (some true) else (some (a0 == 80))))) = some r := h
 clear h
 replace H := ie_ H
 obtain ⟨c2b0, c2b1, H⟩ | ⟨c2b0, c2b1, c2, H⟩ := H
 ·obtain rfl := Option.some.inj H
  go_enter Tryd.func107, Tryd.ntmps107
  go_wp2
  go_ret
  exact ⟨er_, dr_⟩
 replace H := ie_ H
 obtain ⟨c3b0, c3b1, H⟩ | ⟨c3b0, c3b1, c3, H⟩ := H
 ·obtain rfl := Option.some.inj H
  go_enter Tryd.func107, Tryd.ntmps107
  go_wp2
  go_ret
  exact ⟨er_, dr_⟩
 replace H := ie_ H
 obtain ⟨c4b0, c4b1, H⟩ | ⟨c4b0, c4b1, c4, H⟩ := H
 ·obtain rfl := Option.some.inj H
  go_enter Tryd.func107, Tryd.ntmps107
  go_wp2
  go_ret
  exact ⟨er_, dr_⟩
 obtain rfl := Option.some.inj H
 go_enter Tryd.func107, Tryd.ntmps107
 go_wp2
 go_ret
 exact ⟨er_, dr_⟩
mutual
def b_IsNumber.j0 : Nat → ByteArray → Int → Bool → Option (Bool)
 | 0, _, _, _ => none
 | k + 1, x0, x3, x20 => if x20 = true then (if 1 < (x0.size : Int) then ((b_digit.f (bt x0 1)).bind fun t117 => (some t117)) else (none)) else (if 0 ≤ (wrap64 (x3 - 1)) then (if (wrap64 (x3 - 1)) < (x0.size : Int) then ((b_sign.f (bt x0 (wrap64 (x3 - 1)))).bind fun t118 => (if t118 = true then (if x3 > 2 then (if 0 ≤ (wrap64 (x3 - 2)) then (if (wrap64 (x3 - 2)) < (x0.size : Int) then ((b_expo.f (bt x0 (wrap64 (x3 - 2)))).bind fun t119 => (if t119 = true then (if (wrap64 (x3 - 2)) ≤ (x0.size : Int) then ((b_IsNumber.f k (x0.extract 0 ((wrap64 (x3 - 2)) : Int).toNat)).bind fun t120 => (some t120)) else (none)) else (some false))) else (none)) else (none)) else (some false)) else ((b_digit.f (bt x0 (wrap64 (x3 - 1)))).bind fun t121 => (if t121 = true then (if (wrap64 (x3 - 1)) ≤ (x0.size : Int) then ((b_IsNumber.f k (x0.extract 0 ((wrap64 (x3 - 1)) : Int).toNat)).bind fun t122 => (some t122)) else (none)) else ((b_letter.f (bt x0 (wrap64 (x3 - 1)))).bind fun t123 => (if t123 = true then (if (wrap64 (x3 - 1)) ≤ (x0.size : Int) then ((b_IsNumber.f k (x0.extract 0 ((wrap64 (x3 - 1)) : Int).toNat)).bind fun t124 => (some t124)) else (none)) else (if (bt x0 (wrap64 (x3 - 1))) = 46 then (if (wrap64 (x3 - 1)) ≤ (x0.size : Int) then ((b_IsNumber.f k (x0.extract 0 ((wrap64 (x3 - 1)) : Int).toNat)).bind fun t125 => (some t125)) else (none)) else (some false)))))))) else (none)) else (none))
def b_IsNumber.f : Nat → ByteArray → Option (Bool)
 | 0, _ => none
 | k + 1, a0 => if (a0.size : Int) = 0 then (some false) else (if (a0.size : Int) = 1 then (if 0 < (a0.size : Int) then ((b_digit.f (bt a0 0)).bind fun t116 => (some t116)) else (none)) else (if (a0.size : Int) = 2 then (if 0 < (a0.size : Int) then (b_IsNumber.j0 k a0 (a0.size : Int) ((bt a0 0) == 46)) else (none)) else (b_IsNumber.j0 k a0 (a0.size : Int) false)))
end
theorem b_IsNumber.mono_l : ∀ k, (∀ y0, LeO (b_IsNumber.f k y0) (b_IsNumber.f (k + 1) y0)) ∧ (∀ y0 y1 y2, LeO (b_IsNumber.j0 k y0 y1 y2) (b_IsNumber.j0 (k + 1) y0 y1 y2))
 | 0 => ⟨fun _ r h => by simp [b_IsNumber.f] at h, fun _ _ _ r h => by simp [b_IsNumber.j0] at h⟩
 | k + 1 => by
  obtain ⟨ih0, ih1⟩ := b_IsNumber.mono_l k
  refine ⟨?_, ?_⟩
  ·intro y0
   unfold b_IsNumber.f
   repeat' first
   | (with_reducible exact ih0 _)
   | (with_reducible exact ih1 _ _ _)
   | (with_reducible exact LeO.refl _)
   | (with_reducible exact LeO.none _)
   | (with_reducible refine LeO.ite ?_ ?_)
   | (with_reducible refine LeO.bind ?_ (fun _ => ?_))
  intro y0 y1 y2
  unfold b_IsNumber.j0
  repeat' first
  | (with_reducible exact ih0 _)
  | (with_reducible exact ih1 _ _ _)
  | (with_reducible exact LeO.refl _)
  | (with_reducible exact LeO.none _)
  | (with_reducible refine LeO.ite ?_ ?_)
  | (with_reducible refine LeO.bind ?_ (fun _ => ?_))
theorem b_IsNumber.mono : ∀ a0 k, LeO (b_IsNumber.f k a0) (b_IsNumber.f (k + 1) a0) := by
 intro a0 k
 obtain ⟨ih0, ih1⟩ := b_IsNumber.mono_l k
 exact ih0 a0
theorem b_IsNumber.calls (k : Nat) : ∀ (a0 : ByteArray) (r : Bool) (w : World) (h : b_IsNumber.f k a0 = some r),
  Calls Tryd.prog 101 #[.string a0] w fun e w' => e = .returned (.bool r) ∧ Drawn0 w w' := by
 induction k using Nat.strongRecOn with
 | _ k ih =>
 intro a0 r w h
 cases k with
 | zero => exact absurd h (by simp [b_IsNumber.f])
 | succ k =>
 simp only [b_IsNumber.f] at h
 have H : (if (a0.size : Int) = 0 then (some false) else (if (a0.size : Int) = 1 then (if 0 < (a0.size : Int) then ((b_digit.f (bt a0 0)).bind fun t116 => (some t116)) else (none)) else (if (a0.size : Int) = 2 then (if 0 < (a0.size : Int) then (b_IsNumber.j0 k a0 (a0.size : Int) ((bt a0 0) == 46)) else (none)) else (b_IsNumber.j0 k a0 (a0.size : Int) false)))) = some r := h
 clear h
 replace H := ie_ H
 obtain ⟨c2b0, c2b1, H⟩ | ⟨c2b0, c2b1, c2, H⟩ := H
 ·obtain rfl := Option.some.inj H
  go_enter Tryd.func101, Tryd.ntmps101
  go_wp2
  go_ret
  exact ⟨er_, dr_⟩
 replace H := ie_ H
 obtain ⟨c3b0, c3b1, H⟩ | ⟨c3b0, c3b1, c3, H⟩ := H
 ·replace H := ib_ H
  obtain ⟨c4, H⟩ | ⟨c4, H⟩ := H
  ·have c4b0 := decide_eq_true c4
   have c4b1 : decide (0 < a0.size) = true := decide_eq_true (by omega)
   clear c4
   replace H := Option.bind_eq_some_iff.mp H
   obtain ⟨t116, A60, H⟩ := H
   replace H : (some t116) = some r := H
   have A6 := Aside0.mk A60
   clear A60
   obtain rfl := Option.some.inj H
   have p5 : 0 ≤ (0 : Int) := (by omega)
   have q5 : 0 < a0.size := (by have : (0 : Int) < (a0.size : Int) := da_; omega)
   have hx5 : ∀ h : 0 < a0.size, ((a0[0]'h).toNat : Int) = bt a0 0 := bt_at a0 0
   clear p5
   have qi5 : (0 < (a0.size : Int)) = True := eq_true da_
   replace q5 := eq_true q5
   go_enter Tryd.func101, Tryd.ntmps101
   go_wp2_with (first | ((with_reducible refine gate_callee (f := 105) rfl ?_); refine goesL_ (some 13) rfl rfl Tryd.func105 (by kernel_rfl) rfl #[.int .u8 (bt a0 0)] rfl ar_ ?_; (with_reducible refine (b_digit.calls (bt a0 0) t116 _ A6.out).mono ?_); rintro e w' ⟨rfl, ⟨nd, rfl⟩⟩; refine ⟨_, rfl, ?_⟩))
   go_ret
   exact ⟨er_, dr_⟩
  exact absurd H (by simp)
 have HC7 := Aside0.mk H
 clear H
 go_enter Tryd.func101, Tryd.ntmps101
 go_upto_region 6 with (fail)
 go_cut [20] (fun v20 wc => ∃ (kq : Nat) (x20_6 : Bool), v20 = .bool x20_6 ∧ Aside0 (b_IsNumber.j0 kq a0 (a0.size : Int) x20_6 = some r) ∧ Aside0 (kq ≤ k) ∧ Drawn0 w wc)
 case first =>
  have H := HC7.out
  clear HC7
  replace H := ie_ H
  obtain ⟨c8b0, c8b1, H⟩ | ⟨c8b0, c8b1, c8, H⟩ := H
  ·(first | rw [c8b0] | (simp only [i64_w, i32_w]; rw [c8b0]) | skip)
   replace H := ib_ H
   obtain ⟨c9, H⟩ | ⟨c9, H⟩ := H
   ·have c9b0 := decide_eq_true c9
    have c9b1 : decide (0 < a0.size) = true := decide_eq_true (by omega)
    clear c9
    have H' := Aside0.mk H
    clear H
    have p10 : 0 ≤ (0 : Int) := (by omega)
    have q10 : 0 < a0.size := (by have : (0 : Int) < (a0.size : Int) := da_; omega)
    have hx10 : ∀ h : 0 < a0.size, ((a0[0]'h).toNat : Int) = bt a0 0 := bt_at a0 0
    clear p10
    have qi10 : (0 < (a0.size : Int)) = True := eq_true da_
    replace q10 := eq_true q10
    go_wp2
    go_meet
    case rel => exact ⟨_, (((bt a0 0) == 46)), er_, H', ⟨om_⟩, dr_⟩
   exact absurd H (by simp)
  (first | rw [c8b0] | (simp only [i64_w, i32_w]; rw [c8b0]) | skip)
  have H' := Aside0.mk H
  clear H
  go_wp2
  go_meet
  case rel => exact ⟨_, (false), er_, H', ⟨om_⟩, dr_⟩
 case rest =>
  clear HC7
  try clear c2
  try clear c2b0
  try clear c2b1
  try clear c3
  try clear c3b0
  try clear c3b1
  try clear c4
  try clear c4b0
  try clear c4b1
  try clear p5
  try clear q5
  try clear hx5
  try clear qi5
  try clear c8
  try clear c8b0
  try clear c8b1
  try clear c9
  try clear c9b0
  try clear c9b1
  try clear p10
  try clear q10
  try clear hx10
  try clear qi10
  try clear p10
  try clear p5
  try clear q10
  try clear q5
  obtain ⟨kq, x20_6, rfl, HA, HJ6, ⟨mc6, rfl⟩⟩ := hcut
  cases kq with
  | zero => exact absurd HA.out (by simp [b_IsNumber.j0])
  | succ kj6 =>
   have H := HA.out
   clear HA
   simp only [b_IsNumber.j0] at H
   by_cases c11 : x20_6 = true
   ·subst c11
    have H1 : (if 1 < (a0.size : Int) then ((b_digit.f (bt a0 1)).bind fun t117 => (some t117)) else (none)) = some r := by rw [if_pos rfl] at H; exact H
    clear H
    have H := H1
    clear H1
    replace H := ib_ H
    obtain ⟨c12, H⟩ | ⟨c12, H⟩ := H
    ·have c12b0 := decide_eq_true c12
     have c12b1 : decide (1 < a0.size) = true := decide_eq_true (by omega)
     clear c12
     replace H := Option.bind_eq_some_iff.mp H
     obtain ⟨t117, A140, H⟩ := H
     replace H : (some t117) = some r := H
     have A14 := Aside0.mk A140
     clear A140
     obtain rfl := Option.some.inj H
     have p13 : 0 ≤ (1 : Int) := (by omega)
     have q13 : 1 < a0.size := (by have : (1 : Int) < (a0.size : Int) := da_; omega)
     have hx13 : ∀ h : 1 < a0.size, ((a0[1]'h).toNat : Int) = bt a0 1 := bt_at a0 1
     clear p13
     have qi13 : (1 < (a0.size : Int)) = True := eq_true da_
     replace q13 := eq_true q13
     go_wp2_with (first | ((with_reducible refine gate_callee (f := 105) rfl ?_); refine goesL_ (some 23) rfl rfl Tryd.func105 (by kernel_rfl) rfl #[.int .u8 (bt a0 1)] rfl ar_ ?_; (with_reducible refine (b_digit.calls (bt a0 1) t117 _ A14.out).mono ?_); rintro e w' ⟨rfl, ⟨nd, rfl⟩⟩; refine ⟨_, rfl, ?_⟩))
     go_ret
     exact ⟨er_, dr_⟩
    exact absurd H (by simp)
   replace c11 := Bool.eq_false_iff.mpr c11
   subst c11
   have H1 : (if 0 ≤ (wrap64 ((a0.size : Int) - 1)) then (if (wrap64 ((a0.size : Int) - 1)) < (a0.size : Int) then ((b_sign.f (bt a0 (wrap64 ((a0.size : Int) - 1)))).bind fun t118 => (if t118 = true then (if (a0.size : Int) > 2 then (if 0 ≤ (wrap64 ((a0.size : Int) - 2)) then (if (wrap64 ((a0.size : Int) - 2)) < (a0.size : Int) then ((b_expo.f (bt a0 (wrap64 ((a0.size : Int) - 2)))).bind fun t119 => (if t119 = true then (if (wrap64 ((a0.size : Int) - 2)) ≤ (a0.size : Int) then ((b_IsNumber.f kj6 (a0.extract 0 ((wrap64 ((a0.size : Int) - 2)) : Int).toNat)).bind fun t120 => (some t120)) else (none)) else (some false))) else (none)) else (none)) else (some false)) else ((b_digit.f (bt a0 (wrap64 ((a0.size : Int) - 1)))).bind fun t121 => (if t121 = true then (if (wrap64 ((a0.size : Int) - 1)) ≤ (a0.size : Int) then ((b_IsNumber.f kj6 (a0.extract 0 ((wrap64 ((a0.size : Int) - 1)) : Int).toNat)).bind fun t122 => (some t122)) else (none)) else ((b_letter.f (bt a0 (wrap64 ((a0.size : Int) - 1)))).bind fun t123 => (if t123 = true then (if (wrap64 ((a0.size : Int) - 1)) ≤ (a0.size : Int) then ((b_IsNumber.f kj6 (a0.extract 0 ((wrap64 ((a0.size : Int) - 1)) : Int).toNat)).bind fun t124 => (some t124)) else (none)) else (if (bt a0 (wrap64 ((a0.size : Int) - 1))) = 46 then (if (wrap64 ((a0.size : Int) - 1)) ≤ (a0.size : Int) then ((b_IsNumber.f kj6 (a0.extract 0 ((wrap64 ((a0.size : Int) - 1)) : Int).toNat)).bind fun t125 => (some t125)) else (none)) else (some false)))))))) else (none)) else (none)) = some r := by rw [if_neg (show ¬ (false = true) by decide)] at H; exact H
   clear H
   have H := H1
   clear H1
   obtain ⟨ji15, hji15⟩ : ∃ j_ : Int, (wrap64 ((a0.size : Int) - 1)) = j_ := ⟨_, rfl⟩
   replace H : (if 0 ≤ (ji15) then (if (ji15) < (a0.size : Int) then ((b_sign.f (bt a0 (ji15))).bind fun t118 => (if t118 = true then (if (a0.size : Int) > 2 then (if 0 ≤ (wrap64 ((a0.size : Int) - 2)) then (if (wrap64 ((a0.size : Int) - 2)) < (a0.size : Int) then ((b_expo.f (bt a0 (wrap64 ((a0.size : Int) - 2)))).bind fun t119 => (if t119 = true then (if (wrap64 ((a0.size : Int) - 2)) ≤ (a0.size : Int) then ((b_IsNumber.f kj6 (a0.extract 0 ((wrap64 ((a0.size : Int) - 2)) : Int).toNat)).bind fun t120 => (some t120)) else (none)) else (some false))) else (none)) else (none)) else (some false)) else ((b_digit.f (bt a0 (ji15))).bind fun t121 => (if t121 = true then (if (ji15) ≤ (a0.size : Int) then ((b_IsNumber.f kj6 (a0.extract 0 ((ji15) : Int).toNat)).bind fun t122 => (some t122)) else (none)) else ((b_letter.f (bt a0 (ji15))).bind fun t123 => (if t123 = true then (if (ji15) ≤ (a0.size : Int) then ((b_IsNumber.f kj6 (a0.extract 0 ((ji15) : Int).toNat)).bind fun t124 => (some t124)) else (none)) else (if (bt a0 (ji15)) = 46 then (if (ji15) ≤ (a0.size : Int) then ((b_IsNumber.f kj6 (a0.extract 0 ((ji15) : Int).toNat)).bind fun t125 => (some t125)) else (none)) else (some false)))))))) else (none)) else (none)) = some r := by first | (rw [hji15] at H; exact H) | (simp only [hji15] at H ⊢; exact H)
   have hji15w : (IntKind.i64.wrap ((a0.size : Int) - 1)) = ji15 := (i64_w _).trans hji15
   replace H := id_ H
   obtain ⟨-, c16b0, H⟩ | ⟨-, -, H⟩ := H
   ·replace H := id_ H
    obtain ⟨-, c17b0, H⟩ | ⟨-, -, H⟩ := H
    ·replace H := Option.bind_eq_some_iff.mp H
     obtain ⟨t118, A190, H⟩ := H
     replace H : (if t118 = true then (if (a0.size : Int) > 2 then (if 0 ≤ (wrap64 ((a0.size : Int) - 2)) then (if (wrap64 ((a0.size : Int) - 2)) < (a0.size : Int) then ((b_expo.f (bt a0 (wrap64 ((a0.size : Int) - 2)))).bind fun t119 => (if t119 = true then (if (wrap64 ((a0.size : Int) - 2)) ≤ (a0.size : Int) then ((b_IsNumber.f kj6 (a0.extract 0 ((wrap64 ((a0.size : Int) - 2)) : Int).toNat)).bind fun t120 => (some t120)) else (none)) else (some false))) else (none)) else (none)) else (some false)) else ((b_digit.f (bt a0 (ji15))).bind fun t121 => (if t121 = true then (if (ji15) ≤ (a0.size : Int) then ((b_IsNumber.f kj6 (a0.extract 0 ((ji15) : Int).toNat)).bind fun t122 => (some t122)) else (none)) else ((b_letter.f (bt a0 (ji15))).bind fun t123 => (if t123 = true then (if (ji15) ≤ (a0.size : Int) then ((b_IsNumber.f kj6 (a0.extract 0 ((ji15) : Int).toNat)).bind fun t124 => (some t124)) else (none)) else (if (bt a0 (ji15)) = 46 then (if (ji15) ≤ (a0.size : Int) then ((b_IsNumber.f kj6 (a0.extract 0 ((ji15) : Int).toNat)).bind fun t125 => (some t125)) else (none)) else (some false))))))) = some r := H
     have A19 := Aside0.mk A190
     clear A190
     by_cases c20 : t118 = true
     ·subst c20
      have H1 : (if (a0.size : Int) > 2 then (if 0 ≤ (wrap64 ((a0.size : Int) - 2)) then (if (wrap64 ((a0.size : Int) - 2)) < (a0.size : Int) then ((b_expo.f (bt a0 (wrap64 ((a0.size : Int) - 2)))).bind fun t119 => (if t119 = true then (if (wrap64 ((a0.size : Int) - 2)) ≤ (a0.size : Int) then ((b_IsNumber.f kj6 (a0.extract 0 ((wrap64 ((a0.size : Int) - 2)) : Int).toNat)).bind fun t120 => (some t120)) else (none)) else (some false))) else (none)) else (none)) else (some false)) = some r := by rw [if_pos rfl] at H; exact H
      clear H
      have H := H1
      clear H1
      replace H := ib_ H
      obtain ⟨c21, H⟩ | ⟨c21, H⟩ := H
      ·have c21b0 : decide (2 < (a0.size : Int)) = true := decide_eq_true c21
       have c21b1 : decide (2 < a0.size) = true := decide_eq_true (by omega)
       clear c21
       obtain ⟨ji22, hji22⟩ : ∃ j_ : Int, (wrap64 ((a0.size : Int) - 2)) = j_ := ⟨_, rfl⟩
       replace H : (if 0 ≤ (ji22) then (if (ji22) < (a0.size : Int) then ((b_expo.f (bt a0 (ji22))).bind fun t119 => (if t119 = true then (if (ji22) ≤ (a0.size : Int) then ((b_IsNumber.f kj6 (a0.extract 0 ((ji22) : Int).toNat)).bind fun t120 => (some t120)) else (none)) else (some false))) else (none)) else (none)) = some r := by first | (rw [hji22] at H; exact H) | (simp only [hji22] at H ⊢; exact H)
       (try rw [hji22] at A19)
       have hji22w : (IntKind.i64.wrap ((a0.size : Int) - 2)) = ji22 := (i64_w _).trans hji22
       replace H := id_ H
       obtain ⟨-, c23b0, H⟩ | ⟨-, -, H⟩ := H
       ·replace H := id_ H
        obtain ⟨-, c24b0, H⟩ | ⟨-, -, H⟩ := H
        ·replace H := Option.bind_eq_some_iff.mp H
         obtain ⟨t119, A260, H⟩ := H
         replace H : (if t119 = true then (if (ji22) ≤ (a0.size : Int) then ((b_IsNumber.f kj6 (a0.extract 0 ((ji22) : Int).toNat)).bind fun t120 => (some t120)) else (none)) else (some false)) = some r := H
         have A26 := Aside0.mk A260
         clear A260
         by_cases c27 : t119 = true
         ·subst c27
          have H1 : (if (ji22) ≤ (a0.size : Int) then ((b_IsNumber.f kj6 (a0.extract 0 ((ji22) : Int).toNat)).bind fun t120 => (some t120)) else (none)) = some r := by rw [if_pos rfl] at H; exact H
          clear H
          have H := H1
          clear H1
          have c28b0 := eq_true (da_ : 0 ≤ (ji22))
          replace H := id_ H
          obtain ⟨c29b0, c29b1, H⟩ | ⟨-, -, H⟩ := H
          ·replace H := Option.bind_eq_some_iff.mp H
           obtain ⟨t120, A300, H⟩ := H
           replace H : (some t120) = some r := H
           have A30 := Aside0.mk A300
           clear A300
           obtain rfl := Option.some.inj H
           have p18 : 0 ≤ ((ji15) : Int) := da_
           have q18 : (ji15) < (a0.size : Int) := da_
           have hx18 := bt_at a0 (ji15)
           replace p18 := eq_true p18
           replace q18 := eq_true q18
           go_wp2_with (first | ((with_reducible refine gate_callee (f := 106) rfl ?_); refine goesL_ (some 28) rfl rfl Tryd.func106 (by kernel_rfl) rfl #[.int .u8 (bt a0 (ji15))] rfl (by (try simp only [List.map_toArray, List.map_cons, List.map_nil]); first | done | (simp only [hji15]; rfl) | rfl | (simp only [List.length_drop, List.length_take]; rfl)) ?_; (with_reducible refine (b_sign.calls (bt a0 (ji15)) true _ A19.out).mono ?_); rintro e w' ⟨rfl, ⟨nd, rfl⟩⟩; refine ⟨_, rfl, ?_⟩; have p25 : 0 ≤ ((ji22) : Int) := da_; have q25 : (ji22) < (a0.size : Int) := da_; have hx25 := bt_at a0 (ji22); replace p25 := eq_true p25; replace q25 := eq_true q25) | (go_at_call 107; (with_reducible refine (b_expo.calls (bt a0 (ji22)) true _ A26.out).mono ?_); rintro e w' ⟨rfl, ⟨nd, rfl⟩⟩) | (go_at_call 101; (with_reducible refine (ih kj6 (by have := HJ6.out; omega) (a0.extract 0 ((ji22) : Int).toNat) t120 _ A30.out).mono ?_); rintro e w' ⟨rfl, ⟨nd, rfl⟩⟩))
           go_ret
           exact ⟨by first | rfl | (simp; done) | (simp only [← hji15, ← hji22] <;> (first | rfl | simp)) | (simp [*]; done), dr_⟩
          exact absurd H (by simp)
         replace c27 := Bool.eq_false_iff.mpr c27
         subst c27
         have H1 : (some false) = some r := by rw [if_neg (show ¬ (false = true) by decide)] at H; exact H
         clear H
         have H := H1
         clear H1
         obtain rfl := Option.some.inj H
         have p18 : 0 ≤ ((ji15) : Int) := da_
         have q18 : (ji15) < (a0.size : Int) := da_
         have hx18 := bt_at a0 (ji15)
         replace p18 := eq_true p18
         replace q18 := eq_true q18
         go_wp2_with (first | ((with_reducible refine gate_callee (f := 106) rfl ?_); refine goesL_ (some 28) rfl rfl Tryd.func106 (by kernel_rfl) rfl #[.int .u8 (bt a0 (ji15))] rfl (by (try simp only [List.map_toArray, List.map_cons, List.map_nil]); first | done | (simp only [hji15]; rfl) | rfl | (simp only [List.length_drop, List.length_take]; rfl)) ?_; (with_reducible refine (b_sign.calls (bt a0 (ji15)) true _ A19.out).mono ?_); rintro e w' ⟨rfl, ⟨nd, rfl⟩⟩; refine ⟨_, rfl, ?_⟩; have p25 : 0 ≤ ((ji22) : Int) := da_; have q25 : (ji22) < (a0.size : Int) := da_; have hx25 := bt_at a0 (ji22); replace p25 := eq_true p25; replace q25 := eq_true q25) | (go_at_call 107; (with_reducible refine (b_expo.calls (bt a0 (ji22)) false _ A26.out).mono ?_); rintro e w' ⟨rfl, ⟨nd, rfl⟩⟩))
         go_ret
         exact ⟨by first | rfl | (simp; done) | (simp only [← hji15, ← hji22] <;> (first | rfl | simp)) | (simp [*]; done), dr_⟩
        exact absurd H (by simp)
       exact absurd H (by simp)
      have c21b0 : decide (2 < (a0.size : Int)) = false := decide_eq_false c21
      have c21b1 : decide (2 < a0.size) = false := decide_eq_false (by omega)
      clear c21
      obtain rfl := Option.some.inj H
      have p18 : 0 ≤ ((ji15) : Int) := da_
      have q18 : (ji15) < (a0.size : Int) := da_
      have hx18 := bt_at a0 (ji15)
      replace p18 := eq_true p18
      replace q18 := eq_true q18
      go_wp2_with (first | ((with_reducible refine gate_callee (f := 106) rfl ?_); refine goesL_ (some 28) rfl rfl Tryd.func106 (by kernel_rfl) rfl #[.int .u8 (bt a0 (ji15))] rfl (by (try simp only [List.map_toArray, List.map_cons, List.map_nil]); first | done | (simp only [hji15]; rfl) | rfl | (simp only [List.length_drop, List.length_take]; rfl)) ?_; (with_reducible refine (b_sign.calls (bt a0 (ji15)) true _ A19.out).mono ?_); rintro e w' ⟨rfl, ⟨nd, rfl⟩⟩; refine ⟨_, rfl, ?_⟩))
      go_ret
      exact ⟨by first | rfl | (simp; done) | (simp only [← hji15] <;> (first | rfl | simp)) | (simp [*]; done), dr_⟩
     replace c20 := Bool.eq_false_iff.mpr c20
     subst c20
     have H1 : ((b_digit.f (bt a0 (ji15))).bind fun t121 => (if t121 = true then (if (ji15) ≤ (a0.size : Int) then ((b_IsNumber.f kj6 (a0.extract 0 ((ji15) : Int).toNat)).bind fun t122 => (some t122)) else (none)) else ((b_letter.f (bt a0 (ji15))).bind fun t123 => (if t123 = true then (if (ji15) ≤ (a0.size : Int) then ((b_IsNumber.f kj6 (a0.extract 0 ((ji15) : Int).toNat)).bind fun t124 => (some t124)) else (none)) else (if (bt a0 (ji15)) = 46 then (if (ji15) ≤ (a0.size : Int) then ((b_IsNumber.f kj6 (a0.extract 0 ((ji15) : Int).toNat)).bind fun t125 => (some t125)) else (none)) else (some false)))))) = some r := by rw [if_neg (show ¬ (false = true) by decide)] at H; exact H
     clear H
     have H := H1
     clear H1
     replace H := Option.bind_eq_some_iff.mp H
     obtain ⟨t121, A320, H⟩ := H
     replace H : (if t121 = true then (if (ji15) ≤ (a0.size : Int) then ((b_IsNumber.f kj6 (a0.extract 0 ((ji15) : Int).toNat)).bind fun t122 => (some t122)) else (none)) else ((b_letter.f (bt a0 (ji15))).bind fun t123 => (if t123 = true then (if (ji15) ≤ (a0.size : Int) then ((b_IsNumber.f kj6 (a0.extract 0 ((ji15) : Int).toNat)).bind fun t124 => (some t124)) else (none)) else (if (bt a0 (ji15)) = 46 then (if (ji15) ≤ (a0.size : Int) then ((b_IsNumber.f kj6 (a0.extract 0 ((ji15) : Int).toNat)).bind fun t125 => (some t125)) else (none)) else (some false))))) = some r := H
     have A32 := Aside0.mk A320
     clear A320
     by_cases c33 : t121 = true
     ·subst c33
      have H1 : (if (ji15) ≤ (a0.size : Int) then ((b_IsNumber.f kj6 (a0.extract 0 ((ji15) : Int).toNat)).bind fun t122 => (some t122)) else (none)) = some r := by rw [if_pos rfl] at H; exact H
      clear H
      have H := H1
      clear H1
      have c34b0 := eq_true (da_ : 0 ≤ (ji15))
      replace H := id_ H
      obtain ⟨c35b0, c35b1, H⟩ | ⟨-, -, H⟩ := H
      ·replace H := Option.bind_eq_some_iff.mp H
       obtain ⟨t122, A360, H⟩ := H
       replace H : (some t122) = some r := H
       have A36 := Aside0.mk A360
       clear A360
       obtain rfl := Option.some.inj H
       have p18 : 0 ≤ ((ji15) : Int) := da_
       have q18 : (ji15) < (a0.size : Int) := da_
       have hx18 := bt_at a0 (ji15)
       replace p18 := eq_true p18
       replace q18 := eq_true q18
       go_wp2_with (first | ((with_reducible refine gate_callee (f := 106) rfl ?_); refine goesL_ (some 28) rfl rfl Tryd.func106 (by kernel_rfl) rfl #[.int .u8 (bt a0 (ji15))] rfl (by (try simp only [List.map_toArray, List.map_cons, List.map_nil]); first | done | (simp only [hji15]; rfl) | rfl | (simp only [List.length_drop, List.length_take]; rfl)) ?_; (with_reducible refine (b_sign.calls (bt a0 (ji15)) false _ A19.out).mono ?_); rintro e w' ⟨rfl, ⟨nd, rfl⟩⟩; refine ⟨_, rfl, ?_⟩; have p31 : 0 ≤ ((ji15) : Int) := da_; have q31 : (ji15) < (a0.size : Int) := da_; have hx31 := bt_at a0 (ji15); replace p31 := eq_true p31; replace q31 := eq_true q31) | ((with_reducible refine gate_callee (f := 105) rfl ?_); refine goesL_ (some 50) rfl rfl Tryd.func105 (by kernel_rfl) rfl #[.int .u8 (bt a0 (ji15))] rfl (by (try simp only [List.map_toArray, List.map_cons, List.map_nil]); first | done | (simp only [hji15]; rfl) | rfl | (simp only [List.length_drop, List.length_take]; rfl)) ?_; (with_reducible refine (b_digit.calls (bt a0 (ji15)) true _ A32.out).mono ?_); rintro e w' ⟨rfl, ⟨nd, rfl⟩⟩; refine ⟨_, rfl, ?_⟩) | (go_at_call 101; (with_reducible refine (ih kj6 (by have := HJ6.out; omega) (a0.extract 0 ((ji15) : Int).toNat) t122 _ A36.out).mono ?_); rintro e w' ⟨rfl, ⟨nd, rfl⟩⟩))
       go_ret
       exact ⟨by first | rfl | (simp; done) | (simp only [← hji15] <;> (first | rfl | simp)) | (simp [*]; done), dr_⟩
      exact absurd H (by simp)
     replace c33 := Bool.eq_false_iff.mpr c33
     subst c33
     have H1 : ((b_letter.f (bt a0 (ji15))).bind fun t123 => (if t123 = true then (if (ji15) ≤ (a0.size : Int) then ((b_IsNumber.f kj6 (a0.extract 0 ((ji15) : Int).toNat)).bind fun t124 => (some t124)) else (none)) else (if (bt a0 (ji15)) = 46 then (if (ji15) ≤ (a0.size : Int) then ((b_IsNumber.f kj6 (a0.extract 0 ((ji15) : Int).toNat)).bind fun t125 => (some t125)) else (none)) else (some false)))) = some r := by rw [if_neg (show ¬ (false = true) by decide)] at H; exact H
     clear H
     have H := H1
     clear H1
     replace H := Option.bind_eq_some_iff.mp H
     obtain ⟨t123, A370, H⟩ := H
     replace H : (if t123 = true then (if (ji15) ≤ (a0.size : Int) then ((b_IsNumber.f kj6 (a0.extract 0 ((ji15) : Int).toNat)).bind fun t124 => (some t124)) else (none)) else (if (bt a0 (ji15)) = 46 then (if (ji15) ≤ (a0.size : Int) then ((b_IsNumber.f kj6 (a0.extract 0 ((ji15) : Int).toNat)).bind fun t125 => (some t125)) else (none)) else (some false))) = some r := H
     have A37 := Aside0.mk A370
     clear A370
     by_cases c38 : t123 = true
     ·subst c38
      have H1 : (if (ji15) ≤ (a0.size : Int) then ((b_IsNumber.f kj6 (a0.extract 0 ((ji15) : Int).toNat)).bind fun t124 => (some t124)) else (none)) = some r := by rw [if_pos rfl] at H; exact H
      clear H
      have H := H1
      clear H1
      have c39b0 := eq_true (da_ : 0 ≤ (ji15))
      replace H := id_ H
      obtain ⟨c40b0, c40b1, H⟩ | ⟨-, -, H⟩ := H
      ·replace H := Option.bind_eq_some_iff.mp H
       obtain ⟨t124, A410, H⟩ := H
       replace H : (some t124) = some r := H
       have A41 := Aside0.mk A410
       clear A410
       obtain rfl := Option.some.inj H
       have p18 : 0 ≤ ((ji15) : Int) := da_
       have q18 : (ji15) < (a0.size : Int) := da_
       have hx18 := bt_at a0 (ji15)
       replace p18 := eq_true p18
       replace q18 := eq_true q18
       go_wp2_with (first | ((with_reducible refine gate_callee (f := 106) rfl ?_); refine goesL_ (some 28) rfl rfl Tryd.func106 (by kernel_rfl) rfl #[.int .u8 (bt a0 (ji15))] rfl (by (try simp only [List.map_toArray, List.map_cons, List.map_nil]); first | done | (simp only [hji15]; rfl) | rfl | (simp only [List.length_drop, List.length_take]; rfl)) ?_; (with_reducible refine (b_sign.calls (bt a0 (ji15)) false _ A19.out).mono ?_); rintro e w' ⟨rfl, ⟨nd, rfl⟩⟩; refine ⟨_, rfl, ?_⟩; have p31 : 0 ≤ ((ji15) : Int) := da_; have q31 : (ji15) < (a0.size : Int) := da_; have hx31 := bt_at a0 (ji15); replace p31 := eq_true p31; replace q31 := eq_true q31) | ((with_reducible refine gate_callee (f := 105) rfl ?_); refine goesL_ (some 50) rfl rfl Tryd.func105 (by kernel_rfl) rfl #[.int .u8 (bt a0 (ji15))] rfl (by (try simp only [List.map_toArray, List.map_cons, List.map_nil]); first | done | (simp only [hji15]; rfl) | rfl | (simp only [List.length_drop, List.length_take]; rfl)) ?_; (with_reducible refine (b_digit.calls (bt a0 (ji15)) false _ A32.out).mono ?_); rintro e w' ⟨rfl, ⟨nd, rfl⟩⟩; refine ⟨_, rfl, ?_⟩) | (go_at_call 104; (with_reducible refine (b_letter.calls (bt a0 (ji15)) true _ A37.out).mono ?_); rintro e w' ⟨rfl, ⟨nd, rfl⟩⟩) | (go_at_call 101; (with_reducible refine (ih kj6 (by have := HJ6.out; omega) (a0.extract 0 ((ji15) : Int).toNat) t124 _ A41.out).mono ?_); rintro e w' ⟨rfl, ⟨nd, rfl⟩⟩))
       go_ret
       exact ⟨by first | rfl | (simp; done) | (simp only [← hji15] <;> (first | rfl | simp)) | (simp [*]; done), dr_⟩
      exact absurd H (by simp)
     replace c38 := Bool.eq_false_iff.mpr c38
     subst c38
     have H1 : (if (bt a0 (ji15)) = 46 then (if (ji15) ≤ (a0.size : Int) then ((b_IsNumber.f kj6 (a0.extract 0 ((ji15) : Int).toNat)).bind fun t125 => (some t125)) else (none)) else (some false)) = some r := by rw [if_neg (show ¬ (false = true) by decide)] at H; exact H
     clear H
     have H := H1
     clear H1
     replace H := ie_ H
     obtain ⟨c42b0, c42b1, H⟩ | ⟨c42b0, c42b1, c42, H⟩ := H
     ·have c43b0 := eq_true (da_ : 0 ≤ (ji15))
      replace H := id_ H
      obtain ⟨c44b0, c44b1, H⟩ | ⟨-, -, H⟩ := H
      ·replace H := Option.bind_eq_some_iff.mp H
       obtain ⟨t125, A450, H⟩ := H
       replace H : (some t125) = some r := H
       have A45 := Aside0.mk A450
       clear A450
       obtain rfl := Option.some.inj H
       have p18 : 0 ≤ ((ji15) : Int) := da_
       have q18 : (ji15) < (a0.size : Int) := da_
       have hx18 := bt_at a0 (ji15)
       replace p18 := eq_true p18
       replace q18 := eq_true q18
       go_wp2_with (first | ((with_reducible refine gate_callee (f := 106) rfl ?_); refine goesL_ (some 28) rfl rfl Tryd.func106 (by kernel_rfl) rfl #[.int .u8 (bt a0 (ji15))] rfl (by (try simp only [List.map_toArray, List.map_cons, List.map_nil]); first | done | (simp only [hji15]; rfl) | rfl | (simp only [List.length_drop, List.length_take]; rfl)) ?_; (with_reducible refine (b_sign.calls (bt a0 (ji15)) false _ A19.out).mono ?_); rintro e w' ⟨rfl, ⟨nd, rfl⟩⟩; refine ⟨_, rfl, ?_⟩; have p31 : 0 ≤ ((ji15) : Int) := da_; have q31 : (ji15) < (a0.size : Int) := da_; have hx31 := bt_at a0 (ji15); replace p31 := eq_true p31; replace q31 := eq_true q31) | ((with_reducible refine gate_callee (f := 105) rfl ?_); refine goesL_ (some 50) rfl rfl Tryd.func105 (by kernel_rfl) rfl #[.int .u8 (bt a0 (ji15))] rfl (by (try simp only [List.map_toArray, List.map_cons, List.map_nil]); first | done | (simp only [hji15]; rfl) | rfl | (simp only [List.length_drop, List.length_take]; rfl)) ?_; (with_reducible refine (b_digit.calls (bt a0 (ji15)) false _ A32.out).mono ?_); rintro e w' ⟨rfl, ⟨nd, rfl⟩⟩; refine ⟨_, rfl, ?_⟩) | (go_at_call 104; (with_reducible refine (b_letter.calls (bt a0 (ji15)) false _ A37.out).mono ?_); rintro e w' ⟨rfl, ⟨nd, rfl⟩⟩) | (go_at_call 101; (with_reducible refine (ih kj6 (by have := HJ6.out; omega) (a0.extract 0 ((ji15) : Int).toNat) t125 _ A45.out).mono ?_); rintro e w' ⟨rfl, ⟨nd, rfl⟩⟩))
       go_ret
       exact ⟨by first | rfl | (simp; done) | (simp only [← hji15] <;> (first | rfl | simp)) | (simp [*]; done), dr_⟩
      exact absurd H (by simp)
     obtain rfl := Option.some.inj H
     have p18 : 0 ≤ ((ji15) : Int) := da_
     have q18 : (ji15) < (a0.size : Int) := da_
     have hx18 := bt_at a0 (ji15)
     replace p18 := eq_true p18
     replace q18 := eq_true q18
     go_wp2_with (first | ((with_reducible refine gate_callee (f := 106) rfl ?_); refine goesL_ (some 28) rfl rfl Tryd.func106 (by kernel_rfl) rfl #[.int .u8 (bt a0 (ji15))] rfl (by (try simp only [List.map_toArray, List.map_cons, List.map_nil]); first | done | (simp only [hji15]; rfl) | rfl | (simp only [List.length_drop, List.length_take]; rfl)) ?_; (with_reducible refine (b_sign.calls (bt a0 (ji15)) false _ A19.out).mono ?_); rintro e w' ⟨rfl, ⟨nd, rfl⟩⟩; refine ⟨_, rfl, ?_⟩; have p31 : 0 ≤ ((ji15) : Int) := da_; have q31 : (ji15) < (a0.size : Int) := da_; have hx31 := bt_at a0 (ji15); replace p31 := eq_true p31; replace q31 := eq_true q31) | ((with_reducible refine gate_callee (f := 105) rfl ?_); refine goesL_ (some 50) rfl rfl Tryd.func105 (by kernel_rfl) rfl #[.int .u8 (bt a0 (ji15))] rfl (by (try simp only [List.map_toArray, List.map_cons, List.map_nil]); first | done | (simp only [hji15]; rfl) | rfl | (simp only [List.length_drop, List.length_take]; rfl)) ?_; (with_reducible refine (b_digit.calls (bt a0 (ji15)) false _ A32.out).mono ?_); rintro e w' ⟨rfl, ⟨nd, rfl⟩⟩; refine ⟨_, rfl, ?_⟩) | (go_at_call 104; (with_reducible refine (b_letter.calls (bt a0 (ji15)) false _ A37.out).mono ?_); rintro e w' ⟨rfl, ⟨nd, rfl⟩⟩))
     go_ret
     exact ⟨by first | rfl | (simp; done) | (simp only [← hji15] <;> (first | rfl | simp)) | (simp [*]; done), dr_⟩
    exact absurd H (by simp)
   exact absurd H (by simp)
mutual
def b_pieces.l0 : Nat → ByteArray → Int → Int → Option (Bool)
 | 0, _, _, _ => none
 | k + 1, x0, x1, x5 => if x5 < (x0.size : Int) then (if 0 ≤ x5 then (if (bt x0 x5) = x1 then (b_pieces.j1 k x0 x1 x5 true) else (b_pieces.j1 k x0 x1 x5 ((bt x0 x5) == 10))) else (none)) else (some true)
def b_pieces.j1 : Nat → ByteArray → Int → Int → Bool → Option (Bool)
 | 0, _, _, _, _ => none
 | k + 1, x0, x1, x5, x20 => if x20 = true then (some false) else (if 0 ≤ x5 then (if x5 < (x0.size : Int) then (if (bt x0 x5) = 92 then (if (wrap64 (x5 + 1)) = (x0.size : Int) then (some false) else (if 0 ≤ (wrap64 (x5 + 1)) then (if (wrap64 (x5 + 1)) < (x0.size : Int) then (if (bt x0 (wrap64 (x5 + 1))) = 10 then (some false) else (b_pieces.l0 k x0 x1 (wrap64 ((wrap64 (x5 + 1)) + 1)))) else (none)) else (none))) else (b_pieces.l0 k x0 x1 (wrap64 (x5 + 1)))) else (none)) else (none))
end
def b_pieces.f (k : Nat) (a0 : ByteArray) (a1 : Int) : Option (Bool) := b_pieces.l0 k a0 a1 0
theorem b_pieces.mono_l : ∀ k, (∀ y0 y1 y2, LeO (b_pieces.l0 k y0 y1 y2) (b_pieces.l0 (k + 1) y0 y1 y2)) ∧ (∀ y0 y1 y2 y3, LeO (b_pieces.j1 k y0 y1 y2 y3) (b_pieces.j1 (k + 1) y0 y1 y2 y3))
 | 0 => ⟨fun _ _ _ r h => by simp [b_pieces.l0] at h, fun _ _ _ _ r h => by simp [b_pieces.j1] at h⟩
 | k + 1 => by
  obtain ⟨ih0, ih1⟩ := b_pieces.mono_l k
  refine ⟨?_, ?_⟩
  ·intro y0 y1 y2
   unfold b_pieces.l0
   repeat' first
   | (with_reducible exact ih0 _ _ _)
   | (with_reducible exact ih1 _ _ _ _)
   | (with_reducible exact LeO.refl _)
   | (with_reducible exact LeO.none _)
   | (with_reducible refine LeO.ite ?_ ?_)
   | (with_reducible refine LeO.bind ?_ (fun _ => ?_))
  intro y0 y1 y2 y3
  unfold b_pieces.j1
  repeat' first
  | (with_reducible exact ih0 _ _ _)
  | (with_reducible exact ih1 _ _ _ _)
  | (with_reducible exact LeO.refl _)
  | (with_reducible exact LeO.none _)
  | (with_reducible refine LeO.ite ?_ ?_)
  | (with_reducible refine LeO.bind ?_ (fun _ => ?_))
theorem b_pieces.mono : ∀ a0 a1 k, LeO (b_pieces.f k a0 a1) (b_pieces.f (k + 1) a0 a1) := by
 intro a0 a1 k
 obtain ⟨ih0, ih1⟩ := b_pieces.mono_l k
 unfold b_pieces.f
 repeat' first
   | (with_reducible exact ih0 _ _ _)
   | (with_reducible exact ih1 _ _ _ _)
   | (with_reducible exact LeO.refl _)
   | (with_reducible exact LeO.none _)
   | (with_reducible refine LeO.ite ?_ ?_)
   | (with_reducible refine LeO.bind ?_ (fun _ => ?_))
theorem b_pieces.calls (k : Nat) (a0 : ByteArray) (a1 : Int) (r : Bool) (w : World) (h : b_pieces.f k a0 a1 = some r) :
  Calls Tryd.prog 108 #[.string a0, .int .u8 a1] w fun e w' => e = .returned (.bool r) ∧ Drawn0 w w' := by
 have H : (b_pieces.l0 k a0 a1 0) = some r := h
 clear h
 have H' := Aside0.mk H
 clear H
 go_enter Tryd.func108, Tryd.ntmps108
 go_wp2
 go_loopg [5] k (fun kq v5 w' => ∃ (x5_1 : Int), v5 = .int .i64 x5_1 ∧ Aside0 (b_pieces.l0 kq a0 a1 x5_1 = some r) ∧ Aside0 (kq ≤ k) ∧ Drawn0 w w')
 case atStart => exact ⟨(0), er_, H', ⟨Nat.le_refl _⟩, dr_⟩
 case round =>
  clear H'
  obtain ⟨x5_1, rfl, HA, HK1, ⟨m1, rfl⟩⟩ := hrel
  cases gk with
  | zero => exact absurd HA.out (by simp [b_pieces.l0])
  | succ k1 =>
   have H := HA.out
   clear HA
   simp only [b_pieces.l0] at H
   replace H := ib_ H
   obtain ⟨c3, H⟩ | ⟨c3, H⟩ := H
   ·have c3b0 := decide_eq_true c3
    clear c3
    have HC4 := Aside0.mk H
    clear H
    go_upto_region 3 with (fail)
    go_cut [20] (fun v20 wc => ∃ (kq : Nat) (x20_3 : Bool), v20 = .bool x20_3 ∧ Aside0 (b_pieces.j1 kq a0 a1 x5_1 x20_3 = some r) ∧ Aside0 (kq ≤ k1) ∧ Drawn0 w wc)
    case first =>
     have H := HC4.out
     clear HC4
     replace H := id_ H
     obtain ⟨-, c5b0, H⟩ | ⟨-, -, H⟩ := H
     ·(first | rw [c5b0] | (simp only [i64_w, i32_w]; rw [c5b0]) | skip)
      replace H := ie_ H
      obtain ⟨c7b0, c7b1, H⟩ | ⟨c7b0, c7b1, c7, H⟩ := H
      ·have H' := Aside0.mk H
       clear H
       have p6 : 0 ≤ (x5_1 : Int) := da_
       have q6 : x5_1 < (a0.size : Int) := da_
       have hx6 := bt_at a0 x5_1
       replace p6 := eq_true p6
       replace q6 := eq_true q6
       go_wp2
       go_meet
       case rel => exact ⟨_, (true), er_, H', ⟨by have := HK1.out; first | omega | exact Nat.le_refl _⟩, dr_⟩
      have H' := Aside0.mk H
      clear H
      have p6 : 0 ≤ (x5_1 : Int) := da_
      have q6 : x5_1 < (a0.size : Int) := da_
      have hx6 := bt_at a0 x5_1
      replace p6 := eq_true p6
      replace q6 := eq_true q6
      have p8 : 0 ≤ (x5_1 : Int) := da_
      have q8 : x5_1 < (a0.size : Int) := da_
      have hx8 := bt_at a0 x5_1
      replace p8 := eq_true p8
      replace q8 := eq_true q8
      go_wp2
      go_meet
      case rel => exact ⟨_, (((bt a0 x5_1) == 10)), er_, H', ⟨by have := HK1.out; first | omega | exact Nat.le_refl _⟩, dr_⟩
     exact absurd H (by simp)
    case rest =>
     clear HC4
     try clear c3
     try clear c3b0
     try clear c5b0
     try clear p6
     try clear q6
     try clear hx6
     try clear c7
     try clear c7b0
     try clear c7b1
     try clear p8
     try clear q8
     try clear hx8
     try clear p6
     try clear p8
     try clear q6
     try clear q8
     obtain ⟨kq, x20_3, rfl, HA, HJ3, ⟨mc3, rfl⟩⟩ := hcut
     cases kq with
     | zero => exact absurd HA.out (by simp [b_pieces.j1])
     | succ kj3 =>
      have H := HA.out
      clear HA
      simp only [b_pieces.j1] at H
      by_cases c9 : x20_3 = true
      ·subst c9
       have H1 : (some false) = some r := by rw [if_pos rfl] at H; exact H
       clear H
       have H := H1
       clear H1
       obtain rfl := Option.some.inj H
       go_wp2
       go_ret
       exact ⟨er_, dr_⟩
      replace c9 := Bool.eq_false_iff.mpr c9
      subst c9
      have H1 : (if 0 ≤ x5_1 then (if x5_1 < (a0.size : Int) then (if (bt a0 x5_1) = 92 then (if (wrap64 (x5_1 + 1)) = (a0.size : Int) then (some false) else (if 0 ≤ (wrap64 (x5_1 + 1)) then (if (wrap64 (x5_1 + 1)) < (a0.size : Int) then (if (bt a0 (wrap64 (x5_1 + 1))) = 10 then (some false) else (b_pieces.l0 kj3 a0 a1 (wrap64 ((wrap64 (x5_1 + 1)) + 1)))) else (none)) else (none))) else (b_pieces.l0 kj3 a0 a1 (wrap64 (x5_1 + 1)))) else (none)) else (none)) = some r := by rw [if_neg (show ¬ (false = true) by decide)] at H; exact H
      clear H
      have H := H1
      clear H1
      replace H := id_ H
      obtain ⟨-, c10b0, H⟩ | ⟨-, -, H⟩ := H
      ·replace H := id_ H
       obtain ⟨-, c11b0, H⟩ | ⟨-, -, H⟩ := H
       ·replace H := ie_ H
        obtain ⟨c13b0, c13b1, H⟩ | ⟨c13b0, c13b1, c13, H⟩ := H
        ·replace H := ie_ H
         obtain ⟨c14b0, c14b1, H⟩ | ⟨c14b0, c14b1, c14, H⟩ := H
         ·obtain rfl := Option.some.inj H
          have p12 : 0 ≤ (x5_1 : Int) := da_
          have q12 : x5_1 < (a0.size : Int) := da_
          have hx12 := bt_at a0 x5_1
          replace p12 := eq_true p12
          replace q12 := eq_true q12
          go_wp2
          go_ret
          exact ⟨er_, dr_⟩
         obtain ⟨ji15, hji15⟩ : ∃ j_ : Int, (wrap64 (x5_1 + 1)) = j_ := ⟨_, rfl⟩
         replace H : (if 0 ≤ (ji15) then (if (ji15) < (a0.size : Int) then (if (bt a0 (ji15)) = 10 then (some false) else (b_pieces.l0 kj3 a0 a1 (wrap64 ((ji15) + 1)))) else (none)) else (none)) = some r := by first | (rw [hji15] at H; exact H) | (simp only [hji15] at H ⊢; exact H)
         (try rw [hji15] at c14b0)
         (try rw [hji15] at c14b1)
         have hji15w : (IntKind.i64.wrap (x5_1 + 1)) = ji15 := (i64_w _).trans hji15
         replace H := id_ H
         obtain ⟨-, c16b0, H⟩ | ⟨-, -, H⟩ := H
         ·replace H := id_ H
          obtain ⟨-, c17b0, H⟩ | ⟨-, -, H⟩ := H
          ·replace H := ie_ H
           obtain ⟨c19b0, c19b1, H⟩ | ⟨c19b0, c19b1, c19, H⟩ := H
           ·obtain rfl := Option.some.inj H
            have p12 : 0 ≤ (x5_1 : Int) := da_
            have q12 : x5_1 < (a0.size : Int) := da_
            have hx12 := bt_at a0 x5_1
            replace p12 := eq_true p12
            replace q12 := eq_true q12
            have p18 : 0 ≤ ((ji15) : Int) := da_
            have q18 : (ji15) < (a0.size : Int) := da_
            have hx18 := bt_at a0 (ji15)
            replace p18 := eq_true p18
            replace q18 := eq_true q18
            go_wp2
            go_ret
            exact ⟨by first | rfl | (simp; done) | (simp only [← hji15] <;> (first | rfl | simp)) | (simp [*]; done), dr_⟩
           have H' := Aside0.mk H
           clear H
           have p12 : 0 ≤ (x5_1 : Int) := da_
           have q12 : x5_1 < (a0.size : Int) := da_
           have hx12 := bt_at a0 x5_1
           replace p12 := eq_true p12
           replace q12 := eq_true q12
           have p18 : 0 ≤ ((ji15) : Int) := da_
           have q18 : (ji15) < (a0.size : Int) := da_
           have hx18 := bt_at a0 (ji15)
           replace p18 := eq_true p18
           replace q18 := eq_true q18
           go_wp2
           go_roundg kj3
           case measure => have := HK1.out; have := HJ3.out; omega
           case rel => exact ⟨(wrap64 ((ji15) + 1)), (by first | rfl | (simp; done) | (simp only [← hji15] <;> (first | rfl | simp)) | (simp [*]; done)), H', ⟨by have := HK1.out; have := HJ3.out; omega⟩, dr_⟩
          exact absurd H (by simp)
         exact absurd H (by simp)
        have H' := Aside0.mk H
        clear H
        have p12 : 0 ≤ (x5_1 : Int) := da_
        have q12 : x5_1 < (a0.size : Int) := da_
        have hx12 := bt_at a0 x5_1
        replace p12 := eq_true p12
        replace q12 := eq_true q12
        go_wp2
        go_roundg kj3
        case measure => have := HK1.out; have := HJ3.out; omega
        case rel => exact ⟨(wrap64 (x5_1 + 1)), er_, H', ⟨by have := HK1.out; have := HJ3.out; omega⟩, dr_⟩
       exact absurd H (by simp)
      exact absurd H (by simp)
   have c3b0 := decide_eq_false c3
   clear c3
   obtain rfl := Option.some.inj H
   go_wp2
   go_ret
   exact ⟨er_, dr_⟩
def b_IsLiteral.l0 : Nat → ByteArray → Int → List ByteArray → Int → Option (Bool)
 | 0, _, _, _, _ => none
 | k + 1, x0, x1, x2, x7 => if x7 < (x2.length : Int) then (if 0 ≤ x7 then (if (x0.size : Int) ≥ (wrap64 (((rdOf ByteArray.empty x2 x7).size : Int) + 2)) then (if 0 ≤ ((rdOf ByteArray.empty x2 x7).size : Int) then (if ((rdOf ByteArray.empty x2 x7).size : Int) ≤ (x0.size : Int) then (if (x0.extract 0 (((rdOf ByteArray.empty x2 x7).size : Int) : Int).toNat).toList = (rdOf ByteArray.empty x2 x7).toList then (if ((rdOf ByteArray.empty x2 x7).size : Int) < (x0.size : Int) then (if (bt x0 ((rdOf ByteArray.empty x2 x7).size : Int)) = x1 then (if 0 ≤ (wrap64 ((x0.size : Int) - 1)) then (if (wrap64 ((x0.size : Int) - 1)) < (x0.size : Int) then (if (bt x0 (wrap64 ((x0.size : Int) - 1))) = x1 then (if 0 ≤ (wrap64 (((rdOf ByteArray.empty x2 x7).size : Int) + 1)) then (if (wrap64 (((rdOf ByteArray.empty x2 x7).size : Int) + 1)) ≤ (wrap64 ((x0.size : Int) - 1)) then (if (wrap64 ((x0.size : Int) - 1)) ≤ (x0.size : Int) then ((b_pieces.f k (x0.extract ((wrap64 (((rdOf ByteArray.empty x2 x7).size : Int) + 1)) : Int).toNat ((wrap64 ((x0.size : Int) - 1)) : Int).toNat) x1).bind fun t128 => (if t128 = true then (if x1 = 34 then (some true) else (some (decide ((x0.size : Int) > (wrap64 (((rdOf ByteArray.empty x2 x7).size : Int) + 2)))))) else (b_IsLiteral.l0 k x0 x1 x2 (wrap64 (x7 + 1))))) else (none)) else (none)) else (none)) else (b_IsLiteral.l0 k x0 x1 x2 (wrap64 (x7 + 1)))) else (none)) else (none)) else (b_IsLiteral.l0 k x0 x1 x2 (wrap64 (x7 + 1)))) else (none)) else (b_IsLiteral.l0 k x0 x1 x2 (wrap64 (x7 + 1)))) else (none)) else (none)) else (b_IsLiteral.l0 k x0 x1 x2 (wrap64 (x7 + 1)))) else (none)) else (some false)
def b_IsLiteral.f (k : Nat) (a0 : ByteArray) (a1 : Int) (l2 : List ByteArray) : Option (Bool) := b_IsLiteral.l0 k a0 a1 l2 0
theorem b_IsLiteral.mono_l : ∀ k, (∀ y0 y1 y2 y3, LeO (b_IsLiteral.l0 k y0 y1 y2 y3) (b_IsLiteral.l0 (k + 1) y0 y1 y2 y3))
 | 0 => fun _ _ _ _ r h => by simp [b_IsLiteral.l0] at h
 | k + 1 => by
  have ih0 := b_IsLiteral.mono_l k
  intro y0 y1 y2 y3
  unfold b_IsLiteral.l0
  repeat' first
  | (with_reducible exact ih0 _ _ _ _)
  | (with_reducible exact b_pieces.mono _ _ _)
  | (with_reducible exact LeO.refl _)
  | (with_reducible exact LeO.none _)
  | (with_reducible refine LeO.ite ?_ ?_)
  | (with_reducible refine LeO.bind ?_ (fun _ => ?_))
theorem b_IsLiteral.mono : ∀ a0 a1 a2 k, LeO (b_IsLiteral.f k a0 a1 a2) (b_IsLiteral.f (k + 1) a0 a1 a2) := by
 intro a0 a1 a2 k
 have ih0 := b_IsLiteral.mono_l k
 unfold b_IsLiteral.f
 repeat' first
   | (with_reducible exact ih0 _ _ _ _)
   | (with_reducible exact b_pieces.mono _ _ _)
   | (with_reducible exact LeO.refl _)
   | (with_reducible exact LeO.none _)
   | (with_reducible refine LeO.ite ?_ ?_)
   | (with_reducible refine LeO.bind ?_ (fun _ => ?_))
theorem wpStill_cons_ {P : Program} {ops : Array Oper} {w : World} {Q : Act → Prop} {a : Act} {o : Oper} {rest : List Oper} : wpStill P ops w Q (o :: rest) a = (if Region.wanted o (yielded ops a.tmps) = true then o.still P a w (wpStill P ops w Q rest) else wpStill P ops w Q rest (a.put o.dst undef)) := rfl
theorem wpStill_nil_ {P : Program} {ops : Array Oper} {w : World} {Q : Act → Prop} {a : Act} : wpStill P ops w Q [] a = Q a := rfl
attribute [local go_sem] wpStill_cons_ wpStill_nil_
theorem wpStill_append_ {P : Program} {ops : Array Oper} {w : World} {Q : Act → Prop} {l2 : List Oper} : ∀ l1 : List Oper, wpStill P ops w Q (l1 ++ l2) = wpStill P ops w (wpStill P ops w Q l2) l1
 | [] => rfl
 | o :: l1 => by
  funext a
  have ih := wpStill_append_ (P := P) (ops := ops) (w := w) (Q := Q) (l2 := l2) l1
  show (if Region.wanted o (yielded ops a.tmps) = true then o.still P a w (wpStill P ops w Q (l1 ++ l2)) else wpStill P ops w Q (l1 ++ l2) (a.put o.dst undef)) = _
  rw [ih]
  rfl
theorem wpStill_split (n : Nat) {P : Program} {ops : Array Oper} {w : World} {Q : Act → Prop} {l : List Oper} {a : Act} (h : ∀ K : Act → Prop, (∀ a', wpStill P ops w Q (l.drop n) a' → K a') → wpStill P ops w K (l.take n) a) : wpStill P ops w Q l a := by
 have := h _ (fun _ h => h)
 rw [← wpStill_append_, List.take_append_drop] at this
 exact this
theorem b_IsLiteral.calls (k : Nat) (a0 : ByteArray) (a1 : Int) (A2 : Option Addr) (c2 : Nat) (l2 : List ByteArray) (r : Bool) (w : World) (hr2 : Kd.C Kd.string w A2 l2.length l2) (hc2 : l2.length ≤ c2) (h : b_IsLiteral.f k a0 a1 l2 = some r) :
  Calls Tryd.prog 102 #[.string a0, .int .u8 a1, .slice A2 l2.length c2] w fun e w' => e = .returned (.bool r) ∧ Below w.heap.size w w' := by
 have HR2 := Aside0.mk hr2
 have HC2 := Aside0.mk hc2
 clear hr2 hc2
 have HB := Aside0.mk (Below.refl w.heap.size w)
 have H : (b_IsLiteral.l0 k a0 a1 l2 0) = some r := h
 clear h
 have H' := Aside0.mk H
 clear H
 go_enter Tryd.func102, Tryd.ntmps102
 go_wp2
 go_loopg [7] k (fun kq v7 w' => ∃ (x7_1 : Int), v7 = .int .i64 x7_1 ∧ Aside0 (b_IsLiteral.l0 kq a0 a1 l2 x7_1 = some r) ∧ Aside0 (kq ≤ k) ∧ Aside0 (Below w.heap.size w w'))
 case atStart => exact ⟨(0), er_, H', ⟨Nat.le_refl _⟩, ⟨bl_⟩⟩
 case round =>
  clear H'
  obtain ⟨x7_1, rfl, HA, HK1, HB⟩ := hrel
  cases gk with
  | zero => exact absurd HA.out (by simp [b_IsLiteral.l0])
  | succ k1 =>
   have H := HA.out
   clear HA
   simp only [b_IsLiteral.l0] at H
   replace H := ib_ H
   obtain ⟨c4, H⟩ | ⟨c4, H⟩ := H
   ·replace H := ib_ H
    obtain ⟨c5, H⟩ | ⟨c5, H⟩ := H
    ·obtain ⟨ad, e126, hx⟩ := Kd.at_string HR2.out x7_1 c5 c4
     cases e126
     replace hx := (HB.out.cell (World.block_lt_of_cell? w _ hx)).trans hx
     obtain ⟨p, hp⟩ : ∃ p_ : ByteArray, rdOf ByteArray.empty l2 x7_1 = p_ := ⟨_, rfl⟩
     simp only [hp] at H hx
     clear hp
     have c4b := decide_eq_true c4
     have c4c := eq_true c4
     have c5b := eq_true c5
     have c7b := eq_true (Int.natCast_nonneg p.size)
     clear c4 c5
     go_upto_region 5 with fail
     obtain ⟨j0, hj0⟩ : ∃ j_, wrap64 ((p.size : Int) + 2) = j_ := ⟨_, rfl⟩
     have hj0w : IntKind.i64.wrap ((p.size : Int) + 2) = j0 := (i64_w _).trans hj0
     simp only [hj0] at H
     replace H := ib_ H
     obtain ⟨c6, H⟩ | ⟨c6, H⟩ := H
     ·have c6b : (j0 ≤ (a0.size : Int)) = True := eq_true c6
      clear c6
      rw [if_pos (Int.natCast_nonneg p.size)] at H
      replace H := ib_ H
      obtain ⟨c8, H⟩ | ⟨c8, H⟩ := H
      ·have c8b := eq_true c8
       have c8c : (p.size ≤ a0.size) = True := eq_true (Int.ofNat_le.1 c8)
       clear c8
       simp only [Int.toNat_natCast] at H
       replace H := ib_ H
       obtain ⟨c9, H⟩ | ⟨c9, H⟩ := H
       ·have c9b : ((a0.extract 0 p.size).toList == p.toList) = true := beq_iff_eq.mpr c9
        have c9c := eq_true c9
        replace H := ib_ H
        obtain ⟨c10, H⟩ | ⟨c10, H⟩ := H
        ·have c10b := eq_true c10
         have c10c : (p.size < a0.size) = True := eq_true (Int.ofNat_lt.1 c10)
         have hx11 : ∀ h : p.size < a0.size, ((a0[p.size]'h).toNat : Int) = bt a0 (p.size : Int) := bt_at a0 (p.size : Int)
         replace H := ib_ H
         obtain ⟨c12, H⟩ | ⟨c12, H⟩ := H
         ·have c12b : (bt a0 (p.size : Int) == a1) = true := beq_iff_eq.mpr c12
          replace H := ib_ H
          obtain ⟨c14, H⟩ | ⟨c14, H⟩ := H
          ·replace H := ib_ H
           obtain ⟨c15, H⟩ | ⟨c15, H⟩ := H
           ·obtain ⟨j1, hj1⟩ : ∃ j_, wrap64 ((a0.size : Int) - 1) = j_ := ⟨_, rfl⟩
            have hj1w : IntKind.i64.wrap ((a0.size : Int) - 1) = j1 := (i64_w _).trans hj1
            rw [hj1] at c14 c15
            simp only [hj1] at H
            have c14b := eq_true c14
            have c15b := eq_true c15
            have hx16 := bt_at a0 j1
            replace H := ib_ H
            obtain ⟨c17, H⟩ | ⟨c17, H⟩ := H
            ·have c17b : (bt a0 j1 == a1) = true := beq_iff_eq.mpr c17
             obtain ⟨j2, hj2⟩ : ∃ j_, wrap64 ((p.size : Int) + 1) = j_ := ⟨_, rfl⟩
             have hj2w : IntKind.i64.wrap ((p.size : Int) + 1) = j2 := (i64_w _).trans hj2
             simp only [hj2] at H
             replace H := ib_ H
             obtain ⟨c19, H⟩ | ⟨c19, H⟩ := H
             ·replace H := ib_ H
              obtain ⟨c20, H⟩ | ⟨c20, H⟩ := H
              ·replace H := ib_ H
               obtain ⟨c21, H⟩ | ⟨c21, H⟩ := H
               ·have c19b := eq_true c19
                have c20b := eq_true c20
                have c21b := eq_true c21
                obtain ⟨t128, A22_, H⟩ := Option.bind_eq_some_iff.mp H
                have A22 := Aside0.mk A22_
                clear A22_
                cases t128 with
                | false =>
                 refine wp_region_still_tail 40 (by kernel_rfl) (by kernel_rfl) ?_
                 simp only [List.take_succ_cons, List.take_zero, List.drop_succ_cons, List.drop_zero]
                 change wpStill _ _ (World.drew _) (fun a' => wpList _ _ _ _ a' (World.drew _)) _ _
                 refine wpStill_split 10 (fun K hK => ?_)
                 simp only [List.take_succ_cons, List.take_zero, List.drop_succ_cons, List.drop_zero] at hK ⊢
                 go_simp
                 refine hK _ ?_
                 clear hK K
                 refine wpStill_split 8 (fun K hK => ?_)
                 simp only [List.take_succ_cons, List.take_zero, List.drop_succ_cons, List.drop_zero] at hK ⊢
                 go_simp
                 refine hK _ ?_
                 clear hK K
                 refine wpStill_split 6 (fun K hK => ?_)
                 simp only [List.take_succ_cons, List.take_zero, List.drop_succ_cons, List.drop_zero] at hK ⊢
                 go_simp
                 refine hK _ ?_
                 clear hK K
                 refine wpStill_split 6 (fun K hK => ?_)
                 simp only [List.take_succ_cons, List.take_zero, List.drop_succ_cons, List.drop_zero] at hK ⊢
                 go_simp
                 refine hK _ ?_
                 clear hK K
                 go_simp
                 go_wp2_with (go_at_call 108; refine (b_pieces.calls k1 _ _ _ _ A22.out).mono ?_; rintro e w' ⟨rfl, ⟨nd, rfl⟩⟩)
                 go_roundg k1
                 case measure => have := HK1.out; omega
                 case rel => exact ⟨wrap64 (x7_1 + 1), (by first | rfl | simp), ⟨H⟩, ⟨by have := HK1.out; omega⟩, ⟨bl_⟩⟩
                | true =>
                 replace H : (if a1 = 34 then (some true) else (some (decide ((a0.size : Int) > j0)))) = some r := H
                 replace H := ib_ H
                 obtain ⟨c24, H⟩ | ⟨c24, H⟩ := H
                 ·obtain rfl := Option.some.inj H
                  subst c24
                  refine wp_region_still_tail 40 (by kernel_rfl) (by kernel_rfl) ?_
                  simp only [List.take_succ_cons, List.take_zero, List.drop_succ_cons, List.drop_zero]
                  change wpStill _ _ (World.drew _) (fun a' => wpList _ _ _ _ a' (World.drew _)) _ _
                  refine wpStill_split 10 (fun K hK => ?_)
                  simp only [List.take_succ_cons, List.take_zero, List.drop_succ_cons, List.drop_zero] at hK ⊢
                  go_simp
                  refine hK _ ?_
                  clear hK K
                  refine wpStill_split 8 (fun K hK => ?_)
                  simp only [List.take_succ_cons, List.take_zero, List.drop_succ_cons, List.drop_zero] at hK ⊢
                  go_simp
                  refine hK _ ?_
                  clear hK K
                  refine wpStill_split 6 (fun K hK => ?_)
                  simp only [List.take_succ_cons, List.take_zero, List.drop_succ_cons, List.drop_zero] at hK ⊢
                  go_simp
                  refine hK _ ?_
                  clear hK K
                  refine wpStill_split 6 (fun K hK => ?_)
                  simp only [List.take_succ_cons, List.take_zero, List.drop_succ_cons, List.drop_zero] at hK ⊢
                  go_simp
                  refine hK _ ?_
                  clear hK K
                  go_simp
                  go_wp2_with (go_at_call 108; refine (b_pieces.calls k1 _ _ _ _ A22.out).mono ?_; rintro e w' ⟨rfl, ⟨nd, rfl⟩⟩)
                  go_ret
                  exact ⟨rfl, bl_⟩
                 have c24b : (a1 == 34) = false := beq_eq_false_iff_ne.mpr c24
                 obtain rfl := Option.some.inj H
                 refine wp_region_still_tail 40 (by kernel_rfl) (by kernel_rfl) ?_
                 simp only [List.take_succ_cons, List.take_zero, List.drop_succ_cons, List.drop_zero]
                 change wpStill _ _ (World.drew _) (fun a' => wpList _ _ _ _ a' (World.drew _)) _ _
                 refine wpStill_split 10 (fun K hK => ?_)
                 simp only [List.take_succ_cons, List.take_zero, List.drop_succ_cons, List.drop_zero] at hK ⊢
                 go_simp
                 refine hK _ ?_
                 clear hK K
                 refine wpStill_split 8 (fun K hK => ?_)
                 simp only [List.take_succ_cons, List.take_zero, List.drop_succ_cons, List.drop_zero] at hK ⊢
                 go_simp
                 refine hK _ ?_
                 clear hK K
                 refine wpStill_split 6 (fun K hK => ?_)
                 simp only [List.take_succ_cons, List.take_zero, List.drop_succ_cons, List.drop_zero] at hK ⊢
                 go_simp
                 refine hK _ ?_
                 clear hK K
                 refine wpStill_split 6 (fun K hK => ?_)
                 simp only [List.take_succ_cons, List.take_zero, List.drop_succ_cons, List.drop_zero] at hK ⊢
                 go_simp
                 refine hK _ ?_
                 clear hK K
                 go_simp
                 go_wp2_with (go_at_call 108; refine (b_pieces.calls k1 _ _ _ _ A22.out).mono ?_; rintro e w' ⟨rfl, ⟨nd, rfl⟩⟩)
                 go_ret
                 exact ⟨er_, bl_⟩
               exact absurd H (by simp)
              exact absurd H (by simp)
             exact absurd H (by simp)
            have c17b : (bt a0 j1 == a1) = false := beq_eq_false_iff_ne.mpr c17
            refine wp_region_still_tail 40 (by kernel_rfl) (by kernel_rfl) ?_
            simp only [List.take_succ_cons, List.take_zero, List.drop_succ_cons, List.drop_zero]
            change wpStill _ _ (World.drew _) (fun a' => wpList _ _ _ _ a' (World.drew _)) _ _
            refine wpStill_split 10 (fun K hK => ?_)
            simp only [List.take_succ_cons, List.take_zero, List.drop_succ_cons, List.drop_zero] at hK ⊢
            go_simp
            refine hK _ ?_
            clear hK K
            refine wpStill_split 8 (fun K hK => ?_)
            simp only [List.take_succ_cons, List.take_zero, List.drop_succ_cons, List.drop_zero] at hK ⊢
            go_simp
            refine hK _ ?_
            clear hK K
            refine wpStill_split 6 (fun K hK => ?_)
            simp only [List.take_succ_cons, List.take_zero, List.drop_succ_cons, List.drop_zero] at hK ⊢
            go_simp
            refine hK _ ?_
            clear hK K
            refine wpStill_split 6 (fun K hK => ?_)
            simp only [List.take_succ_cons, List.take_zero, List.drop_succ_cons, List.drop_zero] at hK ⊢
            go_simp
            refine hK _ ?_
            clear hK K
            go_simp
            go_wp2
            go_roundg k1
            case measure => have := HK1.out; omega
            case rel => exact ⟨wrap64 (x7_1 + 1), (by first | rfl | simp), ⟨H⟩, ⟨by have := HK1.out; omega⟩, ⟨bl_⟩⟩
           exact absurd H (by simp)
          exact absurd H (by simp)
         have c12b : (bt a0 (p.size : Int) == a1) = false := beq_eq_false_iff_ne.mpr c12
         refine wp_region_still_tail 40 (by kernel_rfl) (by kernel_rfl) ?_
         simp only [List.take_succ_cons, List.take_zero, List.drop_succ_cons, List.drop_zero]
         change wpStill _ _ (World.drew _) (fun a' => wpList _ _ _ _ a' (World.drew _)) _ _
         refine wpStill_split 10 (fun K hK => ?_)
         simp only [List.take_succ_cons, List.take_zero, List.drop_succ_cons, List.drop_zero] at hK ⊢
         go_simp
         refine hK _ ?_
         clear hK K
         refine wpStill_split 8 (fun K hK => ?_)
         simp only [List.take_succ_cons, List.take_zero, List.drop_succ_cons, List.drop_zero] at hK ⊢
         go_simp
         refine hK _ ?_
         clear hK K
         refine wpStill_split 7 (fun K hK => ?_)
         simp only [List.take_succ_cons, List.take_zero, List.drop_succ_cons, List.drop_zero] at hK ⊢
         go_simp
         refine hK _ ?_
         clear hK K
         go_simp
         go_wp2
         go_roundg k1
         case measure => have := HK1.out; omega
         case rel => exact ⟨wrap64 (x7_1 + 1), (by first | rfl | simp), ⟨H⟩, ⟨by have := HK1.out; omega⟩, ⟨bl_⟩⟩
        exact absurd H (by simp)
       have c9b : ((a0.extract 0 p.size).toList == p.toList) = false := beq_eq_false_iff_ne.mpr c9
       have c9c := eq_false c9
       refine wp_region_still_tail 40 (by kernel_rfl) (by kernel_rfl) ?_
       simp only [List.take_succ_cons, List.take_zero, List.drop_succ_cons, List.drop_zero]
       change wpStill _ _ (World.drew _) (fun a' => wpList _ _ _ _ a' (World.drew _)) _ _
       refine wpStill_split 12 (fun K hK => ?_)
       simp only [List.take_succ_cons, List.take_zero, List.drop_succ_cons, List.drop_zero] at hK ⊢
       go_simp
       refine hK _ ?_
       clear hK K
       refine wpStill_split 10 (fun K hK => ?_)
       simp only [List.take_succ_cons, List.take_zero, List.drop_succ_cons, List.drop_zero] at hK ⊢
       go_simp
       refine hK _ ?_
       clear hK K
       go_simp
       go_wp2
       go_roundg k1
       case measure => have := HK1.out; omega
       case rel => exact ⟨wrap64 (x7_1 + 1), (by first | rfl | simp), ⟨H⟩, ⟨by have := HK1.out; omega⟩, ⟨bl_⟩⟩
      exact absurd H (by simp)
     have c6b : (j0 ≤ (a0.size : Int)) = False := eq_false c6
     clear c6
     refine wp_region_still_tail 40 (by kernel_rfl) (by kernel_rfl) ?_
     simp only [List.take_succ_cons, List.take_zero, List.drop_succ_cons, List.drop_zero]
     change wpStill _ _ (World.drew _) (fun a' => wpList _ _ _ _ a' (World.drew _)) _ _
     go_simp
     go_wp2
     go_roundg k1
     case measure => have := HK1.out; omega
     case rel => exact ⟨wrap64 (x7_1 + 1), (by first | rfl | simp), ⟨H⟩, ⟨by have := HK1.out; omega⟩, ⟨bl_⟩⟩
    exact absurd H (by simp)
   have c4b := decide_eq_false c4
   have c4c := eq_false c4
   obtain rfl := Option.some.inj H
   go_wp2
   go_ret
   exact ⟨rfl, bl_⟩
mutual
def b_IsPunct.j0 : Nat → ByteArray → ByteArray → Bool → Option (Bool)
 | 0, _, _, _ => none
 | k + 1, x0, x3, x16 => if x16 = true then (some false) else (b_IsPunct.l0 k x0 x3 0)
def b_IsPunct.l0 : Nat → ByteArray → ByteArray → Int → Option (Bool)
 | 0, _, _, _ => none
 | k + 1, x0, x3, x4 => if x4 < (x0.size : Int) then (if 0 ≤ x4 then (if (bt x0 x4) = 32 then (some false) else (b_IsPunct.l0 k x0 x3 (wrap64 (x4 + 1)))) else (none)) else (b_IsPunct.l1 k x3 0)
def b_IsPunct.l1 : Nat → ByteArray → Int → Option (Bool)
 | 0, _, _ => none
 | k + 1, x3, x5 => if (wrap64 (x5 + (x3.size : Int))) ≤ 143 then (if 0 ≤ x5 then (if x5 ≤ (wrap64 (x5 + (x3.size : Int))) then (if ((⟨#[32, 91, 32, 93, 32, 40, 32, 41, 32, 123, 32, 125, 32, 46, 32, 45, 62, 32, 43, 43, 32, 45, 45, 32, 38, 32, 42, 32, 43, 32, 45, 32, 126, 32, 33, 32, 47, 32, 37, 32, 60, 60, 32, 62, 62, 32, 60, 32, 62, 32, 60, 61, 32, 62, 61, 32, 61, 61, 32, 33, 61, 32, 94, 32, 124, 32, 38, 38, 32, 124, 124, 32, 63, 32, 58, 32, 59, 32, 46, 46, 46, 32, 61, 32, 42, 61, 32, 47, 61, 32, 37, 61, 32, 43, 61, 32, 45, 61, 32, 60, 60, 61, 32, 62, 62, 61, 32, 38, 61, 32, 94, 61, 32, 124, 61, 32, 44, 32, 35, 32, 35, 35, 32, 60, 58, 32, 58, 62, 32, 60, 37, 32, 37, 62, 32, 37, 58, 32, 37, 58, 37, 58, 32]⟩ : ByteArray).extract (x5 : Int).toNat ((wrap64 (x5 + (x3.size : Int))) : Int).toNat).toList = x3.toList then (some true) else (b_IsPunct.l1 k x3 (wrap64 (x5 + 1)))) else (none)) else (none)) else (some false)
end
def b_IsPunct.f (k : Nat) (a0 : ByteArray) : Option (Bool) := if 1 + a0.size ≤ 9223372036854775807 then (if ((⟨#[32]⟩ : ByteArray) ++ a0).size + 1 ≤ 9223372036854775807 then (if (a0.size : Int) = 0 then (b_IsPunct.j0 k a0 (((⟨#[32]⟩ : ByteArray) ++ a0) ++ (⟨#[32]⟩ : ByteArray)) true) else (b_IsPunct.j0 k a0 (((⟨#[32]⟩ : ByteArray) ++ a0) ++ (⟨#[32]⟩ : ByteArray)) (decide ((a0.size : Int) > 4)))) else (none)) else (none)
theorem b_IsPunct.mono_l : ∀ k, (∀ y0 y1 y2, LeO (b_IsPunct.j0 k y0 y1 y2) (b_IsPunct.j0 (k + 1) y0 y1 y2)) ∧ (∀ y0 y1 y2, LeO (b_IsPunct.l0 k y0 y1 y2) (b_IsPunct.l0 (k + 1) y0 y1 y2)) ∧ (∀ y0 y1, LeO (b_IsPunct.l1 k y0 y1) (b_IsPunct.l1 (k + 1) y0 y1))
 | 0 => ⟨fun _ _ _ r h => by simp [b_IsPunct.j0] at h, fun _ _ _ r h => by simp [b_IsPunct.l0] at h, fun _ _ r h => by simp [b_IsPunct.l1] at h⟩
 | k + 1 => by
  obtain ⟨ih0, ih1, ih2⟩ := b_IsPunct.mono_l k
  refine ⟨?_, ?_, ?_⟩
  ·intro y0 y1 y2
   unfold b_IsPunct.j0
   repeat' first
   | (with_reducible exact ih0 _ _ _)
   | (with_reducible exact ih1 _ _ _)
   | (with_reducible exact ih2 _ _)
   | (with_reducible exact LeO.refl _)
   | (with_reducible exact LeO.none _)
   | (with_reducible refine LeO.ite ?_ ?_)
   | (with_reducible refine LeO.bind ?_ (fun _ => ?_))
  ·intro y0 y1 y2
   unfold b_IsPunct.l0
   repeat' first
   | (with_reducible exact ih0 _ _ _)
   | (with_reducible exact ih1 _ _ _)
   | (with_reducible exact ih2 _ _)
   | (with_reducible exact LeO.refl _)
   | (with_reducible exact LeO.none _)
   | (with_reducible refine LeO.ite ?_ ?_)
   | (with_reducible refine LeO.bind ?_ (fun _ => ?_))
  intro y0 y1
  unfold b_IsPunct.l1
  repeat' first
  | (with_reducible exact ih0 _ _ _)
  | (with_reducible exact ih1 _ _ _)
  | (with_reducible exact ih2 _ _)
  | (with_reducible exact LeO.refl _)
  | (with_reducible exact LeO.none _)
  | (with_reducible refine LeO.ite ?_ ?_)
  | (with_reducible refine LeO.bind ?_ (fun _ => ?_))
theorem b_IsPunct.mono : ∀ a0 k, LeO (b_IsPunct.f k a0) (b_IsPunct.f (k + 1) a0) := by
 intro a0 k
 obtain ⟨ih0, ih1, ih2⟩ := b_IsPunct.mono_l k
 unfold b_IsPunct.f
 repeat' first
   | (with_reducible exact ih0 _ _ _)
   | (with_reducible exact ih1 _ _ _)
   | (with_reducible exact ih2 _ _)
   | (with_reducible exact LeO.refl _)
   | (with_reducible exact LeO.none _)
   | (with_reducible refine LeO.ite ?_ ?_)
   | (with_reducible refine LeO.bind ?_ (fun _ => ?_))
theorem b_IsPunct.calls (k : Nat) (a0 : ByteArray) (r : Bool) (w : World) (h : b_IsPunct.f k a0 = some r) :
  Calls Tryd.prog 103 #[.string a0] w fun e w' => e = .returned (.bool r) ∧ Drawn0 w w' := by
 have H : (if 1 + a0.size ≤ 9223372036854775807 then (if ((⟨#[32]⟩ : ByteArray) ++ a0).size + 1 ≤ 9223372036854775807 then (if (a0.size : Int) = 0 then (b_IsPunct.j0 k a0 (((⟨#[32]⟩ : ByteArray) ++ a0) ++ (⟨#[32]⟩ : ByteArray)) true) else (b_IsPunct.j0 k a0 (((⟨#[32]⟩ : ByteArray) ++ a0) ++ (⟨#[32]⟩ : ByteArray)) (decide ((a0.size : Int) > 4)))) else (none)) else (none)) = some r := h
 clear h
 replace H := ib_ H
 obtain ⟨c2, H⟩ | ⟨c2, H⟩ := H
 ·have c2b0 := eq_true c2
  have c2b1 := decide_eq_true c2
  try have c2b2 : (9223372036854775807 < 1 + a0.size) = False := eq_false (Nat.not_lt.2 c2)
  replace H := ib_ H
  obtain ⟨c3, H⟩ | ⟨c3, H⟩ := H
  ·have c3b0 := eq_true c3
   have c3b1 := decide_eq_true c3
   try have c3b2 : (9223372036854775807 < ((⟨#[32]⟩ : ByteArray) ++ a0).size + 1) = False := eq_false (Nat.not_lt.2 c3)
   have c3h : 1 + a0.size + 1 ≤ 9223372036854775807 := by (have h0_ := c3; rw [ByteArray.size_append] at h0_; exact h0_)
   have c3b3 : (9223372036854775807 < 1 + a0.size + 1) = False := eq_false (Nat.not_lt.2 c3h)
   have HC4 := Aside0.mk H
   clear H
   go_enter Tryd.func103, Tryd.ntmps103
   go_upto_region 2 with (fail)
   obtain ⟨y3, hy3⟩ : ∃ y_ : ByteArray, (((⟨#[32]⟩ : ByteArray) ++ a0) ++ (⟨#[32]⟩ : ByteArray)) = y_ := ⟨_, rfl⟩
   have hc_ := HC4.out
   clear HC4
   simp only [hy3] at hc_ ⊢
   have HC4 := Aside0.mk hc_
   clear hc_
   go_cut [16] (fun v16 wc => ∃ (kq : Nat) (x16_3 : Bool), v16 = .bool x16_3 ∧ Aside0 (b_IsPunct.j0 kq a0 y3 x16_3 = some r) ∧ Aside0 (kq ≤ k) ∧ Drawn0 w wc)
   case first =>
    have H := HC4.out
    clear HC4
    replace H := ie_ H
    obtain ⟨c5b0, c5b1, H⟩ | ⟨c5b0, c5b1, c5, H⟩ := H
    ·(first | rw [c5b0] | (simp only [i64_w, i32_w]; rw [c5b0]) | skip)
     have H' := Aside0.mk H
     clear H
     go_wp2
     go_meet
     case rel => exact ⟨_, (true), er_, H', ⟨om_⟩, dr_⟩
    (first | rw [c5b0] | (simp only [i64_w, i32_w]; rw [c5b0]) | skip)
    have H' := Aside0.mk H
    clear H
    go_wp2
    go_meet
    case rel => exact ⟨_, (decide ((a0.size : Int) > 4)), er_, H', ⟨om_⟩, dr_⟩
   case rest =>
    clear HC4
    try clear c2
    try clear c2b0
    try clear c2b1
    try clear c2b2
    try clear c3
    try clear c3b0
    try clear c3b1
    try clear c3b2
    try clear c5
    try clear c5b0
    try clear c5b1
    obtain ⟨kq, x16_3, rfl, HA, HJ3, ⟨mc3, rfl⟩⟩ := hcut
    cases kq with
    | zero => exact absurd HA.out (by simp [b_IsPunct.j0])
    | succ kj3 =>
     have H := HA.out
     clear HA
     simp only [b_IsPunct.j0] at H
     by_cases c6 : x16_3 = true
     ·subst c6
      have H1 : (some false) = some r := by rw [if_pos rfl] at H; exact H
      clear H
      have H := H1
      clear H1
      obtain rfl := Option.some.inj H
      go_wp2
      go_ret
      exact ⟨er_, dr_⟩
     replace c6 := Bool.eq_false_iff.mpr c6
     subst c6
     have H1 : (b_IsPunct.l0 kj3 a0 y3 0) = some r := by rw [if_neg (show ¬ (false = true) by decide)] at H; exact H
     clear H
     have H := H1
     clear H1
     have H' := Aside0.mk H
     clear H
     go_wp2
     go_loopg [4] kj3 (fun kq v4 w' => ∃ (x4_2 : Int), v4 = .int .i64 x4_2 ∧ Aside0 (b_IsPunct.l0 kq a0 y3 x4_2 = some r) ∧ Aside0 (kq ≤ kj3) ∧ Drawn0 w w')
     case atStart => exact ⟨(0), er_, H', ⟨Nat.le_refl _⟩, dr_⟩
     case round =>
      clear H'
      try clear c2
      try clear c2b0
      try clear c2b1
      try clear c2b2
      try clear c3
      try clear c3b0
      try clear c3b1
      try clear c3b2
      try clear c5
      try clear c5b0
      try clear c5b1
      try clear c6
      obtain ⟨x4_2, rfl, HA, HK2, ⟨m2, rfl⟩⟩ := hrel
      cases gk with
      | zero => exact absurd HA.out (by simp [b_IsPunct.l0])
      | succ k2 =>
       have H := HA.out
       clear HA
       simp only [b_IsPunct.l0] at H
       replace H := ib_ H
       obtain ⟨c7, H⟩ | ⟨c7, H⟩ := H
       ·have c7b0 := decide_eq_true c7
        clear c7
        replace H := id_ H
        obtain ⟨-, c8b0, H⟩ | ⟨-, -, H⟩ := H
        ·replace H := ie_ H
         obtain ⟨c10b0, c10b1, H⟩ | ⟨c10b0, c10b1, c10, H⟩ := H
         ·obtain rfl := Option.some.inj H
          have p9 : 0 ≤ (x4_2 : Int) := da_
          have q9 : x4_2 < (a0.size : Int) := da_
          have hx9 := bt_at a0 x4_2
          replace p9 := eq_true p9
          replace q9 := eq_true q9
          go_wp2
          go_ret
          exact ⟨er_, dr_⟩
         have H' := Aside0.mk H
         clear H
         have p9 : 0 ≤ (x4_2 : Int) := da_
         have q9 : x4_2 < (a0.size : Int) := da_
         have hx9 := bt_at a0 x4_2
         replace p9 := eq_true p9
         replace q9 := eq_true q9
         go_wp2
         go_roundg k2
         case measure => have := HJ3.out; have := HK2.out; omega
         case rel => exact ⟨(wrap64 (x4_2 + 1)), er_, H', ⟨by have := HJ3.out; have := HK2.out; omega⟩, dr_⟩
        exact absurd H (by simp)
       have c7b0 := decide_eq_false c7
       clear c7
       have H' := Aside0.mk H
       clear H
       go_wp2
       go_loopg [5] k2 (fun kq v5 w' => ∃ (x5_3 : Int), v5 = .int .i64 x5_3 ∧ Aside0 (b_IsPunct.l1 kq y3 x5_3 = some r) ∧ Aside0 (kq ≤ k2) ∧ Drawn0 w w')
       case atStart => exact ⟨(0), er_, H', ⟨Nat.le_refl _⟩, dr_⟩
       case round =>
        clear H'
        try clear c2
        try clear c2b0
        try clear c2b1
        try clear c2b2
        try clear c3
        try clear c3b0
        try clear c3b1
        try clear c3b2
        try clear c5
        try clear c5b0
        try clear c5b1
        try clear c6
        try clear c7
        try clear c7b0
        try clear c8b0
        try clear p9
        try clear q9
        try clear hx9
        try clear c10
        try clear c10b0
        try clear c10b1
        try clear p9
        try clear q9
        obtain ⟨x5_3, rfl, HA, HK3, ⟨m3, rfl⟩⟩ := hrel
        cases gk with
        | zero => exact absurd HA.out (by simp [b_IsPunct.l1])
        | succ k3 =>
         have H := HA.out
         clear HA
         simp only [b_IsPunct.l1] at H
         replace H := id_ H
         obtain ⟨-, c11b0, H⟩ | ⟨-, c11b0, H⟩ := H
         ·replace H := id_ H
          obtain ⟨c12b0, c12b1, H⟩ | ⟨-, -, H⟩ := H
          ·replace H := ib_ H
           obtain ⟨c13, H⟩ | ⟨c13, H⟩ := H
           ·have c13b0 := eq_true c13
            have c13b1 := decide_eq_true c13
            have c14b0 := eq_true (da_ : (wrap64 (x5_3 + (y3.size : Int))) ≤ 143)
            replace H := ie_ H
            obtain ⟨c15b0, c15b1, H⟩ | ⟨c15b0, c15b1, c15, H⟩ := H
            ·obtain rfl := Option.some.inj H
             go_wp2
             go_ret
             exact ⟨er_, dr_⟩
            have H' := Aside0.mk H
            clear H
            go_wp2
            go_roundg k3
            case measure => have := HJ3.out; have := HK2.out; have := HK3.out; omega
            case rel => exact ⟨(wrap64 (x5_3 + 1)), er_, H', ⟨by have := HJ3.out; have := HK2.out; have := HK3.out; omega⟩, dr_⟩
           exact absurd H (by simp)
          exact absurd H (by simp)
         obtain rfl := Option.some.inj H
         go_wp2
         go_ret
         exact ⟨er_, dr_⟩
  exact absurd H (by simp)
 exact absurd H (by simp)
def b_Kind.f (k : Nat) (a0 : ByteArray) : Option (Int) := if a0.toList = ([10] : List UInt8) then (some 9) else ((b_IsWord.f k a0).bind fun t129 => (if t129 = true then (some 1) else ((b_IsNumber.f k a0).bind fun t130 => (if t130 = true then (some 2) else ((b_IsLiteral.f k a0 39 (([(⟨#[]⟩ : ByteArray), (⟨#[117]⟩ : ByteArray), (⟨#[85]⟩ : ByteArray), (⟨#[76]⟩ : ByteArray)] : List ByteArray))).bind fun t134 => (if t134 = true then (some 3) else ((b_IsLiteral.f k a0 34 (([(⟨#[]⟩ : ByteArray), (⟨#[117, 56]⟩ : ByteArray), (⟨#[117]⟩ : ByteArray), (⟨#[85]⟩ : ByteArray), (⟨#[76]⟩ : ByteArray)] : List ByteArray))).bind fun t138 => (if t138 = true then (some 4) else ((b_IsPunct.f k a0).bind fun t139 => (if t139 = true then (some 5) else (some 0)))))))))))
theorem b_Kind.mono : ∀ a0 k, LeO (b_Kind.f k a0) (b_Kind.f (k + 1) a0) := by
 intro a0 k
 unfold b_Kind.f
 repeat' first
   | (with_reducible exact b_IsLiteral.mono _ _ _ _)
   | (with_reducible exact b_IsNumber.mono _ _)
   | (with_reducible exact b_IsPunct.mono _ _)
   | (with_reducible exact b_IsWord.mono _ _)
   | (with_reducible exact LeO.refl _)
   | (with_reducible exact LeO.none _)
   | (with_reducible refine LeO.ite ?_ ?_)
   | (with_reducible refine LeO.bind ?_ (fun _ => ?_))
theorem b_Kind.calls (k : Nat) (a0 : ByteArray) (r : Int) (w : World) (h : b_Kind.f k a0 = some r) :
  Calls Tryd.prog 98 #[.string a0] w fun e w' => e = .returned (.int .i64 r) ∧ Below w.heap.size w w' := by
 have HB := Aside0.mk (Below.refl w.heap.size w)
 have H : (if a0.toList = ([10] : List UInt8) then (some 9) else ((b_IsWord.f k a0).bind fun t129 => (if t129 = true then (some 1) else ((b_IsNumber.f k a0).bind fun t130 => (if t130 = true then (some 2) else ((b_IsLiteral.f k a0 39 (([(⟨#[]⟩ : ByteArray), (⟨#[117]⟩ : ByteArray), (⟨#[85]⟩ : ByteArray), (⟨#[76]⟩ : ByteArray)] : List ByteArray))).bind fun t134 => (if t134 = true then (some 3) else ((b_IsLiteral.f k a0 34 (([(⟨#[]⟩ : ByteArray), (⟨#[117, 56]⟩ : ByteArray), (⟨#[117]⟩ : ByteArray), (⟨#[85]⟩ : ByteArray), (⟨#[76]⟩ : ByteArray)] : List ByteArray))).bind fun t138 => (if t138 = true then (some 4) else ((b_IsPunct.f k a0).bind fun t139 => (if t139 = true then (some 5) else (some 0)))))))))))) = some r := h
 clear h
 replace H := ie_ H
 obtain ⟨c2b0, c2b1, H⟩ | ⟨c2b0, c2b1, c2, H⟩ := H
 ·obtain rfl := Option.some.inj H
  go_enter Tryd.func98, Tryd.ntmps98
  go_wp2
  go_ret
  exact ⟨es_, bl_⟩
 replace H := Option.bind_eq_some_iff.mp H
 obtain ⟨t129, A30, H⟩ := H
 replace H : (if t129 = true then (some 1) else ((b_IsNumber.f k a0).bind fun t130 => (if t130 = true then (some 2) else ((b_IsLiteral.f k a0 39 (([(⟨#[]⟩ : ByteArray), (⟨#[117]⟩ : ByteArray), (⟨#[85]⟩ : ByteArray), (⟨#[76]⟩ : ByteArray)] : List ByteArray))).bind fun t134 => (if t134 = true then (some 3) else ((b_IsLiteral.f k a0 34 (([(⟨#[]⟩ : ByteArray), (⟨#[117, 56]⟩ : ByteArray), (⟨#[117]⟩ : ByteArray), (⟨#[85]⟩ : ByteArray), (⟨#[76]⟩ : ByteArray)] : List ByteArray))).bind fun t138 => (if t138 = true then (some 4) else ((b_IsPunct.f k a0).bind fun t139 => (if t139 = true then (some 5) else (some 0)))))))))) = some r := H
 have A3 := Aside0.mk A30
 clear A30
 by_cases c4 : t129 = true
 ·subst c4
  have H1 : (some 1) = some r := by rw [if_pos rfl] at H; exact H
  clear H
  have H := H1
  clear H1
  obtain rfl := Option.some.inj H
  go_enter Tryd.func98, Tryd.ntmps98
  go_wp2_with (first | ((with_reducible refine gate_callee (f := 100) rfl ?_); refine goesL_ (some 6) rfl rfl Tryd.func100 (by kernel_rfl) rfl #[.string a0] rfl ar_ ?_; (with_reducible refine (b_IsWord.calls k a0 true _ A3.out).mono ?_); rintro e w' ⟨rfl, ⟨nd, rfl⟩⟩; refine ⟨_, rfl, ?_⟩))
  go_ret
  exact ⟨es_, bl_⟩
 replace c4 := Bool.eq_false_iff.mpr c4
 subst c4
 have H1 : ((b_IsNumber.f k a0).bind fun t130 => (if t130 = true then (some 2) else ((b_IsLiteral.f k a0 39 (([(⟨#[]⟩ : ByteArray), (⟨#[117]⟩ : ByteArray), (⟨#[85]⟩ : ByteArray), (⟨#[76]⟩ : ByteArray)] : List ByteArray))).bind fun t134 => (if t134 = true then (some 3) else ((b_IsLiteral.f k a0 34 (([(⟨#[]⟩ : ByteArray), (⟨#[117, 56]⟩ : ByteArray), (⟨#[117]⟩ : ByteArray), (⟨#[85]⟩ : ByteArray), (⟨#[76]⟩ : ByteArray)] : List ByteArray))).bind fun t138 => (if t138 = true then (some 4) else ((b_IsPunct.f k a0).bind fun t139 => (if t139 = true then (some 5) else (some 0))))))))) = some r := by rw [if_neg (show ¬ (false = true) by decide)] at H; exact H
 clear H
 have H := H1
 clear H1
 replace H := Option.bind_eq_some_iff.mp H
 obtain ⟨t130, A50, H⟩ := H
 replace H : (if t130 = true then (some 2) else ((b_IsLiteral.f k a0 39 (([(⟨#[]⟩ : ByteArray), (⟨#[117]⟩ : ByteArray), (⟨#[85]⟩ : ByteArray), (⟨#[76]⟩ : ByteArray)] : List ByteArray))).bind fun t134 => (if t134 = true then (some 3) else ((b_IsLiteral.f k a0 34 (([(⟨#[]⟩ : ByteArray), (⟨#[117, 56]⟩ : ByteArray), (⟨#[117]⟩ : ByteArray), (⟨#[85]⟩ : ByteArray), (⟨#[76]⟩ : ByteArray)] : List ByteArray))).bind fun t138 => (if t138 = true then (some 4) else ((b_IsPunct.f k a0).bind fun t139 => (if t139 = true then (some 5) else (some 0)))))))) = some r := H
 have A5 := Aside0.mk A50
 clear A50
 by_cases c6 : t130 = true
 ·subst c6
  have H1 : (some 2) = some r := by rw [if_pos rfl] at H; exact H
  clear H
  have H := H1
  clear H1
  obtain rfl := Option.some.inj H
  go_enter Tryd.func98, Tryd.ntmps98
  go_wp2_with (first | ((with_reducible refine gate_callee (f := 100) rfl ?_); refine goesL_ (some 6) rfl rfl Tryd.func100 (by kernel_rfl) rfl #[.string a0] rfl ar_ ?_; (with_reducible refine (b_IsWord.calls k a0 false _ A3.out).mono ?_); rintro e w' ⟨rfl, ⟨nd, rfl⟩⟩; refine ⟨_, rfl, ?_⟩) | ((with_reducible refine gate_callee (f := 101) rfl ?_); refine goesL_ (some 8) rfl rfl Tryd.func101 (by kernel_rfl) rfl #[.string a0] rfl ar_ ?_; (with_reducible refine (b_IsNumber.calls k a0 true _ A5.out).mono ?_); rintro e w' ⟨rfl, ⟨nd, rfl⟩⟩; refine ⟨_, rfl, ?_⟩))
  go_ret
  exact ⟨es_, bl_⟩
 replace c6 := Bool.eq_false_iff.mpr c6
 subst c6
 have H1 : ((b_IsLiteral.f k a0 39 (([(⟨#[]⟩ : ByteArray), (⟨#[117]⟩ : ByteArray), (⟨#[85]⟩ : ByteArray), (⟨#[76]⟩ : ByteArray)] : List ByteArray))).bind fun t134 => (if t134 = true then (some 3) else ((b_IsLiteral.f k a0 34 (([(⟨#[]⟩ : ByteArray), (⟨#[117, 56]⟩ : ByteArray), (⟨#[117]⟩ : ByteArray), (⟨#[85]⟩ : ByteArray), (⟨#[76]⟩ : ByteArray)] : List ByteArray))).bind fun t138 => (if t138 = true then (some 4) else ((b_IsPunct.f k a0).bind fun t139 => (if t139 = true then (some 5) else (some 0))))))) = some r := by rw [if_neg (show ¬ (false = true) by decide)] at H; exact H
 clear H
 have H := H1
 clear H1
 obtain ⟨y131, hy131⟩ : ∃ y_ : List ByteArray, y_ = (([(⟨#[]⟩ : ByteArray), (⟨#[117]⟩ : ByteArray), (⟨#[85]⟩ : ByteArray), (⟨#[76]⟩ : ByteArray)] : List ByteArray)) := ⟨_, rfl⟩
 replace H : ((b_IsLiteral.f k a0 39 y131).bind fun t134 => (if t134 = true then (some 3) else ((b_IsLiteral.f k a0 34 (([(⟨#[]⟩ : ByteArray), (⟨#[117, 56]⟩ : ByteArray), (⟨#[117]⟩ : ByteArray), (⟨#[85]⟩ : ByteArray), (⟨#[76]⟩ : ByteArray)] : List ByteArray))).bind fun t138 => (if t138 = true then (some 4) else ((b_IsPunct.f k a0).bind fun t139 => (if t139 = true then (some 5) else (some 0))))))) = some r := by first | (rw [hy131]; with_reducible exact H) | (have H2_ := (Option.bind_some _ _).symm.trans H; rw [hy131]; with_reducible exact H2_) | (have H2_ := (Option.bind_some _ _).symm.trans H; with_reducible exact H2_) | with_reducible exact H | (rw [hy131]; exact H) | exact H
 have Ny131 := Aside0.mk hy131
 clear hy131
 replace H := Option.bind_eq_some_iff.mp H
 obtain ⟨t134, A70, H⟩ := H
 replace H : (if t134 = true then (some 3) else ((b_IsLiteral.f k a0 34 (([(⟨#[]⟩ : ByteArray), (⟨#[117, 56]⟩ : ByteArray), (⟨#[117]⟩ : ByteArray), (⟨#[85]⟩ : ByteArray), (⟨#[76]⟩ : ByteArray)] : List ByteArray))).bind fun t138 => (if t138 = true then (some 4) else ((b_IsPunct.f k a0).bind fun t139 => (if t139 = true then (some 5) else (some 0)))))) = some r := H
 have A7 := Aside0.mk A70
 clear A70
 by_cases c8 : t134 = true
 ·subst c8
  have H1 : (some 3) = some r := by rw [if_pos rfl] at H; exact H
  clear H
  have H := H1
  clear H1
  obtain rfl := Option.some.inj H
  go_enter Tryd.func98, Tryd.ntmps98
  go_wp2_with (first | ((with_reducible refine gate_callee (f := 100) rfl ?_); refine goesL_ (some 6) rfl rfl Tryd.func100 (by kernel_rfl) rfl #[.string a0] rfl ar_ ?_; (with_reducible refine (b_IsWord.calls k a0 false _ A3.out).mono ?_); rintro e w' ⟨rfl, ⟨nd, rfl⟩⟩; refine ⟨_, rfl, ?_⟩) | ((with_reducible refine gate_callee (f := 101) rfl ?_); refine goesL_ (some 8) rfl rfl Tryd.func101 (by kernel_rfl) rfl #[.string a0] rfl ar_ ?_; (with_reducible refine (b_IsNumber.calls k a0 false _ A5.out).mono ?_); rintro e w' ⟨rfl, ⟨nd, rfl⟩⟩; refine ⟨_, rfl, ?_⟩) | ((with_reducible refine gate_dst (N := 10) rfl ?_); refine Kd.R_lit Kd.string _ 9 ?hg (N := 10) ?hd (xs := ([(⟨#[]⟩ : ByteArray), (⟨#[117]⟩ : ByteArray), (⟨#[85]⟩ : ByteArray), (⟨#[76]⟩ : ByteArray)] : List ByteArray)) (inner := [.string (⟨#[]⟩ : ByteArray), .string (⟨#[117]⟩ : ByteArray), .string (⟨#[85]⟩ : ByteArray), .string (⟨#[76]⟩ : ByteArray)]) (ok := fun _ => True) (okp := fun _ => True) ?hr ?hp (fun _ hk => hk) trivial (Below.refl _ _) (Nat.le_refl _) (by simp) ?_; (case hd => rfl); (case hg => rfl); (case hr => first | (go_simp; done) | (go_simp; rfl)); (case hp => exact (Reps.one (show Kd.M Kd.string _ _ _ (⟨#[]⟩ : ByteArray) [.string (⟨#[]⟩ : ByteArray)] from rfl) (Reps.one (show Kd.M Kd.string _ _ _ (⟨#[117]⟩ : ByteArray) [.string (⟨#[117]⟩ : ByteArray)] from rfl) (Reps.one (show Kd.M Kd.string _ _ _ (⟨#[85]⟩ : ByteArray) [.string (⟨#[85]⟩ : ByteArray)] from rfl) (Reps.one (show Kd.M Kd.string _ _ _ (⟨#[76]⟩ : ByteArray) [.string (⟨#[76]⟩ : ByteArray)] from rfl) (Reps.none _ _)))))); intro v132 w9 ho10 hb hg_ hnew_; clear hg_ hnew_; (first | rw [← Ny131.out] at ho10 | (simp only [Int.reduceToNat] at ho10; rw [← Ny131.out] at ho10)); have n0_ := Aside0.mk (Kd.R_lower ho10 (below_size bl_)); have n1_ := Aside0.mk (below_step bl_ hb); clear HB; have HO133 := n0_; have HB := n1_; clear n0_ n1_; clear hb ho10; obtain ⟨Ao11, co11, eo11⟩ := Kd.R_slice HO133.out; subst eo11) | ((with_reducible refine gate_callee (f := 102) rfl ?_); refine goesL_ (some 11) rfl rfl Tryd.func102 (by kernel_rfl) rfl #[.string a0, .int .u8 39, .slice Ao11 y131.length co11] rfl ar_ ?_; (with_reducible refine (b_IsLiteral.calls k a0 39 _ _ y131 true _ ?side1 ?side2 A7.out).mono ?_); (case side1 => repeat (first | exact (Kd.R_reads' HO133.out).2.2 | (with_reducible refine Kd.C_alloc ?_ _) | (with_reducible refine Kd.C_drewN ?_ _) | (with_reducible refine Kd.C_drew ?_))); (case side2 => exact (Kd.R_reads' HO133.out).2.1); rintro e w12 ⟨rfl, hb⟩; refine ⟨_, rfl, ?_⟩; have n0_ := Aside0.mk (Kd.R_below (by (with_reducible repeat (first | apply Kd.R_alloc | apply Kd.R_drewN | apply Kd.R_drew)); exact HO133.out) hb); have n1_ := Aside0.mk (below_step bl_ hb); clear HO133; clear HB; have HO133 := n0_; have HB := n1_; clear n0_ n1_; (try clear hb); (try clear hb2); (try clear hk); (try clear hi)))
  go_ret
  exact ⟨es_, bl_⟩
 replace c8 := Bool.eq_false_iff.mpr c8
 subst c8
 have H1 : ((b_IsLiteral.f k a0 34 (([(⟨#[]⟩ : ByteArray), (⟨#[117, 56]⟩ : ByteArray), (⟨#[117]⟩ : ByteArray), (⟨#[85]⟩ : ByteArray), (⟨#[76]⟩ : ByteArray)] : List ByteArray))).bind fun t138 => (if t138 = true then (some 4) else ((b_IsPunct.f k a0).bind fun t139 => (if t139 = true then (some 5) else (some 0))))) = some r := by rw [if_neg (show ¬ (false = true) by decide)] at H; exact H
 clear H
 have H := H1
 clear H1
 obtain ⟨y135, hy135⟩ : ∃ y_ : List ByteArray, y_ = (([(⟨#[]⟩ : ByteArray), (⟨#[117, 56]⟩ : ByteArray), (⟨#[117]⟩ : ByteArray), (⟨#[85]⟩ : ByteArray), (⟨#[76]⟩ : ByteArray)] : List ByteArray)) := ⟨_, rfl⟩
 replace H : ((b_IsLiteral.f k a0 34 y135).bind fun t138 => (if t138 = true then (some 4) else ((b_IsPunct.f k a0).bind fun t139 => (if t139 = true then (some 5) else (some 0))))) = some r := by first | (rw [hy135]; with_reducible exact H) | (have H2_ := (Option.bind_some _ _).symm.trans H; rw [hy135]; with_reducible exact H2_) | (have H2_ := (Option.bind_some _ _).symm.trans H; with_reducible exact H2_) | with_reducible exact H | (rw [hy135]; exact H) | exact H
 have Ny135 := Aside0.mk hy135
 clear hy135
 replace H := Option.bind_eq_some_iff.mp H
 obtain ⟨t138, A130, H⟩ := H
 replace H : (if t138 = true then (some 4) else ((b_IsPunct.f k a0).bind fun t139 => (if t139 = true then (some 5) else (some 0)))) = some r := H
 have A13 := Aside0.mk A130
 clear A130
 by_cases c14 : t138 = true
 ·subst c14
  have H1 : (some 4) = some r := by rw [if_pos rfl] at H; exact H
  clear H
  have H := H1
  clear H1
  obtain rfl := Option.some.inj H
  go_enter Tryd.func98, Tryd.ntmps98
  go_wp2_with (first | ((with_reducible refine gate_callee (f := 100) rfl ?_); refine goesL_ (some 6) rfl rfl Tryd.func100 (by kernel_rfl) rfl #[.string a0] rfl ar_ ?_; (with_reducible refine (b_IsWord.calls k a0 false _ A3.out).mono ?_); rintro e w' ⟨rfl, ⟨nd, rfl⟩⟩; refine ⟨_, rfl, ?_⟩) | ((with_reducible refine gate_callee (f := 101) rfl ?_); refine goesL_ (some 8) rfl rfl Tryd.func101 (by kernel_rfl) rfl #[.string a0] rfl ar_ ?_; (with_reducible refine (b_IsNumber.calls k a0 false _ A5.out).mono ?_); rintro e w' ⟨rfl, ⟨nd, rfl⟩⟩; refine ⟨_, rfl, ?_⟩) | ((with_reducible refine gate_dst (N := 10) rfl ?_); refine Kd.R_lit Kd.string _ 9 ?hg (N := 10) ?hd (xs := ([(⟨#[]⟩ : ByteArray), (⟨#[117]⟩ : ByteArray), (⟨#[85]⟩ : ByteArray), (⟨#[76]⟩ : ByteArray)] : List ByteArray)) (inner := [.string (⟨#[]⟩ : ByteArray), .string (⟨#[117]⟩ : ByteArray), .string (⟨#[85]⟩ : ByteArray), .string (⟨#[76]⟩ : ByteArray)]) (ok := fun _ => True) (okp := fun _ => True) ?hr ?hp (fun _ hk => hk) trivial (Below.refl _ _) (Nat.le_refl _) (by simp) ?_; (case hd => rfl); (case hg => rfl); (case hr => first | (go_simp; done) | (go_simp; rfl)); (case hp => exact (Reps.one (show Kd.M Kd.string _ _ _ (⟨#[]⟩ : ByteArray) [.string (⟨#[]⟩ : ByteArray)] from rfl) (Reps.one (show Kd.M Kd.string _ _ _ (⟨#[117]⟩ : ByteArray) [.string (⟨#[117]⟩ : ByteArray)] from rfl) (Reps.one (show Kd.M Kd.string _ _ _ (⟨#[85]⟩ : ByteArray) [.string (⟨#[85]⟩ : ByteArray)] from rfl) (Reps.one (show Kd.M Kd.string _ _ _ (⟨#[76]⟩ : ByteArray) [.string (⟨#[76]⟩ : ByteArray)] from rfl) (Reps.none _ _)))))); intro v132 w15 ho16 hb hg_ hnew_; clear hg_ hnew_; (first | rw [← Ny131.out] at ho16 | (simp only [Int.reduceToNat] at ho16; rw [← Ny131.out] at ho16)); have n0_ := Aside0.mk (Kd.R_lower ho16 (below_size bl_)); have n1_ := Aside0.mk (below_step bl_ hb); clear HB; have HO133 := n0_; have HB := n1_; clear n0_ n1_; clear hb ho16; obtain ⟨Ao17, co17, eo17⟩ := Kd.R_slice HO133.out; subst eo17) | ((with_reducible refine gate_callee (f := 102) rfl ?_); refine goesL_ (some 11) rfl rfl Tryd.func102 (by kernel_rfl) rfl #[.string a0, .int .u8 39, .slice Ao17 y131.length co17] rfl ar_ ?_; (with_reducible refine (b_IsLiteral.calls k a0 39 _ _ y131 false _ ?side1 ?side2 A7.out).mono ?_); (case side1 => repeat (first | exact (Kd.R_reads' HO133.out).2.2 | (with_reducible refine Kd.C_alloc ?_ _) | (with_reducible refine Kd.C_drewN ?_ _) | (with_reducible refine Kd.C_drew ?_))); (case side2 => exact (Kd.R_reads' HO133.out).2.1); rintro e w18 ⟨rfl, hb⟩; refine ⟨_, rfl, ?_⟩; have n0_ := Aside0.mk (Kd.R_below (by (with_reducible repeat (first | apply Kd.R_alloc | apply Kd.R_drewN | apply Kd.R_drew)); exact HO133.out) hb); have n1_ := Aside0.mk (below_step bl_ hb); clear HO133; clear HB; have HO133 := n0_; have HB := n1_; clear n0_ n1_; (try clear hb); (try clear hb2); (try clear hk); (try clear hi)) | ((with_reducible refine gate_dst (N := 13) rfl ?_); refine Kd.R_lit Kd.string _ 9 ?hg (N := 13) ?hd (xs := ([(⟨#[]⟩ : ByteArray), (⟨#[117, 56]⟩ : ByteArray), (⟨#[117]⟩ : ByteArray), (⟨#[85]⟩ : ByteArray), (⟨#[76]⟩ : ByteArray)] : List ByteArray)) (inner := [.string (⟨#[]⟩ : ByteArray), .string (⟨#[117, 56]⟩ : ByteArray), .string (⟨#[117]⟩ : ByteArray), .string (⟨#[85]⟩ : ByteArray), .string (⟨#[76]⟩ : ByteArray)]) (ok := fun _ => True) (okp := fun _ => True) ?hr ?hp (fun _ hk => hk) trivial (Below.refl _ _) (Nat.le_refl _) (by simp) ?_; (case hd => rfl); (case hg => rfl); (case hr => first | (go_simp; done) | (go_simp; rfl)); (case hp => exact (Reps.one (show Kd.M Kd.string _ _ _ (⟨#[]⟩ : ByteArray) [.string (⟨#[]⟩ : ByteArray)] from rfl) (Reps.one (show Kd.M Kd.string _ _ _ (⟨#[117, 56]⟩ : ByteArray) [.string (⟨#[117, 56]⟩ : ByteArray)] from rfl) (Reps.one (show Kd.M Kd.string _ _ _ (⟨#[117]⟩ : ByteArray) [.string (⟨#[117]⟩ : ByteArray)] from rfl) (Reps.one (show Kd.M Kd.string _ _ _ (⟨#[85]⟩ : ByteArray) [.string (⟨#[85]⟩ : ByteArray)] from rfl) (Reps.one (show Kd.M Kd.string _ _ _ (⟨#[76]⟩ : ByteArray) [.string (⟨#[76]⟩ : ByteArray)] from rfl) (Reps.none _ _))))))); intro v136 w19 ho20 hb hg_ hnew_; clear hg_ hnew_; (first | rw [← Ny135.out] at ho20 | (simp only [Int.reduceToNat] at ho20; rw [← Ny135.out] at ho20)); have n0_ := Aside0.mk (Kd.R_elder' (by (with_reducible repeat (first | apply Kd.R_alloc | apply Kd.R_drewN | apply Kd.R_drew)); exact HO133.out) (Kd.R_base ho20) hb); have n1_ := Aside0.mk (Kd.R_lower (Kd.R_new' ho20 (Kd.R_lt (by (with_reducible repeat (first | apply Kd.R_alloc | apply Kd.R_drewN | apply Kd.R_drew)); exact HO133.out))) (below_size bl_)); have n2_ := Aside0.mk (below_step bl_ hb); clear HO133; clear HB; have HO133 := n0_; have HO137 := n1_; have HB := n2_; clear n0_ n1_ n2_; clear hb ho20; obtain ⟨Ao21, co21, eo21⟩ := Kd.R_slice HO137.out; subst eo21) | ((with_reducible refine gate_callee (f := 102) rfl ?_); refine goesL_ (some 14) rfl rfl Tryd.func102 (by kernel_rfl) rfl #[.string a0, .int .u8 34, .slice Ao21 y135.length co21] rfl ar_ ?_; (with_reducible refine (b_IsLiteral.calls k a0 34 _ _ y135 true _ ?side1 ?side2 A13.out).mono ?_); (case side1 => repeat (first | exact (Kd.R_reads' HO137.out).2.2 | (with_reducible refine Kd.C_alloc ?_ _) | (with_reducible refine Kd.C_drewN ?_ _) | (with_reducible refine Kd.C_drew ?_))); (case side2 => exact (Kd.R_reads' HO137.out).2.1); rintro e w22 ⟨rfl, hb⟩; refine ⟨_, rfl, ?_⟩; have n0_ := Aside0.mk (Kd.R_below (by (with_reducible repeat (first | apply Kd.R_alloc | apply Kd.R_drewN | apply Kd.R_drew)); exact HO133.out) hb); have n1_ := Aside0.mk (Kd.R_below (by (with_reducible repeat (first | apply Kd.R_alloc | apply Kd.R_drewN | apply Kd.R_drew)); exact HO137.out) hb); have n2_ := Aside0.mk (below_step bl_ hb); clear HO133; clear HO137; clear HB; have HO133 := n0_; have HO137 := n1_; have HB := n2_; clear n0_ n1_ n2_; (try clear hb); (try clear hb2); (try clear hk); (try clear hi)))
  go_ret
  exact ⟨es_, bl_⟩
 replace c14 := Bool.eq_false_iff.mpr c14
 subst c14
 have H1 : ((b_IsPunct.f k a0).bind fun t139 => (if t139 = true then (some 5) else (some 0))) = some r := by rw [if_neg (show ¬ (false = true) by decide)] at H; exact H
 clear H
 have H := H1
 clear H1
 replace H := Option.bind_eq_some_iff.mp H
 obtain ⟨t139, A230, H⟩ := H
 replace H : (if t139 = true then (some 5) else (some 0)) = some r := H
 have A23 := Aside0.mk A230
 clear A230
 by_cases c24 : t139 = true
 ·subst c24
  have H1 : (some 5) = some r := by rw [if_pos rfl] at H; exact H
  clear H
  have H := H1
  clear H1
  obtain rfl := Option.some.inj H
  go_enter Tryd.func98, Tryd.ntmps98
  go_wp2_with (first | ((with_reducible refine gate_callee (f := 100) rfl ?_); refine goesL_ (some 6) rfl rfl Tryd.func100 (by kernel_rfl) rfl #[.string a0] rfl ar_ ?_; (with_reducible refine (b_IsWord.calls k a0 false _ A3.out).mono ?_); rintro e w' ⟨rfl, ⟨nd, rfl⟩⟩; refine ⟨_, rfl, ?_⟩) | ((with_reducible refine gate_callee (f := 101) rfl ?_); refine goesL_ (some 8) rfl rfl Tryd.func101 (by kernel_rfl) rfl #[.string a0] rfl ar_ ?_; (with_reducible refine (b_IsNumber.calls k a0 false _ A5.out).mono ?_); rintro e w' ⟨rfl, ⟨nd, rfl⟩⟩; refine ⟨_, rfl, ?_⟩) | ((with_reducible refine gate_dst (N := 10) rfl ?_); refine Kd.R_lit Kd.string _ 9 ?hg (N := 10) ?hd (xs := ([(⟨#[]⟩ : ByteArray), (⟨#[117]⟩ : ByteArray), (⟨#[85]⟩ : ByteArray), (⟨#[76]⟩ : ByteArray)] : List ByteArray)) (inner := [.string (⟨#[]⟩ : ByteArray), .string (⟨#[117]⟩ : ByteArray), .string (⟨#[85]⟩ : ByteArray), .string (⟨#[76]⟩ : ByteArray)]) (ok := fun _ => True) (okp := fun _ => True) ?hr ?hp (fun _ hk => hk) trivial (Below.refl _ _) (Nat.le_refl _) (by simp) ?_; (case hd => rfl); (case hg => rfl); (case hr => first | (go_simp; done) | (go_simp; rfl)); (case hp => exact (Reps.one (show Kd.M Kd.string _ _ _ (⟨#[]⟩ : ByteArray) [.string (⟨#[]⟩ : ByteArray)] from rfl) (Reps.one (show Kd.M Kd.string _ _ _ (⟨#[117]⟩ : ByteArray) [.string (⟨#[117]⟩ : ByteArray)] from rfl) (Reps.one (show Kd.M Kd.string _ _ _ (⟨#[85]⟩ : ByteArray) [.string (⟨#[85]⟩ : ByteArray)] from rfl) (Reps.one (show Kd.M Kd.string _ _ _ (⟨#[76]⟩ : ByteArray) [.string (⟨#[76]⟩ : ByteArray)] from rfl) (Reps.none _ _)))))); intro v132 w25 ho26 hb hg_ hnew_; clear hg_ hnew_; (first | rw [← Ny131.out] at ho26 | (simp only [Int.reduceToNat] at ho26; rw [← Ny131.out] at ho26)); have n0_ := Aside0.mk (Kd.R_lower ho26 (below_size bl_)); have n1_ := Aside0.mk (below_step bl_ hb); clear HB; have HO133 := n0_; have HB := n1_; clear n0_ n1_; clear hb ho26; obtain ⟨Ao27, co27, eo27⟩ := Kd.R_slice HO133.out; subst eo27) | ((with_reducible refine gate_callee (f := 102) rfl ?_); refine goesL_ (some 11) rfl rfl Tryd.func102 (by kernel_rfl) rfl #[.string a0, .int .u8 39, .slice Ao27 y131.length co27] rfl ar_ ?_; (with_reducible refine (b_IsLiteral.calls k a0 39 _ _ y131 false _ ?side1 ?side2 A7.out).mono ?_); (case side1 => repeat (first | exact (Kd.R_reads' HO133.out).2.2 | (with_reducible refine Kd.C_alloc ?_ _) | (with_reducible refine Kd.C_drewN ?_ _) | (with_reducible refine Kd.C_drew ?_))); (case side2 => exact (Kd.R_reads' HO133.out).2.1); rintro e w28 ⟨rfl, hb⟩; refine ⟨_, rfl, ?_⟩; have n0_ := Aside0.mk (Kd.R_below (by (with_reducible repeat (first | apply Kd.R_alloc | apply Kd.R_drewN | apply Kd.R_drew)); exact HO133.out) hb); have n1_ := Aside0.mk (below_step bl_ hb); clear HO133; clear HB; have HO133 := n0_; have HB := n1_; clear n0_ n1_; (try clear hb); (try clear hb2); (try clear hk); (try clear hi)) | ((with_reducible refine gate_dst (N := 13) rfl ?_); refine Kd.R_lit Kd.string _ 9 ?hg (N := 13) ?hd (xs := ([(⟨#[]⟩ : ByteArray), (⟨#[117, 56]⟩ : ByteArray), (⟨#[117]⟩ : ByteArray), (⟨#[85]⟩ : ByteArray), (⟨#[76]⟩ : ByteArray)] : List ByteArray)) (inner := [.string (⟨#[]⟩ : ByteArray), .string (⟨#[117, 56]⟩ : ByteArray), .string (⟨#[117]⟩ : ByteArray), .string (⟨#[85]⟩ : ByteArray), .string (⟨#[76]⟩ : ByteArray)]) (ok := fun _ => True) (okp := fun _ => True) ?hr ?hp (fun _ hk => hk) trivial (Below.refl _ _) (Nat.le_refl _) (by simp) ?_; (case hd => rfl); (case hg => rfl); (case hr => first | (go_simp; done) | (go_simp; rfl)); (case hp => exact (Reps.one (show Kd.M Kd.string _ _ _ (⟨#[]⟩ : ByteArray) [.string (⟨#[]⟩ : ByteArray)] from rfl) (Reps.one (show Kd.M Kd.string _ _ _ (⟨#[117, 56]⟩ : ByteArray) [.string (⟨#[117, 56]⟩ : ByteArray)] from rfl) (Reps.one (show Kd.M Kd.string _ _ _ (⟨#[117]⟩ : ByteArray) [.string (⟨#[117]⟩ : ByteArray)] from rfl) (Reps.one (show Kd.M Kd.string _ _ _ (⟨#[85]⟩ : ByteArray) [.string (⟨#[85]⟩ : ByteArray)] from rfl) (Reps.one (show Kd.M Kd.string _ _ _ (⟨#[76]⟩ : ByteArray) [.string (⟨#[76]⟩ : ByteArray)] from rfl) (Reps.none _ _))))))); intro v136 w29 ho30 hb hg_ hnew_; clear hg_ hnew_; (first | rw [← Ny135.out] at ho30 | (simp only [Int.reduceToNat] at ho30; rw [← Ny135.out] at ho30)); have n0_ := Aside0.mk (Kd.R_elder' (by (with_reducible repeat (first | apply Kd.R_alloc | apply Kd.R_drewN | apply Kd.R_drew)); exact HO133.out) (Kd.R_base ho30) hb); have n1_ := Aside0.mk (Kd.R_lower (Kd.R_new' ho30 (Kd.R_lt (by (with_reducible repeat (first | apply Kd.R_alloc | apply Kd.R_drewN | apply Kd.R_drew)); exact HO133.out))) (below_size bl_)); have n2_ := Aside0.mk (below_step bl_ hb); clear HO133; clear HB; have HO133 := n0_; have HO137 := n1_; have HB := n2_; clear n0_ n1_ n2_; clear hb ho30; obtain ⟨Ao31, co31, eo31⟩ := Kd.R_slice HO137.out; subst eo31) | ((with_reducible refine gate_callee (f := 102) rfl ?_); refine goesL_ (some 14) rfl rfl Tryd.func102 (by kernel_rfl) rfl #[.string a0, .int .u8 34, .slice Ao31 y135.length co31] rfl ar_ ?_; (with_reducible refine (b_IsLiteral.calls k a0 34 _ _ y135 false _ ?side1 ?side2 A13.out).mono ?_); (case side1 => repeat (first | exact (Kd.R_reads' HO137.out).2.2 | (with_reducible refine Kd.C_alloc ?_ _) | (with_reducible refine Kd.C_drewN ?_ _) | (with_reducible refine Kd.C_drew ?_))); (case side2 => exact (Kd.R_reads' HO137.out).2.1); rintro e w32 ⟨rfl, hb⟩; refine ⟨_, rfl, ?_⟩; have n0_ := Aside0.mk (Kd.R_below (by (with_reducible repeat (first | apply Kd.R_alloc | apply Kd.R_drewN | apply Kd.R_drew)); exact HO133.out) hb); have n1_ := Aside0.mk (Kd.R_below (by (with_reducible repeat (first | apply Kd.R_alloc | apply Kd.R_drewN | apply Kd.R_drew)); exact HO137.out) hb); have n2_ := Aside0.mk (below_step bl_ hb); clear HO133; clear HO137; clear HB; have HO133 := n0_; have HO137 := n1_; have HB := n2_; clear n0_ n1_ n2_; (try clear hb); (try clear hb2); (try clear hk); (try clear hi)) | ((with_reducible refine gate_callee (f := 103) rfl ?_); refine goesL_ (some 16) rfl rfl Tryd.func103 (by kernel_rfl) rfl #[.string a0] rfl ar_ ?_; (with_reducible refine (b_IsPunct.calls k a0 true _ A23.out).mono ?_); rintro e w' ⟨rfl, ⟨nd, rfl⟩⟩; refine ⟨_, rfl, ?_⟩))
  go_ret
  exact ⟨es_, bl_⟩
 replace c24 := Bool.eq_false_iff.mpr c24
 subst c24
 have H1 : (some 0) = some r := by rw [if_neg (show ¬ (false = true) by decide)] at H; exact H
 clear H
 have H := H1
 clear H1
 obtain rfl := Option.some.inj H
 go_enter Tryd.func98, Tryd.ntmps98
 go_wp2_with (first | ((with_reducible refine gate_callee (f := 100) rfl ?_); refine goesL_ (some 6) rfl rfl Tryd.func100 (by kernel_rfl) rfl #[.string a0] rfl ar_ ?_; (with_reducible refine (b_IsWord.calls k a0 false _ A3.out).mono ?_); rintro e w' ⟨rfl, ⟨nd, rfl⟩⟩; refine ⟨_, rfl, ?_⟩) | ((with_reducible refine gate_callee (f := 101) rfl ?_); refine goesL_ (some 8) rfl rfl Tryd.func101 (by kernel_rfl) rfl #[.string a0] rfl ar_ ?_; (with_reducible refine (b_IsNumber.calls k a0 false _ A5.out).mono ?_); rintro e w' ⟨rfl, ⟨nd, rfl⟩⟩; refine ⟨_, rfl, ?_⟩) | ((with_reducible refine gate_dst (N := 10) rfl ?_); refine Kd.R_lit Kd.string _ 9 ?hg (N := 10) ?hd (xs := ([(⟨#[]⟩ : ByteArray), (⟨#[117]⟩ : ByteArray), (⟨#[85]⟩ : ByteArray), (⟨#[76]⟩ : ByteArray)] : List ByteArray)) (inner := [.string (⟨#[]⟩ : ByteArray), .string (⟨#[117]⟩ : ByteArray), .string (⟨#[85]⟩ : ByteArray), .string (⟨#[76]⟩ : ByteArray)]) (ok := fun _ => True) (okp := fun _ => True) ?hr ?hp (fun _ hk => hk) trivial (Below.refl _ _) (Nat.le_refl _) (by simp) ?_; (case hd => rfl); (case hg => rfl); (case hr => first | (go_simp; done) | (go_simp; rfl)); (case hp => exact (Reps.one (show Kd.M Kd.string _ _ _ (⟨#[]⟩ : ByteArray) [.string (⟨#[]⟩ : ByteArray)] from rfl) (Reps.one (show Kd.M Kd.string _ _ _ (⟨#[117]⟩ : ByteArray) [.string (⟨#[117]⟩ : ByteArray)] from rfl) (Reps.one (show Kd.M Kd.string _ _ _ (⟨#[85]⟩ : ByteArray) [.string (⟨#[85]⟩ : ByteArray)] from rfl) (Reps.one (show Kd.M Kd.string _ _ _ (⟨#[76]⟩ : ByteArray) [.string (⟨#[76]⟩ : ByteArray)] from rfl) (Reps.none _ _)))))); intro v132 w33 ho34 hb hg_ hnew_; clear hg_ hnew_; (first | rw [← Ny131.out] at ho34 | (simp only [Int.reduceToNat] at ho34; rw [← Ny131.out] at ho34)); have n0_ := Aside0.mk (Kd.R_lower ho34 (below_size bl_)); have n1_ := Aside0.mk (below_step bl_ hb); clear HB; have HO133 := n0_; have HB := n1_; clear n0_ n1_; clear hb ho34; obtain ⟨Ao35, co35, eo35⟩ := Kd.R_slice HO133.out; subst eo35) | ((with_reducible refine gate_callee (f := 102) rfl ?_); refine goesL_ (some 11) rfl rfl Tryd.func102 (by kernel_rfl) rfl #[.string a0, .int .u8 39, .slice Ao35 y131.length co35] rfl ar_ ?_; (with_reducible refine (b_IsLiteral.calls k a0 39 _ _ y131 false _ ?side1 ?side2 A7.out).mono ?_); (case side1 => repeat (first | exact (Kd.R_reads' HO133.out).2.2 | (with_reducible refine Kd.C_alloc ?_ _) | (with_reducible refine Kd.C_drewN ?_ _) | (with_reducible refine Kd.C_drew ?_))); (case side2 => exact (Kd.R_reads' HO133.out).2.1); rintro e w36 ⟨rfl, hb⟩; refine ⟨_, rfl, ?_⟩; have n0_ := Aside0.mk (Kd.R_below (by (with_reducible repeat (first | apply Kd.R_alloc | apply Kd.R_drewN | apply Kd.R_drew)); exact HO133.out) hb); have n1_ := Aside0.mk (below_step bl_ hb); clear HO133; clear HB; have HO133 := n0_; have HB := n1_; clear n0_ n1_; (try clear hb); (try clear hb2); (try clear hk); (try clear hi)) | ((with_reducible refine gate_dst (N := 13) rfl ?_); refine Kd.R_lit Kd.string _ 9 ?hg (N := 13) ?hd (xs := ([(⟨#[]⟩ : ByteArray), (⟨#[117, 56]⟩ : ByteArray), (⟨#[117]⟩ : ByteArray), (⟨#[85]⟩ : ByteArray), (⟨#[76]⟩ : ByteArray)] : List ByteArray)) (inner := [.string (⟨#[]⟩ : ByteArray), .string (⟨#[117, 56]⟩ : ByteArray), .string (⟨#[117]⟩ : ByteArray), .string (⟨#[85]⟩ : ByteArray), .string (⟨#[76]⟩ : ByteArray)]) (ok := fun _ => True) (okp := fun _ => True) ?hr ?hp (fun _ hk => hk) trivial (Below.refl _ _) (Nat.le_refl _) (by simp) ?_; (case hd => rfl); (case hg => rfl); (case hr => first | (go_simp; done) | (go_simp; rfl)); (case hp => exact (Reps.one (show Kd.M Kd.string _ _ _ (⟨#[]⟩ : ByteArray) [.string (⟨#[]⟩ : ByteArray)] from rfl) (Reps.one (show Kd.M Kd.string _ _ _ (⟨#[117, 56]⟩ : ByteArray) [.string (⟨#[117, 56]⟩ : ByteArray)] from rfl) (Reps.one (show Kd.M Kd.string _ _ _ (⟨#[117]⟩ : ByteArray) [.string (⟨#[117]⟩ : ByteArray)] from rfl) (Reps.one (show Kd.M Kd.string _ _ _ (⟨#[85]⟩ : ByteArray) [.string (⟨#[85]⟩ : ByteArray)] from rfl) (Reps.one (show Kd.M Kd.string _ _ _ (⟨#[76]⟩ : ByteArray) [.string (⟨#[76]⟩ : ByteArray)] from rfl) (Reps.none _ _))))))); intro v136 w37 ho38 hb hg_ hnew_; clear hg_ hnew_; (first | rw [← Ny135.out] at ho38 | (simp only [Int.reduceToNat] at ho38; rw [← Ny135.out] at ho38)); have n0_ := Aside0.mk (Kd.R_elder' (by (with_reducible repeat (first | apply Kd.R_alloc | apply Kd.R_drewN | apply Kd.R_drew)); exact HO133.out) (Kd.R_base ho38) hb); have n1_ := Aside0.mk (Kd.R_lower (Kd.R_new' ho38 (Kd.R_lt (by (with_reducible repeat (first | apply Kd.R_alloc | apply Kd.R_drewN | apply Kd.R_drew)); exact HO133.out))) (below_size bl_)); have n2_ := Aside0.mk (below_step bl_ hb); clear HO133; clear HB; have HO133 := n0_; have HO137 := n1_; have HB := n2_; clear n0_ n1_ n2_; clear hb ho38; obtain ⟨Ao39, co39, eo39⟩ := Kd.R_slice HO137.out; subst eo39) | ((with_reducible refine gate_callee (f := 102) rfl ?_); refine goesL_ (some 14) rfl rfl Tryd.func102 (by kernel_rfl) rfl #[.string a0, .int .u8 34, .slice Ao39 y135.length co39] rfl ar_ ?_; (with_reducible refine (b_IsLiteral.calls k a0 34 _ _ y135 false _ ?side1 ?side2 A13.out).mono ?_); (case side1 => repeat (first | exact (Kd.R_reads' HO137.out).2.2 | (with_reducible refine Kd.C_alloc ?_ _) | (with_reducible refine Kd.C_drewN ?_ _) | (with_reducible refine Kd.C_drew ?_))); (case side2 => exact (Kd.R_reads' HO137.out).2.1); rintro e w40 ⟨rfl, hb⟩; refine ⟨_, rfl, ?_⟩; have n0_ := Aside0.mk (Kd.R_below (by (with_reducible repeat (first | apply Kd.R_alloc | apply Kd.R_drewN | apply Kd.R_drew)); exact HO133.out) hb); have n1_ := Aside0.mk (Kd.R_below (by (with_reducible repeat (first | apply Kd.R_alloc | apply Kd.R_drewN | apply Kd.R_drew)); exact HO137.out) hb); have n2_ := Aside0.mk (below_step bl_ hb); clear HO133; clear HO137; clear HB; have HO133 := n0_; have HO137 := n1_; have HB := n2_; clear n0_ n1_ n2_; (try clear hb); (try clear hb2); (try clear hk); (try clear hi)) | ((with_reducible refine gate_callee (f := 103) rfl ?_); refine goesL_ (some 16) rfl rfl Tryd.func103 (by kernel_rfl) rfl #[.string a0] rfl ar_ ?_; (with_reducible refine (b_IsPunct.calls k a0 false _ A23.out).mono ?_); rintro e w' ⟨rfl, ⟨nd, rfl⟩⟩; refine ⟨_, rfl, ?_⟩))
 go_ret
 exact ⟨es_, bl_⟩
mutual
def b_longest.j1 : Nat → ByteArray → Int → Option (Int × Int)
 | 0, _, _ => none
 | k + 1, x0, x4 => if x4 = 0 then (some (9, 1)) else (b_longest.l1 k x0 x4)
def b_longest.l1 : Nat → ByteArray → Int → Option (Int × Int)
 | 0, _, _ => none
 | k + 1, x0, x4 => if x4 > 0 then (if 0 ≤ x4 then (if x4 ≤ (x0.size : Int) then ((b_Kind.f k (x0.extract 0 (x4 : Int).toNat)).bind fun t140 => (if t140 > 0 then (some (t140, x4)) else (b_longest.l1 k x0 (wrap64 (x4 - 1))))) else (none)) else (none)) else (if 0 < (x0.size : Int) then (if (bt x0 0) = 39 then (some (0, 0)) else (if (bt x0 0) = 34 then (some (0, 0)) else (some (6, 1)))) else (none))
def b_longest.l0 : Nat → ByteArray → Int → Option (Int × Int)
 | 0, _, _ => none
 | k + 1, x0, x4 => if x4 < (x0.size : Int) then (if 0 ≤ x4 then (if (bt x0 x4) = 10 then (b_longest.j1 k x0 x4) else (b_longest.l0 k x0 (wrap64 (x4 + 1)))) else (none)) else (b_longest.j1 k x0 x4)
end
def b_longest.f (k : Nat) (a0 : ByteArray) : Option (Int × Int) := b_longest.l0 k a0 0
theorem b_longest.mono_l : ∀ k, (∀ y0 y1, LeO (b_longest.j1 k y0 y1) (b_longest.j1 (k + 1) y0 y1)) ∧ (∀ y0 y1, LeO (b_longest.l1 k y0 y1) (b_longest.l1 (k + 1) y0 y1)) ∧ (∀ y0 y1, LeO (b_longest.l0 k y0 y1) (b_longest.l0 (k + 1) y0 y1))
 | 0 => ⟨fun _ _ r h => by simp [b_longest.j1] at h, fun _ _ r h => by simp [b_longest.l1] at h, fun _ _ r h => by simp [b_longest.l0] at h⟩
 | k + 1 => by
  obtain ⟨ih0, ih1, ih2⟩ := b_longest.mono_l k
  refine ⟨?_, ?_, ?_⟩
  ·intro y0 y1
   unfold b_longest.j1
   repeat' first
   | (with_reducible exact ih0 _ _)
   | (with_reducible exact ih1 _ _)
   | (with_reducible exact ih2 _ _)
   | (with_reducible exact b_Kind.mono _ _)
   | (with_reducible exact LeO.refl _)
   | (with_reducible exact LeO.none _)
   | (with_reducible refine LeO.ite ?_ ?_)
   | (with_reducible refine LeO.bind ?_ (fun _ => ?_))
  ·intro y0 y1
   unfold b_longest.l1
   repeat' first
   | (with_reducible exact ih0 _ _)
   | (with_reducible exact ih1 _ _)
   | (with_reducible exact ih2 _ _)
   | (with_reducible exact b_Kind.mono _ _)
   | (with_reducible exact LeO.refl _)
   | (with_reducible exact LeO.none _)
   | (with_reducible refine LeO.ite ?_ ?_)
   | (with_reducible refine LeO.bind ?_ (fun _ => ?_))
  intro y0 y1
  unfold b_longest.l0
  repeat' first
  | (with_reducible exact ih0 _ _)
  | (with_reducible exact ih1 _ _)
  | (with_reducible exact ih2 _ _)
  | (with_reducible exact b_Kind.mono _ _)
  | (with_reducible exact LeO.refl _)
  | (with_reducible exact LeO.none _)
  | (with_reducible refine LeO.ite ?_ ?_)
  | (with_reducible refine LeO.bind ?_ (fun _ => ?_))
theorem b_longest.mono : ∀ a0 k, LeO (b_longest.f k a0) (b_longest.f (k + 1) a0) := by
 intro a0 k
 obtain ⟨ih0, ih1, ih2⟩ := b_longest.mono_l k
 unfold b_longest.f
 repeat' first
   | (with_reducible exact ih0 _ _)
   | (with_reducible exact ih1 _ _)
   | (with_reducible exact ih2 _ _)
   | (with_reducible exact b_Kind.mono _ _)
   | (with_reducible exact LeO.refl _)
   | (with_reducible exact LeO.none _)
   | (with_reducible refine LeO.ite ?_ ?_)
   | (with_reducible refine LeO.bind ?_ (fun _ => ?_))
theorem b_longest.calls (k : Nat) (a0 : ByteArray) (r1 : Int) (r2 : Int) (w : World) (h : b_longest.f k a0 = some (r1, r2)) :
  Calls Tryd.prog 88 #[.string a0] w fun e w' => e = .returned (.tuple #[.int .i64 r1, .int .i64 r2]) ∧ Below w.heap.size w w' := by
 have HB := Aside0.mk (Below.refl w.heap.size w)
 have H : (b_longest.l0 k a0 0) = some (r1, r2) := h
 clear h
 have HC2 := Aside0.mk H
 clear H
 go_enter Tryd.func88, Tryd.ntmps88
 go_upto_block 0 with (fail)
 go_cut [4] (fun v4 wc => ∃ (kq : Nat) (x4_1 : Int), v4 = .int .i64 x4_1 ∧ Aside0 (b_longest.j1 kq a0 x4_1 = some (r1, r2)) ∧ Aside0 (kq ≤ k) ∧ Aside0 (Below w.heap.size w wc))
 case first =>
  have H := HC2.out
  clear HC2
  have H' := Aside0.mk H
  clear H
  go_wp2
  go_loopg [4] k (fun kq v4 w' => ∃ (x4_1 : Int), v4 = .int .i64 x4_1 ∧ Aside0 (b_longest.l0 kq a0 x4_1 = some (r1, r2)) ∧ Aside0 (kq ≤ k) ∧ Aside0 (Below w.heap.size w w'))
  case atStart => exact ⟨(0), er_, H', ⟨Nat.le_refl _⟩, ⟨bl_⟩⟩
  case round =>
   clear H'
   obtain ⟨x4_1, rfl, HA, HK1, HB⟩ := hrel
   cases gk with
   | zero => exact absurd HA.out (by simp [b_longest.l0])
   | succ k1 =>
    have H := HA.out
    clear HA
    simp only [b_longest.l0] at H
    replace H := id_ H
    obtain ⟨-, c3b0, H⟩ | ⟨-, c3b0, H⟩ := H
    ·(first | rw [c3b0] | (simp only [i64_w, i32_w]; rw [c3b0]) | skip)
     replace H := id_ H
     obtain ⟨-, c4b0, H⟩ | ⟨-, -, H⟩ := H
     ·replace H := ie_ H
      obtain ⟨c6b0, c6b1, H⟩ | ⟨c6b0, c6b1, c6, H⟩ := H
      ·have H' := Aside0.mk H
       clear H
       have p5 : 0 ≤ (x4_1 : Int) := da_
       have q5 : x4_1 < (a0.size : Int) := da_
       have hx5 := bt_at a0 x4_1
       replace p5 := eq_true p5
       replace q5 := eq_true q5
       go_wp2
       go_meet
       case rel => exact ⟨_, (x4_1), er_, H', ⟨by have := HK1.out; first | omega | exact Nat.le_refl _⟩, ⟨bl_⟩⟩
      have H' := Aside0.mk H
      clear H
      have p5 : 0 ≤ (x4_1 : Int) := da_
      have q5 : x4_1 < (a0.size : Int) := da_
      have hx5 := bt_at a0 x4_1
      replace p5 := eq_true p5
      replace q5 := eq_true q5
      go_wp2
      go_roundg k1
      case measure => have := HK1.out; omega
      case rel => exact ⟨(wrap64 (x4_1 + 1)), er_, H', ⟨by have := HK1.out; omega⟩, ⟨bl_⟩⟩
     exact absurd H (by simp)
    (first | rw [c3b0] | (simp only [i64_w, i32_w]; rw [c3b0]) | skip)
    have H' := Aside0.mk H
    clear H
    go_wp2
    go_meet
    case rel => exact ⟨_, (x4_1), er_, H', ⟨by have := HK1.out; first | omega | exact Nat.le_refl _⟩, ⟨bl_⟩⟩
 case rest =>
  clear HC2
  try clear c3b0
  try clear c4b0
  try clear p5
  try clear q5
  try clear hx5
  try clear c6
  try clear c6b0
  try clear c6b1
  try clear p5
  try clear q5
  obtain ⟨kq, x4_1, rfl, HA, HJ1, HB⟩ := hcut
  cases kq with
  | zero => exact absurd HA.out (by simp [b_longest.j1])
  | succ kj1 =>
   have H := HA.out
   clear HA
   simp only [b_longest.j1] at H
   replace H := ie_ H
   obtain ⟨c7b0, c7b1, H⟩ | ⟨c7b0, c7b1, c7, H⟩ := H
   ·simp only [Option.some.injEq, Prod.mk.injEq] at H
    obtain ⟨rfl, rfl⟩ := H
    go_wp2
    go_ret2
    exact ⟨es_, bl_⟩
   have H' := Aside0.mk H
   clear H
   go_wp2
   go_loopg [4] kj1 (fun kq v4 w' => ∃ (x4_2 : Int), v4 = .int .i64 x4_2 ∧ Aside0 (b_longest.l1 kq a0 x4_2 = some (r1, r2)) ∧ Aside0 (kq ≤ kj1) ∧ Aside0 (Below w.heap.size w w'))
   case atStart => exact ⟨(x4_1), er_, H', ⟨Nat.le_refl _⟩, ⟨bl_⟩⟩
   case round =>
    clear H'
    try clear c3b0
    try clear c4b0
    try clear p5
    try clear q5
    try clear hx5
    try clear c6
    try clear c6b0
    try clear c6b1
    try clear c7
    try clear c7b0
    try clear c7b1
    try clear p5
    try clear q5
    obtain ⟨x4_2, rfl, HA, HK2, HB⟩ := hrel
    cases gk with
    | zero => exact absurd HA.out (by simp [b_longest.l1])
    | succ k2 =>
     have H := HA.out
     clear HA
     simp only [b_longest.l1] at H
     replace H := ib_ H
     obtain ⟨c8, H⟩ | ⟨c8, H⟩ := H
     ·have c8b0 : decide (0 < x4_2) = true := decide_eq_true c8
      clear c8
      replace H := id_ H
      obtain ⟨c9b0, c9b1, H⟩ | ⟨-, -, H⟩ := H
      ·replace H := id_ H
       obtain ⟨c10b0, c10b1, H⟩ | ⟨-, -, H⟩ := H
       ·replace H := Option.bind_eq_some_iff.mp H
        obtain ⟨t140, A110, H⟩ := H
        replace H : (if t140 > 0 then (some (t140, x4_2)) else (b_longest.l1 k2 a0 (wrap64 (x4_2 - 1)))) = some (r1, r2) := H
        have A11 := Aside0.mk A110
        clear A110
        replace H := ib_ H
        obtain ⟨c12, H⟩ | ⟨c12, H⟩ := H
        ·have c12b0 : decide (0 < t140) = true := decide_eq_true c12
         clear c12
         simp only [Option.some.injEq, Prod.mk.injEq] at H
         obtain ⟨rfl, rfl⟩ := H
         go_wp2_with (first | ((with_reducible refine gate_callee (f := 98) rfl ?_); refine goesL_ (some 25) rfl rfl Tryd.func98 (by kernel_rfl) rfl #[.string (a0.extract 0 (x4_2 : Int).toNat)] rfl ar_ ?_; (with_reducible refine (b_Kind.calls k2 (a0.extract 0 (x4_2 : Int).toNat) t140 _ A11.out).mono ?_); rintro e w13 ⟨rfl, hb⟩; refine ⟨_, rfl, ?_⟩; have n0_ := Aside0.mk (below_step bl_ hb); clear HB; have HB := n0_; clear n0_; (try clear hb); (try clear hb2); (try clear hk); (try clear hi)))
         go_ret2
         exact ⟨es_, bl_⟩
        have c12b0 : decide (0 < t140) = false := decide_eq_false c12
        clear c12
        have H' := Aside0.mk H
        clear H
        go_wp2_with (first | ((with_reducible refine gate_callee (f := 98) rfl ?_); refine goesL_ (some 25) rfl rfl Tryd.func98 (by kernel_rfl) rfl #[.string (a0.extract 0 (x4_2 : Int).toNat)] rfl ar_ ?_; (with_reducible refine (b_Kind.calls k2 (a0.extract 0 (x4_2 : Int).toNat) t140 _ A11.out).mono ?_); rintro e w14 ⟨rfl, hb⟩; refine ⟨_, rfl, ?_⟩; have n0_ := Aside0.mk (below_step bl_ hb); clear HB; have HB := n0_; clear n0_; (try clear hb); (try clear hb2); (try clear hk); (try clear hi)))
        go_roundg k2
        case measure => have := HJ1.out; have := HK2.out; omega
        case rel => exact ⟨(wrap64 (x4_2 - 1)), er_, H', ⟨by have := HJ1.out; have := HK2.out; omega⟩, ⟨bl_⟩⟩
       exact absurd H (by simp)
      exact absurd H (by simp)
     have c8b0 : decide (0 < x4_2) = false := decide_eq_false c8
     clear c8
     replace H := ib_ H
     obtain ⟨c15, H⟩ | ⟨c15, H⟩ := H
     ·have c15b0 := decide_eq_true c15
      have c15b1 : decide (0 < a0.size) = true := decide_eq_true (by omega)
      clear c15
      replace H := ie_ H
      obtain ⟨c17b0, c17b1, H⟩ | ⟨c17b0, c17b1, c17, H⟩ := H
      ·simp only [Option.some.injEq, Prod.mk.injEq] at H
       obtain ⟨rfl, rfl⟩ := H
       have p16 : 0 ≤ (0 : Int) := (by omega)
       have q16 : 0 < a0.size := (by have : (0 : Int) < (a0.size : Int) := da_; omega)
       have hx16 : ∀ h : 0 < a0.size, ((a0[0]'h).toNat : Int) = bt a0 0 := bt_at a0 0
       clear p16
       have qi16 : (0 < (a0.size : Int)) = True := eq_true da_
       replace q16 := eq_true q16
       go_wp2
       go_ret2
       exact ⟨es_, bl_⟩
      replace H := ie_ H
      obtain ⟨c19b0, c19b1, H⟩ | ⟨c19b0, c19b1, c19, H⟩ := H
      ·simp only [Option.some.injEq, Prod.mk.injEq] at H
       obtain ⟨rfl, rfl⟩ := H
       have p16 : 0 ≤ (0 : Int) := (by omega)
       have q16 : 0 < a0.size := (by have : (0 : Int) < (a0.size : Int) := da_; omega)
       have hx16 : ∀ h : 0 < a0.size, ((a0[0]'h).toNat : Int) = bt a0 0 := bt_at a0 0
       clear p16
       have qi16 : (0 < (a0.size : Int)) = True := eq_true da_
       replace q16 := eq_true q16
       have p18 : 0 ≤ (0 : Int) := (by omega)
       have q18 : 0 < a0.size := (by have : (0 : Int) < (a0.size : Int) := da_; omega)
       have hx18 : ∀ h : 0 < a0.size, ((a0[0]'h).toNat : Int) = bt a0 0 := bt_at a0 0
       clear p18
       have qi18 : (0 < (a0.size : Int)) = True := eq_true da_
       replace q18 := eq_true q18
       go_wp2
       go_ret2
       exact ⟨es_, bl_⟩
      simp only [Option.some.injEq, Prod.mk.injEq] at H
      obtain ⟨rfl, rfl⟩ := H
      have p16 : 0 ≤ (0 : Int) := (by omega)
      have q16 : 0 < a0.size := (by have : (0 : Int) < (a0.size : Int) := da_; omega)
      have hx16 : ∀ h : 0 < a0.size, ((a0[0]'h).toNat : Int) = bt a0 0 := bt_at a0 0
      clear p16
      have qi16 : (0 < (a0.size : Int)) = True := eq_true da_
      replace q16 := eq_true q16
      have p18 : 0 ≤ (0 : Int) := (by omega)
      have q18 : 0 < a0.size := (by have : (0 : Int) < (a0.size : Int) := da_; omega)
      have hx18 : ∀ h : 0 < a0.size, ((a0[0]'h).toNat : Int) = bt a0 0 := bt_at a0 0
      clear p18
      have qi18 : (0 < (a0.size : Int)) = True := eq_true da_
      replace q18 := eq_true q18
      go_wp2
      go_ret2
      exact ⟨es_, bl_⟩
     exact absurd H (by simp)
end Go.Proofs.YtcdleippdegibaaDoor.PR
