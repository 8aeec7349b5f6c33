import Derived.Test.YtcdleippdegibaaDoorXM4
set_option maxHeartbeats 8000000
set_option maxRecDepth 100000
set_option linter.unusedVariables false
set_option linter.unusedSimpArgs false
set_option linter.unusedSectionVars false
namespace Go.Proofs.YtcdleippdegibaaDoor.PR
open Go.RowKit Go.Proofs.YtcdleippdegibaaDoorW.PrintWords Go.Proofs.YtcdleippdegibaaDoorW.PrintLast Go.Proofs.YtcdleippdegibaaDoorW.PrintMore
open Go.Proofs.YtcdleippdegibaaDoor.LibG (SH SH.below SH.drewN SH.drew SH.alloc)
open Go.Proofs.YtcdleippdegibaaDoor.PK
attribute [local go_sem] max2_int min2_int max_two min_two max_three min_three max_four min_four
mutual
def d_worth.j0 : Nat → Int → Bool → Option (Int)
 | 0, _, _ => none
 | k + 1, x0, x8 => if x8 = true then (some (wrap64 ((wrap64 (x0)) - 48))) else (if x0 ≥ 97 then (d_worth.j1 k x0 (decide (x0 ≤ 102))) else (d_worth.j1 k x0 false))
def d_worth.j1 : Nat → Int → Bool → Option (Int)
 | 0, _, _ => none
 | k + 1, x0, x17 => if x17 = true then (some (wrap64 ((wrap64 ((wrap64 (x0)) - 97)) + 10))) else (if x0 ≥ 65 then (if x0 ≤ 70 then (some (wrap64 ((wrap64 ((wrap64 (x0)) - 65)) + 10))) else (some 99)) else (some 99))
end
def d_worth.f (k : Nat) (a0 : Int) : Option (Int) := if a0 ≥ 48 then (d_worth.j0 k a0 (decide (a0 ≤ 57))) else (d_worth.j0 k a0 false)
theorem d_worth.mono_l : ∀ k, (∀ y0 y1, LeO (d_worth.j0 k y0 y1) (d_worth.j0 (k + 1) y0 y1)) ∧ (∀ y0 y1, LeO (d_worth.j1 k y0 y1) (d_worth.j1 (k + 1) y0 y1))
 | 0 => ⟨fun _ _ r h => by simp [d_worth.j0] at h, fun _ _ r h => by simp [d_worth.j1] at h⟩
 | k + 1 => by
  obtain ⟨ih0, ih1⟩ := d_worth.mono_l k
  refine ⟨?_, ?_⟩
  ·intro y0 y1
   unfold d_worth.j0
   repeat' first
   | (with_reducible exact ih0 _ _)
   | (with_reducible exact ih1 _ _)
   | (with_reducible exact LeO.refl _)
   | (with_reducible exact LeO.none _)
   | (with_reducible refine LeO.ite ?_ ?_)
   | (with_reducible refine LeO.bind ?_ (fun _ => ?_))
  intro y0 y1
  unfold d_worth.j1
  repeat' first
  | (with_reducible exact ih0 _ _)
  | (with_reducible exact ih1 _ _)
  | (with_reducible exact LeO.refl _)
  | (with_reducible exact LeO.none _)
  | (with_reducible refine LeO.ite ?_ ?_)
  | (with_reducible refine LeO.bind ?_ (fun _ => ?_))
theorem d_worth.mono : ∀ a0 k, LeO (d_worth.f k a0) (d_worth.f (k + 1) a0) := by
 intro a0 k
 obtain ⟨ih0, ih1⟩ := d_worth.mono_l k
 unfold d_worth.f
 repeat' first
   | (with_reducible exact ih0 _ _)
   | (with_reducible exact ih1 _ _)
   | (with_reducible exact LeO.refl _)
   | (with_reducible exact LeO.none _)
   | (with_reducible refine LeO.ite ?_ ?_)
   | (with_reducible refine LeO.bind ?_ (fun _ => ?_))
theorem d_worth.calls (k : Nat) (a0 : Int) (r : Int) (w : World) (h : d_worth.f k a0 = some r) :
  Calls Tryd.prog 47 #[.int .u8 a0] w fun e w' => e = .returned (.int .i64 r) ∧ Drawn0 w w' := by
 have H : (if a0 ≥ 48 then (d_worth.j0 k a0 (decide (a0 ≤ 57))) else (d_worth.j0 k a0 false)) = some r := h
 clear h
 have HC2 := Aside0.mk H
 clear H
 go_enter Tryd.func47, Tryd.ntmps47
 go_upto_region 1 with (fail)
 go_cut [8] (fun v8 wc => ∃ (kq : Nat) (x8_1 : Bool), v8 = .bool x8_1 ∧ Aside0 (d_worth.j0 kq a0 x8_1 = some r) ∧ Aside0 (kq ≤ k) ∧ Drawn0 w wc)
 case first =>
  have H := HC2.out
  clear HC2
  replace H := ib_ H
  obtain ⟨c3, H⟩ | ⟨c3, H⟩ := H
  ·have c3b0 : decide (48 ≤ a0) = true := decide_eq_true c3
   clear c3
   (first | rw [c3b0] | (simp only [i64_w, i32_w]; rw [c3b0]) | skip)
   have H' := Aside0.mk H
   clear H
   go_wp2
   go_meet
   case rel => exact ⟨_, (decide (a0 ≤ 57)), er_, H', ⟨om_⟩, dr_⟩
  have c3b0 : decide (48 ≤ a0) = false := decide_eq_false c3
  clear c3
  (first | rw [c3b0] | (simp only [i64_w, i32_w]; rw [c3b0]) | skip)
  have H' := Aside0.mk H
  clear H
  go_wp2
  go_meet
  case rel => exact ⟨_, (false), er_, H', ⟨om_⟩, dr_⟩
 case rest =>
  clear HC2
  try clear c3
  try clear c3b0
  obtain ⟨kq, x8_1, rfl, HA, HJ1, ⟨mc1, rfl⟩⟩ := hcut
  cases kq with
  | zero => exact absurd HA.out (by simp [d_worth.j0])
  | succ kj1 =>
   have H := HA.out
   clear HA
   simp only [d_worth.j0] at H
   by_cases c4 : x8_1 = true
   ·subst c4
    have H1 : (some (wrap64 ((wrap64 (a0)) - 48))) = some r := by rw [if_pos rfl] at H; exact H
    clear H
    have H := H1
    clear H1
    obtain rfl := Option.some.inj H
    go_wp2
    go_ret
    exact ⟨er_, dr_⟩
   replace c4 := Bool.eq_false_iff.mpr c4
   subst c4
   have H1 : (if a0 ≥ 97 then (d_worth.j1 kj1 a0 (decide (a0 ≤ 102))) else (d_worth.j1 kj1 a0 false)) = some r := by rw [if_neg (show ¬ (false = true) by decide)] at H; exact H
   clear H
   have H := H1
   clear H1
   have HC5 := Aside0.mk H
   clear H
   go_upto_region 3 with (fail)
   go_cut [17] (fun v17 wc => ∃ (kq : Nat) (x17_4 : Bool), v17 = .bool x17_4 ∧ Aside0 (d_worth.j1 kq a0 x17_4 = some r) ∧ Aside0 (kq ≤ kj1) ∧ Drawn0 w wc)
   case first =>
    have H := HC5.out
    clear HC5
    replace H := ib_ H
    obtain ⟨c6, H⟩ | ⟨c6, H⟩ := H
    ·have c6b0 : decide (97 ≤ a0) = true := decide_eq_true c6
     clear c6
     (first | rw [c6b0] | (simp only [i64_w, i32_w]; rw [c6b0]) | skip)
     have H' := Aside0.mk H
     clear H
     go_wp2
     go_meet
     case rel => exact ⟨_, (decide (a0 ≤ 102)), er_, H', ⟨by have := HJ1.out; first | omega | exact Nat.le_refl _⟩, dr_⟩
    have c6b0 : decide (97 ≤ a0) = false := decide_eq_false c6
    clear c6
    (first | rw [c6b0] | (simp only [i64_w, i32_w]; rw [c6b0]) | skip)
    have H' := Aside0.mk H
    clear H
    go_wp2
    go_meet
    case rel => exact ⟨_, (false), er_, H', ⟨by have := HJ1.out; first | omega | exact Nat.le_refl _⟩, dr_⟩
   case rest =>
    clear HC5
    try clear c3
    try clear c3b0
    try clear c4
    try clear c6
    try clear c6b0
    obtain ⟨kq, x17_4, rfl, HA, HJ4, ⟨mc4, rfl⟩⟩ := hcut
    cases kq with
    | zero => exact absurd HA.out (by simp [d_worth.j1])
    | succ kj4 =>
     have H := HA.out
     clear HA
     simp only [d_worth.j1] at H
     by_cases c7 : x17_4 = true
     ·subst c7
      have H1 : (some (wrap64 ((wrap64 ((wrap64 (a0)) - 97)) + 10))) = some r := by rw [if_pos rfl] at H; exact H
      clear H
      have H := H1
      clear H1
      obtain rfl := Option.some.inj H
      go_wp2
      go_ret
      exact ⟨er_, dr_⟩
     replace c7 := Bool.eq_false_iff.mpr c7
     subst c7
     have H1 : (if a0 ≥ 65 then (if a0 ≤ 70 then (some (wrap64 ((wrap64 ((wrap64 (a0)) - 65)) + 10))) else (some 99)) else (some 99)) = some r := by rw [if_neg (show ¬ (false = true) by decide)] at H; exact H
     clear H
     have H := H1
     clear H1
     replace H := ib_ H
     obtain ⟨c8, H⟩ | ⟨c8, H⟩ := H
     ·have c8b0 : decide (65 ≤ a0) = true := decide_eq_true c8
      clear c8
      replace H := id_ H
      obtain ⟨-, c9b0, H⟩ | ⟨-, c9b0, H⟩ := H
      ·obtain rfl := Option.some.inj H
       go_wp2
       go_ret
       exact ⟨er_, dr_⟩
      obtain rfl := Option.some.inj H
      go_wp2
      go_ret
      exact ⟨er_, dr_⟩
     have c8b0 : decide (65 ≤ a0) = false := decide_eq_false c8
     clear c8
     obtain rfl := Option.some.inj H
     go_wp2
     go_ret
     exact ⟨er_, dr_⟩
def d_run.l0 : Nat → ByteArray → Int → Int → Int → Option (Int)
 | 0, _, _, _, _ => none
 | k + 1, x0, x1, x2, x7 => if (wrap64 (x1 + x7)) < (x0.size : Int) then (if 0 ≤ (wrap64 (x1 + x7)) then ((d_worth.f k (bt x0 (wrap64 (x1 + x7)))).bind fun t101 => (if t101 < x2 then (d_run.l0 k x0 x1 x2 (wrap64 (x7 + 1))) else (some x7))) else (none)) else (some x7)
def d_run.f (k : Nat) (a0 : ByteArray) (a1 : Int) (a2 : Int) : Option (Int) := d_run.l0 k a0 a1 a2 0
theorem d_run.mono_l : ∀ k, (∀ y0 y1 y2 y3, LeO (d_run.l0 k y0 y1 y2 y3) (d_run.l0 (k + 1) y0 y1 y2 y3))
 | 0 => fun _ _ _ _ r h => by simp [d_run.l0] at h
 | k + 1 => by
  have ih0 := d_run.mono_l k
  intro y0 y1 y2 y3
  unfold d_run.l0
  repeat' first
  | (with_reducible exact ih0 _ _ _ _)
  | (with_reducible exact d_worth.mono _ _)
  | (with_reducible exact LeO.refl _)
  | (with_reducible exact LeO.none _)
  | (with_reducible refine LeO.ite ?_ ?_)
  | (with_reducible refine LeO.bind ?_ (fun _ => ?_))
theorem d_run.mono : ∀ a0 a1 a2 k, LeO (d_run.f k a0 a1 a2) (d_run.f (k + 1) a0 a1 a2) := by
 intro a0 a1 a2 k
 have ih0 := d_run.mono_l k
 unfold d_run.f
 repeat' first
   | (with_reducible exact ih0 _ _ _ _)
   | (with_reducible exact d_worth.mono _ _)
   | (with_reducible exact LeO.refl _)
   | (with_reducible exact LeO.none _)
   | (with_reducible refine LeO.ite ?_ ?_)
   | (with_reducible refine LeO.bind ?_ (fun _ => ?_))
theorem d_run.calls (k : Nat) (a0 : ByteArray) (a1 : Int) (a2 : Int) (r : Int) (w : World) (h : d_run.f k a0 a1 a2 = some r) :
  Calls Tryd.prog 35 #[.string a0, .int .i64 a1, .int .i64 a2] w fun e w' => e = .returned (.int .i64 r) ∧ Drawn0 w w' := by
 have H : (d_run.l0 k a0 a1 a2 0) = some r := h
 clear h
 have H' := Aside0.mk H
 clear H
 go_enter Tryd.func35, Tryd.ntmps35
 go_wp2
 go_loopg [7] k (fun kq v7 w' => ∃ (x7_1 : Int), v7 = .int .i64 x7_1 ∧ Aside0 (d_run.l0 kq a0 a1 a2 x7_1 = some r) ∧ Aside0 (kq ≤ k) ∧ Drawn0 w w')
 case atStart => exact ⟨(0), er_, H', ⟨Nat.le_refl _⟩, dr_⟩
 case round =>
  clear H'
  obtain ⟨x7_1, rfl, HA, HK1, ⟨m1, rfl⟩⟩ := hrel
  cases gk with
  | zero => exact absurd HA.out (by simp [d_run.l0])
  | succ k1 =>
   have H := HA.out
   clear HA
   simp only [d_run.l0] at H
   replace H := id_ H
   obtain ⟨-, c4b0, H⟩ | ⟨-, c4b0, H⟩ := H
   ·obtain ⟨ji5, hji5⟩ : ∃ j_ : Int, (wrap64 (a1 + x7_1)) = j_ := ⟨_, rfl⟩
    replace H : (if 0 ≤ (ji5) then ((d_worth.f k1 (bt a0 (ji5))).bind fun t101 => (if t101 < a2 then (d_run.l0 k1 a0 a1 a2 (wrap64 (x7_1 + 1))) else (some x7_1))) else (none)) = some r := by first | (rw [hji5] at H; exact H) | (simp only [hji5] at H ⊢; exact H)
    (try rw [hji5] at c4b0)
    have hji5w : (IntKind.i64.wrap (a1 + x7_1)) = ji5 := (i64_w _).trans hji5
    replace H := id_ H
    obtain ⟨-, c6b0, H⟩ | ⟨-, -, H⟩ := H
    ·replace H := Option.bind_eq_some_iff.mp H
     obtain ⟨t101, A80, H⟩ := H
     replace H : (if t101 < a2 then (d_run.l0 k1 a0 a1 a2 (wrap64 (x7_1 + 1))) else (some x7_1)) = some r := H
     have A8 := Aside0.mk A80
     clear A80
     replace H := id_ H
     obtain ⟨-, c9b0, H⟩ | ⟨-, c9b0, H⟩ := H
     ·have H' := Aside0.mk H
      clear H
      have p7 : 0 ≤ ((ji5) : Int) := da_
      have q7 : (ji5) < (a0.size : Int) := da_
      have hx7 := bt_at a0 (ji5)
      replace p7 := eq_true p7
      replace q7 := eq_true q7
      go_wp2_with (first | (go_at_call 47; (with_reducible refine (d_worth.calls k1 (bt a0 (ji5)) t101 _ A8.out).mono ?_); rintro e w' ⟨rfl, ⟨nd, rfl⟩⟩))
      go_roundg k1
      case measure => have := HK1.out; omega
      case rel => exact ⟨(wrap64 (x7_1 + 1)), er_, H', ⟨by have := HK1.out; omega⟩, dr_⟩
     obtain rfl := Option.some.inj H
     have p7 : 0 ≤ ((ji5) : Int) := da_
     have q7 : (ji5) < (a0.size : Int) := da_
     have hx7 := bt_at a0 (ji5)
     replace p7 := eq_true p7
     replace q7 := eq_true q7
     go_wp2_with (first | (go_at_call 47; (with_reducible refine (d_worth.calls k1 (bt a0 (ji5)) t101 _ A8.out).mono ?_); rintro e w' ⟨rfl, ⟨nd, rfl⟩⟩))
     go_ret
     exact ⟨by first | rfl | (simp; done) | (simp only [← hji5] <;> (first | rfl | simp)) | (simp [*]; done), dr_⟩
    exact absurd H (by simp)
   obtain rfl := Option.some.inj H
   go_wp2
   go_ret
   exact ⟨er_, dr_⟩
mutual
def d_ends.j0 : Nat → ByteArray → Int → Bool → Bool → Option (Bool)
 | 0, _, _, _, _ => none
 | k + 1, x0, x1, x4, x30 => if x30 = true then (if (wrap64 (x1 + 1)) < (x0.size : Int) then (if 0 ≤ (wrap64 (x1 + 1)) then (if (bt x0 (wrap64 (x1 + 1))) = 43 then (d_ends.j1 k x0 (wrap64 (x1 + 1)) true) else (d_ends.j1 k x0 (wrap64 (x1 + 1)) ((bt x0 (wrap64 (x1 + 1))) == 45))) else (none)) else (d_ends.j1 k x0 (wrap64 (x1 + 1)) false)) else (if x4 = true then (if 0 ≤ x1 then (if x1 ≤ (x0.size : Int) then (if (x0.extract (x1 : Int).toNat x0.size).toList = ([] : List UInt8) then (some true) else (if (x0.extract (x1 : Int).toNat x0.size).toList = ([102] : List UInt8) then (some true) else (if (x0.extract (x1 : Int).toNat x0.size).toList = ([70] : List UInt8) then (some true) else (if (x0.extract (x1 : Int).toNat x0.size).toList = ([108] : List UInt8) then (some true) else (some ((x0.extract (x1 : Int).toNat x0.size).toList == ([76] : List UInt8))))))) else (none)) else (none)) else (some false))
def d_ends.j1 : Nat → ByteArray → Int → Bool → Option (Bool)
 | 0, _, _, _ => none
 | k + 1, x0, x1, x48 => if x48 = true then ((d_run.f k x0 (wrap64 (x1 + 1)) 10).bind fun t102 => (if t102 = 0 then (some false) else (if 0 ≤ (wrap64 ((wrap64 (x1 + 1)) + t102)) then (if (wrap64 ((wrap64 (x1 + 1)) + t102)) ≤ (x0.size : Int) then (if (x0.extract ((wrap64 ((wrap64 (x1 + 1)) + t102)) : Int).toNat x0.size).toList = ([] : List UInt8) then (some true) else (if (x0.extract ((wrap64 ((wrap64 (x1 + 1)) + t102)) : Int).toNat x0.size).toList = ([102] : List UInt8) then (some true) else (if (x0.extract ((wrap64 ((wrap64 (x1 + 1)) + t102)) : Int).toNat x0.size).toList = ([70] : List UInt8) then (some true) else (if (x0.extract ((wrap64 ((wrap64 (x1 + 1)) + t102)) : Int).toNat x0.size).toList = ([108] : List UInt8) then (some true) else (some ((x0.extract ((wrap64 ((wrap64 (x1 + 1)) + t102)) : Int).toNat x0.size).toList == ([76] : List UInt8))))))) else (none)) else (none)))) else ((d_run.f k x0 x1 10).bind fun t103 => (if t103 = 0 then (some false) else (if 0 ≤ (wrap64 (x1 + t103)) then (if (wrap64 (x1 + t103)) ≤ (x0.size : Int) then (if (x0.extract ((wrap64 (x1 + t103)) : Int).toNat x0.size).toList = ([] : List UInt8) then (some true) else (if (x0.extract ((wrap64 (x1 + t103)) : Int).toNat x0.size).toList = ([102] : List UInt8) then (some true) else (if (x0.extract ((wrap64 (x1 + t103)) : Int).toNat x0.size).toList = ([70] : List UInt8) then (some true) else (if (x0.extract ((wrap64 (x1 + t103)) : Int).toNat x0.size).toList = ([108] : List UInt8) then (some true) else (some ((x0.extract ((wrap64 (x1 + t103)) : Int).toNat x0.size).toList == ([76] : List UInt8))))))) else (none)) else (none))))
end
def d_ends.f (k : Nat) (a0 : ByteArray) (a1 : Int) (a2 : Int) (a3 : Int) (a4 : Bool) : Option (Bool) := if a1 < (a0.size : Int) then (if 0 ≤ a1 then (if (bt a0 a1) = a2 then (d_ends.j0 k a0 a1 a4 true) else (d_ends.j0 k a0 a1 a4 ((bt a0 a1) == a3))) else (none)) else (d_ends.j0 k a0 a1 a4 false)
theorem d_ends.mono_l : ∀ k, (∀ y0 y1 y2 y3, LeO (d_ends.j0 k y0 y1 y2 y3) (d_ends.j0 (k + 1) y0 y1 y2 y3)) ∧ (∀ y0 y1 y2, LeO (d_ends.j1 k y0 y1 y2) (d_ends.j1 (k + 1) y0 y1 y2))
 | 0 => ⟨fun _ _ _ _ r h => by simp [d_ends.j0] at h, fun _ _ _ r h => by simp [d_ends.j1] at h⟩
 | k + 1 => by
  obtain ⟨ih0, ih1⟩ := d_ends.mono_l k
  refine ⟨?_, ?_⟩
  ·intro y0 y1 y2 y3
   unfold d_ends.j0
   repeat' first
   | (with_reducible exact ih0 _ _ _ _)
   | (with_reducible exact ih1 _ _ _)
   | (with_reducible exact d_run.mono _ _ _ _)
   | (with_reducible exact LeO.refl _)
   | (with_reducible exact LeO.none _)
   | (with_reducible refine LeO.ite ?_ ?_)
   | (with_reducible refine LeO.bind ?_ (fun _ => ?_))
  intro y0 y1 y2
  unfold d_ends.j1
  repeat' first
  | (with_reducible exact ih0 _ _ _ _)
  | (with_reducible exact ih1 _ _ _)
  | (with_reducible exact d_run.mono _ _ _ _)
  | (with_reducible exact LeO.refl _)
  | (with_reducible exact LeO.none _)
  | (with_reducible refine LeO.ite ?_ ?_)
  | (with_reducible refine LeO.bind ?_ (fun _ => ?_))
theorem d_ends.mono : ∀ a0 a1 a2 a3 a4 k, LeO (d_ends.f k a0 a1 a2 a3 a4) (d_ends.f (k + 1) a0 a1 a2 a3 a4) := by
 intro a0 a1 a2 a3 a4 k
 obtain ⟨ih0, ih1⟩ := d_ends.mono_l k
 unfold d_ends.f
 repeat' first
   | (with_reducible exact ih0 _ _ _ _)
   | (with_reducible exact ih1 _ _ _)
   | (with_reducible exact d_run.mono _ _ _ _)
   | (with_reducible exact LeO.refl _)
   | (with_reducible exact LeO.none _)
   | (with_reducible refine LeO.ite ?_ ?_)
   | (with_reducible refine LeO.bind ?_ (fun _ => ?_))
theorem d_ends.calls (k : Nat) (a0 : ByteArray) (a1 : Int) (a2 : Int) (a3 : Int) (a4 : Bool) (r : Bool) (w : World) (h : d_ends.f k a0 a1 a2 a3 a4 = some r) :
  Calls Tryd.prog 36 #[.string a0, .int .i64 a1, .int .u8 a2, .int .u8 a3, .bool a4] w fun e w' => e = .returned (.bool r) ∧ Drawn0 w w' := by
 have H : (if a1 < (a0.size : Int) then (if 0 ≤ a1 then (if (bt a0 a1) = a2 then (d_ends.j0 k a0 a1 a4 true) else (d_ends.j0 k a0 a1 a4 ((bt a0 a1) == a3))) else (none)) else (d_ends.j0 k a0 a1 a4 false)) = some r := h
 clear h
 have HC6 := Aside0.mk H
 clear H
 go_enter Tryd.func36, Tryd.ntmps36
 go_upto_region 1 with (fail)
 go_cut [30] (fun v30 wc => ∃ (kq : Nat) (x30_5 : Bool), v30 = .bool x30_5 ∧ Aside0 (d_ends.j0 kq a0 a1 a4 x30_5 = some r) ∧ Aside0 (kq ≤ k) ∧ Drawn0 w wc)
 case first =>
  have H := HC6.out
  clear HC6
  replace H := id_ H
  obtain ⟨-, c7b0, H⟩ | ⟨-, c7b0, H⟩ := H
  ·(first | rw [c7b0] | (simp only [i64_w, i32_w]; rw [c7b0]) | skip)
   replace H := id_ H
   obtain ⟨-, c8b0, H⟩ | ⟨-, -, H⟩ := H
   ·replace H := ie_ H
    obtain ⟨c10b0, c10b1, H⟩ | ⟨c10b0, c10b1, c10, H⟩ := H
    ·have H' := Aside0.mk H
     clear H
     have p9 : 0 ≤ (a1 : Int) := da_
     have q9 : a1 < (a0.size : Int) := da_
     have hx9 := bt_at a0 a1
     replace p9 := eq_true p9
     replace q9 := eq_true q9
     go_wp2
     go_meet
     case rel => exact ⟨_, (true), er_, H', ⟨om_⟩, dr_⟩
    have H' := Aside0.mk H
    clear H
    have p9 : 0 ≤ (a1 : Int) := da_
    have q9 : a1 < (a0.size : Int) := da_
    have hx9 := bt_at a0 a1
    replace p9 := eq_true p9
    replace q9 := eq_true q9
    have p11 : 0 ≤ (a1 : Int) := da_
    have q11 : a1 < (a0.size : Int) := da_
    have hx11 := bt_at a0 a1
    replace p11 := eq_true p11
    replace q11 := eq_true q11
    go_wp2
    go_meet
    case rel => exact ⟨_, (((bt a0 a1) == a3)), er_, H', ⟨om_⟩, dr_⟩
   exact absurd H (by simp)
  (first | rw [c7b0] | (simp only [i64_w, i32_w]; rw [c7b0]) | skip)
  have H' := Aside0.mk H
  clear H
  go_wp2
  go_meet
  case rel => exact ⟨_, (false), er_, H', ⟨om_⟩, dr_⟩
 case rest =>
  clear HC6
  try clear c7b0
  try clear c8b0
  try clear p9
  try clear q9
  try clear hx9
  try clear c10
  try clear c10b0
  try clear c10b1
  try clear p11
  try clear q11
  try clear hx11
  try clear p11
  try clear p9
  try clear q11
  try clear q9
  obtain ⟨kq, x30_5, rfl, HA, HJ5, ⟨mc5, rfl⟩⟩ := hcut
  cases kq with
  | zero => exact absurd HA.out (by simp [d_ends.j0])
  | succ kj5 =>
   have H := HA.out
   clear HA
   simp only [d_ends.j0] at H
   by_cases c12 : x30_5 = true
   ·subst c12
    have H1 : (if (wrap64 (a1 + 1)) < (a0.size : Int) then (if 0 ≤ (wrap64 (a1 + 1)) then (if (bt a0 (wrap64 (a1 + 1))) = 43 then (d_ends.j1 kj5 a0 (wrap64 (a1 + 1)) true) else (d_ends.j1 kj5 a0 (wrap64 (a1 + 1)) ((bt a0 (wrap64 (a1 + 1))) == 45))) else (none)) else (d_ends.j1 kj5 a0 (wrap64 (a1 + 1)) false)) = some r := by rw [if_pos rfl] at H; exact H
    clear H
    have H := H1
    clear H1
    have HC13 := Aside0.mk H
    clear H
    go_upto_region 3 with (fail)
    go_cut [48] (fun v48 wc => ∃ (kq : Nat) (x48_12 : Bool), v48 = .bool x48_12 ∧ Aside0 (d_ends.j1 kq a0 (wrap64 (a1 + 1)) x48_12 = some r) ∧ Aside0 (kq ≤ kj5) ∧ Drawn0 w wc)
    case first =>
     have H := HC13.out
     clear HC13
     replace H := id_ H
     obtain ⟨-, c14b0, H⟩ | ⟨-, c14b0, H⟩ := H
     ·(first | rw [c14b0] | (simp only [i64_w, i32_w]; rw [c14b0]) | skip)
      obtain ⟨ji15, hji15⟩ : ∃ j_ : Int, (wrap64 (a1 + 1)) = j_ := ⟨_, rfl⟩
      replace H : (if 0 ≤ (ji15) then (if (bt a0 (ji15)) = 43 then (d_ends.j1 kj5 a0 ji15 true) else (d_ends.j1 kj5 a0 ji15 ((bt a0 (ji15)) == 45))) else (none)) = some r := by first | (rw [hji15] at H; exact H) | (simp only [hji15] at H ⊢; exact H)
      (try rw [hji15] at c14b0)
      have hji15w : (IntKind.i64.wrap (a1 + 1)) = ji15 := (i64_w _).trans hji15
      replace H := id_ H
      obtain ⟨-, c16b0, H⟩ | ⟨-, -, H⟩ := H
      ·replace H := ie_ H
       obtain ⟨c18b0, c18b1, H⟩ | ⟨c18b0, c18b1, c18, H⟩ := H
       ·have H' := Aside0.mk H
        clear H
        have p17 : 0 ≤ ((ji15) : Int) := da_
        have q17 : (ji15) < (a0.size : Int) := da_
        have hx17 := bt_at a0 (ji15)
        replace p17 := eq_true p17
        replace q17 := eq_true q17
        go_wp2
        go_meet
        case rel => exact ⟨_, (true), er_, (by first | exact H' | (rw [hji15]; exact H')), ⟨by have := HJ5.out; first | omega | exact Nat.le_refl _⟩, dr_⟩
       have H' := Aside0.mk H
       clear H
       have p17 : 0 ≤ ((ji15) : Int) := da_
       have q17 : (ji15) < (a0.size : Int) := da_
       have hx17 := bt_at a0 (ji15)
       replace p17 := eq_true p17
       replace q17 := eq_true q17
       have p19 : 0 ≤ ((ji15) : Int) := da_
       have q19 : (ji15) < (a0.size : Int) := da_
       have hx19 := bt_at a0 (ji15)
       replace p19 := eq_true p19
       replace q19 := eq_true q19
       go_wp2
       go_meet
       case rel => exact ⟨_, (((bt a0 (ji15)) == 45)), (by first | rfl | (simp; done) | (simp only [← hji15] <;> (first | rfl | simp)) | (simp [*]; done)), (by first | exact H' | (rw [hji15]; exact H')), ⟨by have := HJ5.out; first | omega | exact Nat.le_refl _⟩, dr_⟩
      exact absurd H (by simp)
     (first | rw [c14b0] | (simp only [i64_w, i32_w]; rw [c14b0]) | skip)
     have H' := Aside0.mk H
     clear H
     go_wp2
     go_meet
     case rel => exact ⟨_, (false), er_, H', ⟨by have := HJ5.out; first | omega | exact Nat.le_refl _⟩, dr_⟩
    case rest =>
     clear HC13
     try clear c7b0
     try clear c8b0
     try clear p9
     try clear q9
     try clear hx9
     try clear c10
     try clear c10b0
     try clear c10b1
     try clear p11
     try clear q11
     try clear hx11
     try clear c12
     try clear c14b0
     try clear c16b0
     try clear p17
     try clear q17
     try clear hx17
     try clear c18
     try clear c18b0
     try clear c18b1
     try clear p19
     try clear q19
     try clear hx19
     try clear p11
     try clear p17
     try clear p19
     try clear p9
     try clear q11
     try clear q17
     try clear q19
     try clear q9
     obtain ⟨kq, x48_12, rfl, HA, HJ12, ⟨mc12, rfl⟩⟩ := hcut
     cases kq with
     | zero => exact absurd HA.out (by simp [d_ends.j1])
     | succ kj12 =>
      have H := HA.out
      clear HA
      simp only [d_ends.j1] at H
      by_cases c20 : x48_12 = true
      ·subst c20
       have H1 : ((d_run.f kj12 a0 (wrap64 ((wrap64 (a1 + 1)) + 1)) 10).bind fun t102 => (if t102 = 0 then (some false) else (if 0 ≤ (wrap64 ((wrap64 ((wrap64 (a1 + 1)) + 1)) + t102)) then (if (wrap64 ((wrap64 ((wrap64 (a1 + 1)) + 1)) + t102)) ≤ (a0.size : Int) then (if (a0.extract ((wrap64 ((wrap64 ((wrap64 (a1 + 1)) + 1)) + t102)) : Int).toNat a0.size).toList = ([] : List UInt8) then (some true) else (if (a0.extract ((wrap64 ((wrap64 ((wrap64 (a1 + 1)) + 1)) + t102)) : Int).toNat a0.size).toList = ([102] : List UInt8) then (some true) else (if (a0.extract ((wrap64 ((wrap64 ((wrap64 (a1 + 1)) + 1)) + t102)) : Int).toNat a0.size).toList = ([70] : List UInt8) then (some true) else (if (a0.extract ((wrap64 ((wrap64 ((wrap64 (a1 + 1)) + 1)) + t102)) : Int).toNat a0.size).toList = ([108] : List UInt8) then (some true) else (some ((a0.extract ((wrap64 ((wrap64 ((wrap64 (a1 + 1)) + 1)) + t102)) : Int).toNat a0.size).toList == ([76] : List UInt8))))))) else (none)) else (none)))) = some r := by rw [if_pos rfl] at H; exact H
       clear H
       have H := H1
       clear H1
       replace H := Option.bind_eq_some_iff.mp H
       obtain ⟨t102, A210, H⟩ := H
       replace H : (if t102 = 0 then (some false) else (if 0 ≤ (wrap64 ((wrap64 ((wrap64 (a1 + 1)) + 1)) + t102)) then (if (wrap64 ((wrap64 ((wrap64 (a1 + 1)) + 1)) + t102)) ≤ (a0.size : Int) then (if (a0.extract ((wrap64 ((wrap64 ((wrap64 (a1 + 1)) + 1)) + t102)) : Int).toNat a0.size).toList = ([] : List UInt8) then (some true) else (if (a0.extract ((wrap64 ((wrap64 ((wrap64 (a1 + 1)) + 1)) + t102)) : Int).toNat a0.size).toList = ([102] : List UInt8) then (some true) else (if (a0.extract ((wrap64 ((wrap64 ((wrap64 (a1 + 1)) + 1)) + t102)) : Int).toNat a0.size).toList = ([70] : List UInt8) then (some true) else (if (a0.extract ((wrap64 ((wrap64 ((wrap64 (a1 + 1)) + 1)) + t102)) : Int).toNat a0.size).toList = ([108] : List UInt8) then (some true) else (some ((a0.extract ((wrap64 ((wrap64 ((wrap64 (a1 + 1)) + 1)) + t102)) : Int).toNat a0.size).toList == ([76] : List UInt8))))))) else (none)) else (none))) = some r := H
       have A21 := Aside0.mk A210
       clear A210
       replace H := ie_ H
       obtain ⟨c22b0, c22b1, H⟩ | ⟨c22b0, c22b1, c22, H⟩ := H
       ·obtain rfl := Option.some.inj H
        go_wp2_with (first | ((with_reducible refine gate_callee (f := 35) rfl ?_); refine goesL_ (some 53) rfl rfl Tryd.func35 (by kernel_rfl) rfl #[.string a0, .int .i64 (wrap64 ((wrap64 (a1 + 1)) + 1)), .int .i64 10] rfl ar_ ?_; (with_reducible refine (d_run.calls kj12 a0 (wrap64 ((wrap64 (a1 + 1)) + 1)) 10 t102 _ A21.out).mono ?_); rintro e w' ⟨rfl, ⟨nd, rfl⟩⟩; refine ⟨_, rfl, ?_⟩))
        go_ret
        exact ⟨er_, dr_⟩
       obtain ⟨ji23, hji23⟩ : ∃ j_ : Int, (wrap64 ((wrap64 ((wrap64 (a1 + 1)) + 1)) + t102)) = j_ := ⟨_, rfl⟩
       replace H : (if 0 ≤ (ji23) then (if (ji23) ≤ (a0.size : Int) then (if (a0.extract ((ji23) : Int).toNat a0.size).toList = ([] : List UInt8) then (some true) else (if (a0.extract ((ji23) : Int).toNat a0.size).toList = ([102] : List UInt8) then (some true) else (if (a0.extract ((ji23) : Int).toNat a0.size).toList = ([70] : List UInt8) then (some true) else (if (a0.extract ((ji23) : Int).toNat a0.size).toList = ([108] : List UInt8) then (some true) else (some ((a0.extract ((ji23) : Int).toNat a0.size).toList == ([76] : List UInt8))))))) else (none)) else (none)) = some r := by first | (rw [hji23] at H; exact H) | (simp only [hji23] at H ⊢; exact H)
       (try rw [hji23] at A21)
       have hji23w : (IntKind.i64.wrap ((wrap64 ((wrap64 (a1 + 1)) + 1)) + t102)) = ji23 := (i64_w _).trans hji23
       replace H := id_ H
       obtain ⟨c24b0, c24b1, H⟩ | ⟨-, -, H⟩ := H
       ·replace H := id_ H
        obtain ⟨c25b0, c25b1, H⟩ | ⟨-, -, H⟩ := H
        ·replace H := ie_ H
         obtain ⟨c26b0, c26b1, H⟩ | ⟨c26b0, c26b1, c26, H⟩ := H
         ·obtain rfl := Option.some.inj H
          go_wp2_with (first | ((with_reducible refine gate_callee (f := 35) rfl ?_); refine goesL_ (some 53) rfl rfl Tryd.func35 (by kernel_rfl) rfl #[.string a0, .int .i64 (wrap64 ((wrap64 (a1 + 1)) + 1)), .int .i64 10] rfl ar_ ?_; (with_reducible refine (d_run.calls kj12 a0 (wrap64 ((wrap64 (a1 + 1)) + 1)) 10 t102 _ A21.out).mono ?_); rintro e w' ⟨rfl, ⟨nd, rfl⟩⟩; refine ⟨_, rfl, ?_⟩))
          go_ret
          exact ⟨by first | rfl | (simp; done) | (simp only [← hji23] <;> (first | rfl | simp)) | (simp [*]; done), dr_⟩
         replace H := ie_ H
         obtain ⟨c27b0, c27b1, H⟩ | ⟨c27b0, c27b1, c27, H⟩ := H
         ·obtain rfl := Option.some.inj H
          go_wp2_with (first | ((with_reducible refine gate_callee (f := 35) rfl ?_); refine goesL_ (some 53) rfl rfl Tryd.func35 (by kernel_rfl) rfl #[.string a0, .int .i64 (wrap64 ((wrap64 (a1 + 1)) + 1)), .int .i64 10] rfl ar_ ?_; (with_reducible refine (d_run.calls kj12 a0 (wrap64 ((wrap64 (a1 + 1)) + 1)) 10 t102 _ A21.out).mono ?_); rintro e w' ⟨rfl, ⟨nd, rfl⟩⟩; refine ⟨_, rfl, ?_⟩))
          go_ret
          exact ⟨by first | rfl | (simp; done) | (simp only [← hji23] <;> (first | rfl | simp)) | (simp [*]; done), dr_⟩
         replace H := ie_ H
         obtain ⟨c28b0, c28b1, H⟩ | ⟨c28b0, c28b1, c28, H⟩ := H
         ·obtain rfl := Option.some.inj H
          go_wp2_with (first | ((with_reducible refine gate_callee (f := 35) rfl ?_); refine goesL_ (some 53) rfl rfl Tryd.func35 (by kernel_rfl) rfl #[.string a0, .int .i64 (wrap64 ((wrap64 (a1 + 1)) + 1)), .int .i64 10] rfl ar_ ?_; (with_reducible refine (d_run.calls kj12 a0 (wrap64 ((wrap64 (a1 + 1)) + 1)) 10 t102 _ A21.out).mono ?_); rintro e w' ⟨rfl, ⟨nd, rfl⟩⟩; refine ⟨_, rfl, ?_⟩))
          go_ret
          exact ⟨by first | rfl | (simp; done) | (simp only [← hji23] <;> (first | rfl | simp)) | (simp [*]; done), dr_⟩
         replace H := ie_ H
         obtain ⟨c29b0, c29b1, H⟩ | ⟨c29b0, c29b1, c29, H⟩ := H
         ·obtain rfl := Option.some.inj H
          go_wp2_with (first | ((with_reducible refine gate_callee (f := 35) rfl ?_); refine goesL_ (some 53) rfl rfl Tryd.func35 (by kernel_rfl) rfl #[.string a0, .int .i64 (wrap64 ((wrap64 (a1 + 1)) + 1)), .int .i64 10] rfl ar_ ?_; (with_reducible refine (d_run.calls kj12 a0 (wrap64 ((wrap64 (a1 + 1)) + 1)) 10 t102 _ A21.out).mono ?_); rintro e w' ⟨rfl, ⟨nd, rfl⟩⟩; refine ⟨_, rfl, ?_⟩))
          go_ret
          exact ⟨by first | rfl | (simp; done) | (simp only [← hji23] <;> (first | rfl | simp)) | (simp [*]; done), dr_⟩
         obtain rfl := Option.some.inj H
         go_wp2_with (first | ((with_reducible refine gate_callee (f := 35) rfl ?_); refine goesL_ (some 53) rfl rfl Tryd.func35 (by kernel_rfl) rfl #[.string a0, .int .i64 (wrap64 ((wrap64 (a1 + 1)) + 1)), .int .i64 10] rfl ar_ ?_; (with_reducible refine (d_run.calls kj12 a0 (wrap64 ((wrap64 (a1 + 1)) + 1)) 10 t102 _ A21.out).mono ?_); rintro e w' ⟨rfl, ⟨nd, rfl⟩⟩; refine ⟨_, rfl, ?_⟩))
         go_ret
         exact ⟨by first | rfl | (simp; done) | (simp only [← hji23] <;> (first | rfl | simp)) | (simp [*]; done), dr_⟩
        exact absurd H (by simp)
       exact absurd H (by simp)
      replace c20 := Bool.eq_false_iff.mpr c20
      subst c20
      have H1 : ((d_run.f kj12 a0 (wrap64 (a1 + 1)) 10).bind fun t103 => (if t103 = 0 then (some false) else (if 0 ≤ (wrap64 ((wrap64 (a1 + 1)) + t103)) then (if (wrap64 ((wrap64 (a1 + 1)) + t103)) ≤ (a0.size : Int) then (if (a0.extract ((wrap64 ((wrap64 (a1 + 1)) + t103)) : Int).toNat a0.size).toList = ([] : List UInt8) then (some true) else (if (a0.extract ((wrap64 ((wrap64 (a1 + 1)) + t103)) : Int).toNat a0.size).toList = ([102] : List UInt8) then (some true) else (if (a0.extract ((wrap64 ((wrap64 (a1 + 1)) + t103)) : Int).toNat a0.size).toList = ([70] : List UInt8) then (some true) else (if (a0.extract ((wrap64 ((wrap64 (a1 + 1)) + t103)) : Int).toNat a0.size).toList = ([108] : List UInt8) then (some true) else (some ((a0.extract ((wrap64 ((wrap64 (a1 + 1)) + t103)) : Int).toNat a0.size).toList == ([76] : List UInt8))))))) else (none)) else (none)))) = some r := by rw [if_neg (show ¬ (false = true) by decide)] at H; exact H
      clear H
      have H := H1
      clear H1
      replace H := Option.bind_eq_some_iff.mp H
      obtain ⟨t103, A300, H⟩ := H
      replace H : (if t103 = 0 then (some false) else (if 0 ≤ (wrap64 ((wrap64 (a1 + 1)) + t103)) then (if (wrap64 ((wrap64 (a1 + 1)) + t103)) ≤ (a0.size : Int) then (if (a0.extract ((wrap64 ((wrap64 (a1 + 1)) + t103)) : Int).toNat a0.size).toList = ([] : List UInt8) then (some true) else (if (a0.extract ((wrap64 ((wrap64 (a1 + 1)) + t103)) : Int).toNat a0.size).toList = ([102] : List UInt8) then (some true) else (if (a0.extract ((wrap64 ((wrap64 (a1 + 1)) + t103)) : Int).toNat a0.size).toList = ([70] : List UInt8) then (some true) else (if (a0.extract ((wrap64 ((wrap64 (a1 + 1)) + t103)) : Int).toNat a0.size).toList = ([108] : List UInt8) then (some true) else (some ((a0.extract ((wrap64 ((wrap64 (a1 + 1)) + t103)) : Int).toNat a0.size).toList == ([76] : List UInt8))))))) else (none)) else (none))) = some r := H
      have A30 := Aside0.mk A300
      clear A300
      replace H := ie_ H
      obtain ⟨c31b0, c31b1, H⟩ | ⟨c31b0, c31b1, c31, H⟩ := H
      ·obtain rfl := Option.some.inj H
       go_wp2_with (first | ((with_reducible refine gate_callee (f := 35) rfl ?_); refine goesL_ (some 53) rfl rfl Tryd.func35 (by kernel_rfl) rfl #[.string a0, .int .i64 (wrap64 (a1 + 1)), .int .i64 10] rfl ar_ ?_; (with_reducible refine (d_run.calls kj12 a0 (wrap64 (a1 + 1)) 10 t103 _ A30.out).mono ?_); rintro e w' ⟨rfl, ⟨nd, rfl⟩⟩; refine ⟨_, rfl, ?_⟩))
       go_ret
       exact ⟨er_, dr_⟩
      obtain ⟨ji32, hji32⟩ : ∃ j_ : Int, (wrap64 ((wrap64 (a1 + 1)) + t103)) = j_ := ⟨_, rfl⟩
      replace H : (if 0 ≤ (ji32) then (if (ji32) ≤ (a0.size : Int) then (if (a0.extract ((ji32) : Int).toNat a0.size).toList = ([] : List UInt8) then (some true) else (if (a0.extract ((ji32) : Int).toNat a0.size).toList = ([102] : List UInt8) then (some true) else (if (a0.extract ((ji32) : Int).toNat a0.size).toList = ([70] : List UInt8) then (some true) else (if (a0.extract ((ji32) : Int).toNat a0.size).toList = ([108] : List UInt8) then (some true) else (some ((a0.extract ((ji32) : Int).toNat a0.size).toList == ([76] : List UInt8))))))) else (none)) else (none)) = some r := by first | (rw [hji32] at H; exact H) | (simp only [hji32] at H ⊢; exact H)
      (try rw [hji32] at A30)
      have hji32w : (IntKind.i64.wrap ((wrap64 (a1 + 1)) + t103)) = ji32 := (i64_w _).trans hji32
      replace H := id_ H
      obtain ⟨c33b0, c33b1, H⟩ | ⟨-, -, H⟩ := H
      ·replace H := id_ H
       obtain ⟨c34b0, c34b1, H⟩ | ⟨-, -, H⟩ := H
       ·replace H := ie_ H
        obtain ⟨c35b0, c35b1, H⟩ | ⟨c35b0, c35b1, c35, H⟩ := H
        ·obtain rfl := Option.some.inj H
         go_wp2_with (first | ((with_reducible refine gate_callee (f := 35) rfl ?_); refine goesL_ (some 53) rfl rfl Tryd.func35 (by kernel_rfl) rfl #[.string a0, .int .i64 (wrap64 (a1 + 1)), .int .i64 10] rfl ar_ ?_; (with_reducible refine (d_run.calls kj12 a0 (wrap64 (a1 + 1)) 10 t103 _ A30.out).mono ?_); rintro e w' ⟨rfl, ⟨nd, rfl⟩⟩; refine ⟨_, rfl, ?_⟩))
         go_ret
         exact ⟨by first | rfl | (simp; done) | (simp only [← hji32] <;> (first | rfl | simp)) | (simp [*]; done), dr_⟩
        replace H := ie_ H
        obtain ⟨c36b0, c36b1, H⟩ | ⟨c36b0, c36b1, c36, H⟩ := H
        ·obtain rfl := Option.some.inj H
         go_wp2_with (first | ((with_reducible refine gate_callee (f := 35) rfl ?_); refine goesL_ (some 53) rfl rfl Tryd.func35 (by kernel_rfl) rfl #[.string a0, .int .i64 (wrap64 (a1 + 1)), .int .i64 10] rfl ar_ ?_; (with_reducible refine (d_run.calls kj12 a0 (wrap64 (a1 + 1)) 10 t103 _ A30.out).mono ?_); rintro e w' ⟨rfl, ⟨nd, rfl⟩⟩; refine ⟨_, rfl, ?_⟩))
         go_ret
         exact ⟨by first | rfl | (simp; done) | (simp only [← hji32] <;> (first | rfl | simp)) | (simp [*]; done), dr_⟩
        replace H := ie_ H
        obtain ⟨c37b0, c37b1, H⟩ | ⟨c37b0, c37b1, c37, H⟩ := H
        ·obtain rfl := Option.some.inj H
         go_wp2_with (first | ((with_reducible refine gate_callee (f := 35) rfl ?_); refine goesL_ (some 53) rfl rfl Tryd.func35 (by kernel_rfl) rfl #[.string a0, .int .i64 (wrap64 (a1 + 1)), .int .i64 10] rfl ar_ ?_; (with_reducible refine (d_run.calls kj12 a0 (wrap64 (a1 + 1)) 10 t103 _ A30.out).mono ?_); rintro e w' ⟨rfl, ⟨nd, rfl⟩⟩; refine ⟨_, rfl, ?_⟩))
         go_ret
         exact ⟨by first | rfl | (simp; done) | (simp only [← hji32] <;> (first | rfl | simp)) | (simp [*]; done), dr_⟩
        replace H := ie_ H
        obtain ⟨c38b0, c38b1, H⟩ | ⟨c38b0, c38b1, c38, H⟩ := H
        ·obtain rfl := Option.some.inj H
         go_wp2_with (first | ((with_reducible refine gate_callee (f := 35) rfl ?_); refine goesL_ (some 53) rfl rfl Tryd.func35 (by kernel_rfl) rfl #[.string a0, .int .i64 (wrap64 (a1 + 1)), .int .i64 10] rfl ar_ ?_; (with_reducible refine (d_run.calls kj12 a0 (wrap64 (a1 + 1)) 10 t103 _ A30.out).mono ?_); rintro e w' ⟨rfl, ⟨nd, rfl⟩⟩; refine ⟨_, rfl, ?_⟩))
         go_ret
         exact ⟨by first | rfl | (simp; done) | (simp only [← hji32] <;> (first | rfl | simp)) | (simp [*]; done), dr_⟩
        obtain rfl := Option.some.inj H
        go_wp2_with (first | ((with_reducible refine gate_callee (f := 35) rfl ?_); refine goesL_ (some 53) rfl rfl Tryd.func35 (by kernel_rfl) rfl #[.string a0, .int .i64 (wrap64 (a1 + 1)), .int .i64 10] rfl ar_ ?_; (with_reducible refine (d_run.calls kj12 a0 (wrap64 (a1 + 1)) 10 t103 _ A30.out).mono ?_); rintro e w' ⟨rfl, ⟨nd, rfl⟩⟩; refine ⟨_, rfl, ?_⟩))
        go_ret
        exact ⟨by first | rfl | (simp; done) | (simp only [← hji32] <;> (first | rfl | simp)) | (simp [*]; done), dr_⟩
       exact absurd H (by simp)
      exact absurd H (by simp)
   replace c12 := Bool.eq_false_iff.mpr c12
   subst c12
   have H1 : (if a4 = true then (if 0 ≤ a1 then (if a1 ≤ (a0.size : Int) then (if (a0.extract (a1 : Int).toNat a0.size).toList = ([] : List UInt8) then (some true) else (if (a0.extract (a1 : Int).toNat a0.size).toList = ([102] : List UInt8) then (some true) else (if (a0.extract (a1 : Int).toNat a0.size).toList = ([70] : List UInt8) then (some true) else (if (a0.extract (a1 : Int).toNat a0.size).toList = ([108] : List UInt8) then (some true) else (some ((a0.extract (a1 : Int).toNat a0.size).toList == ([76] : List UInt8))))))) else (none)) else (none)) else (some false)) = some r := by rw [if_neg (show ¬ (false = true) by decide)] at H; exact H
   clear H
   have H := H1
   clear H1
   by_cases c39 : a4 = true
   ·subst c39
    have H1 : (if 0 ≤ a1 then (if a1 ≤ (a0.size : Int) then (if (a0.extract (a1 : Int).toNat a0.size).toList = ([] : List UInt8) then (some true) else (if (a0.extract (a1 : Int).toNat a0.size).toList = ([102] : List UInt8) then (some true) else (if (a0.extract (a1 : Int).toNat a0.size).toList = ([70] : List UInt8) then (some true) else (if (a0.extract (a1 : Int).toNat a0.size).toList = ([108] : List UInt8) then (some true) else (some ((a0.extract (a1 : Int).toNat a0.size).toList == ([76] : List UInt8))))))) else (none)) else (none)) = some r := by rw [if_pos rfl] at H; exact H
    clear H
    have H := H1
    clear H1
    replace H := id_ H
    obtain ⟨c40b0, c40b1, H⟩ | ⟨-, -, H⟩ := H
    ·replace H := id_ H
     obtain ⟨c41b0, c41b1, H⟩ | ⟨-, -, H⟩ := H
     ·replace H := ie_ H
      obtain ⟨c42b0, c42b1, H⟩ | ⟨c42b0, c42b1, c42, H⟩ := H
      ·obtain rfl := Option.some.inj H
       go_wp2
       go_ret
       exact ⟨er_, dr_⟩
      replace H := ie_ H
      obtain ⟨c43b0, c43b1, H⟩ | ⟨c43b0, c43b1, c43, H⟩ := H
      ·obtain rfl := Option.some.inj H
       go_wp2
       go_ret
       exact ⟨er_, dr_⟩
      replace H := ie_ H
      obtain ⟨c44b0, c44b1, H⟩ | ⟨c44b0, c44b1, c44, H⟩ := H
      ·obtain rfl := Option.some.inj H
       go_wp2
       go_ret
       exact ⟨er_, dr_⟩
      replace H := ie_ H
      obtain ⟨c45b0, c45b1, H⟩ | ⟨c45b0, c45b1, c45, H⟩ := H
      ·obtain rfl := Option.some.inj H
       go_wp2
       go_ret
       exact ⟨er_, dr_⟩
      obtain rfl := Option.some.inj H
      go_wp2
      go_ret
      exact ⟨er_, dr_⟩
     exact absurd H (by simp)
    exact absurd H (by simp)
   replace c39 := Bool.eq_false_iff.mpr c39
   subst c39
   have H1 : (some false) = some r := by rw [if_neg (show ¬ (false = true) by decide)] at H; exact H
   clear H
   have H := H1
   clear H1
   obtain rfl := Option.some.inj H
   go_wp2
   go_ret
   exact ⟨er_, dr_⟩
mutual
def d_Float.j0 : Nat → ByteArray → Int → Int → Option (Bool)
 | 0, _, _, _ => none
 | k + 1, x0, x3, x4 => (d_run.f k x0 x4 x3).bind fun t105 => (if (wrap64 (x4 + t105)) < (x0.size : Int) then (if 0 ≤ (wrap64 (x4 + t105)) then (d_Float.j1 k x0 x3 (wrap64 (x4 + t105)) t105 ((bt x0 (wrap64 (x4 + t105))) == 46)) else (none)) else (d_Float.j1 k x0 x3 (wrap64 (x4 + t105)) t105 false))
def d_Float.j1 : Nat → ByteArray → Int → Int → Int → Bool → Option (Bool)
 | 0, _, _, _, _, _ => none
 | k + 1, x0, x3, x4, x5, x6 => if x6 = true then ((d_run.f k x0 (wrap64 (x4 + 1)) x3).bind fun t106 => (d_Float.j2 k x0 x3 (wrap64 ((wrap64 (x4 + 1)) + t106)) (wrap64 (x5 + t106)) x6)) else (d_Float.j2 k x0 x3 x4 x5 x6)
def d_Float.j2 : Nat → ByteArray → Int → Int → Int → Bool → Option (Bool)
 | 0, _, _, _, _, _ => none
 | k + 1, x0, x3, x4, x5, x6 => if x5 = 0 then (some false) else (if x3 = 16 then ((d_ends.f k x0 x4 112 80 false).bind fun t107 => (some t107)) else ((d_ends.f k x0 x4 101 69 x6).bind fun t108 => (some t108)))
end
def d_Float.f (k : Nat) (a0 : ByteArray) : Option (Bool) := (d_hex.f a0).bind fun t104 => (if t104 = true then (d_Float.j0 k a0 16 2) else (d_Float.j0 k a0 10 0))
theorem d_Float.mono_l : ∀ k, (∀ y0 y1 y2, LeO (d_Float.j0 k y0 y1 y2) (d_Float.j0 (k + 1) y0 y1 y2)) ∧ (∀ y0 y1 y2 y3 y4, LeO (d_Float.j1 k y0 y1 y2 y3 y4) (d_Float.j1 (k + 1) y0 y1 y2 y3 y4)) ∧ (∀ y0 y1 y2 y3 y4, LeO (d_Float.j2 k y0 y1 y2 y3 y4) (d_Float.j2 (k + 1) y0 y1 y2 y3 y4))
 | 0 => ⟨fun _ _ _ r h => by simp [d_Float.j0] at h, fun _ _ _ _ _ r h => by simp [d_Float.j1] at h, fun _ _ _ _ _ r h => by simp [d_Float.j2] at h⟩
 | k + 1 => by
  obtain ⟨ih0, ih1, ih2⟩ := d_Float.mono_l k
  refine ⟨?_, ?_, ?_⟩
  ·intro y0 y1 y2
   unfold d_Float.j0
   repeat' first
   | (with_reducible exact ih0 _ _ _)
   | (with_reducible exact ih1 _ _ _ _ _)
   | (with_reducible exact ih2 _ _ _ _ _)
   | (with_reducible exact d_ends.mono _ _ _ _ _ _)
   | (with_reducible exact d_run.mono _ _ _ _)
   | (with_reducible exact LeO.refl _)
   | (with_reducible exact LeO.none _)
   | (with_reducible refine LeO.ite ?_ ?_)
   | (with_reducible refine LeO.bind ?_ (fun _ => ?_))
  ·intro y0 y1 y2 y3 y4
   unfold d_Float.j1
   repeat' first
   | (with_reducible exact ih0 _ _ _)
   | (with_reducible exact ih1 _ _ _ _ _)
   | (with_reducible exact ih2 _ _ _ _ _)
   | (with_reducible exact d_ends.mono _ _ _ _ _ _)
   | (with_reducible exact d_run.mono _ _ _ _)
   | (with_reducible exact LeO.refl _)
   | (with_reducible exact LeO.none _)
   | (with_reducible refine LeO.ite ?_ ?_)
   | (with_reducible refine LeO.bind ?_ (fun _ => ?_))
  intro y0 y1 y2 y3 y4
  unfold d_Float.j2
  repeat' first
  | (with_reducible exact ih0 _ _ _)
  | (with_reducible exact ih1 _ _ _ _ _)
  | (with_reducible exact ih2 _ _ _ _ _)
  | (with_reducible exact d_ends.mono _ _ _ _ _ _)
  | (with_reducible exact d_run.mono _ _ _ _)
  | (with_reducible exact LeO.refl _)
  | (with_reducible exact LeO.none _)
  | (with_reducible refine LeO.ite ?_ ?_)
  | (with_reducible refine LeO.bind ?_ (fun _ => ?_))
theorem d_Float.mono : ∀ a0 k, LeO (d_Float.f k a0) (d_Float.f (k + 1) a0) := by
 intro a0 k
 obtain ⟨ih0, ih1, ih2⟩ := d_Float.mono_l k
 unfold d_Float.f
 repeat' first
   | (with_reducible exact ih0 _ _ _)
   | (with_reducible exact ih1 _ _ _ _ _)
   | (with_reducible exact ih2 _ _ _ _ _)
   | (with_reducible exact d_ends.mono _ _ _ _ _ _)
   | (with_reducible exact d_run.mono _ _ _ _)
   | (with_reducible exact LeO.refl _)
   | (with_reducible exact LeO.none _)
   | (with_reducible refine LeO.ite ?_ ?_)
   | (with_reducible refine LeO.bind ?_ (fun _ => ?_))
theorem d_Float.calls (k : Nat) (a0 : ByteArray) (r : Bool) (w : World) (h : d_Float.f k a0 = some r) :
  Calls Tryd.prog 16 #[.string a0] w fun e w' => e = .returned (.bool r) ∧ Drawn0 w w' := by
 have H : ((d_hex.f a0).bind fun t104 => (if t104 = true then (d_Float.j0 k a0 16 2) else (d_Float.j0 k a0 10 0))) = some r := h
 clear h
 replace H := Option.bind_eq_some_iff.mp H
 obtain ⟨t104, A20, H⟩ := H
 replace H : (if t104 = true then (d_Float.j0 k a0 16 2) else (d_Float.j0 k a0 10 0)) = some r := H
 have A2 := Aside0.mk A20
 clear A20
 have HC3 := Aside0.mk H
 clear H
 go_enter Tryd.func16, Tryd.ntmps16
 go_upto_if 9 with (first | ((with_reducible refine gate_callee (f := 34) rfl ?_); refine goesL_ (some 9) rfl rfl Tryd.func34 (by kernel_rfl) rfl #[.string a0] rfl ar_ ?_; (with_reducible refine (d_hex.calls a0 t104 _ A2.out).mono ?_); rintro e w' ⟨rfl, ⟨nd, rfl⟩⟩; refine ⟨_, rfl, ?_⟩))
 (try simp only [Act.put, List.setIfInBounds_toArray, List.set_cons_zero, List.set_cons_succ])
 go_cut [3, 4] (fun v3 v4 wc => ∃ (kq : Nat) (x3_2 : Int) (x4_2 : Int), v3 = .int .i64 x3_2 ∧ v4 = .int .i64 x4_2 ∧ Aside0 (d_Float.j0 kq a0 x3_2 x4_2 = some r) ∧ Aside0 (kq ≤ k) ∧ Drawn0 w wc)
 case first =>
  have H := HC3.out
  clear HC3
  by_cases c4 : t104 = true
  ·subst c4
   have H1 : (d_Float.j0 k a0 16 2) = some r := by rw [if_pos rfl] at H; exact H
   clear H
   have H := H1
   clear H1
   have H' := Aside0.mk H
   clear H
   go_wp2
   go_meet
   case rel => exact ⟨_, (16), (2), er_, er_, H', ⟨om_⟩, dr_⟩
  replace c4 := Bool.eq_false_iff.mpr c4
  subst c4
  have H1 : (d_Float.j0 k a0 10 0) = some r := by rw [if_neg (show ¬ (false = true) by decide)] at H; exact H
  clear H
  have H := H1
  clear H1
  have H' := Aside0.mk H
  clear H
  go_wp2
  go_meet
  case rel => exact ⟨_, (10), (0), er_, er_, H', ⟨om_⟩, dr_⟩
 case rest =>
  clear HC3
  try clear c4
  obtain ⟨kq, x3_2, x4_2, rfl, rfl, HA, HJ2, ⟨mc2, rfl⟩⟩ := hcut
  cases kq with
  | zero => exact absurd HA.out (by simp [d_Float.j0])
  | succ kj2 =>
   have H := HA.out
   clear HA
   simp only [d_Float.j0] at H
   replace H := Option.bind_eq_some_iff.mp H
   obtain ⟨t105, A50, H⟩ := H
   replace H : (if (wrap64 (x4_2 + t105)) < (a0.size : Int) then (if 0 ≤ (wrap64 (x4_2 + t105)) then (d_Float.j1 kj2 a0 x3_2 (wrap64 (x4_2 + t105)) t105 ((bt a0 (wrap64 (x4_2 + t105))) == 46)) else (none)) else (d_Float.j1 kj2 a0 x3_2 (wrap64 (x4_2 + t105)) t105 false)) = some r := H
   have A5 := Aside0.mk A50
   clear A50
   have HC6 := Aside0.mk H
   clear H
   go_upto_region 8 with (first | ((with_reducible refine gate_callee (f := 35) rfl ?_); refine goesL_ (some 13) rfl rfl Tryd.func35 (by kernel_rfl) rfl #[.string a0, .int .i64 x4_2, .int .i64 x3_2] rfl ar_ ?_; (with_reducible refine (d_run.calls kj2 a0 x4_2 x3_2 t105 _ A5.out).mono ?_); rintro e w' ⟨rfl, ⟨nd, rfl⟩⟩; refine ⟨_, rfl, ?_⟩))
   (try simp only [Act.put, List.setIfInBounds_toArray, List.set_cons_zero, List.set_cons_succ])
   go_cut [6] (fun v6 wc => ∃ (kq : Nat) (x6_5 : Bool), v6 = .bool x6_5 ∧ Aside0 (d_Float.j1 kq a0 x3_2 (wrap64 (x4_2 + t105)) t105 x6_5 = some r) ∧ Aside0 (kq ≤ kj2) ∧ Drawn0 w wc)
   case first =>
    have H := HC6.out
    clear HC6
    replace H := id_ H
    obtain ⟨-, c7b0, H⟩ | ⟨-, c7b0, H⟩ := H
    ·(first | rw [c7b0] | (simp only [i64_w, i32_w]; rw [c7b0]) | skip)
     obtain ⟨ji8, hji8⟩ : ∃ j_ : Int, (wrap64 (x4_2 + t105)) = j_ := ⟨_, rfl⟩
     replace H : (if 0 ≤ (ji8) then (d_Float.j1 kj2 a0 x3_2 ji8 t105 ((bt a0 (ji8)) == 46)) else (none)) = some r := by first | (rw [hji8] at H; exact H) | (simp only [hji8] at H ⊢; exact H)
     (try rw [hji8] at c7b0)
     have hji8w : (IntKind.i64.wrap (x4_2 + t105)) = ji8 := (i64_w _).trans hji8
     replace H := id_ H
     obtain ⟨-, c9b0, H⟩ | ⟨-, -, H⟩ := H
     ·have H' := Aside0.mk H
      clear H
      have p10 : 0 ≤ ((ji8) : Int) := da_
      have q10 : (ji8) < (a0.size : Int) := da_
      have hx10 := bt_at a0 (ji8)
      replace p10 := eq_true p10
      replace q10 := eq_true q10
      go_wp2
      go_meet
      case rel => exact ⟨_, (((bt a0 (ji8)) == 46)), (by first | rfl | (simp; done) | (simp only [← hji8] <;> (first | rfl | simp)) | (simp [*]; done)), (by first | exact H' | (rw [hji8]; exact H')), ⟨by have := HJ2.out; first | omega | exact Nat.le_refl _⟩, dr_⟩
     exact absurd H (by simp)
    (first | rw [c7b0] | (simp only [i64_w, i32_w]; rw [c7b0]) | skip)
    have H' := Aside0.mk H
    clear H
    go_wp2
    go_meet
    case rel => exact ⟨_, (false), er_, (by first | exact H' | (rw [hji8]; exact H')), ⟨by have := HJ2.out; first | omega | exact Nat.le_refl _⟩, dr_⟩
   case rest =>
    clear HC6
    try clear c4
    try clear c7b0
    try clear c9b0
    try clear p10
    try clear q10
    try clear hx10
    try clear p10
    try clear q10
    obtain ⟨kq, x6_5, rfl, HA, HJ5, ⟨mc5, rfl⟩⟩ := hcut
    cases kq with
    | zero => exact absurd HA.out (by simp [d_Float.j1])
    | succ kj5 =>
     have H := HA.out
     clear HA
     simp only [d_Float.j1] at H
     have HC11 := Aside0.mk H
     clear H
     go_upto_if 27 with (fail)
     go_cut [4, 5] (fun v4 v5 wc => ∃ (kq : Nat) (x4_10 : Int) (x5_10 : Int), v4 = .int .i64 x4_10 ∧ v5 = .int .i64 x5_10 ∧ Aside0 (d_Float.j2 kq a0 x3_2 x4_10 x5_10 x6_5 = some r) ∧ Aside0 (kq ≤ kj5) ∧ Drawn0 w wc)
     case first =>
      have H := HC11.out
      clear HC11
      by_cases c12 : x6_5 = true
      ·subst c12
       have H1 : ((d_run.f kj5 a0 (wrap64 ((wrap64 (x4_2 + t105)) + 1)) x3_2).bind fun t106 => (d_Float.j2 kj5 a0 x3_2 (wrap64 ((wrap64 ((wrap64 (x4_2 + t105)) + 1)) + t106)) (wrap64 (t105 + t106)) true)) = some r := by rw [if_pos rfl] at H; exact H
       clear H
       have H := H1
       clear H1
       replace H := Option.bind_eq_some_iff.mp H
       obtain ⟨t106, A130, H⟩ := H
       replace H : (d_Float.j2 kj5 a0 x3_2 (wrap64 ((wrap64 ((wrap64 (x4_2 + t105)) + 1)) + t106)) (wrap64 (t105 + t106)) true) = some r := H
       have A13 := Aside0.mk A130
       clear A130
       have H' := Aside0.mk H
       clear H
       go_wp2_with (first | ((with_reducible refine gate_callee (f := 35) rfl ?_); refine goesL_ (some 32) rfl rfl Tryd.func35 (by kernel_rfl) rfl #[.string a0, .int .i64 (wrap64 ((wrap64 (x4_2 + t105)) + 1)), .int .i64 x3_2] rfl ar_ ?_; (with_reducible refine (d_run.calls kj5 a0 (wrap64 ((wrap64 (x4_2 + t105)) + 1)) x3_2 t106 _ A13.out).mono ?_); rintro e w' ⟨rfl, ⟨nd, rfl⟩⟩; refine ⟨_, rfl, ?_⟩))
       go_meet
       case rel => exact ⟨_, (wrap64 ((wrap64 ((wrap64 (x4_2 + t105)) + 1)) + t106)), (wrap64 (t105 + t106)), er_, er_, (by first | exact H' | (rw [hji8]; exact H')), ⟨by have := HJ2.out; have := HJ5.out; first | omega | exact Nat.le_refl _⟩, dr_⟩
      replace c12 := Bool.eq_false_iff.mpr c12
      subst c12
      have H1 : (d_Float.j2 kj5 a0 x3_2 (wrap64 (x4_2 + t105)) t105 false) = some r := by rw [if_neg (show ¬ (false = true) by decide)] at H; exact H
      clear H
      have H := H1
      clear H1
      have H' := Aside0.mk H
      clear H
      go_wp2
      go_meet
      case rel => exact ⟨_, ((wrap64 (x4_2 + t105))), (t105), er_, er_, (by first | exact H' | (rw [hji8]; exact H')), ⟨by have := HJ2.out; have := HJ5.out; first | omega | exact Nat.le_refl _⟩, dr_⟩
     case rest =>
      clear HC11
      try clear c4
      try clear c7b0
      try clear c9b0
      try clear p10
      try clear q10
      try clear hx10
      try clear c12
      try clear p10
      try clear q10
      obtain ⟨kq, x4_10, x5_10, rfl, rfl, HA, HJ10, ⟨mc10, rfl⟩⟩ := hcut
      cases kq with
      | zero => exact absurd HA.out (by simp [d_Float.j2])
      | succ kj10 =>
       have H := HA.out
       clear HA
       simp only [d_Float.j2] at H
       replace H := ie_ H
       obtain ⟨c14b0, c14b1, H⟩ | ⟨c14b0, c14b1, c14, H⟩ := H
       ·obtain rfl := Option.some.inj H
        go_wp2
        go_ret
        exact ⟨er_, dr_⟩
       replace H := ie_ H
       obtain ⟨c15b0, c15b1, H⟩ | ⟨c15b0, c15b1, c15, H⟩ := H
       ·replace H := Option.bind_eq_some_iff.mp H
        obtain ⟨t107, A160, H⟩ := H
        replace H : (some t107) = some r := H
        have A16 := Aside0.mk A160
        clear A160
        obtain rfl := Option.some.inj H
        go_wp2_with (first | ((with_reducible refine gate_callee (f := 36) rfl ?_); refine goesL_ (some 46) rfl rfl Tryd.func36 (by kernel_rfl) rfl #[.string a0, .int .i64 x4_10, .int .u8 112, .int .u8 80, .bool false] rfl ar_ ?_; (with_reducible refine (d_ends.calls kj10 a0 x4_10 112 80 false t107 _ A16.out).mono ?_); rintro e w' ⟨rfl, ⟨nd, rfl⟩⟩; refine ⟨_, rfl, ?_⟩))
        go_ret
        exact ⟨er_, dr_⟩
       replace H := Option.bind_eq_some_iff.mp H
       obtain ⟨t108, A170, H⟩ := H
       replace H : (some t108) = some r := H
       have A17 := Aside0.mk A170
       clear A170
       obtain rfl := Option.some.inj H
       go_wp2_with (first | ((with_reducible refine gate_callee (f := 36) rfl ?_); refine goesL_ (some 50) rfl rfl Tryd.func36 (by kernel_rfl) rfl #[.string a0, .int .i64 x4_10, .int .u8 101, .int .u8 69, .bool x6_5] rfl ar_ ?_; (with_reducible refine (d_ends.calls kj10 a0 x4_10 101 69 x6_5 t108 _ A17.out).mono ?_); rintro e w' ⟨rfl, ⟨nd, rfl⟩⟩; refine ⟨_, rfl, ?_⟩))
       go_ret
       exact ⟨er_, dr_⟩
def d_suffix.j0 : Nat → ByteArray → Int → ByteArray → Bool → Option (Bool × Bool)
 | 0, _, _, _, _ => none
 | k + 1, x0, x4, x5, x19 => if x19 = true then (if 1 ≤ (x0.size : Int) then (if (x0.extract 1 x0.size).toList = ([] : List UInt8) then (some (true, (1 == 1))) else (if (x0.extract 1 x0.size).toList = ([108] : List UInt8) then (some (true, (1 == 1))) else (if (x0.extract 1 x0.size).toList = ([76] : List UInt8) then (some (true, (1 == 1))) else (if (x0.extract 1 x0.size).toList = ([108, 108] : List UInt8) then (some (true, (1 == 1))) else (some (((x0.extract 1 x0.size).toList == ([76, 76] : List UInt8)), (1 == 1))))))) else (none)) else (if (x0.size : Int) > 0 then (if 0 ≤ (wrap64 ((x0.size : Int) - 1)) then (if (wrap64 ((x0.size : Int) - 1)) < (x0.size : Int) then (if (bt x0 (wrap64 ((x0.size : Int) - 1))) = 117 then (if (wrap64 ((x0.size : Int) - 1)) ≤ (x0.size : Int) then (if (x0.extract 0 ((wrap64 ((x0.size : Int) - 1)) : Int).toNat).toList = ([] : List UInt8) then (some (true, (1 == 1))) else (if (x0.extract 0 ((wrap64 ((x0.size : Int) - 1)) : Int).toNat).toList = ([108] : List UInt8) then (some (true, (1 == 1))) else (if (x0.extract 0 ((wrap64 ((x0.size : Int) - 1)) : Int).toNat).toList = ([76] : List UInt8) then (some (true, (1 == 1))) else (if (x0.extract 0 ((wrap64 ((x0.size : Int) - 1)) : Int).toNat).toList = ([108, 108] : List UInt8) then (some (true, (1 == 1))) else (some (((x0.extract 0 ((wrap64 ((x0.size : Int) - 1)) : Int).toNat).toList == ([76, 76] : List UInt8)), (1 == 1))))))) else (none)) else (if (bt x0 (wrap64 ((x0.size : Int) - 1))) = 85 then (if (wrap64 ((x0.size : Int) - 1)) ≤ (x0.size : Int) then (if (x0.extract 0 ((wrap64 ((x0.size : Int) - 1)) : Int).toNat).toList = ([] : List UInt8) then (some (true, (1 == 1))) else (if (x0.extract 0 ((wrap64 ((x0.size : Int) - 1)) : Int).toNat).toList = ([108] : List UInt8) then (some (true, (1 == 1))) else (if (x0.extract 0 ((wrap64 ((x0.size : Int) - 1)) : Int).toNat).toList = ([76] : List UInt8) then (some (true, (1 == 1))) else (if (x0.extract 0 ((wrap64 ((x0.size : Int) - 1)) : Int).toNat).toList = ([108, 108] : List UInt8) then (some (true, (1 == 1))) else (some (((x0.extract 0 ((wrap64 ((x0.size : Int) - 1)) : Int).toNat).toList == ([76, 76] : List UInt8)), (1 == 1))))))) else (none)) else (if x5.toList = ([] : List UInt8) then (some (true, (x4 == 1))) else (if x5.toList = ([108] : List UInt8) then (some (true, (x4 == 1))) else (if x5.toList = ([76] : List UInt8) then (some (true, (x4 == 1))) else (if x5.toList = ([108, 108] : List UInt8) then (some (true, (x4 == 1))) else (some ((x5.toList == ([76, 76] : List UInt8)), (x4 == 1))))))))) else (none)) else (none)) else (if x5.toList = ([] : List UInt8) then (some (true, (x4 == 1))) else (if x5.toList = ([108] : List UInt8) then (some (true, (x4 == 1))) else (if x5.toList = ([76] : List UInt8) then (some (true, (x4 == 1))) else (if x5.toList = ([108, 108] : List UInt8) then (some (true, (x4 == 1))) else (some ((x5.toList == ([76, 76] : List UInt8)), (x4 == 1))))))))
def d_suffix.f (k : Nat) (a0 : ByteArray) : Option (Bool × Bool) := if (a0.size : Int) > 0 then (if 0 < (a0.size : Int) then (if (bt a0 0) = 117 then (d_suffix.j0 k a0 0 a0 true) else (d_suffix.j0 k a0 0 a0 ((bt a0 0) == 85))) else (none)) else (d_suffix.j0 k a0 0 a0 false)
theorem d_suffix.mono_l : ∀ k, (∀ y0 y1 y2 y3, LeO (d_suffix.j0 k y0 y1 y2 y3) (d_suffix.j0 (k + 1) y0 y1 y2 y3))
 | 0 => fun _ _ _ _ r h => by simp [d_suffix.j0] at h
 | k + 1 => by
  have ih0 := d_suffix.mono_l k
  intro y0 y1 y2 y3
  unfold d_suffix.j0
  repeat' first
  | (with_reducible exact ih0 _ _ _ _)
  | (with_reducible exact LeO.refl _)
  | (with_reducible exact LeO.none _)
  | (with_reducible refine LeO.ite ?_ ?_)
  | (with_reducible refine LeO.bind ?_ (fun _ => ?_))
theorem d_suffix.mono : ∀ a0 k, LeO (d_suffix.f k a0) (d_suffix.f (k + 1) a0) := by
 intro a0 k
 have ih0 := d_suffix.mono_l k
 unfold d_suffix.f
 repeat' first
   | (with_reducible exact ih0 _ _ _ _)
   | (with_reducible exact LeO.refl _)
   | (with_reducible exact LeO.none _)
   | (with_reducible refine LeO.ite ?_ ?_)
   | (with_reducible refine LeO.bind ?_ (fun _ => ?_))
theorem d_suffix.calls (k : Nat) (a0 : ByteArray) (r1 : Bool) (r2 : Bool) (w : World) (h : d_suffix.f k a0 = some (r1, r2)) :
  Calls Tryd.prog 55 #[.string a0] w fun e w' => e = .returned (.tuple #[.bool r1, .bool r2]) ∧ Drawn0 w w' := by
 have H : (if (a0.size : Int) > 0 then (if 0 < (a0.size : Int) then (if (bt a0 0) = 117 then (d_suffix.j0 k a0 0 a0 true) else (d_suffix.j0 k a0 0 a0 ((bt a0 0) == 85))) else (none)) else (d_suffix.j0 k a0 0 a0 false)) = some (r1, r2) := h
 clear h
 have HC2 := Aside0.mk H
 clear H
 go_enter Tryd.func55, Tryd.ntmps55
 go_upto_region 3 with (fail)
 go_cut [19] (fun v19 wc => ∃ (kq : Nat) (x19_1 : Bool), v19 = .bool x19_1 ∧ Aside0 (d_suffix.j0 kq a0 0 a0 x19_1 = some (r1, r2)) ∧ Aside0 (kq ≤ k) ∧ Drawn0 w wc)
 case first =>
  have H := HC2.out
  clear HC2
  replace H := ib_ H
  obtain ⟨c3, H⟩ | ⟨c3, H⟩ := H
  ·have c3b0 : decide (0 < (a0.size : Int)) = true := decide_eq_true c3
   have c3b1 : decide (0 < a0.size) = true := decide_eq_true (by omega)
   clear c3
   (first | rw [c3b0] | (simp only [i64_w, i32_w]; rw [c3b0]) | skip)
   replace H := ib_ H
   obtain ⟨c4, H⟩ | ⟨c4, H⟩ := H
   ·have c4b0 := decide_eq_true c4
    have c4b1 : decide (0 < a0.size) = true := decide_eq_true (by omega)
    clear c4
    replace H := ie_ H
    obtain ⟨c6b0, c6b1, H⟩ | ⟨c6b0, c6b1, c6, H⟩ := H
    ·have H' := Aside0.mk H
     clear H
     have p5 : 0 ≤ (0 : Int) := (by omega)
     have q5 : 0 < a0.size := (by have : (0 : Int) < (a0.size : Int) := da_; omega)
     have hx5 : ∀ h : 0 < a0.size, ((a0[0]'h).toNat : Int) = bt a0 0 := bt_at a0 0
     clear p5
     have qi5 : (0 < (a0.size : Int)) = True := eq_true da_
     replace q5 := eq_true q5
     go_wp2
     go_meet
     case rel => exact ⟨_, (true), er_, H', ⟨om_⟩, dr_⟩
    have H' := Aside0.mk H
    clear H
    have p5 : 0 ≤ (0 : Int) := (by omega)
    have q5 : 0 < a0.size := (by have : (0 : Int) < (a0.size : Int) := da_; omega)
    have hx5 : ∀ h : 0 < a0.size, ((a0[0]'h).toNat : Int) = bt a0 0 := bt_at a0 0
    clear p5
    have qi5 : (0 < (a0.size : Int)) = True := eq_true da_
    replace q5 := eq_true q5
    have p7 : 0 ≤ (0 : Int) := (by omega)
    have q7 : 0 < a0.size := (by have : (0 : Int) < (a0.size : Int) := da_; omega)
    have hx7 : ∀ h : 0 < a0.size, ((a0[0]'h).toNat : Int) = bt a0 0 := bt_at a0 0
    clear p7
    have qi7 : (0 < (a0.size : Int)) = True := eq_true da_
    replace q7 := eq_true q7
    go_wp2
    go_meet
    case rel => exact ⟨_, (((bt a0 0) == 85)), er_, H', ⟨om_⟩, dr_⟩
   exact absurd H (by simp)
  have c3b0 : decide (0 < (a0.size : Int)) = false := decide_eq_false c3
  have c3b1 : decide (0 < a0.size) = false := decide_eq_false (by omega)
  clear c3
  (first | rw [c3b0] | (simp only [i64_w, i32_w]; rw [c3b0]) | skip)
  have H' := Aside0.mk H
  clear H
  go_wp2
  go_meet
  case rel => exact ⟨_, (false), er_, H', ⟨om_⟩, dr_⟩
 case rest =>
  clear HC2
  try clear c3
  try clear c3b0
  try clear c3b1
  try clear c4
  try clear c4b0
  try clear c4b1
  try clear p5
  try clear q5
  try clear hx5
  try clear qi5
  try clear c6
  try clear c6b0
  try clear c6b1
  try clear p7
  try clear q7
  try clear hx7
  try clear qi7
  try clear p5
  try clear p7
  try clear q5
  try clear q7
  obtain ⟨kq, x19_1, rfl, HA, HJ1, ⟨mc1, rfl⟩⟩ := hcut
  cases kq with
  | zero => exact absurd HA.out (by simp [d_suffix.j0])
  | succ kj1 =>
   have H := HA.out
   clear HA
   simp only [d_suffix.j0] at H
   by_cases c8 : x19_1 = true
   ·subst c8
    have H1 : (if 1 ≤ (a0.size : Int) then (if (a0.extract 1 a0.size).toList = ([] : List UInt8) then (some (true, (1 == 1))) else (if (a0.extract 1 a0.size).toList = ([108] : List UInt8) then (some (true, (1 == 1))) else (if (a0.extract 1 a0.size).toList = ([76] : List UInt8) then (some (true, (1 == 1))) else (if (a0.extract 1 a0.size).toList = ([108, 108] : List UInt8) then (some (true, (1 == 1))) else (some (((a0.extract 1 a0.size).toList == ([76, 76] : List UInt8)), (1 == 1))))))) else (none)) = some (r1, r2) := by rw [if_pos rfl] at H; exact H
    clear H
    have H := H1
    clear H1
    replace H := id_ H
    obtain ⟨c9b0, c9b1, H⟩ | ⟨-, -, H⟩ := H
    ·replace H := ie_ H
     obtain ⟨c10b0, c10b1, H⟩ | ⟨c10b0, c10b1, c10, H⟩ := H
     ·simp only [Option.some.injEq, Prod.mk.injEq] at H
      obtain ⟨rfl, rfl⟩ := H
      go_wp2
      go_ret2
      exact ⟨er_, dr_⟩
     replace H := ie_ H
     obtain ⟨c11b0, c11b1, H⟩ | ⟨c11b0, c11b1, c11, H⟩ := H
     ·simp only [Option.some.injEq, Prod.mk.injEq] at H
      obtain ⟨rfl, rfl⟩ := H
      go_wp2
      go_ret2
      exact ⟨er_, dr_⟩
     replace H := ie_ H
     obtain ⟨c12b0, c12b1, H⟩ | ⟨c12b0, c12b1, c12, H⟩ := H
     ·simp only [Option.some.injEq, Prod.mk.injEq] at H
      obtain ⟨rfl, rfl⟩ := H
      go_wp2
      go_ret2
      exact ⟨er_, dr_⟩
     replace H := ie_ H
     obtain ⟨c13b0, c13b1, H⟩ | ⟨c13b0, c13b1, c13, H⟩ := H
     ·simp only [Option.some.injEq, Prod.mk.injEq] at H
      obtain ⟨rfl, rfl⟩ := H
      go_wp2
      go_ret2
      exact ⟨er_, dr_⟩
     simp only [Option.some.injEq, Prod.mk.injEq] at H
     obtain ⟨rfl, rfl⟩ := H
     go_wp2
     go_ret2
     exact ⟨er_, dr_⟩
    exact absurd H (by simp)
   replace c8 := Bool.eq_false_iff.mpr c8
   subst c8
   have H1 : (if (a0.size : Int) > 0 then (if 0 ≤ (wrap64 ((a0.size : Int) - 1)) then (if (wrap64 ((a0.size : Int) - 1)) < (a0.size : Int) then (if (bt a0 (wrap64 ((a0.size : Int) - 1))) = 117 then (if (wrap64 ((a0.size : Int) - 1)) ≤ (a0.size : Int) then (if (a0.extract 0 ((wrap64 ((a0.size : Int) - 1)) : Int).toNat).toList = ([] : List UInt8) then (some (true, (1 == 1))) else (if (a0.extract 0 ((wrap64 ((a0.size : Int) - 1)) : Int).toNat).toList = ([108] : List UInt8) then (some (true, (1 == 1))) else (if (a0.extract 0 ((wrap64 ((a0.size : Int) - 1)) : Int).toNat).toList = ([76] : List UInt8) then (some (true, (1 == 1))) else (if (a0.extract 0 ((wrap64 ((a0.size : Int) - 1)) : Int).toNat).toList = ([108, 108] : List UInt8) then (some (true, (1 == 1))) else (some (((a0.extract 0 ((wrap64 ((a0.size : Int) - 1)) : Int).toNat).toList == ([76, 76] : List UInt8)), (1 == 1))))))) else (none)) else (if (bt a0 (wrap64 ((a0.size : Int) - 1))) = 85 then (if (wrap64 ((a0.size : Int) - 1)) ≤ (a0.size : Int) then (if (a0.extract 0 ((wrap64 ((a0.size : Int) - 1)) : Int).toNat).toList = ([] : List UInt8) then (some (true, (1 == 1))) else (if (a0.extract 0 ((wrap64 ((a0.size : Int) - 1)) : Int).toNat).toList = ([108] : List UInt8) then (some (true, (1 == 1))) else (if (a0.extract 0 ((wrap64 ((a0.size : Int) - 1)) : Int).toNat).toList = ([76] : List UInt8) then (some (true, (1 == 1))) else (if (a0.extract 0 ((wrap64 ((a0.size : Int) - 1)) : Int).toNat).toList = ([108, 108] : List UInt8) then (some (true, (1 == 1))) else (some (((a0.extract 0 ((wrap64 ((a0.size : Int) - 1)) : Int).toNat).toList == ([76, 76] : List UInt8)), (1 == 1))))))) else (none)) else (if a0.toList = ([] : List UInt8) then (some (true, (0 == 1))) else (if a0.toList = ([108] : List UInt8) then (some (true, (0 == 1))) else (if a0.toList = ([76] : List UInt8) then (some (true, (0 == 1))) else (if a0.toList = ([108, 108] : List UInt8) then (some (true, (0 == 1))) else (some ((a0.toList == ([76, 76] : List UInt8)), (0 == 1))))))))) else (none)) else (none)) else (if a0.toList = ([] : List UInt8) then (some (true, (0 == 1))) else (if a0.toList = ([108] : List UInt8) then (some (true, (0 == 1))) else (if a0.toList = ([76] : List UInt8) then (some (true, (0 == 1))) else (if a0.toList = ([108, 108] : List UInt8) then (some (true, (0 == 1))) else (some ((a0.toList == ([76, 76] : List UInt8)), (0 == 1)))))))) = some (r1, r2) := by rw [if_neg (show ¬ (false = true) by decide)] at H; exact H
   clear H
   have H := H1
   clear H1
   replace H := ib_ H
   obtain ⟨c14, H⟩ | ⟨c14, H⟩ := H
   ·have c14b0 : decide (0 < (a0.size : Int)) = true := decide_eq_true c14
    have c14b1 : decide (0 < a0.size) = true := decide_eq_true (by omega)
    clear c14
    obtain ⟨ji15, hji15⟩ : ∃ j_ : Int, (wrap64 ((a0.size : Int) - 1)) = j_ := ⟨_, rfl⟩
    replace H : (if 0 ≤ (ji15) then (if (ji15) < (a0.size : Int) then (if (bt a0 (ji15)) = 117 then (if (ji15) ≤ (a0.size : Int) then (if (a0.extract 0 ((ji15) : Int).toNat).toList = ([] : List UInt8) then (some (true, (1 == 1))) else (if (a0.extract 0 ((ji15) : Int).toNat).toList = ([108] : List UInt8) then (some (true, (1 == 1))) else (if (a0.extract 0 ((ji15) : Int).toNat).toList = ([76] : List UInt8) then (some (true, (1 == 1))) else (if (a0.extract 0 ((ji15) : Int).toNat).toList = ([108, 108] : List UInt8) then (some (true, (1 == 1))) else (some (((a0.extract 0 ((ji15) : Int).toNat).toList == ([76, 76] : List UInt8)), (1 == 1))))))) else (none)) else (if (bt a0 (ji15)) = 85 then (if (ji15) ≤ (a0.size : Int) then (if (a0.extract 0 ((ji15) : Int).toNat).toList = ([] : List UInt8) then (some (true, (1 == 1))) else (if (a0.extract 0 ((ji15) : Int).toNat).toList = ([108] : List UInt8) then (some (true, (1 == 1))) else (if (a0.extract 0 ((ji15) : Int).toNat).toList = ([76] : List UInt8) then (some (true, (1 == 1))) else (if (a0.extract 0 ((ji15) : Int).toNat).toList = ([108, 108] : List UInt8) then (some (true, (1 == 1))) else (some (((a0.extract 0 ((ji15) : Int).toNat).toList == ([76, 76] : List UInt8)), (1 == 1))))))) else (none)) else (if a0.toList = ([] : List UInt8) then (some (true, (0 == 1))) else (if a0.toList = ([108] : List UInt8) then (some (true, (0 == 1))) else (if a0.toList = ([76] : List UInt8) then (some (true, (0 == 1))) else (if a0.toList = ([108, 108] : List UInt8) then (some (true, (0 == 1))) else (some ((a0.toList == ([76, 76] : List UInt8)), (0 == 1))))))))) else (none)) else (none)) = some (r1, r2) := by first | (rw [hji15] at H; exact H) | (simp only [hji15] at H ⊢; exact H)
    have hji15w : (IntKind.i64.wrap ((a0.size : Int) - 1)) = ji15 := (i64_w _).trans hji15
    replace H := id_ H
    obtain ⟨-, c16b0, H⟩ | ⟨-, -, H⟩ := H
    ·replace H := id_ H
     obtain ⟨-, c17b0, H⟩ | ⟨-, -, H⟩ := H
     ·replace H := ie_ H
      obtain ⟨c19b0, c19b1, H⟩ | ⟨c19b0, c19b1, c19, H⟩ := H
      ·have c20b0 := eq_true (da_ : 0 ≤ (ji15))
       replace H := id_ H
       obtain ⟨c21b0, c21b1, H⟩ | ⟨-, -, H⟩ := H
       ·replace H := ie_ H
        obtain ⟨c22b0, c22b1, H⟩ | ⟨c22b0, c22b1, c22, H⟩ := H
        ·simp only [Option.some.injEq, Prod.mk.injEq] at H
         obtain ⟨rfl, rfl⟩ := H
         have p18 : 0 ≤ ((ji15) : Int) := da_
         have q18 : (ji15) < (a0.size : Int) := da_
         have hx18 := bt_at a0 (ji15)
         replace p18 := eq_true p18
         replace q18 := eq_true q18
         go_wp2
         go_ret2
         exact ⟨by first | rfl | (simp; done) | (simp only [← hji15] <;> (first | rfl | simp)) | (simp [*]; done), dr_⟩
        replace H := ie_ H
        obtain ⟨c23b0, c23b1, H⟩ | ⟨c23b0, c23b1, c23, H⟩ := H
        ·simp only [Option.some.injEq, Prod.mk.injEq] at H
         obtain ⟨rfl, rfl⟩ := H
         have p18 : 0 ≤ ((ji15) : Int) := da_
         have q18 : (ji15) < (a0.size : Int) := da_
         have hx18 := bt_at a0 (ji15)
         replace p18 := eq_true p18
         replace q18 := eq_true q18
         go_wp2
         go_ret2
         exact ⟨by first | rfl | (simp; done) | (simp only [← hji15] <;> (first | rfl | simp)) | (simp [*]; done), dr_⟩
        replace H := ie_ H
        obtain ⟨c24b0, c24b1, H⟩ | ⟨c24b0, c24b1, c24, H⟩ := H
        ·simp only [Option.some.injEq, Prod.mk.injEq] at H
         obtain ⟨rfl, rfl⟩ := H
         have p18 : 0 ≤ ((ji15) : Int) := da_
         have q18 : (ji15) < (a0.size : Int) := da_
         have hx18 := bt_at a0 (ji15)
         replace p18 := eq_true p18
         replace q18 := eq_true q18
         go_wp2
         go_ret2
         exact ⟨by first | rfl | (simp; done) | (simp only [← hji15] <;> (first | rfl | simp)) | (simp [*]; done), dr_⟩
        replace H := ie_ H
        obtain ⟨c25b0, c25b1, H⟩ | ⟨c25b0, c25b1, c25, H⟩ := H
        ·simp only [Option.some.injEq, Prod.mk.injEq] at H
         obtain ⟨rfl, rfl⟩ := H
         have p18 : 0 ≤ ((ji15) : Int) := da_
         have q18 : (ji15) < (a0.size : Int) := da_
         have hx18 := bt_at a0 (ji15)
         replace p18 := eq_true p18
         replace q18 := eq_true q18
         go_wp2
         go_ret2
         exact ⟨by first | rfl | (simp; done) | (simp only [← hji15] <;> (first | rfl | simp)) | (simp [*]; done), dr_⟩
        simp only [Option.some.injEq, Prod.mk.injEq] at H
        obtain ⟨rfl, rfl⟩ := H
        have p18 : 0 ≤ ((ji15) : Int) := da_
        have q18 : (ji15) < (a0.size : Int) := da_
        have hx18 := bt_at a0 (ji15)
        replace p18 := eq_true p18
        replace q18 := eq_true q18
        go_wp2
        go_ret2
        exact ⟨by first | rfl | (simp; done) | (simp only [← hji15] <;> (first | rfl | simp)) | (simp [*]; done), dr_⟩
       exact absurd H (by simp)
      replace H := ie_ H
      obtain ⟨c27b0, c27b1, H⟩ | ⟨c27b0, c27b1, c27, H⟩ := H
      ·have c28b0 := eq_true (da_ : 0 ≤ (ji15))
       replace H := id_ H
       obtain ⟨c29b0, c29b1, H⟩ | ⟨-, -, H⟩ := H
       ·replace H := ie_ H
        obtain ⟨c30b0, c30b1, H⟩ | ⟨c30b0, c30b1, c30, H⟩ := H
        ·simp only [Option.some.injEq, Prod.mk.injEq] at H
         obtain ⟨rfl, rfl⟩ := H
         have p18 : 0 ≤ ((ji15) : Int) := da_
         have q18 : (ji15) < (a0.size : Int) := da_
         have hx18 := bt_at a0 (ji15)
         replace p18 := eq_true p18
         replace q18 := eq_true q18
         have p26 : 0 ≤ ((ji15) : Int) := da_
         have q26 : (ji15) < (a0.size : Int) := da_
         have hx26 := bt_at a0 (ji15)
         replace p26 := eq_true p26
         replace q26 := eq_true q26
         go_wp2
         go_ret2
         exact ⟨by first | rfl | (simp; done) | (simp only [← hji15] <;> (first | rfl | simp)) | (simp [*]; done), dr_⟩
        replace H := ie_ H
        obtain ⟨c31b0, c31b1, H⟩ | ⟨c31b0, c31b1, c31, H⟩ := H
        ·simp only [Option.some.injEq, Prod.mk.injEq] at H
         obtain ⟨rfl, rfl⟩ := H
         have p18 : 0 ≤ ((ji15) : Int) := da_
         have q18 : (ji15) < (a0.size : Int) := da_
         have hx18 := bt_at a0 (ji15)
         replace p18 := eq_true p18
         replace q18 := eq_true q18
         have p26 : 0 ≤ ((ji15) : Int) := da_
         have q26 : (ji15) < (a0.size : Int) := da_
         have hx26 := bt_at a0 (ji15)
         replace p26 := eq_true p26
         replace q26 := eq_true q26
         go_wp2
         go_ret2
         exact ⟨by first | rfl | (simp; done) | (simp only [← hji15] <;> (first | rfl | simp)) | (simp [*]; done), dr_⟩
        replace H := ie_ H
        obtain ⟨c32b0, c32b1, H⟩ | ⟨c32b0, c32b1, c32, H⟩ := H
        ·simp only [Option.some.injEq, Prod.mk.injEq] at H
         obtain ⟨rfl, rfl⟩ := H
         have p18 : 0 ≤ ((ji15) : Int) := da_
         have q18 : (ji15) < (a0.size : Int) := da_
         have hx18 := bt_at a0 (ji15)
         replace p18 := eq_true p18
         replace q18 := eq_true q18
         have p26 : 0 ≤ ((ji15) : Int) := da_
         have q26 : (ji15) < (a0.size : Int) := da_
         have hx26 := bt_at a0 (ji15)
         replace p26 := eq_true p26
         replace q26 := eq_true q26
         go_wp2
         go_ret2
         exact ⟨by first | rfl | (simp; done) | (simp only [← hji15] <;> (first | rfl | simp)) | (simp [*]; done), dr_⟩
        replace H := ie_ H
        obtain ⟨c33b0, c33b1, H⟩ | ⟨c33b0, c33b1, c33, H⟩ := H
        ·simp only [Option.some.injEq, Prod.mk.injEq] at H
         obtain ⟨rfl, rfl⟩ := H
         have p18 : 0 ≤ ((ji15) : Int) := da_
         have q18 : (ji15) < (a0.size : Int) := da_
         have hx18 := bt_at a0 (ji15)
         replace p18 := eq_true p18
         replace q18 := eq_true q18
         have p26 : 0 ≤ ((ji15) : Int) := da_
         have q26 : (ji15) < (a0.size : Int) := da_
         have hx26 := bt_at a0 (ji15)
         replace p26 := eq_true p26
         replace q26 := eq_true q26
         go_wp2
         go_ret2
         exact ⟨by first | rfl | (simp; done) | (simp only [← hji15] <;> (first | rfl | simp)) | (simp [*]; done), dr_⟩
        simp only [Option.some.injEq, Prod.mk.injEq] at H
        obtain ⟨rfl, rfl⟩ := H
        have p18 : 0 ≤ ((ji15) : Int) := da_
        have q18 : (ji15) < (a0.size : Int) := da_
        have hx18 := bt_at a0 (ji15)
        replace p18 := eq_true p18
        replace q18 := eq_true q18
        have p26 : 0 ≤ ((ji15) : Int) := da_
        have q26 : (ji15) < (a0.size : Int) := da_
        have hx26 := bt_at a0 (ji15)
        replace p26 := eq_true p26
        replace q26 := eq_true q26
        go_wp2
        go_ret2
        exact ⟨by first | rfl | (simp; done) | (simp only [← hji15] <;> (first | rfl | simp)) | (simp [*]; done), dr_⟩
       exact absurd H (by simp)
      replace H := ie_ H
      obtain ⟨c34b0, c34b1, H⟩ | ⟨c34b0, c34b1, c34, H⟩ := H
      ·simp only [Option.some.injEq, Prod.mk.injEq] at H
       obtain ⟨rfl, rfl⟩ := H
       have p18 : 0 ≤ ((ji15) : Int) := da_
       have q18 : (ji15) < (a0.size : Int) := da_
       have hx18 := bt_at a0 (ji15)
       replace p18 := eq_true p18
       replace q18 := eq_true q18
       have p26 : 0 ≤ ((ji15) : Int) := da_
       have q26 : (ji15) < (a0.size : Int) := da_
       have hx26 := bt_at a0 (ji15)
       replace p26 := eq_true p26
       replace q26 := eq_true q26
       go_wp2
       go_ret2
       exact ⟨by first | rfl | (simp; done) | (simp only [← hji15] <;> (first | rfl | simp)) | (simp [*]; done), dr_⟩
      replace H := ie_ H
      obtain ⟨c35b0, c35b1, H⟩ | ⟨c35b0, c35b1, c35, H⟩ := H
      ·simp only [Option.some.injEq, Prod.mk.injEq] at H
       obtain ⟨rfl, rfl⟩ := H
       have p18 : 0 ≤ ((ji15) : Int) := da_
       have q18 : (ji15) < (a0.size : Int) := da_
       have hx18 := bt_at a0 (ji15)
       replace p18 := eq_true p18
       replace q18 := eq_true q18
       have p26 : 0 ≤ ((ji15) : Int) := da_
       have q26 : (ji15) < (a0.size : Int) := da_
       have hx26 := bt_at a0 (ji15)
       replace p26 := eq_true p26
       replace q26 := eq_true q26
       go_wp2
       go_ret2
       exact ⟨by first | rfl | (simp; done) | (simp only [← hji15] <;> (first | rfl | simp)) | (simp [*]; done), dr_⟩
      replace H := ie_ H
      obtain ⟨c36b0, c36b1, H⟩ | ⟨c36b0, c36b1, c36, H⟩ := H
      ·simp only [Option.some.injEq, Prod.mk.injEq] at H
       obtain ⟨rfl, rfl⟩ := H
       have p18 : 0 ≤ ((ji15) : Int) := da_
       have q18 : (ji15) < (a0.size : Int) := da_
       have hx18 := bt_at a0 (ji15)
       replace p18 := eq_true p18
       replace q18 := eq_true q18
       have p26 : 0 ≤ ((ji15) : Int) := da_
       have q26 : (ji15) < (a0.size : Int) := da_
       have hx26 := bt_at a0 (ji15)
       replace p26 := eq_true p26
       replace q26 := eq_true q26
       go_wp2
       go_ret2
       exact ⟨by first | rfl | (simp; done) | (simp only [← hji15] <;> (first | rfl | simp)) | (simp [*]; done), dr_⟩
      replace H := ie_ H
      obtain ⟨c37b0, c37b1, H⟩ | ⟨c37b0, c37b1, c37, H⟩ := H
      ·simp only [Option.some.injEq, Prod.mk.injEq] at H
       obtain ⟨rfl, rfl⟩ := H
       have p18 : 0 ≤ ((ji15) : Int) := da_
       have q18 : (ji15) < (a0.size : Int) := da_
       have hx18 := bt_at a0 (ji15)
       replace p18 := eq_true p18
       replace q18 := eq_true q18
       have p26 : 0 ≤ ((ji15) : Int) := da_
       have q26 : (ji15) < (a0.size : Int) := da_
       have hx26 := bt_at a0 (ji15)
       replace p26 := eq_true p26
       replace q26 := eq_true q26
       go_wp2
       go_ret2
       exact ⟨by first | rfl | (simp; done) | (simp only [← hji15] <;> (first | rfl | simp)) | (simp [*]; done), dr_⟩
      simp only [Option.some.injEq, Prod.mk.injEq] at H
      obtain ⟨rfl, rfl⟩ := H
      have p18 : 0 ≤ ((ji15) : Int) := da_
      have q18 : (ji15) < (a0.size : Int) := da_
      have hx18 := bt_at a0 (ji15)
      replace p18 := eq_true p18
      replace q18 := eq_true q18
      have p26 : 0 ≤ ((ji15) : Int) := da_
      have q26 : (ji15) < (a0.size : Int) := da_
      have hx26 := bt_at a0 (ji15)
      replace p26 := eq_true p26
      replace q26 := eq_true q26
      go_wp2
      go_ret2
      exact ⟨by first | rfl | (simp; done) | (simp only [← hji15] <;> (first | rfl | simp)) | (simp [*]; done), dr_⟩
     exact absurd H (by simp)
    exact absurd H (by simp)
   have c14b0 : decide (0 < (a0.size : Int)) = false := decide_eq_false c14
   have c14b1 : decide (0 < a0.size) = false := decide_eq_false (by omega)
   clear c14
   replace H := ie_ H
   obtain ⟨c38b0, c38b1, H⟩ | ⟨c38b0, c38b1, c38, H⟩ := H
   ·simp only [Option.some.injEq, Prod.mk.injEq] at H
    obtain ⟨rfl, rfl⟩ := H
    go_wp2
    go_ret2
    exact ⟨er_, dr_⟩
   replace H := ie_ H
   obtain ⟨c39b0, c39b1, H⟩ | ⟨c39b0, c39b1, c39, H⟩ := H
   ·simp only [Option.some.injEq, Prod.mk.injEq] at H
    obtain ⟨rfl, rfl⟩ := H
    go_wp2
    go_ret2
    exact ⟨er_, dr_⟩
   replace H := ie_ H
   obtain ⟨c40b0, c40b1, H⟩ | ⟨c40b0, c40b1, c40, H⟩ := H
   ·simp only [Option.some.injEq, Prod.mk.injEq] at H
    obtain ⟨rfl, rfl⟩ := H
    go_wp2
    go_ret2
    exact ⟨er_, dr_⟩
   replace H := ie_ H
   obtain ⟨c41b0, c41b1, H⟩ | ⟨c41b0, c41b1, c41, H⟩ := H
   ·simp only [Option.some.injEq, Prod.mk.injEq] at H
    obtain ⟨rfl, rfl⟩ := H
    go_wp2
    go_ret2
    exact ⟨er_, dr_⟩
   simp only [Option.some.injEq, Prod.mk.injEq] at H
   obtain ⟨rfl, rfl⟩ := H
   go_wp2
   go_ret2
   exact ⟨er_, dr_⟩
mutual
def d_Int.j0 : Nat → ByteArray → Int → Int → Option (Int × Bool × Int)
 | 0, _, _, _ => none
 | k + 1, x0, x5, x6 => (d_run.f k x0 x6 x5).bind fun t110 => (if 0 ≤ (mn (x0.size : Int) (wrap64 (x6 + t110))) then (if (mn (x0.size : Int) (wrap64 (x6 + t110))) ≤ (x0.size : Int) then ((d_suffix.f k (x0.extract ((mn (x0.size : Int) (wrap64 (x6 + t110))) : Int).toNat x0.size)).bind fun bt111 => (if t110 = 0 then (d_Int.j1 k x0 x5 x6 t110 bt111.2 true) else (d_Int.j1 k x0 x5 x6 t110 bt111.2 (!bt111.1)))) else (none)) else (none))
def d_Int.j1 : Nat → ByteArray → Int → Int → Int → Bool → Bool → Option (Int × Bool × Int)
 | 0, _, _, _, _, _, _ => none
 | k + 1, x0, x5, x6, x7, x9, x44 => if x44 = true then (some (0, false, 40)) else (d_Int.l0 k x0 x5 x6 x7 x9 0 x6)
def d_Int.l0 : Nat → ByteArray → Int → Int → Int → Bool → Int → Int → Option (Int × Bool × Int)
 | 0, _, _, _, _, _, _, _ => none
 | k + 1, x0, x5, x6, x7, x9, x10, x11 => if x11 < (wrap64 (x6 + x7)) then (if 0 ≤ x11 then (if x11 < (x0.size : Int) then ((d_worth.f k (bt x0 x11)).bind fun t113 => (if (IntKind.u64.wrap (x5)) = 0 then (none) else (if x10 > (IntKind.u64.wrap (Int.tdiv (IntKind.u64.wrap (18446744073709551615 - (IntKind.u64.wrap (t113)))) (IntKind.u64.wrap (x5)))) then (some (0, false, 40)) else (d_Int.l0 k x0 x5 x6 x7 x9 (IntKind.u64.wrap ((IntKind.u64.wrap (x10 * (IntKind.u64.wrap (x5)))) + (IntKind.u64.wrap (t113)))) (wrap64 (x11 + 1)))))) else (none)) else (none)) else (if x5 = 10 then (if x9 = true then (some (x10, true, 0)) else (if x10 > 9223372036854775807 then (some (0, false, 40)) else (some (x10, false, 0)))) else (if x9 = true then (some (x10, true, 0)) else (if x10 > 9223372036854775807 then (some (x10, (x5 != 10), 0)) else (some (x10, false, 0)))))
end
def d_Int.f (k : Nat) (a0 : ByteArray) : Option (Int × Bool × Int) := (d_hex.f a0).bind fun t109 => (if t109 = true then (d_Int.j0 k a0 16 2) else (if (a0.size : Int) > 0 then (if 0 < (a0.size : Int) then (if (bt a0 0) = 48 then (d_Int.j0 k a0 8 0) else (d_Int.j0 k a0 10 0)) else (none)) else (d_Int.j0 k a0 10 0)))
theorem d_Int.mono_l : ∀ k, (∀ y0 y1 y2, LeO (d_Int.j0 k y0 y1 y2) (d_Int.j0 (k + 1) y0 y1 y2)) ∧ (∀ y0 y1 y2 y3 y4 y5, LeO (d_Int.j1 k y0 y1 y2 y3 y4 y5) (d_Int.j1 (k + 1) y0 y1 y2 y3 y4 y5)) ∧ (∀ y0 y1 y2 y3 y4 y5 y6, LeO (d_Int.l0 k y0 y1 y2 y3 y4 y5 y6) (d_Int.l0 (k + 1) y0 y1 y2 y3 y4 y5 y6))
 | 0 => ⟨fun _ _ _ r h => by simp [d_Int.j0] at h, fun _ _ _ _ _ _ r h => by simp [d_Int.j1] at h, fun _ _ _ _ _ _ _ r h => by simp [d_Int.l0] at h⟩
 | k + 1 => by
  obtain ⟨ih0, ih1, ih2⟩ := d_Int.mono_l k
  refine ⟨?_, ?_, ?_⟩
  ·intro y0 y1 y2
   unfold d_Int.j0
   repeat' first
   | (with_reducible exact ih0 _ _ _)
   | (with_reducible exact ih1 _ _ _ _ _ _)
   | (with_reducible exact ih2 _ _ _ _ _ _ _)
   | (with_reducible exact d_run.mono _ _ _ _)
   | (with_reducible exact d_suffix.mono _ _)
   | (with_reducible exact d_worth.mono _ _)
   | (with_reducible exact LeO.refl _)
   | (with_reducible exact LeO.none _)
   | (with_reducible refine LeO.ite ?_ ?_)
   | (with_reducible refine LeO.bind ?_ (fun _ => ?_))
  ·intro y0 y1 y2 y3 y4 y5
   unfold d_Int.j1
   repeat' first
   | (with_reducible exact ih0 _ _ _)
   | (with_reducible exact ih1 _ _ _ _ _ _)
   | (with_reducible exact ih2 _ _ _ _ _ _ _)
   | (with_reducible exact d_run.mono _ _ _ _)
   | (with_reducible exact d_suffix.mono _ _)
   | (with_reducible exact d_worth.mono _ _)
   | (with_reducible exact LeO.refl _)
   | (with_reducible exact LeO.none _)
   | (with_reducible refine LeO.ite ?_ ?_)
   | (with_reducible refine LeO.bind ?_ (fun _ => ?_))
  intro y0 y1 y2 y3 y4 y5 y6
  unfold d_Int.l0
  repeat' first
  | (with_reducible exact ih0 _ _ _)
  | (with_reducible exact ih1 _ _ _ _ _ _)
  | (with_reducible exact ih2 _ _ _ _ _ _ _)
  | (with_reducible exact d_run.mono _ _ _ _)
  | (with_reducible exact d_suffix.mono _ _)
  | (with_reducible exact d_worth.mono _ _)
  | (with_reducible exact LeO.refl _)
  | (with_reducible exact LeO.none _)
  | (with_reducible refine LeO.ite ?_ ?_)
  | (with_reducible refine LeO.bind ?_ (fun _ => ?_))
theorem d_Int.mono : ∀ a0 k, LeO (d_Int.f k a0) (d_Int.f (k + 1) a0) := by
 intro a0 k
 obtain ⟨ih0, ih1, ih2⟩ := d_Int.mono_l k
 unfold d_Int.f
 repeat' first
   | (with_reducible exact ih0 _ _ _)
   | (with_reducible exact ih1 _ _ _ _ _ _)
   | (with_reducible exact ih2 _ _ _ _ _ _ _)
   | (with_reducible exact d_run.mono _ _ _ _)
   | (with_reducible exact d_suffix.mono _ _)
   | (with_reducible exact d_worth.mono _ _)
   | (with_reducible exact LeO.refl _)
   | (with_reducible exact LeO.none _)
   | (with_reducible refine LeO.ite ?_ ?_)
   | (with_reducible refine LeO.bind ?_ (fun _ => ?_))
theorem d_Int.calls (k : Nat) (a0 : ByteArray) (r1 : Int) (r2 : Bool) (r3 : Int) (w : World) (h : d_Int.f k a0 = some (r1, r2, r3)) :
  Calls Tryd.prog 44 #[.string a0] w fun e w' => e = .returned (.tuple #[.int .u64 r1, .bool r2, .int .i64 r3]) ∧ Below w.heap.size w w' := by
 have HB := Aside0.mk (Below.refl w.heap.size w)
 have H : ((d_hex.f a0).bind fun t109 => (if t109 = true then (d_Int.j0 k a0 16 2) else (if (a0.size : Int) > 0 then (if 0 < (a0.size : Int) then (if (bt a0 0) = 48 then (d_Int.j0 k a0 8 0) else (d_Int.j0 k a0 10 0)) else (none)) else (d_Int.j0 k a0 10 0)))) = some (r1, r2, r3) := h
 clear h
 replace H := Option.bind_eq_some_iff.mp H
 obtain ⟨t109, A20, H⟩ := H
 replace H : (if t109 = true then (d_Int.j0 k a0 16 2) else (if (a0.size : Int) > 0 then (if 0 < (a0.size : Int) then (if (bt a0 0) = 48 then (d_Int.j0 k a0 8 0) else (d_Int.j0 k a0 10 0)) else (none)) else (d_Int.j0 k a0 10 0))) = some (r1, r2, r3) := H
 have A2 := Aside0.mk A20
 clear A20
 have HC3 := Aside0.mk H
 clear H
 go_enter Tryd.func44, Tryd.ntmps44
 go_upto_if 14 with (first | ((with_reducible refine gate_callee (f := 34) rfl ?_); refine goesL_ (some 14) rfl rfl Tryd.func34 (by kernel_rfl) rfl #[.string a0] rfl ar_ ?_; (with_reducible refine (d_hex.calls a0 t109 _ A2.out).mono ?_); rintro e w' ⟨rfl, ⟨nd, rfl⟩⟩; refine ⟨_, rfl, ?_⟩))
 (try simp only [Act.put, List.setIfInBounds_toArray, List.set_cons_zero, List.set_cons_succ])
 go_cut [5, 6] (fun v5 v6 wc => ∃ (kq : Nat) (x5_2 : Int) (x6_2 : Int), v5 = .int .i64 x5_2 ∧ v6 = .int .i64 x6_2 ∧ Aside0 (d_Int.j0 kq a0 x5_2 x6_2 = some (r1, r2, r3)) ∧ Aside0 (kq ≤ k) ∧ Aside0 (Below w.heap.size w wc))
 case first =>
  have H := HC3.out
  clear HC3
  by_cases c4 : t109 = true
  ·subst c4
   have H1 : (d_Int.j0 k a0 16 2) = some (r1, r2, r3) := by rw [if_pos rfl] at H; exact H
   clear H
   have H := H1
   clear H1
   have H' := Aside0.mk H
   clear H
   go_wp2
   go_meet
   case rel => exact ⟨_, (16), (2), er_, er_, H', ⟨om_⟩, ⟨bl_⟩⟩
  replace c4 := Bool.eq_false_iff.mpr c4
  subst c4
  have H1 : (if (a0.size : Int) > 0 then (if 0 < (a0.size : Int) then (if (bt a0 0) = 48 then (d_Int.j0 k a0 8 0) else (d_Int.j0 k a0 10 0)) else (none)) else (d_Int.j0 k a0 10 0)) = some (r1, r2, r3) := by rw [if_neg (show ¬ (false = true) by decide)] at H; exact H
  clear H
  have H := H1
  clear H1
  replace H := ib_ H
  obtain ⟨c5, H⟩ | ⟨c5, H⟩ := H
  ·have c5b0 : decide (0 < (a0.size : Int)) = true := decide_eq_true c5
   have c5b1 : decide (0 < a0.size) = true := decide_eq_true (by omega)
   clear c5
   (first | rw [c5b0] | (simp only [i64_w, i32_w]; rw [c5b0]) | skip)
   replace H := ib_ H
   obtain ⟨c6, H⟩ | ⟨c6, H⟩ := H
   ·have c6b0 := decide_eq_true c6
    have c6b1 : decide (0 < a0.size) = true := decide_eq_true (by omega)
    clear c6
    replace H := ie_ H
    obtain ⟨c8b0, c8b1, H⟩ | ⟨c8b0, c8b1, c8, H⟩ := H
    ·have H' := Aside0.mk H
     clear H
     have p7 : 0 ≤ (0 : Int) := (by omega)
     have q7 : 0 < a0.size := (by have : (0 : Int) < (a0.size : Int) := da_; omega)
     have hx7 : ∀ h : 0 < a0.size, ((a0[0]'h).toNat : Int) = bt a0 0 := bt_at a0 0
     clear p7
     have qi7 : (0 < (a0.size : Int)) = True := eq_true da_
     replace q7 := eq_true q7
     go_wp2
     go_meet
     case rel => exact ⟨_, (8), (0), er_, er_, H', ⟨om_⟩, ⟨bl_⟩⟩
    have H' := Aside0.mk H
    clear H
    have p7 : 0 ≤ (0 : Int) := (by omega)
    have q7 : 0 < a0.size := (by have : (0 : Int) < (a0.size : Int) := da_; omega)
    have hx7 : ∀ h : 0 < a0.size, ((a0[0]'h).toNat : Int) = bt a0 0 := bt_at a0 0
    clear p7
    have qi7 : (0 < (a0.size : Int)) = True := eq_true da_
    replace q7 := eq_true q7
    go_wp2
    go_meet
    case rel => exact ⟨_, (10), (0), er_, er_, H', ⟨om_⟩, ⟨bl_⟩⟩
   exact absurd H (by simp)
  have c5b0 : decide (0 < (a0.size : Int)) = false := decide_eq_false c5
  have c5b1 : decide (0 < a0.size) = false := decide_eq_false (by omega)
  clear c5
  (first | rw [c5b0] | (simp only [i64_w, i32_w]; rw [c5b0]) | skip)
  have H' := Aside0.mk H
  clear H
  go_wp2
  go_meet
  case rel => exact ⟨_, (10), (0), er_, er_, H', ⟨om_⟩, ⟨bl_⟩⟩
 case rest =>
  clear HC3
  try clear c4
  try clear c5
  try clear c5b0
  try clear c5b1
  try clear c6
  try clear c6b0
  try clear c6b1
  try clear p7
  try clear q7
  try clear hx7
  try clear qi7
  try clear c8
  try clear c8b0
  try clear c8b1
  try clear p7
  try clear q7
  obtain ⟨kq, x5_2, x6_2, rfl, rfl, HA, HJ2, HB⟩ := hcut
  cases kq with
  | zero => exact absurd HA.out (by simp [d_Int.j0])
  | succ kj2 =>
   have H := HA.out
   clear HA
   simp only [d_Int.j0] at H
   replace H := Option.bind_eq_some_iff.mp H
   obtain ⟨t110, A90, H⟩ := H
   replace H : (if 0 ≤ (mn (a0.size : Int) (wrap64 (x6_2 + t110))) then (if (mn (a0.size : Int) (wrap64 (x6_2 + t110))) ≤ (a0.size : Int) then ((d_suffix.f kj2 (a0.extract ((mn (a0.size : Int) (wrap64 (x6_2 + t110))) : Int).toNat a0.size)).bind fun bt111 => (if t110 = 0 then (d_Int.j1 kj2 a0 x5_2 x6_2 t110 bt111.2 true) else (d_Int.j1 kj2 a0 x5_2 x6_2 t110 bt111.2 (!bt111.1)))) else (none)) else (none)) = some (r1, r2, r3) := H
   have A9 := Aside0.mk A90
   clear A90
   obtain ⟨ji10, hji10⟩ : ∃ j_ : Int, (mn (a0.size : Int) (wrap64 (x6_2 + t110))) = j_ := ⟨_, rfl⟩
   replace H : (if 0 ≤ (ji10) then (if (ji10) ≤ (a0.size : Int) then ((d_suffix.f kj2 (a0.extract ((ji10) : Int).toNat a0.size)).bind fun bt111 => (if t110 = 0 then (d_Int.j1 kj2 a0 x5_2 x6_2 t110 bt111.2 true) else (d_Int.j1 kj2 a0 x5_2 x6_2 t110 bt111.2 (!bt111.1)))) else (none)) else (none)) = some (r1, r2, r3) := by first | (rw [hji10] at H; exact H) | (simp only [hji10] at H ⊢; exact H)
   (try rw [hji10] at A9)
   have hji10_ : (if (wrap64 (x6_2 + t110)) < (a0.size : Int) then (wrap64 (x6_2 + t110)) else (a0.size : Int)) = ji10 := hji10
   replace H := ib_ H
   obtain ⟨c11, H⟩ | ⟨c11, H⟩ := H
   ·have c11b0 := eq_true c11
    have c11b1 := decide_eq_true c11
    clear c11
    replace H := ib_ H
    obtain ⟨c12, H⟩ | ⟨c12, H⟩ := H
    ·have c12b0 := eq_true c12
     have c12b1 := decide_eq_true c12
     clear c12
     replace H := Option.bind_eq_some_iff.mp H
     obtain ⟨⟨t111, t112⟩, A130, H⟩ := H
     replace H : (if t110 = 0 then (d_Int.j1 kj2 a0 x5_2 x6_2 t110 t112 true) else (d_Int.j1 kj2 a0 x5_2 x6_2 t110 t112 (!t111))) = some (r1, r2, r3) := H
     have A13 := Aside0.mk A130
     clear A130
     have HC14 := Aside0.mk H
     clear H
     go_upto_region 10 with (first | ((with_reducible refine gate_callee (f := 35) rfl ?_); refine goesL_ (some 26) rfl rfl Tryd.func35 (by kernel_rfl) rfl #[.string a0, .int .i64 x6_2, .int .i64 x5_2] rfl ar_ ?_; (with_reducible refine (d_run.calls kj2 a0 x6_2 x5_2 t110 _ A9.out).mono ?_); rintro e w' ⟨rfl, ⟨nd, rfl⟩⟩; refine ⟨_, rfl, ?_⟩) | ((with_reducible refine gate_callee (f := 55) rfl ?_); refine goesL_ (some 36) rfl rfl Tryd.func55 (by kernel_rfl) rfl #[.string (a0.extract ((ji10) : Int).toNat a0.size)] rfl (by (try simp only [List.map_toArray, List.map_cons, List.map_nil]); first | done | (simp only [hji10]; rfl) | rfl | (simp only [List.length_drop, List.length_take]; rfl)) ?_; (with_reducible refine (d_suffix.calls kj2 (a0.extract ((ji10) : Int).toNat a0.size) t111 t112 _ A13.out).mono ?_); rintro e w' ⟨rfl, ⟨nd, rfl⟩⟩; refine ⟨_, rfl, ?_⟩))
     (try simp only [Act.put, List.setIfInBounds_toArray, List.set_cons_zero, List.set_cons_succ])
     go_cut [44] (fun v44 wc => ∃ (kq : Nat) (x44_13 : Bool), v44 = .bool x44_13 ∧ Aside0 (d_Int.j1 kq a0 x5_2 x6_2 t110 t112 x44_13 = some (r1, r2, r3)) ∧ Aside0 (kq ≤ kj2) ∧ Aside0 (Below w.heap.size w wc))
     case first =>
      have H := HC14.out
      clear HC14
      replace H := ie_ H
      obtain ⟨c15b0, c15b1, H⟩ | ⟨c15b0, c15b1, c15, H⟩ := H
      ·(first | rw [c15b0] | (simp only [i64_w, i32_w]; rw [c15b0]) | skip)
       have H' := Aside0.mk H
       clear H
       go_wp2
       go_meet
       case rel => exact ⟨_, (true), er_, H', ⟨by have := HJ2.out; first | omega | exact Nat.le_refl _⟩, ⟨bl_⟩⟩
      (first | rw [c15b0] | (simp only [i64_w, i32_w]; rw [c15b0]) | skip)
      have H' := Aside0.mk H
      clear H
      go_wp2
      go_meet
      case rel => exact ⟨_, (!t111), er_, H', ⟨by have := HJ2.out; first | omega | exact Nat.le_refl _⟩, ⟨bl_⟩⟩
     case rest =>
      clear HC14
      try clear c4
      try clear c5
      try clear c5b0
      try clear c5b1
      try clear c6
      try clear c6b0
      try clear c6b1
      try clear p7
      try clear q7
      try clear hx7
      try clear qi7
      try clear c8
      try clear c8b0
      try clear c8b1
      try clear c11
      try clear c11b0
      try clear c11b1
      try clear c12
      try clear c12b0
      try clear c12b1
      try clear c15
      try clear c15b0
      try clear c15b1
      try clear p7
      try clear q7
      obtain ⟨kq, x44_13, rfl, HA, HJ13, HB⟩ := hcut
      cases kq with
      | zero => exact absurd HA.out (by simp [d_Int.j1])
      | succ kj13 =>
       have H := HA.out
       clear HA
       simp only [d_Int.j1] at H
       by_cases c16 : x44_13 = true
       ·subst c16
        have H1 : (some (0, false, 40)) = some (r1, r2, r3) := by rw [if_pos rfl] at H; exact H
        clear H
        have H := H1
        clear H1
        simp only [Option.some.injEq, Prod.mk.injEq] at H
        obtain ⟨rfl, rfl, rfl⟩ := H
        go_wp2
        go_ret3
        exact ⟨by first | rfl | (simp [errW_none, errW_some] <;> rfl) | (simp only [← hji10]; first | rfl | (simp [errW_none, errW_some] <;> rfl)) | (simp [*, errW_none, errW_some] <;> rfl), bl_⟩
       replace c16 := Bool.eq_false_iff.mpr c16
       subst c16
       have H1 : (d_Int.l0 kj13 a0 x5_2 x6_2 t110 t112 0 x6_2) = some (r1, r2, r3) := by rw [if_neg (show ¬ (false = true) by decide)] at H; exact H
       clear H
       have H := H1
       clear H1
       have H' := Aside0.mk H
       clear H
       go_wp2
       go_loopg [10, 11] kj13 (fun kq v10 v11 w' => ∃ (x10_3 : Int) (x11_3 : Int), v10 = .int .u64 x10_3 ∧ v11 = .int .i64 x11_3 ∧ Aside0 (d_Int.l0 kq a0 x5_2 x6_2 t110 t112 x10_3 x11_3 = some (r1, r2, r3)) ∧ Aside0 (kq ≤ kj13) ∧ Aside0 (Below w.heap.size w w'))
       case atStart => exact ⟨(0), (x6_2), er_, er_, H', ⟨Nat.le_refl _⟩, ⟨bl_⟩⟩
       case round =>
        clear H'
        try clear c4
        try clear c5
        try clear c5b0
        try clear c5b1
        try clear c6
        try clear c6b0
        try clear c6b1
        try clear p7
        try clear q7
        try clear hx7
        try clear qi7
        try clear c8
        try clear c8b0
        try clear c8b1
        try clear c11
        try clear c11b0
        try clear c11b1
        try clear c12
        try clear c12b0
        try clear c12b1
        try clear c15
        try clear c15b0
        try clear c15b1
        try clear c16
        try clear p7
        try clear q7
        obtain ⟨x10_3, x11_3, rfl, rfl, HA, HK3, HB⟩ := hrel
        cases gk with
        | zero => exact absurd HA.out (by simp [d_Int.l0])
        | succ k3 =>
         have H := HA.out
         clear HA
         simp only [d_Int.l0] at H
         replace H := id_ H
         obtain ⟨-, c17b0, H⟩ | ⟨-, c17b0, H⟩ := H
         ·replace H := id_ H
          obtain ⟨-, c18b0, H⟩ | ⟨-, -, H⟩ := H
          ·replace H := id_ H
           obtain ⟨-, c19b0, H⟩ | ⟨-, -, H⟩ := H
           ·replace H := Option.bind_eq_some_iff.mp H
            obtain ⟨t113, A210, H⟩ := H
            replace H : (if (IntKind.u64.wrap (x5_2)) = 0 then (none) else (if x10_3 > (IntKind.u64.wrap (Int.tdiv (IntKind.u64.wrap (18446744073709551615 - (IntKind.u64.wrap (t113)))) (IntKind.u64.wrap (x5_2)))) then (some (0, false, 40)) else (d_Int.l0 k3 a0 x5_2 x6_2 t110 t112 (IntKind.u64.wrap ((IntKind.u64.wrap (x10_3 * (IntKind.u64.wrap (x5_2)))) + (IntKind.u64.wrap (t113)))) (wrap64 (x11_3 + 1))))) = some (r1, r2, r3) := H
            have A21 := Aside0.mk A210
            clear A210
            replace H := ib_ H
            obtain ⟨c22, H⟩ | ⟨c22, H⟩ := H
            ·exact absurd H (by simp)
            have c22b0 := beq_eq_false_iff_ne.mpr c22
            have c22b1 := bne_iff_ne.mpr c22
            replace H := ib_ H
            obtain ⟨c23, H⟩ | ⟨c23, H⟩ := H
            ·have c23b0 : decide ((IntKind.u64.wrap (Int.tdiv (IntKind.u64.wrap (18446744073709551615 - (IntKind.u64.wrap (t113)))) (IntKind.u64.wrap (x5_2)))) < x10_3) = true := decide_eq_true c23
             clear c23
             simp only [Option.some.injEq, Prod.mk.injEq] at H
             obtain ⟨rfl, rfl, rfl⟩ := H
             have p20 : 0 ≤ (x11_3 : Int) := da_
             have q20 : x11_3 < (a0.size : Int) := da_
             have hx20 := bt_at a0 x11_3
             replace p20 := eq_true p20
             replace q20 := eq_true q20
             go_wp2_with (first | ((with_reducible refine gate_callee (f := 47) rfl ?_); refine goesL_ (some 56) rfl rfl Tryd.func47 (by kernel_rfl) rfl #[.int .u8 (bt a0 x11_3)] rfl ar_ ?_; (with_reducible refine (d_worth.calls k3 (bt a0 x11_3) t113 _ A21.out).mono ?_); rintro e w' ⟨rfl, ⟨nd, rfl⟩⟩; refine ⟨_, rfl, ?_⟩))
             go_ret3
             exact ⟨by first | rfl | (simp [errW_none, errW_some] <;> rfl) | (simp only [← hji10]; first | rfl | (simp [errW_none, errW_some] <;> rfl)) | (simp [*, errW_none, errW_some] <;> rfl), bl_⟩
            have c23b0 : decide ((IntKind.u64.wrap (Int.tdiv (IntKind.u64.wrap (18446744073709551615 - (IntKind.u64.wrap (t113)))) (IntKind.u64.wrap (x5_2)))) < x10_3) = false := decide_eq_false c23
            clear c23
            have H' := Aside0.mk H
            clear H
            have p20 : 0 ≤ (x11_3 : Int) := da_
            have q20 : x11_3 < (a0.size : Int) := da_
            have hx20 := bt_at a0 x11_3
            replace p20 := eq_true p20
            replace q20 := eq_true q20
            go_wp2_with (first | ((with_reducible refine gate_callee (f := 47) rfl ?_); refine goesL_ (some 56) rfl rfl Tryd.func47 (by kernel_rfl) rfl #[.int .u8 (bt a0 x11_3)] rfl ar_ ?_; (with_reducible refine (d_worth.calls k3 (bt a0 x11_3) t113 _ A21.out).mono ?_); rintro e w' ⟨rfl, ⟨nd, rfl⟩⟩; refine ⟨_, rfl, ?_⟩))
            go_roundg k3
            case measure => have := HJ2.out; have := HJ13.out; have := HK3.out; omega
            case rel => exact ⟨(IntKind.u64.wrap ((IntKind.u64.wrap (x10_3 * (IntKind.u64.wrap (x5_2)))) + (IntKind.u64.wrap (t113)))), (wrap64 (x11_3 + 1)), er_, er_, H', ⟨by have := HJ2.out; have := HJ13.out; have := HK3.out; omega⟩, ⟨bl_⟩⟩
           exact absurd H (by simp)
          exact absurd H (by simp)
         replace H := ie_ H
         obtain ⟨c24b0, c24b1, H⟩ | ⟨c24b0, c24b1, c24, H⟩ := H
         ·by_cases c25 : t112 = true
          ·subst c25
           have H1 : (some (x10_3, true, 0)) = some (r1, r2, r3) := by rw [if_pos rfl] at H; exact H
           clear H
           have H := H1
           clear H1
           simp only [Option.some.injEq, Prod.mk.injEq] at H
           obtain ⟨rfl, rfl, rfl⟩ := H
           go_wp2
           go_ret3
           exact ⟨by first | rfl | (simp [errW_none, errW_some] <;> rfl) | (simp only [← hji10]; first | rfl | (simp [errW_none, errW_some] <;> rfl)) | (simp [*, errW_none, errW_some] <;> rfl), bl_⟩
          replace c25 := Bool.eq_false_iff.mpr c25
          subst c25
          have H1 : (if x10_3 > 9223372036854775807 then (some (0, false, 40)) else (some (x10_3, false, 0))) = some (r1, r2, r3) := by rw [if_neg (show ¬ (false = true) by decide)] at H; exact H
          clear H
          have H := H1
          clear H1
          replace H := ib_ H
          obtain ⟨c26, H⟩ | ⟨c26, H⟩ := H
          ·have c26b0 : decide (9223372036854775807 < x10_3) = true := decide_eq_true c26
           clear c26
           simp only [Option.some.injEq, Prod.mk.injEq] at H
           obtain ⟨rfl, rfl, rfl⟩ := H
           go_wp2
           go_ret3
           exact ⟨by first | rfl | (simp [errW_none, errW_some] <;> rfl) | (simp only [← hji10]; first | rfl | (simp [errW_none, errW_some] <;> rfl)) | (simp [*, errW_none, errW_some] <;> rfl), bl_⟩
          have c26b0 : decide (9223372036854775807 < x10_3) = false := decide_eq_false c26
          clear c26
          simp only [Option.some.injEq, Prod.mk.injEq] at H
          obtain ⟨rfl, rfl, rfl⟩ := H
          go_wp2
          go_ret3
          exact ⟨by first | rfl | (simp [errW_none, errW_some] <;> rfl) | (simp only [← hji10]; first | rfl | (simp [errW_none, errW_some] <;> rfl)) | (simp [*, errW_none, errW_some] <;> rfl), bl_⟩
         by_cases c27 : t112 = true
         ·subst c27
          have H1 : (some (x10_3, true, 0)) = some (r1, r2, r3) := by rw [if_pos rfl] at H; exact H
          clear H
          have H := H1
          clear H1
          simp only [Option.some.injEq, Prod.mk.injEq] at H
          obtain ⟨rfl, rfl, rfl⟩ := H
          go_wp2
          go_ret3
          exact ⟨by first | rfl | (simp [errW_none, errW_some] <;> rfl) | (simp only [← hji10]; first | rfl | (simp [errW_none, errW_some] <;> rfl)) | (simp [*, errW_none, errW_some] <;> rfl), bl_⟩
         replace c27 := Bool.eq_false_iff.mpr c27
         subst c27
         have H1 : (if x10_3 > 9223372036854775807 then (some (x10_3, (x5_2 != 10), 0)) else (some (x10_3, false, 0))) = some (r1, r2, r3) := by rw [if_neg (show ¬ (false = true) by decide)] at H; exact H
         clear H
         have H := H1
         clear H1
         replace H := ib_ H
         obtain ⟨c28, H⟩ | ⟨c28, H⟩ := H
         ·have c28b0 : decide (9223372036854775807 < x10_3) = true := decide_eq_true c28
          clear c28
          simp only [Option.some.injEq, Prod.mk.injEq] at H
          obtain ⟨rfl, rfl, rfl⟩ := H
          go_wp2
          go_ret3
          exact ⟨by first | rfl | (simp [errW_none, errW_some] <;> rfl) | (simp only [← hji10]; first | rfl | (simp [errW_none, errW_some] <;> rfl)) | (simp [*, errW_none, errW_some] <;> rfl), bl_⟩
         have c28b0 : decide (9223372036854775807 < x10_3) = false := decide_eq_false c28
         clear c28
         simp only [Option.some.injEq, Prod.mk.injEq] at H
         obtain ⟨rfl, rfl, rfl⟩ := H
         go_wp2
         go_ret3
         exact ⟨by first | rfl | (simp [errW_none, errW_some] <;> rfl) | (simp only [← hji10]; first | rfl | (simp [errW_none, errW_some] <;> rfl)) | (simp [*, errW_none, errW_some] <;> rfl), bl_⟩
    exact absurd H (by simp)
   exact absurd H (by simp)
def b_White.f (a0 : Int) : Option (Bool) := if a0 = 32 then (some true) else (if a0 = 9 then (some true) else (if a0 = 11 then (some true) else (some (a0 == 12))))
theorem b_White.calls (a0 : Int) (r : Bool) (w : World) (h : b_White.f a0 = some r) :
  Calls Tryd.prog 85 #[.int .u8 a0] w fun e w' => e = .returned (.bool r) ∧ Drawn0 w w' := by
 have H : (if a0 = 32 then (some true) else (if a0 = 9 then (some true) else (if a0 = 11 then (some true) else (some (a0 == 12))))) = some r := h
 clear h
 replace H := ie_ H
 obtain ⟨c2b0, c2b1, H⟩ | ⟨c2b0, c2b1, c2, H⟩ := H
 ·obtain rfl := Option.some.inj H
  go_enter Tryd.func85, Tryd.ntmps85
  go_wp2
  go_ret
  exact ⟨er_, dr_⟩
 replace H := ie_ H
 obtain ⟨c3b0, c3b1, H⟩ | ⟨c3b0, c3b1, c3, H⟩ := H
 ·obtain rfl := Option.some.inj H
  go_enter Tryd.func85, Tryd.ntmps85
  go_wp2
  go_ret
  exact ⟨er_, dr_⟩
 replace H := ie_ H
 obtain ⟨c4b0, c4b1, H⟩ | ⟨c4b0, c4b1, c4, H⟩ := H
 ·obtain rfl := Option.some.inj H
  go_enter Tryd.func85, Tryd.ntmps85
  go_wp2
  go_ret
  exact ⟨er_, dr_⟩
 obtain rfl := Option.some.inj H
 go_enter Tryd.func85, Tryd.ntmps85
 go_wp2
 go_ret
 exact ⟨er_, dr_⟩
mutual
def b_named.j0 : Nat → ByteArray → Bool → Option (Int)
 | 0, _, _ => none
 | k + 1, x0, x12 => if x12 = true then (some 0) else (if 0 < (x0.size : Int) then (if (bt x0 0) = 60 then (b_named.j1 k x0 62) else (b_named.j1 k x0 (bt x0 0))) else (none))
def b_named.j1 : Nat → ByteArray → Int → Option (Int)
 | 0, _, _ => none
 | k + 1, x0, x3 => b_named.l0 k x0 x3 1
def b_named.l0 : Nat → ByteArray → Int → Int → Option (Int)
 | 0, _, _, _ => none
 | k + 1, x0, x3, x4 => if x4 < (x0.size : Int) then (if 0 ≤ x4 then (b_named.j3 k x0 x3 x4 ((bt x0 x4) != 10)) else (none)) else (b_named.j3 k x0 x3 x4 false)
def b_named.j3 : Nat → ByteArray → Int → Int → Bool → Option (Int)
 | 0, _, _, _, _ => none
 | k + 1, x0, x3, x4, x26 => if x26 = true then (if 0 ≤ x4 then (if x4 < (x0.size : Int) then (if (bt x0 x4) = x3 then (some (wrap64 (x4 + 1))) else (b_named.l0 k x0 x3 (wrap64 (x4 + 1)))) else (none)) else (none)) else (some 0)
end
def b_named.f (k : Nat) (a0 : ByteArray) : Option (Int) := if 0 < (a0.size : Int) then (if (bt a0 0) = 60 then (b_named.j0 k a0 false) else (b_named.j0 k a0 ((bt a0 0) != 34))) else (none)
theorem b_named.mono_l : ∀ k, (∀ y0 y1, LeO (b_named.j0 k y0 y1) (b_named.j0 (k + 1) y0 y1)) ∧ (∀ y0 y1, LeO (b_named.j1 k y0 y1) (b_named.j1 (k + 1) y0 y1)) ∧ (∀ y0 y1 y2, LeO (b_named.l0 k y0 y1 y2) (b_named.l0 (k + 1) y0 y1 y2)) ∧ (∀ y0 y1 y2 y3, LeO (b_named.j3 k y0 y1 y2 y3) (b_named.j3 (k + 1) y0 y1 y2 y3))
 | 0 => ⟨fun _ _ r h => by simp [b_named.j0] at h, fun _ _ r h => by simp [b_named.j1] at h, fun _ _ _ r h => by simp [b_named.l0] at h, fun _ _ _ _ r h => by simp [b_named.j3] at h⟩
 | k + 1 => by
  obtain ⟨ih0, ih1, ih2, ih3⟩ := b_named.mono_l k
  refine ⟨?_, ?_, ?_, ?_⟩
  ·intro y0 y1
   unfold b_named.j0
   repeat' first
   | (with_reducible exact ih0 _ _)
   | (with_reducible exact ih1 _ _)
   | (with_reducible exact ih2 _ _ _)
   | (with_reducible exact ih3 _ _ _ _)
   | (with_reducible exact LeO.refl _)
   | (with_reducible exact LeO.none _)
   | (with_reducible refine LeO.ite ?_ ?_)
   | (with_reducible refine LeO.bind ?_ (fun _ => ?_))
  ·intro y0 y1
   unfold b_named.j1
   repeat' first
   | (with_reducible exact ih0 _ _)
   | (with_reducible exact ih1 _ _)
   | (with_reducible exact ih2 _ _ _)
   | (with_reducible exact ih3 _ _ _ _)
   | (with_reducible exact LeO.refl _)
   | (with_reducible exact LeO.none _)
   | (with_reducible refine LeO.ite ?_ ?_)
   | (with_reducible refine LeO.bind ?_ (fun _ => ?_))
  ·intro y0 y1 y2
   unfold b_named.l0
   repeat' first
   | (with_reducible exact ih0 _ _)
   | (with_reducible exact ih1 _ _)
   | (with_reducible exact ih2 _ _ _)
   | (with_reducible exact ih3 _ _ _ _)
   | (with_reducible exact LeO.refl _)
   | (with_reducible exact LeO.none _)
   | (with_reducible refine LeO.ite ?_ ?_)
   | (with_reducible refine LeO.bind ?_ (fun _ => ?_))
  intro y0 y1 y2 y3
  unfold b_named.j3
  repeat' first
  | (with_reducible exact ih0 _ _)
  | (with_reducible exact ih1 _ _)
  | (with_reducible exact ih2 _ _ _)
  | (with_reducible exact ih3 _ _ _ _)
  | (with_reducible exact LeO.refl _)
  | (with_reducible exact LeO.none _)
  | (with_reducible refine LeO.ite ?_ ?_)
  | (with_reducible refine LeO.bind ?_ (fun _ => ?_))
theorem b_named.mono : ∀ a0 k, LeO (b_named.f k a0) (b_named.f (k + 1) a0) := by
 intro a0 k
 obtain ⟨ih0, ih1, ih2, ih3⟩ := b_named.mono_l k
 unfold b_named.f
 repeat' first
   | (with_reducible exact ih0 _ _)
   | (with_reducible exact ih1 _ _)
   | (with_reducible exact ih2 _ _ _)
   | (with_reducible exact ih3 _ _ _ _)
   | (with_reducible exact LeO.refl _)
   | (with_reducible exact LeO.none _)
   | (with_reducible refine LeO.ite ?_ ?_)
   | (with_reducible refine LeO.bind ?_ (fun _ => ?_))
theorem b_named.calls (k : Nat) (a0 : ByteArray) (r : Int) (w : World) (h : b_named.f k a0 = some r) :
  Calls Tryd.prog 86 #[.string a0] w fun e w' => e = .returned (.int .i64 r) ∧ Drawn0 w w' := by
 have H : (if 0 < (a0.size : Int) then (if (bt a0 0) = 60 then (b_named.j0 k a0 false) else (b_named.j0 k a0 ((bt a0 0) != 34))) else (none)) = some r := h
 clear h
 have HC2 := Aside0.mk H
 clear H
 go_enter Tryd.func86, Tryd.ntmps86
 go_upto_region 1 with (fail)
 go_cut [12] (fun v12 wc => ∃ (kq : Nat) (x12_1 : Bool), v12 = .bool x12_1 ∧ Aside0 (b_named.j0 kq a0 x12_1 = some r) ∧ Aside0 (kq ≤ k) ∧ Drawn0 w wc)
 case first =>
  have H := HC2.out
  clear HC2
  replace H := ib_ H
  obtain ⟨c3, H⟩ | ⟨c3, H⟩ := H
  ·have c3b0 := decide_eq_true c3
   have c3b1 : decide (0 < a0.size) = true := decide_eq_true (by omega)
   clear c3
   (first | rw [c3b0] | (simp only [i64_w, i32_w]; rw [c3b0]) | skip)
   replace H := ie_ H
   obtain ⟨c5b0, c5b1, H⟩ | ⟨c5b0, c5b1, c5, H⟩ := H
   ·have H' := Aside0.mk H
    clear H
    have p4 : 0 ≤ (0 : Int) := (by omega)
    have q4 : 0 < a0.size := (by have : (0 : Int) < (a0.size : Int) := da_; omega)
    have hx4 : ∀ h : 0 < a0.size, ((a0[0]'h).toNat : Int) = bt a0 0 := bt_at a0 0
    clear p4
    have qi4 : (0 < (a0.size : Int)) = True := eq_true da_
    replace q4 := eq_true q4
    go_wp2
    go_meet
    case rel => exact ⟨_, (false), er_, H', ⟨om_⟩, dr_⟩
   have H' := Aside0.mk H
   clear H
   have p4 : 0 ≤ (0 : Int) := (by omega)
   have q4 : 0 < a0.size := (by have : (0 : Int) < (a0.size : Int) := da_; omega)
   have hx4 : ∀ h : 0 < a0.size, ((a0[0]'h).toNat : Int) = bt a0 0 := bt_at a0 0
   clear p4
   have qi4 : (0 < (a0.size : Int)) = True := eq_true da_
   replace q4 := eq_true q4
   have p6 : 0 ≤ (0 : Int) := (by omega)
   have q6 : 0 < a0.size := (by have : (0 : Int) < (a0.size : Int) := da_; omega)
   have hx6 : ∀ h : 0 < a0.size, ((a0[0]'h).toNat : Int) = bt a0 0 := bt_at a0 0
   clear p6
   have qi6 : (0 < (a0.size : Int)) = True := eq_true da_
   replace q6 := eq_true q6
   go_wp2
   go_meet
   case rel => exact ⟨_, (((bt a0 0) != 34)), er_, H', ⟨om_⟩, dr_⟩
  exact absurd H (by simp)
 case rest =>
  clear HC2
  try clear c3
  try clear c3b0
  try clear c3b1
  try clear p4
  try clear q4
  try clear hx4
  try clear qi4
  try clear c5
  try clear c5b0
  try clear c5b1
  try clear p6
  try clear q6
  try clear hx6
  try clear qi6
  try clear p4
  try clear p6
  try clear q4
  try clear q6
  obtain ⟨kq, x12_1, rfl, HA, HJ1, ⟨mc1, rfl⟩⟩ := hcut
  cases kq with
  | zero => exact absurd HA.out (by simp [b_named.j0])
  | succ kj1 =>
   have H := HA.out
   clear HA
   simp only [b_named.j0] at H
   by_cases c7 : x12_1 = true
   ·subst c7
    have H1 : (some 0) = some r := by rw [if_pos rfl] at H; exact H
    clear H
    have H := H1
    clear H1
    obtain rfl := Option.some.inj H
    go_wp2
    go_ret
    exact ⟨er_, dr_⟩
   replace c7 := Bool.eq_false_iff.mpr c7
   subst c7
   have H1 : (if 0 < (a0.size : Int) then (if (bt a0 0) = 60 then (b_named.j1 kj1 a0 62) else (b_named.j1 kj1 a0 (bt a0 0))) else (none)) = some r := by rw [if_neg (show ¬ (false = true) by decide)] at H; exact H
   clear H
   have H := H1
   clear H1
   replace H := ib_ H
   obtain ⟨c8, H⟩ | ⟨c8, H⟩ := H
   ·have c8b0 := decide_eq_true c8
    have c8b1 : decide (0 < a0.size) = true := decide_eq_true (by omega)
    clear c8
    have HC10 := Aside0.mk H
    clear H
    have p9 : 0 ≤ (0 : Int) := (by omega)
    have q9 : 0 < a0.size := (by have : (0 : Int) < (a0.size : Int) := da_; omega)
    have hx9 : ∀ h : 0 < a0.size, ((a0[0]'h).toNat : Int) = bt a0 0 := bt_at a0 0
    clear p9
    have qi9 : (0 < (a0.size : Int)) = True := eq_true da_
    replace q9 := eq_true q9
    go_upto_if 16 with (fail)
    go_cut [3] (fun v3 wc => ∃ (kq : Nat) (x3_9 : Int), v3 = .int .u8 x3_9 ∧ Aside0 (b_named.j1 kq a0 x3_9 = some r) ∧ Aside0 (kq ≤ kj1) ∧ Drawn0 w wc)
    case first =>
     have H := HC10.out
     clear HC10
     replace H := ie_ H
     obtain ⟨c11b0, c11b1, H⟩ | ⟨c11b0, c11b1, c11, H⟩ := H
     ·(first | rw [c11b0] | (simp only [i64_w, i32_w]; rw [c11b0]) | skip)
      have H' := Aside0.mk H
      clear H
      go_wp2
      go_meet
      case rel => exact ⟨_, (62), er_, H', ⟨by have := HJ1.out; first | omega | exact Nat.le_refl _⟩, dr_⟩
     (first | rw [c11b0] | (simp only [i64_w, i32_w]; rw [c11b0]) | skip)
     have H' := Aside0.mk H
     clear H
     go_wp2
     go_meet
     case rel => exact ⟨_, (bt a0 0), er_, H', ⟨by have := HJ1.out; first | omega | exact Nat.le_refl _⟩, dr_⟩
    case rest =>
     clear HC10
     try clear c3
     try clear c3b0
     try clear c3b1
     try clear p4
     try clear q4
     try clear hx4
     try clear qi4
     try clear c5
     try clear c5b0
     try clear c5b1
     try clear p6
     try clear q6
     try clear hx6
     try clear qi6
     try clear c7
     try clear c8
     try clear c8b0
     try clear c8b1
     try clear p9
     try clear q9
     try clear hx9
     try clear qi9
     try clear c11
     try clear c11b0
     try clear c11b1
     try clear p4
     try clear p6
     try clear p9
     try clear q4
     try clear q6
     try clear q9
     obtain ⟨kq, x3_9, rfl, HA, HJ9, ⟨mc9, rfl⟩⟩ := hcut
     cases kq with
     | zero => exact absurd HA.out (by simp [b_named.j1])
     | succ kj9 =>
      have H := HA.out
      clear HA
      simp only [b_named.j1] at H
      have H' := Aside0.mk H
      clear H
      go_wp2
      go_loopg [4] kj9 (fun kq v4 w' => ∃ (x4_3 : Int), v4 = .int .i64 x4_3 ∧ Aside0 (b_named.l0 kq a0 x3_9 x4_3 = some r) ∧ Aside0 (kq ≤ kj9) ∧ Drawn0 w w')
      case atStart => exact ⟨(1), er_, H', ⟨Nat.le_refl _⟩, dr_⟩
      case round =>
       clear H'
       try clear c3
       try clear c3b0
       try clear c3b1
       try clear p4
       try clear q4
       try clear hx4
       try clear qi4
       try clear c5
       try clear c5b0
       try clear c5b1
       try clear p6
       try clear q6
       try clear hx6
       try clear qi6
       try clear c7
       try clear c8
       try clear c8b0
       try clear c8b1
       try clear p9
       try clear q9
       try clear hx9
       try clear qi9
       try clear c11
       try clear c11b0
       try clear c11b1
       try clear p4
       try clear p6
       try clear p9
       try clear q4
       try clear q6
       try clear q9
       obtain ⟨x4_3, rfl, HA, HK3, ⟨m3, rfl⟩⟩ := hrel
       cases gk with
       | zero => exact absurd HA.out (by simp [b_named.l0])
       | succ k3 =>
        have H := HA.out
        clear HA
        simp only [b_named.l0] at H
        have HC12 := Aside0.mk H
        clear H
        go_upto_region 7 with (fail)
        go_cut [26] (fun v26 wc => ∃ (kq : Nat) (x26_11 : Bool), v26 = .bool x26_11 ∧ Aside0 (b_named.j3 kq a0 x3_9 x4_3 x26_11 = some r) ∧ Aside0 (kq ≤ k3) ∧ Drawn0 w wc)
        case first =>
         have H := HC12.out
         clear HC12
         replace H := id_ H
         obtain ⟨-, c13b0, H⟩ | ⟨-, c13b0, H⟩ := H
         ·(first | rw [c13b0] | (simp only [i64_w, i32_w]; rw [c13b0]) | skip)
          replace H := id_ H
          obtain ⟨-, c14b0, H⟩ | ⟨-, -, H⟩ := H
          ·have H' := Aside0.mk H
           clear H
           have p15 : 0 ≤ (x4_3 : Int) := da_
           have q15 : x4_3 < (a0.size : Int) := da_
           have hx15 := bt_at a0 x4_3
           replace p15 := eq_true p15
           replace q15 := eq_true q15
           go_wp2
           go_meet
           case rel => exact ⟨_, (((bt a0 x4_3) != 10)), er_, H', ⟨by have := HJ1.out; have := HJ9.out; have := HK3.out; first | omega | exact Nat.le_refl _⟩, dr_⟩
          exact absurd H (by simp)
         (first | rw [c13b0] | (simp only [i64_w, i32_w]; rw [c13b0]) | skip)
         have H' := Aside0.mk H
         clear H
         go_wp2
         go_meet
         case rel => exact ⟨_, (false), er_, H', ⟨by have := HJ1.out; have := HJ9.out; have := HK3.out; first | omega | exact Nat.le_refl _⟩, dr_⟩
        case rest =>
         clear HC12
         try clear c3
         try clear c3b0
         try clear c3b1
         try clear p4
         try clear q4
         try clear hx4
         try clear qi4
         try clear c5
         try clear c5b0
         try clear c5b1
         try clear p6
         try clear q6
         try clear hx6
         try clear qi6
         try clear c7
         try clear c8
         try clear c8b0
         try clear c8b1
         try clear p9
         try clear q9
         try clear hx9
         try clear qi9
         try clear c11
         try clear c11b0
         try clear c11b1
         try clear c13b0
         try clear c14b0
         try clear p15
         try clear q15
         try clear hx15
         try clear p15
         try clear p4
         try clear p6
         try clear p9
         try clear q15
         try clear q4
         try clear q6
         try clear q9
         obtain ⟨kq, x26_11, rfl, HA, HJ11, ⟨mc11, rfl⟩⟩ := hcut
         cases kq with
         | zero => exact absurd HA.out (by simp [b_named.j3])
         | succ kj11 =>
          have H := HA.out
          clear HA
          simp only [b_named.j3] at H
          by_cases c16 : x26_11 = true
          ·subst c16
           have H1 : (if 0 ≤ x4_3 then (if x4_3 < (a0.size : Int) then (if (bt a0 x4_3) = x3_9 then (some (wrap64 (x4_3 + 1))) else (b_named.l0 kj11 a0 x3_9 (wrap64 (x4_3 + 1)))) else (none)) else (none)) = some r := by rw [if_pos rfl] at H; exact H
           clear H
           have H := H1
           clear H1
           replace H := id_ H
           obtain ⟨-, c17b0, H⟩ | ⟨-, -, H⟩ := H
           ·replace H := id_ H
            obtain ⟨-, c18b0, H⟩ | ⟨-, -, H⟩ := H
            ·replace H := ie_ H
             obtain ⟨c20b0, c20b1, H⟩ | ⟨c20b0, c20b1, c20, H⟩ := H
             ·obtain rfl := Option.some.inj H
              have p19 : 0 ≤ (x4_3 : Int) := da_
              have q19 : x4_3 < (a0.size : Int) := da_
              have hx19 := bt_at a0 x4_3
              replace p19 := eq_true p19
              replace q19 := eq_true q19
              go_wp2
              go_ret
              exact ⟨er_, dr_⟩
             have H' := Aside0.mk H
             clear H
             have p19 : 0 ≤ (x4_3 : Int) := da_
             have q19 : x4_3 < (a0.size : Int) := da_
             have hx19 := bt_at a0 x4_3
             replace p19 := eq_true p19
             replace q19 := eq_true q19
             go_wp2
             go_roundg kj11
             case measure => have := HJ1.out; have := HJ9.out; have := HK3.out; have := HJ11.out; omega
             case rel => exact ⟨(wrap64 (x4_3 + 1)), er_, H', ⟨by have := HJ1.out; have := HJ9.out; have := HK3.out; have := HJ11.out; omega⟩, dr_⟩
            exact absurd H (by simp)
           exact absurd H (by simp)
          replace c16 := Bool.eq_false_iff.mpr c16
          subst c16
          have H1 : (some 0) = some r := by rw [if_neg (show ¬ (false = true) by decide)] at H; exact H
          clear H
          have H := H1
          clear H1
          obtain rfl := Option.some.inj H
          go_wp2
          go_ret
          exact ⟨er_, dr_⟩
   exact absurd H (by simp)
mutual
def b_remark.j0 : Nat → ByteArray → Bool → Option (Int)
 | 0, _, _ => none
 | k + 1, x0, x21 => if x21 = true then (some 0) else (b_remark.l0 k x0 2)
def b_remark.l0 : Nat → ByteArray → Int → Option (Int)
 | 0, _, _ => none
 | k + 1, x0, x3 => if x3 < (x0.size : Int) then (if 1 < (x0.size : Int) then (if (bt x0 1) = 47 then (if 0 ≤ x3 then (b_remark.j2 k x0 x3 ((bt x0 x3) == 10)) else (none)) else (b_remark.j2 k x0 x3 false)) else (none)) else (if 1 < (x0.size : Int) then (if (bt x0 1) = 47 then (some (x0.size : Int)) else (some (-1))) else (none))
def b_remark.j2 : Nat → ByteArray → Int → Bool → Option (Int)
 | 0, _, _, _ => none
 | k + 1, x0, x3, x36 => if x36 = true then (some x3) else (if 1 < (x0.size : Int) then (if (bt x0 1) = 42 then (if x3 > 2 then (if 0 ≤ x3 then (if x3 < (x0.size : Int) then (if (bt x0 x3) = 47 then (if 0 ≤ (wrap64 (x3 - 1)) then (if (wrap64 (x3 - 1)) < (x0.size : Int) then (if (bt x0 (wrap64 (x3 - 1))) = 42 then (some (wrap64 (x3 + 1))) else (b_remark.l0 k x0 (wrap64 (x3 + 1)))) else (none)) else (none)) else (b_remark.l0 k x0 (wrap64 (x3 + 1)))) else (none)) else (none)) else (b_remark.l0 k x0 (wrap64 (x3 + 1)))) else (b_remark.l0 k x0 (wrap64 (x3 + 1)))) else (none))
end
def b_remark.f (k : Nat) (a0 : ByteArray) : Option (Int) := if (a0.size : Int) < 2 then (b_remark.j0 k a0 true) else (if 0 < (a0.size : Int) then (if (bt a0 0) = 47 then (if 1 < (a0.size : Int) then (if (bt a0 1) = 47 then (b_remark.j0 k a0 false) else (b_remark.j0 k a0 ((bt a0 1) != 42))) else (none)) else (b_remark.j0 k a0 true)) else (none))
theorem b_remark.mono_l : ∀ k, (∀ y0 y1, LeO (b_remark.j0 k y0 y1) (b_remark.j0 (k + 1) y0 y1)) ∧ (∀ y0 y1, LeO (b_remark.l0 k y0 y1) (b_remark.l0 (k + 1) y0 y1)) ∧ (∀ y0 y1 y2, LeO (b_remark.j2 k y0 y1 y2) (b_remark.j2 (k + 1) y0 y1 y2))
 | 0 => ⟨fun _ _ r h => by simp [b_remark.j0] at h, fun _ _ r h => by simp [b_remark.l0] at h, fun _ _ _ r h => by simp [b_remark.j2] at h⟩
 | k + 1 => by
  obtain ⟨ih0, ih1, ih2⟩ := b_remark.mono_l k
  refine ⟨?_, ?_, ?_⟩
  ·intro y0 y1
   unfold b_remark.j0
   repeat' first
   | (with_reducible exact ih0 _ _)
   | (with_reducible exact ih1 _ _)
   | (with_reducible exact ih2 _ _ _)
   | (with_reducible exact LeO.refl _)
   | (with_reducible exact LeO.none _)
   | (with_reducible refine LeO.ite ?_ ?_)
   | (with_reducible refine LeO.bind ?_ (fun _ => ?_))
  ·intro y0 y1
   unfold b_remark.l0
   repeat' first
   | (with_reducible exact ih0 _ _)
   | (with_reducible exact ih1 _ _)
   | (with_reducible exact ih2 _ _ _)
   | (with_reducible exact LeO.refl _)
   | (with_reducible exact LeO.none _)
   | (with_reducible refine LeO.ite ?_ ?_)
   | (with_reducible refine LeO.bind ?_ (fun _ => ?_))
  intro y0 y1 y2
  unfold b_remark.j2
  repeat' first
  | (with_reducible exact ih0 _ _)
  | (with_reducible exact ih1 _ _)
  | (with_reducible exact ih2 _ _ _)
  | (with_reducible exact LeO.refl _)
  | (with_reducible exact LeO.none _)
  | (with_reducible refine LeO.ite ?_ ?_)
  | (with_reducible refine LeO.bind ?_ (fun _ => ?_))
theorem b_remark.mono : ∀ a0 k, LeO (b_remark.f k a0) (b_remark.f (k + 1) a0) := by
 intro a0 k
 obtain ⟨ih0, ih1, ih2⟩ := b_remark.mono_l k
 unfold b_remark.f
 repeat' first
   | (with_reducible exact ih0 _ _)
   | (with_reducible exact ih1 _ _)
   | (with_reducible exact ih2 _ _ _)
   | (with_reducible exact LeO.refl _)
   | (with_reducible exact LeO.none _)
   | (with_reducible refine LeO.ite ?_ ?_)
   | (with_reducible refine LeO.bind ?_ (fun _ => ?_))
theorem b_remark.calls (k : Nat) (a0 : ByteArray) (r : Int) (w : World) (h : b_remark.f k a0 = some r) :
  Calls Tryd.prog 87 #[.string a0] w fun e w' => e = .returned (.int .i64 r) ∧ Drawn0 w w' := by
 have H : (if (a0.size : Int) < 2 then (b_remark.j0 k a0 true) else (if 0 < (a0.size : Int) then (if (bt a0 0) = 47 then (if 1 < (a0.size : Int) then (if (bt a0 1) = 47 then (b_remark.j0 k a0 false) else (b_remark.j0 k a0 ((bt a0 1) != 42))) else (none)) else (b_remark.j0 k a0 true)) else (none))) = some r := h
 clear h
 have HC2 := Aside0.mk H
 clear H
 go_enter Tryd.func87, Tryd.ntmps87
 go_upto_region 1 with (fail)
 go_cut [21] (fun v21 wc => ∃ (kq : Nat) (x21_1 : Bool), v21 = .bool x21_1 ∧ Aside0 (b_remark.j0 kq a0 x21_1 = some r) ∧ Aside0 (kq ≤ k) ∧ Drawn0 w wc)
 case first =>
  have H := HC2.out
  clear HC2
  replace H := ib_ H
  obtain ⟨c3, H⟩ | ⟨c3, H⟩ := H
  ·have c3b0 := decide_eq_true c3
   have c3b1 : decide (a0.size < 2) = true := decide_eq_true (by omega)
   clear c3
   (first | rw [c3b0] | (simp only [i64_w, i32_w]; rw [c3b0]) | skip)
   have H' := Aside0.mk H
   clear H
   go_wp2
   go_meet
   case rel => exact ⟨_, (true), er_, H', ⟨om_⟩, dr_⟩
  have c3b0 := decide_eq_false c3
  have c3b1 : decide (a0.size < 2) = false := decide_eq_false (by omega)
  clear c3
  (first | rw [c3b0] | (simp only [i64_w, i32_w]; rw [c3b0]) | skip)
  replace H := ib_ H
  obtain ⟨c4, H⟩ | ⟨c4, H⟩ := H
  ·have c4b0 := decide_eq_true c4
   have c4b1 : decide (0 < a0.size) = true := decide_eq_true (by omega)
   clear c4
   replace H := ie_ H
   obtain ⟨c6b0, c6b1, H⟩ | ⟨c6b0, c6b1, c6, H⟩ := H
   ·replace H := ib_ H
    obtain ⟨c7, H⟩ | ⟨c7, H⟩ := H
    ·have c7b0 := decide_eq_true c7
     have c7b1 : decide (1 < a0.size) = true := decide_eq_true (by omega)
     clear c7
     replace H := ie_ H
     obtain ⟨c9b0, c9b1, H⟩ | ⟨c9b0, c9b1, c9, H⟩ := H
     ·have H' := Aside0.mk H
      clear H
      have p5 : 0 ≤ (0 : Int) := (by omega)
      have q5 : 0 < a0.size := (by have : (0 : Int) < (a0.size : Int) := da_; omega)
      have hx5 : ∀ h : 0 < a0.size, ((a0[0]'h).toNat : Int) = bt a0 0 := bt_at a0 0
      clear p5
      have qi5 : (0 < (a0.size : Int)) = True := eq_true da_
      replace q5 := eq_true q5
      have p8 : 0 ≤ (1 : Int) := (by omega)
      have q8 : 1 < a0.size := (by have : (1 : Int) < (a0.size : Int) := da_; omega)
      have hx8 : ∀ h : 1 < a0.size, ((a0[1]'h).toNat : Int) = bt a0 1 := bt_at a0 1
      clear p8
      have qi8 : (1 < (a0.size : Int)) = True := eq_true da_
      replace q8 := eq_true q8
      go_wp2
      go_meet
      case rel => exact ⟨_, (false), er_, H', ⟨om_⟩, dr_⟩
     have H' := Aside0.mk H
     clear H
     have p5 : 0 ≤ (0 : Int) := (by omega)
     have q5 : 0 < a0.size := (by have : (0 : Int) < (a0.size : Int) := da_; omega)
     have hx5 : ∀ h : 0 < a0.size, ((a0[0]'h).toNat : Int) = bt a0 0 := bt_at a0 0
     clear p5
     have qi5 : (0 < (a0.size : Int)) = True := eq_true da_
     replace q5 := eq_true q5
     have p8 : 0 ≤ (1 : Int) := (by omega)
     have q8 : 1 < a0.size := (by have : (1 : Int) < (a0.size : Int) := da_; omega)
     have hx8 : ∀ h : 1 < a0.size, ((a0[1]'h).toNat : Int) = bt a0 1 := bt_at a0 1
     clear p8
     have qi8 : (1 < (a0.size : Int)) = True := eq_true da_
     replace q8 := eq_true q8
     have p10 : 0 ≤ (1 : Int) := (by omega)
     have q10 : 1 < a0.size := (by have : (1 : Int) < (a0.size : Int) := da_; omega)
     have hx10 : ∀ h : 1 < a0.size, ((a0[1]'h).toNat : Int) = bt a0 1 := bt_at a0 1
     clear p10
     have qi10 : (1 < (a0.size : Int)) = True := eq_true da_
     replace q10 := eq_true q10
     go_wp2
     go_meet
     case rel => exact ⟨_, (((bt a0 1) != 42)), er_, H', ⟨om_⟩, dr_⟩
    exact absurd H (by simp)
   have H' := Aside0.mk H
   clear H
   have p5 : 0 ≤ (0 : Int) := (by omega)
   have q5 : 0 < a0.size := (by have : (0 : Int) < (a0.size : Int) := da_; omega)
   have hx5 : ∀ h : 0 < a0.size, ((a0[0]'h).toNat : Int) = bt a0 0 := bt_at a0 0
   clear p5
   have qi5 : (0 < (a0.size : Int)) = True := eq_true da_
   replace q5 := eq_true q5
   go_wp2
   go_meet
   case rel => exact ⟨_, (true), er_, H', ⟨om_⟩, dr_⟩
  exact absurd H (by simp)
 case rest =>
  clear HC2
  try clear c3
  try clear c3b0
  try clear c3b1
  try clear c4
  try clear c4b0
  try clear c4b1
  try clear p5
  try clear q5
  try clear hx5
  try clear qi5
  try clear c6
  try clear c6b0
  try clear c6b1
  try clear c7
  try clear c7b0
  try clear c7b1
  try clear p8
  try clear q8
  try clear hx8
  try clear qi8
  try clear c9
  try clear c9b0
  try clear c9b1
  try clear p10
  try clear q10
  try clear hx10
  try clear qi10
  try clear p10
  try clear p5
  try clear p8
  try clear q10
  try clear q5
  try clear q8
  obtain ⟨kq, x21_1, rfl, HA, HJ1, ⟨mc1, rfl⟩⟩ := hcut
  cases kq with
  | zero => exact absurd HA.out (by simp [b_remark.j0])
  | succ kj1 =>
   have H := HA.out
   clear HA
   simp only [b_remark.j0] at H
   by_cases c11 : x21_1 = true
   ·subst c11
    have H1 : (some 0) = some r := by rw [if_pos rfl] at H; exact H
    clear H
    have H := H1
    clear H1
    obtain rfl := Option.some.inj H
    go_wp2
    go_ret
    exact ⟨er_, dr_⟩
   replace c11 := Bool.eq_false_iff.mpr c11
   subst c11
   have H1 : (b_remark.l0 kj1 a0 2) = some r := by rw [if_neg (show ¬ (false = true) by decide)] at H; exact H
   clear H
   have H := H1
   clear H1
   have H' := Aside0.mk H
   clear H
   go_wp2
   go_loopg [3] kj1 (fun kq v3 w' => ∃ (x3_2 : Int), v3 = .int .i64 x3_2 ∧ Aside0 (b_remark.l0 kq a0 x3_2 = some r) ∧ Aside0 (kq ≤ kj1) ∧ Drawn0 w w')
   case atStart => exact ⟨(2), er_, H', ⟨Nat.le_refl _⟩, dr_⟩
   case round =>
    clear H'
    try clear c3
    try clear c3b0
    try clear c3b1
    try clear c4
    try clear c4b0
    try clear c4b1
    try clear p5
    try clear q5
    try clear hx5
    try clear qi5
    try clear c6
    try clear c6b0
    try clear c6b1
    try clear c7
    try clear c7b0
    try clear c7b1
    try clear p8
    try clear q8
    try clear hx8
    try clear qi8
    try clear c9
    try clear c9b0
    try clear c9b1
    try clear p10
    try clear q10
    try clear hx10
    try clear qi10
    try clear c11
    try clear p10
    try clear p5
    try clear p8
    try clear q10
    try clear q5
    try clear q8
    obtain ⟨x3_2, rfl, HA, HK2, ⟨m2, rfl⟩⟩ := hrel
    cases gk with
    | zero => exact absurd HA.out (by simp [b_remark.l0])
    | succ k2 =>
     have H := HA.out
     clear HA
     simp only [b_remark.l0] at H
     replace H := ib_ H
     obtain ⟨c12, H⟩ | ⟨c12, H⟩ := H
     ·have c12b0 := decide_eq_true c12
      clear c12
      have HC13 := Aside0.mk H
      clear H
      go_upto_region 6 with (fail)
      go_cut [36] (fun v36 wc => ∃ (kq : Nat) (x36_12 : Bool), v36 = .bool x36_12 ∧ Aside0 (b_remark.j2 kq a0 x3_2 x36_12 = some r) ∧ Aside0 (kq ≤ k2) ∧ Drawn0 w wc)
      case first =>
       have H := HC13.out
       clear HC13
       replace H := ib_ H
       obtain ⟨c14, H⟩ | ⟨c14, H⟩ := H
       ·have c14b0 := decide_eq_true c14
        have c14b1 : decide (1 < a0.size) = true := decide_eq_true (by omega)
        clear c14
        (first | rw [c14b0] | (simp only [i64_w, i32_w]; rw [c14b0]) | skip)
        replace H := ie_ H
        obtain ⟨c16b0, c16b1, H⟩ | ⟨c16b0, c16b1, c16, H⟩ := H
        ·replace H := id_ H
         obtain ⟨-, c17b0, H⟩ | ⟨-, -, H⟩ := H
         ·have H' := Aside0.mk H
          clear H
          have p15 : 0 ≤ (1 : Int) := (by omega)
          have q15 : 1 < a0.size := (by have : (1 : Int) < (a0.size : Int) := da_; omega)
          have hx15 : ∀ h : 1 < a0.size, ((a0[1]'h).toNat : Int) = bt a0 1 := bt_at a0 1
          clear p15
          have qi15 : (1 < (a0.size : Int)) = True := eq_true da_
          replace q15 := eq_true q15
          have p18 : 0 ≤ (x3_2 : Int) := da_
          have q18 : x3_2 < (a0.size : Int) := da_
          have hx18 := bt_at a0 x3_2
          replace p18 := eq_true p18
          replace q18 := eq_true q18
          go_wp2
          go_meet
          case rel => exact ⟨_, (((bt a0 x3_2) == 10)), er_, H', ⟨by have := HJ1.out; have := HK2.out; first | omega | exact Nat.le_refl _⟩, dr_⟩
         exact absurd H (by simp)
        have H' := Aside0.mk H
        clear H
        have p15 : 0 ≤ (1 : Int) := (by omega)
        have q15 : 1 < a0.size := (by have : (1 : Int) < (a0.size : Int) := da_; omega)
        have hx15 : ∀ h : 1 < a0.size, ((a0[1]'h).toNat : Int) = bt a0 1 := bt_at a0 1
        clear p15
        have qi15 : (1 < (a0.size : Int)) = True := eq_true da_
        replace q15 := eq_true q15
        go_wp2
        go_meet
        case rel => exact ⟨_, (false), er_, H', ⟨by have := HJ1.out; have := HK2.out; first | omega | exact Nat.le_refl _⟩, dr_⟩
       exact absurd H (by simp)
      case rest =>
       clear HC13
       try clear c3
       try clear c3b0
       try clear c3b1
       try clear c4
       try clear c4b0
       try clear c4b1
       try clear p5
       try clear q5
       try clear hx5
       try clear qi5
       try clear c6
       try clear c6b0
       try clear c6b1
       try clear c7
       try clear c7b0
       try clear c7b1
       try clear p8
       try clear q8
       try clear hx8
       try clear qi8
       try clear c9
       try clear c9b0
       try clear c9b1
       try clear p10
       try clear q10
       try clear hx10
       try clear qi10
       try clear c11
       try clear c12
       try clear c12b0
       try clear c14
       try clear c14b0
       try clear c14b1
       try clear p15
       try clear q15
       try clear hx15
       try clear qi15
       try clear c16
       try clear c16b0
       try clear c16b1
       try clear c17b0
       try clear p18
       try clear q18
       try clear hx18
       try clear p10
       try clear p15
       try clear p18
       try clear p5
       try clear p8
       try clear q10
       try clear q15
       try clear q18
       try clear q5
       try clear q8
       obtain ⟨kq, x36_12, rfl, HA, HJ12, ⟨mc12, rfl⟩⟩ := hcut
       cases kq with
       | zero => exact absurd HA.out (by simp [b_remark.j2])
       | succ kj12 =>
        have H := HA.out
        clear HA
        simp only [b_remark.j2] at H
        by_cases c19 : x36_12 = true
        ·subst c19
         have H1 : (some x3_2) = some r := by rw [if_pos rfl] at H; exact H
         clear H
         have H := H1
         clear H1
         obtain rfl := Option.some.inj H
         go_wp2
         go_ret
         exact ⟨er_, dr_⟩
        replace c19 := Bool.eq_false_iff.mpr c19
        subst c19
        have H1 : (if 1 < (a0.size : Int) then (if (bt a0 1) = 42 then (if x3_2 > 2 then (if 0 ≤ x3_2 then (if x3_2 < (a0.size : Int) then (if (bt a0 x3_2) = 47 then (if 0 ≤ (wrap64 (x3_2 - 1)) then (if (wrap64 (x3_2 - 1)) < (a0.size : Int) then (if (bt a0 (wrap64 (x3_2 - 1))) = 42 then (some (wrap64 (x3_2 + 1))) else (b_remark.l0 kj12 a0 (wrap64 (x3_2 + 1)))) else (none)) else (none)) else (b_remark.l0 kj12 a0 (wrap64 (x3_2 + 1)))) else (none)) else (none)) else (b_remark.l0 kj12 a0 (wrap64 (x3_2 + 1)))) else (b_remark.l0 kj12 a0 (wrap64 (x3_2 + 1)))) else (none)) = some r := by rw [if_neg (show ¬ (false = true) by decide)] at H; exact H
        clear H
        have H := H1
        clear H1
        replace H := ib_ H
        obtain ⟨c20, H⟩ | ⟨c20, H⟩ := H
        ·have c20b0 := decide_eq_true c20
         have c20b1 : decide (1 < a0.size) = true := decide_eq_true (by omega)
         clear c20
         replace H := ie_ H
         obtain ⟨c22b0, c22b1, H⟩ | ⟨c22b0, c22b1, c22, H⟩ := H
         ·replace H := ib_ H
          obtain ⟨c23, H⟩ | ⟨c23, H⟩ := H
          ·have c23b0 : decide (2 < x3_2) = true := decide_eq_true c23
           clear c23
           replace H := id_ H
           obtain ⟨-, c24b0, H⟩ | ⟨-, -, H⟩ := H
           ·replace H := id_ H
            obtain ⟨-, c25b0, H⟩ | ⟨-, -, H⟩ := H
            ·replace H := ie_ H
             obtain ⟨c27b0, c27b1, H⟩ | ⟨c27b0, c27b1, c27, H⟩ := H
             ·obtain ⟨ji28, hji28⟩ : ∃ j_ : Int, (wrap64 (x3_2 - 1)) = j_ := ⟨_, rfl⟩
              replace H : (if 0 ≤ (ji28) then (if (ji28) < (a0.size : Int) then (if (bt a0 (ji28)) = 42 then (some (wrap64 (x3_2 + 1))) else (b_remark.l0 kj12 a0 (wrap64 (x3_2 + 1)))) else (none)) else (none)) = some r := by first | (rw [hji28] at H; exact H) | (simp only [hji28] at H ⊢; exact H)
              have hji28w : (IntKind.i64.wrap (x3_2 - 1)) = ji28 := (i64_w _).trans hji28
              replace H := id_ H
              obtain ⟨-, c29b0, H⟩ | ⟨-, -, H⟩ := H
              ·replace H := id_ H
               obtain ⟨-, c30b0, H⟩ | ⟨-, -, H⟩ := H
               ·replace H := ie_ H
                obtain ⟨c32b0, c32b1, H⟩ | ⟨c32b0, c32b1, c32, H⟩ := H
                ·obtain rfl := Option.some.inj H
                 have p21 : 0 ≤ (1 : Int) := (by omega)
                 have q21 : 1 < a0.size := (by have : (1 : Int) < (a0.size : Int) := da_; omega)
                 have hx21 : ∀ h : 1 < a0.size, ((a0[1]'h).toNat : Int) = bt a0 1 := bt_at a0 1
                 clear p21
                 have qi21 : (1 < (a0.size : Int)) = True := eq_true da_
                 replace q21 := eq_true q21
                 have p26 : 0 ≤ (x3_2 : Int) := da_
                 have q26 : x3_2 < (a0.size : Int) := da_
                 have hx26 := bt_at a0 x3_2
                 replace p26 := eq_true p26
                 replace q26 := eq_true q26
                 have p31 : 0 ≤ ((ji28) : Int) := da_
                 have q31 : (ji28) < (a0.size : Int) := da_
                 have hx31 := bt_at a0 (ji28)
                 replace p31 := eq_true p31
                 replace q31 := eq_true q31
                 go_wp2
                 go_ret
                 exact ⟨by first | rfl | (simp; done) | (simp only [← hji28] <;> (first | rfl | simp)) | (simp [*]; done), dr_⟩
                have H' := Aside0.mk H
                clear H
                have p21 : 0 ≤ (1 : Int) := (by omega)
                have q21 : 1 < a0.size := (by have : (1 : Int) < (a0.size : Int) := da_; omega)
                have hx21 : ∀ h : 1 < a0.size, ((a0[1]'h).toNat : Int) = bt a0 1 := bt_at a0 1
                clear p21
                have qi21 : (1 < (a0.size : Int)) = True := eq_true da_
                replace q21 := eq_true q21
                have p26 : 0 ≤ (x3_2 : Int) := da_
                have q26 : x3_2 < (a0.size : Int) := da_
                have hx26 := bt_at a0 x3_2
                replace p26 := eq_true p26
                replace q26 := eq_true q26
                have p31 : 0 ≤ ((ji28) : Int) := da_
                have q31 : (ji28) < (a0.size : Int) := da_
                have hx31 := bt_at a0 (ji28)
                replace p31 := eq_true p31
                replace q31 := eq_true q31
                go_wp2
                go_roundg kj12
                case measure => have := HJ1.out; have := HK2.out; have := HJ12.out; omega
                case rel => exact ⟨(wrap64 (x3_2 + 1)), er_, H', ⟨by have := HJ1.out; have := HK2.out; have := HJ12.out; omega⟩, dr_⟩
               exact absurd H (by simp)
              exact absurd H (by simp)
             have H' := Aside0.mk H
             clear H
             have p21 : 0 ≤ (1 : Int) := (by omega)
             have q21 : 1 < a0.size := (by have : (1 : Int) < (a0.size : Int) := da_; omega)
             have hx21 : ∀ h : 1 < a0.size, ((a0[1]'h).toNat : Int) = bt a0 1 := bt_at a0 1
             clear p21
             have qi21 : (1 < (a0.size : Int)) = True := eq_true da_
             replace q21 := eq_true q21
             have p26 : 0 ≤ (x3_2 : Int) := da_
             have q26 : x3_2 < (a0.size : Int) := da_
             have hx26 := bt_at a0 x3_2
             replace p26 := eq_true p26
             replace q26 := eq_true q26
             go_wp2
             go_roundg kj12
             case measure => have := HJ1.out; have := HK2.out; have := HJ12.out; omega
             case rel => exact ⟨(wrap64 (x3_2 + 1)), er_, H', ⟨by have := HJ1.out; have := HK2.out; have := HJ12.out; omega⟩, dr_⟩
            exact absurd H (by simp)
           exact absurd H (by simp)
          have c23b0 : decide (2 < x3_2) = false := decide_eq_false c23
          clear c23
          have H' := Aside0.mk H
          clear H
          have p21 : 0 ≤ (1 : Int) := (by omega)
          have q21 : 1 < a0.size := (by have : (1 : Int) < (a0.size : Int) := da_; omega)
          have hx21 : ∀ h : 1 < a0.size, ((a0[1]'h).toNat : Int) = bt a0 1 := bt_at a0 1
          clear p21
          have qi21 : (1 < (a0.size : Int)) = True := eq_true da_
          replace q21 := eq_true q21
          go_wp2
          go_roundg kj12
          case measure => have := HJ1.out; have := HK2.out; have := HJ12.out; omega
          case rel => exact ⟨(wrap64 (x3_2 + 1)), er_, H', ⟨by have := HJ1.out; have := HK2.out; have := HJ12.out; omega⟩, dr_⟩
         have H' := Aside0.mk H
         clear H
         have p21 : 0 ≤ (1 : Int) := (by omega)
         have q21 : 1 < a0.size := (by have : (1 : Int) < (a0.size : Int) := da_; omega)
         have hx21 : ∀ h : 1 < a0.size, ((a0[1]'h).toNat : Int) = bt a0 1 := bt_at a0 1
         clear p21
         have qi21 : (1 < (a0.size : Int)) = True := eq_true da_
         replace q21 := eq_true q21
         go_wp2
         go_roundg kj12
         case measure => have := HJ1.out; have := HK2.out; have := HJ12.out; omega
         case rel => exact ⟨(wrap64 (x3_2 + 1)), er_, H', ⟨by have := HJ1.out; have := HK2.out; have := HJ12.out; omega⟩, dr_⟩
        exact absurd H (by simp)
     have c12b0 := decide_eq_false c12
     clear c12
     replace H := ib_ H
     obtain ⟨c33, H⟩ | ⟨c33, H⟩ := H
     ·have c33b0 := decide_eq_true c33
      have c33b1 : decide (1 < a0.size) = true := decide_eq_true (by omega)
      clear c33
      replace H := ie_ H
      obtain ⟨c35b0, c35b1, H⟩ | ⟨c35b0, c35b1, c35, H⟩ := H
      ·obtain rfl := Option.some.inj H
       have p34 : 0 ≤ (1 : Int) := (by omega)
       have q34 : 1 < a0.size := (by have : (1 : Int) < (a0.size : Int) := da_; omega)
       have hx34 : ∀ h : 1 < a0.size, ((a0[1]'h).toNat : Int) = bt a0 1 := bt_at a0 1
       clear p34
       have qi34 : (1 < (a0.size : Int)) = True := eq_true da_
       replace q34 := eq_true q34
       go_wp2
       go_ret
       exact ⟨er_, dr_⟩
      obtain rfl := Option.some.inj H
      have p34 : 0 ≤ (1 : Int) := (by omega)
      have q34 : 1 < a0.size := (by have : (1 : Int) < (a0.size : Int) := da_; omega)
      have hx34 : ∀ h : 1 < a0.size, ((a0[1]'h).toNat : Int) = bt a0 1 := bt_at a0 1
      clear p34
      have qi34 : (1 < (a0.size : Int)) = True := eq_true da_
      replace q34 := eq_true q34
      go_wp2
      go_ret
      exact ⟨er_, dr_⟩
     exact absurd H (by simp)
def b_letter.f (a0 : Int) : Option (Bool) := if a0 = 95 then (some true) else (if a0 ≥ 97 then (if a0 ≤ 122 then (some true) else (if a0 ≥ 65 then (some (decide (a0 ≤ 90))) else (some false))) else (if a0 ≥ 65 then (some (decide (a0 ≤ 90))) else (some false)))
theorem b_letter.calls (a0 : Int) (r : Bool) (w : World) (h : b_letter.f a0 = some r) :
  Calls Tryd.prog 104 #[.int .u8 a0] w fun e w' => e = .returned (.bool r) ∧ Drawn0 w w' := by
 have H : (if a0 = 95 then (some true) else (if a0 ≥ 97 then (if a0 ≤ 122 then (some true) else (if a0 ≥ 65 then (some (decide (a0 ≤ 90))) else (some false))) else (if a0 ≥ 65 then (some (decide (a0 ≤ 90))) else (some false)))) = some r := h
 clear h
 replace H := ie_ H
 obtain ⟨c2b0, c2b1, H⟩ | ⟨c2b0, c2b1, c2, H⟩ := H
 ·obtain rfl := Option.some.inj H
  go_enter Tryd.func104, Tryd.ntmps104
  go_wp2
  go_ret
  exact ⟨er_, dr_⟩
 replace H := ib_ H
 obtain ⟨c3, H⟩ | ⟨c3, H⟩ := H
 ·have c3b0 : decide (97 ≤ a0) = true := decide_eq_true c3
  clear c3
  replace H := id_ H
  obtain ⟨-, c4b0, H⟩ | ⟨-, c4b0, H⟩ := H
  ·obtain rfl := Option.some.inj H
   go_enter Tryd.func104, Tryd.ntmps104
   go_wp2
   go_ret
   exact ⟨er_, dr_⟩
  replace H := ib_ H
  obtain ⟨c5, H⟩ | ⟨c5, H⟩ := H
  ·have c5b0 : decide (65 ≤ a0) = true := decide_eq_true c5
   clear c5
   obtain rfl := Option.some.inj H
   go_enter Tryd.func104, Tryd.ntmps104
   go_wp2
   go_ret
   exact ⟨er_, dr_⟩
  have c5b0 : decide (65 ≤ a0) = false := decide_eq_false c5
  clear c5
  obtain rfl := Option.some.inj H
  go_enter Tryd.func104, Tryd.ntmps104
  go_wp2
  go_ret
  exact ⟨er_, dr_⟩
 have c3b0 : decide (97 ≤ a0) = false := decide_eq_false c3
 clear c3
 replace H := ib_ H
 obtain ⟨c6, H⟩ | ⟨c6, H⟩ := H
 ·have c6b0 : decide (65 ≤ a0) = true := decide_eq_true c6
  clear c6
  obtain rfl := Option.some.inj H
  go_enter Tryd.func104, Tryd.ntmps104
  go_wp2
  go_ret
  exact ⟨er_, dr_⟩
 have c6b0 : decide (65 ≤ a0) = false := decide_eq_false c6
 clear c6
 obtain rfl := Option.some.inj H
 go_enter Tryd.func104, Tryd.ntmps104
 go_wp2
 go_ret
 exact ⟨er_, dr_⟩
def b_digit.f (a0 : Int) : Option (Bool) := if a0 ≥ 48 then (some (decide (a0 ≤ 57))) else (some false)
theorem b_digit.calls (a0 : Int) (r : Bool) (w : World) (h : b_digit.f a0 = some r) :
  Calls Tryd.prog 105 #[.int .u8 a0] w fun e w' => e = .returned (.bool r) ∧ Drawn0 w w' := by
 have H : (if a0 ≥ 48 then (some (decide (a0 ≤ 57))) else (some false)) = some r := h
 clear h
 replace H := ib_ H
 obtain ⟨c2, H⟩ | ⟨c2, H⟩ := H
 ·have c2b0 : decide (48 ≤ a0) = true := decide_eq_true c2
  clear c2
  obtain rfl := Option.some.inj H
  go_enter Tryd.func105, Tryd.ntmps105
  go_wp2
  go_ret
  exact ⟨er_, dr_⟩
 have c2b0 : decide (48 ≤ a0) = false := decide_eq_false c2
 clear c2
 obtain rfl := Option.some.inj H
 go_enter Tryd.func105, Tryd.ntmps105
 go_wp2
 go_ret
 exact ⟨er_, dr_⟩
end Go.Proofs.YtcdleippdegibaaDoor.PR
