import Derived.Test.YtcdleippdegibaaDoorXM3
import Derived.Test.YtcdleippdegibaaDoorXM1
import Derived.Test.YtcdleippdegibaaDoorXM2
import Derived.Test.YtcdleippdegibaaDoorXM0
import Derived.Test.YtcdleippdegibaaDoorProg
import Derived.Below
import Derived.Deep.Draws
import Derived.Deep.AppendLies
import Derived.Maps.AppendAt
import Derived.OwnWalk
import Derived.Laws.BytesArg
import Derived.Laws.MakeOwn
import Derived.Laws.OwnMore
import Derived.Deep.OwnRows
import Derived.Tactics
import Derived.Lib.ConvBytes
import Derived.Laws.Slices
import Derived.WalkKit
import Derived.KernelRfl
import Derived.RowKit3
import Derived.Deep.LoopGhost
import Derived.Deep.QuietTactic
import Derived.BigQuiet
import Derived.WideLaws
import Derived.Deep.DeepCutAuto
import Derived.Deep.CutBlock
import Derived.Deep.RegionHeld3
import Derived.Laws.Rows
import Derived.Lib.AppendStr
import Derived.ArgAppend
import Derived.Laws.IdiomCopy
import Derived.OrdersHeld
import Derived.Laws.BitsLemmas
import Derived.RowKit
set_option maxHeartbeats 8000000
set_option maxRecDepth 100000
set_option linter.unusedVariables false
set_option linter.unusedSimpArgs false
set_option linter.unusedSectionVars false
namespace Go.Proofs.YtcdleippdegibaaDoor.PC
open Go.RowKit Go.Proofs.YtcdleippdegibaaDoorW.PrintWords Go.Proofs.YtcdleippdegibaaDoorW.PrintLast Go.Proofs.YtcdleippdegibaaDoorW.PrintMore
open Go.Proofs.YtcdleippdegibaaDoor.LibG (SH SH.below SH.drewN SH.drew SH.alloc)
open Go.Proofs.YtcdleippdegibaaDoor.PK
attribute [local go_sem] max2_int min2_int max_two min_two max_three min_three max_four min_four
mutual
def ctok_exponent.j0 : Nat → ByteArray → Bool → Option (Int)
 | 0, _, _ => none
 | k + 1, x0, x15 => if x15 = true then (some 0) else (if 1 < (x0.size : Int) then (if (bt x0 1) = 43 then (ctok_exponent.j1 k x0 1 true) else (ctok_exponent.j1 k x0 1 ((bt x0 1) == 45))) else (ctok_exponent.j1 k x0 1 false))
def ctok_exponent.j1 : Nat → ByteArray → Int → Bool → Option (Int)
 | 0, _, _, _ => none
 | k + 1, x0, x5, x31 => if x31 = true then (if 0 ≤ (wrap64 (x5 + 1)) then (if (wrap64 (x5 + 1)) ≤ (x0.size : Int) then ((Digits.ctok_run.f (x0.extract ((wrap64 (x5 + 1)) : Int).toNat x0.size) 10).bind fun t101 => (if t101 = 0 then (some 0) else (some (wrap64 ((wrap64 (x5 + 1)) + t101))))) else (none)) else (none)) else (if 0 ≤ x5 then (if x5 ≤ (x0.size : Int) then ((Digits.ctok_run.f (x0.extract (x5 : Int).toNat x0.size) 10).bind fun t102 => (if t102 = 0 then (some 0) else (some (wrap64 (x5 + t102))))) else (none)) else (none))
end
def ctok_exponent.f (k : Nat) (a0 : ByteArray) (a1 : Int) : Option (Int) := if a0.toList = ([] : List UInt8) then (ctok_exponent.j0 k a0 true) else (if 0 < (a0.size : Int) then (ctok_exponent.j0 k a0 ((Go.bits .or .u8 (bt a0 0) 32) != a1)) else (none))
theorem ctok_exponent.mono_l : ∀ k, (∀ y0 y1, LeO (ctok_exponent.j0 k y0 y1) (ctok_exponent.j0 (k + 1) y0 y1)) ∧ (∀ y0 y1 y2, LeO (ctok_exponent.j1 k y0 y1 y2) (ctok_exponent.j1 (k + 1) y0 y1 y2))
 | 0 => ⟨fun _ _ r h => by simp [ctok_exponent.j0] at h, fun _ _ _ r h => by simp [ctok_exponent.j1] at h⟩
 | k + 1 => by
  obtain ⟨ih0, ih1⟩ := ctok_exponent.mono_l k
  refine ⟨?_, ?_⟩
  ·intro y0 y1
   unfold ctok_exponent.j0
   repeat' first
   | (with_reducible exact ih0 _ _)
   | (with_reducible exact ih1 _ _ _)
   | (with_reducible exact LeO.refl _)
   | (with_reducible exact LeO.none _)
   | (with_reducible refine LeO.ite ?_ ?_)
   | (with_reducible refine LeO.bind ?_ (fun _ => ?_))
  intro y0 y1 y2
  unfold ctok_exponent.j1
  repeat' first
  | (with_reducible exact ih0 _ _)
  | (with_reducible exact ih1 _ _ _)
  | (with_reducible exact LeO.refl _)
  | (with_reducible exact LeO.none _)
  | (with_reducible refine LeO.ite ?_ ?_)
  | (with_reducible refine LeO.bind ?_ (fun _ => ?_))
theorem ctok_exponent.mono : ∀ a0 a1 k, LeO (ctok_exponent.f k a0 a1) (ctok_exponent.f (k + 1) a0 a1) := by
 intro a0 a1 k
 obtain ⟨ih0, ih1⟩ := ctok_exponent.mono_l k
 unfold ctok_exponent.f
 repeat' first
   | (with_reducible exact ih0 _ _)
   | (with_reducible exact ih1 _ _ _)
   | (with_reducible exact LeO.refl _)
   | (with_reducible exact LeO.none _)
   | (with_reducible refine LeO.ite ?_ ?_)
   | (with_reducible refine LeO.bind ?_ (fun _ => ?_))
theorem ctok_exponent.calls (k : Nat) (a0 : ByteArray) (a1 : Int) (r : Int) (w : World) (h : ctok_exponent.f k a0 a1 = some r) :
  Calls Tryd.prog 33 #[.string a0, .int .u8 a1] w fun e w' => e = .returned (.int .i64 r) ∧ Below w.heap.size w w' := by
 have HB := Aside0.mk (Below.refl w.heap.size w)
 have H : (if a0.toList = ([] : List UInt8) then (ctok_exponent.j0 k a0 true) else (if 0 < (a0.size : Int) then (ctok_exponent.j0 k a0 ((Go.bits .or .u8 (bt a0 0) 32) != a1)) else (none))) = some r := h
 clear h
 have HC3 := Aside0.mk H
 clear H
 go_enter Tryd.func33, Tryd.ntmps33
 go_upto_region 1 with (fail)
 go_cut [15] (fun v15 wc => ∃ (kq : Nat) (x15_2 : Bool), v15 = .bool x15_2 ∧ Aside0 (ctok_exponent.j0 kq a0 x15_2 = some r) ∧ Aside0 (kq ≤ k) ∧ Aside0 (Below w.heap.size w wc))
 case first =>
  have H := HC3.out
  clear HC3
  replace H := ie_ H
  obtain ⟨c4b0, c4b1, H⟩ | ⟨c4b0, c4b1, c4, H⟩ := H
  ·(first | rw [c4b0] | (simp only [i64_w, i32_w]; rw [c4b0]) | skip)
   have H' := Aside0.mk H
   clear H
   go_wp2
   go_meet
   case rel => exact ⟨_, (true), er_, H', ⟨om_⟩, ⟨bl_⟩⟩
  (first | rw [c4b0] | (simp only [i64_w, i32_w]; rw [c4b0]) | skip)
  replace H := ib_ H
  obtain ⟨c5, H⟩ | ⟨c5, H⟩ := H
  ·have c5b0 := decide_eq_true c5
   have c5b1 : decide (0 < a0.size) = true := decide_eq_true (by omega)
   clear c5
   have H' := Aside0.mk H
   clear H
   have p6 : 0 ≤ (0 : Int) := (by omega)
   have q6 : 0 < a0.size := (by have : (0 : Int) < (a0.size : Int) := da_; omega)
   have hx6 : ∀ h : 0 < a0.size, ((a0[0]'h).toNat : Int) = bt a0 0 := bt_at a0 0
   clear p6
   have qi6 : (0 < (a0.size : Int)) = True := eq_true da_
   replace q6 := eq_true q6
   go_wp2
   go_meet
   case rel => exact ⟨_, (((Go.bits .or .u8 (bt a0 0) 32) != a1)), er_, H', ⟨om_⟩, ⟨bl_⟩⟩
  exact absurd H (by simp)
 case rest =>
  clear HC3
  try clear c4
  try clear c4b0
  try clear c4b1
  try clear c5
  try clear c5b0
  try clear c5b1
  try clear p6
  try clear q6
  try clear hx6
  try clear qi6
  try clear p6
  try clear q6
  obtain ⟨kq, x15_2, rfl, HA, HJ2, HB⟩ := hcut
  cases kq with
  | zero => exact absurd HA.out (by simp [ctok_exponent.j0])
  | succ kj2 =>
   have H := HA.out
   clear HA
   simp only [ctok_exponent.j0] at H
   by_cases c7 : x15_2 = true
   ·subst c7
    have H1 : (some 0) = some r := by rw [if_pos rfl] at H; exact H
    clear H
    have H := H1
    clear H1
    obtain rfl := Option.some.inj H
    go_wp2
    go_ret
    exact ⟨es_, bl_⟩
   replace c7 := Bool.eq_false_iff.mpr c7
   subst c7
   have H1 : (if 1 < (a0.size : Int) then (if (bt a0 1) = 43 then (ctok_exponent.j1 kj2 a0 1 true) else (ctok_exponent.j1 kj2 a0 1 ((bt a0 1) == 45))) else (ctok_exponent.j1 kj2 a0 1 false)) = some r := by rw [if_neg (show ¬ (false = true) by decide)] at H; exact H
   clear H
   have H := H1
   clear H1
   have HC8 := Aside0.mk H
   clear H
   go_upto_region 4 with (fail)
   go_cut [31] (fun v31 wc => ∃ (kq : Nat) (x31_7 : Bool), v31 = .bool x31_7 ∧ Aside0 (ctok_exponent.j1 kq a0 1 x31_7 = some r) ∧ Aside0 (kq ≤ kj2) ∧ Aside0 (Below w.heap.size w wc))
   case first =>
    have H := HC8.out
    clear HC8
    replace H := ib_ H
    obtain ⟨c9, H⟩ | ⟨c9, H⟩ := H
    ·have c9b0 := decide_eq_true c9
     have c9b1 : decide (1 < a0.size) = true := decide_eq_true (by omega)
     clear c9
     (first | rw [c9b0] | (simp only [i64_w, i32_w]; rw [c9b0]) | skip)
     replace H := ie_ H
     obtain ⟨c11b0, c11b1, H⟩ | ⟨c11b0, c11b1, c11, H⟩ := H
     ·have H' := Aside0.mk H
      clear H
      have p10 : 0 ≤ (1 : Int) := (by omega)
      have q10 : 1 < a0.size := (by have : (1 : Int) < (a0.size : Int) := da_; omega)
      have hx10 : ∀ h : 1 < a0.size, ((a0[1]'h).toNat : Int) = bt a0 1 := bt_at a0 1
      clear p10
      have qi10 : (1 < (a0.size : Int)) = True := eq_true da_
      replace q10 := eq_true q10
      go_wp2
      go_meet
      case rel => exact ⟨_, (true), er_, H', ⟨by have := HJ2.out; first | omega | exact Nat.le_refl _⟩, ⟨bl_⟩⟩
     have H' := Aside0.mk H
     clear H
     have p10 : 0 ≤ (1 : Int) := (by omega)
     have q10 : 1 < a0.size := (by have : (1 : Int) < (a0.size : Int) := da_; omega)
     have hx10 : ∀ h : 1 < a0.size, ((a0[1]'h).toNat : Int) = bt a0 1 := bt_at a0 1
     clear p10
     have qi10 : (1 < (a0.size : Int)) = True := eq_true da_
     replace q10 := eq_true q10
     have p12 : 0 ≤ (1 : Int) := (by omega)
     have q12 : 1 < a0.size := (by have : (1 : Int) < (a0.size : Int) := da_; omega)
     have hx12 : ∀ h : 1 < a0.size, ((a0[1]'h).toNat : Int) = bt a0 1 := bt_at a0 1
     clear p12
     have qi12 : (1 < (a0.size : Int)) = True := eq_true da_
     replace q12 := eq_true q12
     go_wp2
     go_meet
     case rel => exact ⟨_, (((bt a0 1) == 45)), er_, H', ⟨by have := HJ2.out; first | omega | exact Nat.le_refl _⟩, ⟨bl_⟩⟩
    have c9b0 := decide_eq_false c9
    have c9b1 : decide (1 < a0.size) = false := decide_eq_false (by omega)
    clear c9
    (first | rw [c9b0] | (simp only [i64_w, i32_w]; rw [c9b0]) | skip)
    have H' := Aside0.mk H
    clear H
    go_wp2
    go_meet
    case rel => exact ⟨_, (false), er_, H', ⟨by have := HJ2.out; first | omega | exact Nat.le_refl _⟩, ⟨bl_⟩⟩
   case rest =>
    clear HC8
    try clear c4
    try clear c4b0
    try clear c4b1
    try clear c5
    try clear c5b0
    try clear c5b1
    try clear p6
    try clear q6
    try clear hx6
    try clear qi6
    try clear c7
    try clear c9
    try clear c9b0
    try clear c9b1
    try clear p10
    try clear q10
    try clear hx10
    try clear qi10
    try clear c11
    try clear c11b0
    try clear c11b1
    try clear p12
    try clear q12
    try clear hx12
    try clear qi12
    try clear p10
    try clear p12
    try clear p6
    try clear q10
    try clear q12
    try clear q6
    obtain ⟨kq, x31_7, rfl, HA, HJ7, HB⟩ := hcut
    cases kq with
    | zero => exact absurd HA.out (by simp [ctok_exponent.j1])
    | succ kj7 =>
     have H := HA.out
     clear HA
     simp only [ctok_exponent.j1] at H
     by_cases c13 : x31_7 = true
     ·subst c13
      have H1 : (if 0 ≤ (wrap64 (1 + 1)) then (if (wrap64 (1 + 1)) ≤ (a0.size : Int) then ((Digits.ctok_run.f (a0.extract ((wrap64 (1 + 1)) : Int).toNat a0.size) 10).bind fun t101 => (if t101 = 0 then (some 0) else (some (wrap64 ((wrap64 (1 + 1)) + t101))))) else (none)) else (none)) = some r := by rw [if_pos rfl] at H; exact H
      clear H
      have H := H1
      clear H1
      have hji14 : (wrap64 (1 + 1)) = 2 := by unfold wrap64; omega
      replace H : (if 0 ≤ (2) then (if (2) ≤ (a0.size : Int) then ((Digits.ctok_run.f (a0.extract ((2) : Int).toNat a0.size) 10).bind fun t101 => (if t101 = 0 then (some 0) else (some (wrap64 ((2) + t101))))) else (none)) else (none)) = some r := by first | (rw [hji14] at H; exact H) | (simp only [hji14] at H ⊢; exact H)
      have hji14w : (IntKind.i64.wrap (1 + 1)) = 2 := (i64_w _).trans hji14
      replace H := id_ H
      obtain ⟨c15b0, c15b1, H⟩ | ⟨-, -, H⟩ := H
      ·replace H := id_ H
       obtain ⟨c16b0, c16b1, H⟩ | ⟨-, -, H⟩ := H
       ·replace H := Option.bind_eq_some_iff.mp H
        obtain ⟨t101, A170, H⟩ := H
        replace H : (if t101 = 0 then (some 0) else (some (wrap64 ((2) + t101)))) = some r := H
        have A17 := Aside0.mk A170
        clear A170
        replace H := ie_ H
        obtain ⟨c18b0, c18b1, H⟩ | ⟨c18b0, c18b1, c18, H⟩ := H
        ·obtain rfl := Option.some.inj H
         go_wp2_with (first | ((with_reducible refine gate_callee (f := 32) rfl ?_); refine goesL_ (some 37) rfl rfl Tryd.func32 (by kernel_rfl) rfl #[.string (a0.extract ((2) : Int).toNat a0.size), .int .i64 10] rfl (by (try simp only [List.map_toArray, List.map_cons, List.map_nil]); first | done | (simp only [hji14]; rfl) | rfl | (simp only [List.length_drop, List.length_take]; rfl)) ?_; (with_reducible refine (Digits.ctok_run.calls (a0.extract ((2) : Int).toNat a0.size) 10 t101 _ A17.out).mono ?_); rintro e w19 ⟨rfl, hb⟩; refine ⟨_, rfl, ?_⟩; have n0_ := Aside0.mk (below_step bl_ hb); clear HB; have HB := n0_; clear n0_; (try clear hb); (try clear hb2); (try clear hk); (try clear hi)))
         go_ret
         exact ⟨by first | rfl | (simp [errW_none, errW_some] <;> rfl) | (simp only [← hji14]; first | rfl | (simp [errW_none, errW_some] <;> rfl)) | (simp [*, errW_none, errW_some] <;> rfl), bl_⟩
        obtain rfl := Option.some.inj H
        go_wp2_with (first | ((with_reducible refine gate_callee (f := 32) rfl ?_); refine goesL_ (some 37) rfl rfl Tryd.func32 (by kernel_rfl) rfl #[.string (a0.extract ((2) : Int).toNat a0.size), .int .i64 10] rfl (by (try simp only [List.map_toArray, List.map_cons, List.map_nil]); first | done | (simp only [hji14]; rfl) | rfl | (simp only [List.length_drop, List.length_take]; rfl)) ?_; (with_reducible refine (Digits.ctok_run.calls (a0.extract ((2) : Int).toNat a0.size) 10 t101 _ A17.out).mono ?_); rintro e w20 ⟨rfl, hb⟩; refine ⟨_, rfl, ?_⟩; have n0_ := Aside0.mk (below_step bl_ hb); clear HB; have HB := n0_; clear n0_; (try clear hb); (try clear hb2); (try clear hk); (try clear hi)))
        go_ret
        exact ⟨by first | rfl | (simp [errW_none, errW_some] <;> rfl) | (simp only [← hji14]; first | rfl | (simp [errW_none, errW_some] <;> rfl)) | (simp [*, errW_none, errW_some] <;> rfl), bl_⟩
       exact absurd H (by simp)
      exact absurd H (by simp)
     replace c13 := Bool.eq_false_iff.mpr c13
     subst c13
     have H1 : (if 0 ≤ 1 then (if 1 ≤ (a0.size : Int) then ((Digits.ctok_run.f (a0.extract (1 : Int).toNat a0.size) 10).bind fun t102 => (if t102 = 0 then (some 0) else (some (wrap64 (1 + t102))))) else (none)) else (none)) = some r := by rw [if_neg (show ¬ (false = true) by decide)] at H; exact H
     clear H
     have H := H1
     clear H1
     replace H := id_ H
     obtain ⟨c21b0, c21b1, H⟩ | ⟨-, -, H⟩ := H
     ·replace H := id_ H
      obtain ⟨c22b0, c22b1, H⟩ | ⟨-, -, H⟩ := H
      ·replace H := Option.bind_eq_some_iff.mp H
       obtain ⟨t102, A230, H⟩ := H
       replace H : (if t102 = 0 then (some 0) else (some (wrap64 (1 + t102)))) = some r := H
       have A23 := Aside0.mk A230
       clear A230
       replace H := ie_ H
       obtain ⟨c24b0, c24b1, H⟩ | ⟨c24b0, c24b1, c24, H⟩ := H
       ·obtain rfl := Option.some.inj H
        go_wp2_with (first | ((with_reducible refine gate_callee (f := 32) rfl ?_); refine goesL_ (some 37) rfl rfl Tryd.func32 (by kernel_rfl) rfl #[.string (a0.extract (1 : Int).toNat a0.size), .int .i64 10] rfl ar_ ?_; (with_reducible refine (Digits.ctok_run.calls (a0.extract (1 : Int).toNat a0.size) 10 t102 _ A23.out).mono ?_); rintro e w25 ⟨rfl, hb⟩; refine ⟨_, rfl, ?_⟩; have n0_ := Aside0.mk (below_step bl_ hb); clear HB; have HB := n0_; clear n0_; (try clear hb); (try clear hb2); (try clear hk); (try clear hi)))
        go_ret
        exact ⟨es_, bl_⟩
       obtain rfl := Option.some.inj H
       go_wp2_with (first | ((with_reducible refine gate_callee (f := 32) rfl ?_); refine goesL_ (some 37) rfl rfl Tryd.func32 (by kernel_rfl) rfl #[.string (a0.extract (1 : Int).toNat a0.size), .int .i64 10] rfl ar_ ?_; (with_reducible refine (Digits.ctok_run.calls (a0.extract (1 : Int).toNat a0.size) 10 t102 _ A23.out).mono ?_); rintro e w26 ⟨rfl, hb⟩; refine ⟨_, rfl, ?_⟩; have n0_ := Aside0.mk (below_step bl_ hb); clear HB; have HB := n0_; clear n0_; (try clear hb); (try clear hb2); (try clear hk); (try clear hi)))
       go_ret
       exact ⟨es_, bl_⟩
      exact absurd H (by simp)
     exact absurd H (by simp)
mutual
def ctok_Float.j0 : Nat → Int → Int → ByteArray → Option (Bool)
 | 0, _, _, _ => none
 | k + 1, x3, x4, x5 => (Digits.ctok_run.f x5 x3).bind fun t104 => (if t104 < (x5.size : Int) then (if 0 ≤ t104 then (ctok_Float.j1 k x3 x4 x5 t104 ((bt x5 t104) == 46)) else (none)) else (ctok_Float.j1 k x3 x4 x5 t104 false))
def ctok_Float.j1 : Nat → Int → Int → ByteArray → Int → Bool → Option (Bool)
 | 0, _, _, _, _, _ => none
 | k + 1, x3, x4, x5, x6, x7 => if 0 ≤ x6 then (if x6 ≤ (x5.size : Int) then (if x7 = true then (if 1 ≤ ((x5.extract (x6 : Int).toNat x5.size).size : Int) then ((Digits.ctok_run.f ((x5.extract (x6 : Int).toNat x5.size).extract 1 (x5.extract (x6 : Int).toNat x5.size).size) x3).bind fun t105 => (if 0 ≤ (wrap64 (1 + t105)) then (if (wrap64 (1 + t105)) ≤ ((x5.extract (x6 : Int).toNat x5.size).size : Int) then (ctok_Float.j2 k x3 x4 ((x5.extract (x6 : Int).toNat x5.size).extract ((wrap64 (1 + t105)) : Int).toNat (x5.extract (x6 : Int).toNat x5.size).size) (wrap64 (x6 + t105)) x7) else (none)) else (none))) else (none)) else (ctok_Float.j2 k x3 x4 (x5.extract (x6 : Int).toNat x5.size) x6 x7)) else (none)) else (none)
def ctok_Float.j2 : Nat → Int → Int → ByteArray → Int → Bool → Option (Bool)
 | 0, _, _, _, _, _ => none
 | k + 1, x3, x4, x5, x6, x7 => (ctok_exponent.f k x5 x4).bind fun t106 => (if x6 = 0 then (ctok_Float.j3 k x5 t106 true) else (if t106 = 0 then (if x7 = true then (ctok_Float.j3 k x5 t106 (x3 == 16)) else (ctok_Float.j3 k x5 t106 true)) else (ctok_Float.j3 k x5 t106 false)))
def ctok_Float.j3 : Nat → ByteArray → Int → Bool → Option (Bool)
 | 0, _, _, _ => none
 | k + 1, x5, x9, x59 => if x59 = true then (some false) else (if 0 ≤ x9 then (if x9 ≤ (x5.size : Int) then (if (x5.extract (x9 : Int).toNat x5.size).toList = ([] : List UInt8) then (some true) else (if (x5.extract (x9 : Int).toNat x5.size).toList = ([102] : List UInt8) then (some true) else (if (x5.extract (x9 : Int).toNat x5.size).toList = ([70] : List UInt8) then (some true) else (if (x5.extract (x9 : Int).toNat x5.size).toList = ([108] : List UInt8) then (some true) else (if (x5.extract (x9 : Int).toNat x5.size).toList = ([76] : List UInt8) then (some true) else (some false)))))) else (none)) else (none))
end
def ctok_Float.f (k : Nat) (a0 : ByteArray) : Option (Bool) := (PB.ctok_hexed.f a0).bind fun t103 => (if t103 = true then (if 2 ≤ (a0.size : Int) then (ctok_Float.j0 k 16 112 (a0.extract 2 a0.size)) else (none)) else (ctok_Float.j0 k 10 101 a0))
theorem ctok_Float.mono_l : ∀ k, (∀ y0 y1 y2, LeO (ctok_Float.j0 k y0 y1 y2) (ctok_Float.j0 (k + 1) y0 y1 y2)) ∧ (∀ y0 y1 y2 y3 y4, LeO (ctok_Float.j1 k y0 y1 y2 y3 y4) (ctok_Float.j1 (k + 1) y0 y1 y2 y3 y4)) ∧ (∀ y0 y1 y2 y3 y4, LeO (ctok_Float.j2 k y0 y1 y2 y3 y4) (ctok_Float.j2 (k + 1) y0 y1 y2 y3 y4)) ∧ (∀ y0 y1 y2, LeO (ctok_Float.j3 k y0 y1 y2) (ctok_Float.j3 (k + 1) y0 y1 y2))
 | 0 => ⟨fun _ _ _ r h => by simp [ctok_Float.j0] at h, fun _ _ _ _ _ r h => by simp [ctok_Float.j1] at h, fun _ _ _ _ _ r h => by simp [ctok_Float.j2] at h, fun _ _ _ r h => by simp [ctok_Float.j3] at h⟩
 | k + 1 => by
  obtain ⟨ih0, ih1, ih2, ih3⟩ := ctok_Float.mono_l k
  refine ⟨?_, ?_, ?_, ?_⟩
  ·intro y0 y1 y2
   unfold ctok_Float.j0
   repeat' first
   | (with_reducible exact ih0 _ _ _)
   | (with_reducible exact ih1 _ _ _ _ _)
   | (with_reducible exact ih2 _ _ _ _ _)
   | (with_reducible exact ih3 _ _ _)
   | (with_reducible exact ctok_exponent.mono _ _ _)
   | (with_reducible exact LeO.refl _)
   | (with_reducible exact LeO.none _)
   | (with_reducible refine LeO.ite ?_ ?_)
   | (with_reducible refine LeO.bind ?_ (fun _ => ?_))
  ·intro y0 y1 y2 y3 y4
   unfold ctok_Float.j1
   repeat' first
   | (with_reducible exact ih0 _ _ _)
   | (with_reducible exact ih1 _ _ _ _ _)
   | (with_reducible exact ih2 _ _ _ _ _)
   | (with_reducible exact ih3 _ _ _)
   | (with_reducible exact ctok_exponent.mono _ _ _)
   | (with_reducible exact LeO.refl _)
   | (with_reducible exact LeO.none _)
   | (with_reducible refine LeO.ite ?_ ?_)
   | (with_reducible refine LeO.bind ?_ (fun _ => ?_))
  ·intro y0 y1 y2 y3 y4
   unfold ctok_Float.j2
   repeat' first
   | (with_reducible exact ih0 _ _ _)
   | (with_reducible exact ih1 _ _ _ _ _)
   | (with_reducible exact ih2 _ _ _ _ _)
   | (with_reducible exact ih3 _ _ _)
   | (with_reducible exact ctok_exponent.mono _ _ _)
   | (with_reducible exact LeO.refl _)
   | (with_reducible exact LeO.none _)
   | (with_reducible refine LeO.ite ?_ ?_)
   | (with_reducible refine LeO.bind ?_ (fun _ => ?_))
  intro y0 y1 y2
  unfold ctok_Float.j3
  repeat' first
  | (with_reducible exact ih0 _ _ _)
  | (with_reducible exact ih1 _ _ _ _ _)
  | (with_reducible exact ih2 _ _ _ _ _)
  | (with_reducible exact ih3 _ _ _)
  | (with_reducible exact ctok_exponent.mono _ _ _)
  | (with_reducible exact LeO.refl _)
  | (with_reducible exact LeO.none _)
  | (with_reducible refine LeO.ite ?_ ?_)
  | (with_reducible refine LeO.bind ?_ (fun _ => ?_))
theorem ctok_Float.mono : ∀ a0 k, LeO (ctok_Float.f k a0) (ctok_Float.f (k + 1) a0) := by
 intro a0 k
 obtain ⟨ih0, ih1, ih2, ih3⟩ := ctok_Float.mono_l k
 unfold ctok_Float.f
 repeat' first
   | (with_reducible exact ih0 _ _ _)
   | (with_reducible exact ih1 _ _ _ _ _)
   | (with_reducible exact ih2 _ _ _ _ _)
   | (with_reducible exact ih3 _ _ _)
   | (with_reducible exact ctok_exponent.mono _ _ _)
   | (with_reducible exact LeO.refl _)
   | (with_reducible exact LeO.none _)
   | (with_reducible refine LeO.ite ?_ ?_)
   | (with_reducible refine LeO.bind ?_ (fun _ => ?_))
theorem ctok_Float.calls (k : Nat) (a0 : ByteArray) (r : Bool) (w : World) (h : ctok_Float.f k a0 = some r) :
  Calls Tryd.prog 15 #[.string a0] w fun e w' => e = .returned (.bool r) ∧ Below w.heap.size w w' := by
 have HB := Aside0.mk (Below.refl w.heap.size w)
 have H : ((PB.ctok_hexed.f a0).bind fun t103 => (if t103 = true then (if 2 ≤ (a0.size : Int) then (ctok_Float.j0 k 16 112 (a0.extract 2 a0.size)) else (none)) else (ctok_Float.j0 k 10 101 a0))) = some r := h
 clear h
 replace H := Option.bind_eq_some_iff.mp H
 obtain ⟨t103, A20, H⟩ := H
 replace H : (if t103 = true then (if 2 ≤ (a0.size : Int) then (ctok_Float.j0 k 16 112 (a0.extract 2 a0.size)) else (none)) else (ctok_Float.j0 k 10 101 a0)) = some r := H
 have A2 := Aside0.mk A20
 clear A20
 have HC3 := Aside0.mk H
 clear H
 go_enter Tryd.func15, Tryd.ntmps15
 go_upto_if 12 with (first | (go_at_call 31; (with_reducible refine (PB.ctok_hexed.calls a0 t103 _ A2.out).mono ?_); rintro e w' ⟨rfl, ⟨nd, rfl⟩⟩; (try first | exact ⟨rfl, _, World.drewN_drewN _ _ _⟩ | exact ⟨rfl, _, Eq.trans (World.drewN_drewN _ _ _) (congrArg (World.drewN _) (Nat.add_assoc _ _ _))⟩)))
 repeat (go_quiet (first | (go_at_call 31; (with_reducible refine (PB.ctok_hexed.calls a0 t103 _ A2.out).mono ?_); rintro e w' ⟨rfl, ⟨nd, rfl⟩⟩; (try first | exact ⟨rfl, _, World.drewN_drewN _ _ _⟩ | exact ⟨rfl, _, Eq.trans (World.drewN_drewN _ _ _) (congrArg (World.drewN _) (Nat.add_assoc _ _ _))⟩))); go_upto_if 12 with (first | (go_at_call 31; (with_reducible refine (PB.ctok_hexed.calls a0 t103 _ A2.out).mono ?_); rintro e w' ⟨rfl, ⟨nd, rfl⟩⟩; (try first | exact ⟨rfl, _, World.drewN_drewN _ _ _⟩ | exact ⟨rfl, _, Eq.trans (World.drewN_drewN _ _ _) (congrArg (World.drewN _) (Nat.add_assoc _ _ _))⟩))))
 (try simp only [Act.put, List.setIfInBounds_toArray, List.set_cons_zero, List.set_cons_succ])
 go_cut [3, 4, 5] (fun v3 v4 v5 wc => ∃ (kq : Nat) (x3_2 : Int) (x4_2 : Int) (x5_2 : ByteArray), v3 = .int .i64 x3_2 ∧ v4 = .int .u8 x4_2 ∧ v5 = .string x5_2 ∧ Aside0 (ctok_Float.j0 kq x3_2 x4_2 x5_2 = some r) ∧ Aside0 (kq ≤ k) ∧ Aside0 (Below w.heap.size w wc))
 case first =>
  have H := HC3.out
  clear HC3
  by_cases c4 : t103 = true
  ·subst c4
   have H1 : (if 2 ≤ (a0.size : Int) then (ctok_Float.j0 k 16 112 (a0.extract 2 a0.size)) else (none)) = some r := by rw [if_pos rfl] at H; exact H
   clear H
   have H := H1
   clear H1
   replace H := id_ H
   obtain ⟨c5b0, c5b1, H⟩ | ⟨-, -, H⟩ := H
   ·have H' := Aside0.mk H
    clear H
    go_wp2
    repeat (go_quiet (fail); try go_wp2)
    go_meet
    case rel => exact ⟨_, (16), (112), (a0.extract 2 a0.size), er_, er_, er_, H', ⟨om_⟩, ⟨bl_⟩⟩
   exact absurd H (by simp)
  replace c4 := Bool.eq_false_iff.mpr c4
  subst c4
  have H1 : (ctok_Float.j0 k 10 101 a0) = some r := by rw [if_neg (show ¬ (false = true) by decide)] at H; exact H
  clear H
  have H := H1
  clear H1
  have H' := Aside0.mk H
  clear H
  go_wp2
  repeat (go_quiet (fail); try go_wp2)
  go_meet
  case rel => exact ⟨_, (10), (101), (a0), er_, er_, er_, H', ⟨om_⟩, ⟨bl_⟩⟩
 case rest =>
  clear HC3
  try clear c4
  try clear c5b0
  try clear c5b1
  obtain ⟨kq, x3_2, x4_2, x5_2, rfl, rfl, rfl, HA, HJ2, HB⟩ := hcut
  cases kq with
  | zero => exact absurd HA.out (by simp [ctok_Float.j0])
  | succ kj2 =>
   have H := HA.out
   clear HA
   simp only [ctok_Float.j0] at H
   replace H := Option.bind_eq_some_iff.mp H
   obtain ⟨t104, A60, H⟩ := H
   replace H : (if t104 < (x5_2.size : Int) then (if 0 ≤ t104 then (ctok_Float.j1 kj2 x3_2 x4_2 x5_2 t104 ((bt x5_2 t104) == 46)) else (none)) else (ctok_Float.j1 kj2 x3_2 x4_2 x5_2 t104 false)) = some r := H
   have A6 := Aside0.mk A60
   clear A60
   have HC7 := Aside0.mk H
   clear H
   go_upto_region 5 with (first | (go_at_call 32; (with_reducible refine (Digits.ctok_run.calls x5_2 x3_2 t104 _ A6.out).mono ?_); rintro e w8 ⟨rfl, hb⟩; have n0_ := Aside0.mk (below_step bl_ hb); clear HB; have HB := n0_; clear n0_; (try clear hb); (try clear hb2); (try clear hk); (try clear hi)))
   repeat (go_quiet (first | (go_at_call 32; (with_reducible refine (Digits.ctok_run.calls x5_2 x3_2 t104 _ A6.out).mono ?_); rintro e w8 ⟨rfl, hb⟩; have n0_ := Aside0.mk (below_step bl_ hb); clear HB; have HB := n0_; clear n0_; (try clear hb); (try clear hb2); (try clear hk); (try clear hi))); go_upto_region 5 with (first | (go_at_call 32; (with_reducible refine (Digits.ctok_run.calls x5_2 x3_2 t104 _ A6.out).mono ?_); rintro e w8 ⟨rfl, hb⟩; have n0_ := Aside0.mk (below_step bl_ hb); clear HB; have HB := n0_; clear n0_; (try clear hb); (try clear hb2); (try clear hk); (try clear hi))))
   (try simp only [Act.put, List.setIfInBounds_toArray, List.set_cons_zero, List.set_cons_succ])
   go_cut [7] (fun v7 wc => ∃ (kq : Nat) (x7_6 : Bool), v7 = .bool x7_6 ∧ Aside0 (ctok_Float.j1 kq x3_2 x4_2 x5_2 t104 x7_6 = some r) ∧ Aside0 (kq ≤ kj2) ∧ Aside0 (Below w.heap.size w wc))
   case first =>
    have H := HC7.out
    clear HC7
    replace H := id_ H
    obtain ⟨-, c9b0, H⟩ | ⟨-, c9b0, H⟩ := H
    ·(first | rw [c9b0] | (simp only [i64_w, i32_w]; rw [c9b0]) | skip)
     replace H := id_ H
     obtain ⟨-, c10b0, H⟩ | ⟨-, -, H⟩ := H
     ·have H' := Aside0.mk H
      clear H
      have p11 : 0 ≤ (t104 : Int) := da_
      have q11 : t104 < (x5_2.size : Int) := da_
      have hx11 := bt_at x5_2 t104
      replace p11 := eq_true p11
      replace q11 := eq_true q11
      go_wp2
      repeat (go_quiet (fail); try go_wp2)
      go_meet
      case rel => exact ⟨_, (((bt x5_2 t104) == 46)), er_, H', ⟨by have := HJ2.out; first | omega | exact Nat.le_refl _⟩, ⟨bl_⟩⟩
     exact absurd H (by simp)
    (first | rw [c9b0] | (simp only [i64_w, i32_w]; rw [c9b0]) | skip)
    have H' := Aside0.mk H
    clear H
    go_wp2
    repeat (go_quiet (fail); try go_wp2)
    go_meet
    case rel => exact ⟨_, (false), er_, H', ⟨by have := HJ2.out; first | omega | exact Nat.le_refl _⟩, ⟨bl_⟩⟩
   case rest =>
    clear HC7
    try clear c4
    try clear c5b0
    try clear c5b1
    try clear c9b0
    try clear c10b0
    try clear p11
    try clear q11
    try clear hx11
    try clear p11
    try clear q11
    obtain ⟨kq, x7_6, rfl, HA, HJ6, HB⟩ := hcut
    cases kq with
    | zero => exact absurd HA.out (by simp [ctok_Float.j1])
    | succ kj6 =>
     have H := HA.out
     clear HA
     simp only [ctok_Float.j1] at H
     replace H := ib_ H
     obtain ⟨c12, H⟩ | ⟨c12, H⟩ := H
     ·have c12b0 := eq_true c12
      have c12b1 := decide_eq_true c12
      clear c12
      replace H := ib_ H
      obtain ⟨c13, H⟩ | ⟨c13, H⟩ := H
      ·have c13b0 := eq_true c13
       have c13b1 := decide_eq_true c13
       clear c13
       have HC14 := Aside0.mk H
       clear H
       go_upto_if 31 with (fail)
       repeat (go_quiet (fail); go_upto_if 31 with (fail))
       go_cut [5, 6] (fun v5 v6 wc => ∃ (kq : Nat) (x5_13 : ByteArray) (x6_13 : Int), v5 = .string x5_13 ∧ v6 = .int .i64 x6_13 ∧ Aside0 (ctok_Float.j2 kq x3_2 x4_2 x5_13 x6_13 x7_6 = some r) ∧ Aside0 (kq ≤ kj6) ∧ Aside0 (Below w.heap.size w wc))
       case first =>
        have H := HC14.out
        clear HC14
        by_cases c15 : x7_6 = true
        ·subst c15
         have H1 : (if 1 ≤ ((x5_2.extract (t104 : Int).toNat x5_2.size).size : Int) then ((Digits.ctok_run.f ((x5_2.extract (t104 : Int).toNat x5_2.size).extract 1 (x5_2.extract (t104 : Int).toNat x5_2.size).size) x3_2).bind fun t105 => (if 0 ≤ (wrap64 (1 + t105)) then (if (wrap64 (1 + t105)) ≤ ((x5_2.extract (t104 : Int).toNat x5_2.size).size : Int) then (ctok_Float.j2 kj6 x3_2 x4_2 ((x5_2.extract (t104 : Int).toNat x5_2.size).extract ((wrap64 (1 + t105)) : Int).toNat (x5_2.extract (t104 : Int).toNat x5_2.size).size) (wrap64 (t104 + t105)) true) else (none)) else (none))) else (none)) = some r := by rw [if_pos rfl] at H; exact H
         clear H
         have H := H1
         clear H1
         obtain ⟨xs, hxs⟩ : ∃ xs, x5_2.extract (t104 : Int).toNat x5_2.size = xs := ⟨_, rfl⟩
         rw [hxs] at H
         replace H := id_ H
         obtain ⟨c16b0, c16b1, H⟩ | ⟨-, -, H⟩ := H
         ·replace H := Option.bind_eq_some_iff.mp H
          obtain ⟨t105, A170, H⟩ := H
          replace H : (if 0 ≤ (wrap64 (1 + t105)) then (if (wrap64 (1 + t105)) ≤ (xs.size : Int) then (ctok_Float.j2 kj6 x3_2 x4_2 (xs.extract ((wrap64 (1 + t105)) : Int).toNat xs.size) (wrap64 (t104 + t105)) true) else (none)) else (none)) = some r := H
          have A17 := Aside0.mk A170
          clear A170
          obtain ⟨ji18, hji18⟩ : ∃ j_ : Int, (wrap64 (1 + t105)) = j_ := ⟨_, rfl⟩
          replace H : (if 0 ≤ (ji18) then (if (ji18) ≤ (xs.size : Int) then (ctok_Float.j2 kj6 x3_2 x4_2 (xs.extract ((ji18) : Int).toNat xs.size) (wrap64 (t104 + t105)) true) else (none)) else (none)) = some r := by first | (rw [hji18] at H; exact H) | (simp only [hji18] at H ⊢; exact H)
          (try rw [hji18] at A17)
          have hji18w : (IntKind.i64.wrap (1 + t105)) = ji18 := (i64_w _).trans hji18
          replace H := id_ H
          obtain ⟨c19b0, c19b1, H⟩ | ⟨-, -, H⟩ := H
          ·replace H := id_ H
           obtain ⟨c20b0, c20b1, H⟩ | ⟨-, -, H⟩ := H
           ·have H' := Aside0.mk H
            clear H
            go_wp2_with (first | (go_at_call 32; (with_reducible refine (Digits.ctok_run.calls (xs.extract 1 xs.size) x3_2 t105 _ A17.out).mono ?_); rintro e w21 ⟨rfl, hb⟩; have n0_ := Aside0.mk (below_step bl_ hb); clear HB; have HB := n0_; clear n0_; (try clear hb); (try clear hb2); (try clear hk); (try clear hi)))
            repeat (go_quiet (first | (go_at_call 32; (with_reducible refine (Digits.ctok_run.calls (xs.extract 1 xs.size) x3_2 t105 _ A17.out).mono ?_); rintro e w21 ⟨rfl, hb⟩; have n0_ := Aside0.mk (below_step bl_ hb); clear HB; have HB := n0_; clear n0_; (try clear hb); (try clear hb2); (try clear hk); (try clear hi))); try go_wp2_with (first | (go_at_call 32; (with_reducible refine (Digits.ctok_run.calls (xs.extract 1 xs.size) x3_2 t105 _ A17.out).mono ?_); rintro e w21 ⟨rfl, hb⟩; have n0_ := Aside0.mk (below_step bl_ hb); clear HB; have HB := n0_; clear n0_; (try clear hb); (try clear hb2); (try clear hk); (try clear hi))))
            go_meet
            case rel => exact ⟨_, (xs.extract ((ji18) : Int).toNat xs.size), (wrap64 (t104 + t105)), (by first | rfl | (simp; done) | (simp only [← hji18] <;> (first | rfl | simp)) | (simp [*]; done)), er_, H', ⟨by have := HJ2.out; have := HJ6.out; first | omega | exact Nat.le_refl _⟩, ⟨bl_⟩⟩
           exact absurd H (by simp)
          exact absurd H (by simp)
         exact absurd H (by simp)
        replace c15 := Bool.eq_false_iff.mpr c15
        subst c15
        have H1 : (ctok_Float.j2 kj6 x3_2 x4_2 (x5_2.extract (t104 : Int).toNat x5_2.size) t104 false) = some r := by rw [if_neg (show ¬ (false = true) by decide)] at H; exact H
        clear H
        have H := H1
        clear H1
        have H' := Aside0.mk H
        clear H
        go_wp2
        repeat (go_quiet (fail); try go_wp2)
        go_meet
        case rel => exact ⟨_, (x5_2.extract (t104 : Int).toNat x5_2.size), (t104), er_, er_, H', ⟨by have := HJ2.out; have := HJ6.out; first | omega | exact Nat.le_refl _⟩, ⟨bl_⟩⟩
       case rest =>
        clear HC14
        try clear c4
        try clear c5b0
        try clear c5b1
        try clear c9b0
        try clear c10b0
        try clear p11
        try clear q11
        try clear hx11
        try clear c12
        try clear c12b0
        try clear c12b1
        try clear c13
        try clear c13b0
        try clear c13b1
        try clear c15
        try clear c16b0
        try clear c16b1
        try clear c19b0
        try clear c19b1
        try clear c20b0
        try clear c20b1
        try clear p11
        try clear q11
        obtain ⟨kq, x5_13, x6_13, rfl, rfl, HA, HJ13, HB⟩ := hcut
        cases kq with
        | zero => exact absurd HA.out (by simp [ctok_Float.j2])
        | succ kj13 =>
         have H := HA.out
         clear HA
         simp only [ctok_Float.j2] at H
         replace H := Option.bind_eq_some_iff.mp H
         obtain ⟨t106, A220, H⟩ := H
         replace H : (if x6_13 = 0 then (ctok_Float.j3 kj13 x5_13 t106 true) else (if t106 = 0 then (if x7_6 = true then (ctok_Float.j3 kj13 x5_13 t106 (x3_2 == 16)) else (ctok_Float.j3 kj13 x5_13 t106 true)) else (ctok_Float.j3 kj13 x5_13 t106 false))) = some r := H
         have A22 := Aside0.mk A220
         clear A220
         have HC23 := Aside0.mk H
         clear H
         go_upto_region 12 with (first | (go_at_call 33; (with_reducible refine (ctok_exponent.calls kj13 x5_13 x4_2 t106 _ A22.out).mono ?_); rintro e w24 ⟨rfl, hb⟩; have n0_ := Aside0.mk (below_step bl_ hb); clear HB; have HB := n0_; clear n0_; (try clear hb); (try clear hb2); (try clear hk); (try clear hi)))
         repeat (go_quiet (first | (go_at_call 33; (with_reducible refine (ctok_exponent.calls kj13 x5_13 x4_2 t106 _ A22.out).mono ?_); rintro e w24 ⟨rfl, hb⟩; have n0_ := Aside0.mk (below_step bl_ hb); clear HB; have HB := n0_; clear n0_; (try clear hb); (try clear hb2); (try clear hk); (try clear hi))); go_upto_region 12 with (first | (go_at_call 33; (with_reducible refine (ctok_exponent.calls kj13 x5_13 x4_2 t106 _ A22.out).mono ?_); rintro e w24 ⟨rfl, hb⟩; have n0_ := Aside0.mk (below_step bl_ hb); clear HB; have HB := n0_; clear n0_; (try clear hb); (try clear hb2); (try clear hk); (try clear hi))))
         (try simp only [Act.put, List.setIfInBounds_toArray, List.set_cons_zero, List.set_cons_succ])
         go_cut [59] (fun v59 wc => ∃ (kq : Nat) (x59_22 : Bool), v59 = .bool x59_22 ∧ Aside0 (ctok_Float.j3 kq x5_13 t106 x59_22 = some r) ∧ Aside0 (kq ≤ kj13) ∧ Aside0 (Below w.heap.size w wc))
         case first =>
          have H := HC23.out
          clear HC23
          replace H := ie_ H
          obtain ⟨c25b0, c25b1, H⟩ | ⟨c25b0, c25b1, c25, H⟩ := H
          ·(first | rw [c25b0] | (simp only [i64_w, i32_w]; rw [c25b0]) | skip)
           have H' := Aside0.mk H
           clear H
           go_wp2
           repeat (go_quiet (fail); try go_wp2)
           go_meet
           case rel => exact ⟨_, (true), er_, H', ⟨by have := HJ2.out; have := HJ6.out; have := HJ13.out; first | omega | exact Nat.le_refl _⟩, ⟨bl_⟩⟩
          (first | rw [c25b0] | (simp only [i64_w, i32_w]; rw [c25b0]) | skip)
          replace H := ie_ H
          obtain ⟨c26b0, c26b1, H⟩ | ⟨c26b0, c26b1, c26, H⟩ := H
          ·by_cases c27 : x7_6 = true
           ·subst c27
            have H1 : (ctok_Float.j3 kj13 x5_13 t106 (x3_2 == 16)) = some r := by rw [if_pos rfl] at H; exact H
            clear H
            have H := H1
            clear H1
            have H' := Aside0.mk H
            clear H
            go_wp2
            repeat (go_quiet (fail); try go_wp2)
            go_meet
            case rel => exact ⟨_, ((x3_2 == 16)), er_, H', ⟨by have := HJ2.out; have := HJ6.out; have := HJ13.out; first | omega | exact Nat.le_refl _⟩, ⟨bl_⟩⟩
           replace c27 := Bool.eq_false_iff.mpr c27
           subst c27
           have H1 : (ctok_Float.j3 kj13 x5_13 t106 true) = some r := by rw [if_neg (show ¬ (false = true) by decide)] at H; exact H
           clear H
           have H := H1
           clear H1
           have H' := Aside0.mk H
           clear H
           go_wp2
           repeat (go_quiet (fail); try go_wp2)
           go_meet
           case rel => exact ⟨_, (true), er_, H', ⟨by have := HJ2.out; have := HJ6.out; have := HJ13.out; first | omega | exact Nat.le_refl _⟩, ⟨bl_⟩⟩
          have H' := Aside0.mk H
          clear H
          go_wp2
          repeat (go_quiet (fail); try go_wp2)
          go_meet
          case rel => exact ⟨_, (false), er_, H', ⟨by have := HJ2.out; have := HJ6.out; have := HJ13.out; first | omega | exact Nat.le_refl _⟩, ⟨bl_⟩⟩
         case rest =>
          clear HC23
          try clear c4
          try clear c5b0
          try clear c5b1
          try clear c9b0
          try clear c10b0
          try clear p11
          try clear q11
          try clear hx11
          try clear c12
          try clear c12b0
          try clear c12b1
          try clear c13
          try clear c13b0
          try clear c13b1
          try clear c15
          try clear c16b0
          try clear c16b1
          try clear c19b0
          try clear c19b1
          try clear c20b0
          try clear c20b1
          try clear c25
          try clear c25b0
          try clear c25b1
          try clear c26
          try clear c26b0
          try clear c26b1
          try clear c27
          try clear p11
          try clear q11
          obtain ⟨kq, x59_22, rfl, HA, HJ22, HB⟩ := hcut
          cases kq with
          | zero => exact absurd HA.out (by simp [ctok_Float.j3])
          | succ kj22 =>
           have H := HA.out
           clear HA
           simp only [ctok_Float.j3] at H
           by_cases c28 : x59_22 = true
           ·subst c28
            have H1 : (some false) = some r := by rw [if_pos rfl] at H; exact H
            clear H
            have H := H1
            clear H1
            obtain rfl := Option.some.inj H
            go_wp2
            repeat (go_quiet (fail); try go_wp2)
            go_ret
            exact ⟨es_, bl_⟩
           replace c28 := Bool.eq_false_iff.mpr c28
           subst c28
           have H1 : (if 0 ≤ t106 then (if t106 ≤ (x5_13.size : Int) then (if (x5_13.extract (t106 : Int).toNat x5_13.size).toList = ([] : List UInt8) then (some true) else (if (x5_13.extract (t106 : Int).toNat x5_13.size).toList = ([102] : List UInt8) then (some true) else (if (x5_13.extract (t106 : Int).toNat x5_13.size).toList = ([70] : List UInt8) then (some true) else (if (x5_13.extract (t106 : Int).toNat x5_13.size).toList = ([108] : List UInt8) then (some true) else (if (x5_13.extract (t106 : Int).toNat x5_13.size).toList = ([76] : List UInt8) then (some true) else (some false)))))) else (none)) else (none)) = some r := by rw [if_neg (show ¬ (false = true) by decide)] at H; exact H
           clear H
           have H := H1
           clear H1
           replace H := id_ H
           obtain ⟨c29b0, c29b1, H⟩ | ⟨-, -, H⟩ := H
           ·replace H := id_ H
            obtain ⟨c30b0, c30b1, H⟩ | ⟨-, -, H⟩ := H
            ·replace H := ie_ H
             obtain ⟨c31b0, c31b1, H⟩ | ⟨c31b0, c31b1, c31, H⟩ := H
             ·obtain rfl := Option.some.inj H
              go_wp2
              repeat (go_quiet (fail); try go_wp2)
              go_ret
              exact ⟨es_, bl_⟩
             replace H := ie_ H
             obtain ⟨c32b0, c32b1, H⟩ | ⟨c32b0, c32b1, c32, H⟩ := H
             ·obtain rfl := Option.some.inj H
              go_wp2
              repeat (go_quiet (fail); try go_wp2)
              go_ret
              exact ⟨es_, bl_⟩
             replace H := ie_ H
             obtain ⟨c33b0, c33b1, H⟩ | ⟨c33b0, c33b1, c33, H⟩ := H
             ·obtain rfl := Option.some.inj H
              go_wp2
              repeat (go_quiet (fail); try go_wp2)
              go_ret
              exact ⟨es_, bl_⟩
             replace H := ie_ H
             obtain ⟨c34b0, c34b1, H⟩ | ⟨c34b0, c34b1, c34, H⟩ := H
             ·obtain rfl := Option.some.inj H
              go_wp2
              repeat (go_quiet (fail); try go_wp2)
              go_ret
              exact ⟨es_, bl_⟩
             replace H := ie_ H
             obtain ⟨c35b0, c35b1, H⟩ | ⟨c35b0, c35b1, c35, H⟩ := H
             ·obtain rfl := Option.some.inj H
              go_wp2
              repeat (go_quiet (fail); try go_wp2)
              go_ret
              exact ⟨es_, bl_⟩
             obtain rfl := Option.some.inj H
             go_wp2
             repeat (go_quiet (fail); try go_wp2)
             go_ret
             exact ⟨es_, bl_⟩
            exact absurd H (by simp)
           exact absurd H (by simp)
      exact absurd H (by simp)
     exact absurd H (by simp)
end Go.Proofs.YtcdleippdegibaaDoor.PC
namespace Go.Proofs.YtcdleippdegibaaDoor.ClassH
open Go Go.RowKit Go.Proofs Go.Proofs.YtcdleippdegibaaDoorW.PrintWords Go.Proofs.YtcdleippdegibaaDoor Go.Proofs.YtcdleippdegibaaDoor.PB Go.Proofs.YtcdleippdegibaaDoor.PC Go.Proofs.YtcdleippdegibaaDoor.PE Go.Proofs.YtcdleippdegibaaDoor.Digits Go.Proofs.YtcdleippdegibaaDoor.LibG
def ctok_Class.f (k : Nat) (a0 : Int) (a1 : ByteArray) : Option (Int × ByteArray × Int) :=
 if a0 = 1 then (ctok_Keyword.f a1).bind fun b => if b = true then some (1, a1, 0) else some (2, a1, 0)
 else if a0 = 2 then (ctok_Int.f a1).bind fun r => if r.2.2 = 0 then some (3, a1, 0) else (ctok_Float.f k a1).bind fun b => if b = true then some (4, a1, 0) else some (0, ⟨#[]⟩, 40)
 else if a0 = 3 then (ctok_Char.f k a1).bind fun r => if r.2 = 0 then some (5, a1, 0) else some (0, ⟨#[]⟩, 40)
 else if a0 = 4 then (ctok_Str.f k a1).bind fun r => if r.2 = 0 then some (6, a1, 0) else some (0, ⟨#[]⟩, 40)
 else if a0 = 5 then (ctok_Canon.f a1).bind fun t => some (7, t, 0)
 else some (0, ⟨#[]⟩, 40)
theorem class1 (t : ByteArray) (b : Bool) (w : World) (h : ctok_Keyword.f t = some b) : Calls Tryd.prog 9 #[.int .i64 1, .string t] w fun e w' => e = .returned (.tuple #[.agg #[.int .i64 (if b = true then 1 else 2), .string t], .int .i64 0]) ∧ Below w.heap.size w w' := by
 have HB := Aside0.mk (Below.refl w.heap.size w)
 cases b with
 | true =>
  go_enter Tryd.func9, Tryd.ntmps9
  go_wp2_with (go_at_call 11; refine (ctok_Keyword.calls _ _ _ h).mono ?_; rintro e w2 ⟨rfl, ⟨nd, rfl⟩⟩)
  refine bodyPost_ret (v := .tuple #[.agg #[.int .i64 1, .string t], .int .i64 0]) ?_ rfl ?_
  ·simp [results, Tryd.results9, go_sem]
  exact ⟨er_, by repeat (first | (with_reducible first | exact HB.out | apply below_alloc | apply pw_below_drewN | apply below_drew1 | refine below_set ?_ (Nat.le_refl _) | refine below_set ?_ (Nat.le_succ _)) | exact HB.out)⟩
 | false =>
  go_enter Tryd.func9, Tryd.ntmps9
  go_wp2_with (go_at_call 11; refine (ctok_Keyword.calls _ _ _ h).mono ?_; rintro e w2 ⟨rfl, ⟨nd, rfl⟩⟩)
  refine bodyPost_ret (v := .tuple #[.agg #[.int .i64 2, .string t], .int .i64 0]) ?_ rfl ?_
  ·simp [results, Tryd.results9, go_sem]
  exact ⟨er_, by repeat (first | (with_reducible first | exact HB.out | apply below_alloc | apply pw_below_drewN | apply below_drew1 | refine below_set ?_ (Nat.le_refl _) | refine below_set ?_ (Nat.le_succ _)) | exact HB.out)⟩
theorem class5 (t r : ByteArray) (w : World) (h : ctok_Canon.f t = some r) : Calls Tryd.prog 9 #[.int .i64 5, .string t] w fun e w' => e = .returned (.tuple #[.agg #[.int .i64 7, .string r], .int .i64 0]) ∧ Below w.heap.size w w' := by
  have HB := Aside0.mk (Below.refl w.heap.size w)
  go_enter Tryd.func9, Tryd.ntmps9
  go_wp2_with (go_at_call 13; refine (ctok_Canon.calls _ _ _ h).mono ?_; rintro e w2 ⟨rfl, ⟨nd, rfl⟩⟩)
  refine bodyPost_ret (v := .tuple #[.agg #[.int .i64 7, .string r], .int .i64 0]) ?_ rfl ?_
  ·simp [results, Tryd.results9, go_sem]
  exact ⟨er_, by repeat (first | (with_reducible first | exact HB.out | apply below_alloc | apply pw_below_drewN | apply below_drew1 | refine below_set ?_ (Nat.le_refl _) | refine below_set ?_ (Nat.le_succ _)) | exact HB.out)⟩
theorem class0 (k : Int) (t : ByteArray) (w : World) (h1 : (k == 1) = false) (h2 : (k == 2) = false) (h3 : (k == 3) = false) (h4 : (k == 4) = false) (h5 : (k == 5) = false) : Calls Tryd.prog 9 #[.int .i64 k, .string t] w fun e w' => e = .returned (.tuple #[.agg #[.int .i64 0, .string ⟨#[]⟩], .int .i64 40]) ∧ Below w.heap.size w w' := by
  have HB := Aside0.mk (Below.refl w.heap.size w)
  go_enter Tryd.func9, Tryd.ntmps9
  go_wp2
  refine bodyPost_ret (v := .tuple #[.agg #[.int .i64 0, .string ⟨#[]⟩], .int .i64 40]) ?_ rfl ?_
  ·simp [results, Tryd.results9, go_sem]
  exact ⟨er_, by repeat (first | (with_reducible first | exact HB.out | apply below_alloc | apply pw_below_drewN | apply below_drew1 | refine below_set ?_ (Nat.le_refl _) | refine below_set ?_ (Nat.le_succ _)) | exact HB.out)⟩
theorem class3y (k : Nat) (t : ByteArray) (v : Int) (w : World) (hsh : SH w) (h : ctok_Char.f k t = some (v, 0)) : Calls Tryd.prog 9 #[.int .i64 3, .string t] w fun e w' => e = .returned (.tuple #[.agg #[.int .i64 5, .string t], .int .i64 0]) ∧ Below w.heap.size w w' := by
  go_enter Tryd.func9, Tryd.ntmps9
  go_wp2_with (go_at_call 29; refine (ctok_Char.calls k _ _ _ _ ((hsh.alloc _).alloc _) h).mono ?_; rintro e w2 ⟨rfl, hb⟩; have c00 : w2.cell? ⟨w.heap.size, 0, none⟩ = some (.int .i64 0) := (hb.cell (p := ⟨w.heap.size, 0, none⟩) (by simp; try omega)).trans (by simp); have f00 : w2.frozen? ⟨w.heap.size, 0, none⟩ = false := (hb.frozen (p := ⟨w.heap.size, 0, none⟩) (by simp; try omega)).trans (by simp); have c01 : w2.cell? ⟨w.heap.size, 1, none⟩ = some (.string ⟨#[]⟩) := (hb.cell (p := ⟨w.heap.size, 1, none⟩) (by simp; try omega)).trans (by simp); have f01 : w2.frozen? ⟨w.heap.size, 1, none⟩ = false := (hb.frozen (p := ⟨w.heap.size, 1, none⟩) (by simp; try omega)).trans (by simp); have c10 : w2.cell? ⟨w.heap.size + 1, 0, none⟩ = some (.int .i64 0) := (hb.cell (p := ⟨w.heap.size + 1, 0, none⟩) (by simp; try omega)).trans (by simp); have f10 : w2.frozen? ⟨w.heap.size + 1, 0, none⟩ = false := (hb.frozen (p := ⟨w.heap.size + 1, 0, none⟩) (by simp; try omega)).trans (by simp); have c11 : w2.cell? ⟨w.heap.size + 1, 1, none⟩ = some (.string t) := (hb.cell (p := ⟨w.heap.size + 1, 1, none⟩) (by simp; try omega)).trans (by simp); have f11 : w2.frozen? ⟨w.heap.size + 1, 1, none⟩ = false := (hb.frozen (p := ⟨w.heap.size + 1, 1, none⟩) (by simp; try omega)).trans (by simp))
  have HB2 : Below w.heap.size w w2 := (((Below.refl _ _).alloc (Nat.le_refl _) _).alloc (by simp) _).trans (hb.mono (by simp; omega))
  refine bodyPost_ret (v := .tuple #[.agg #[.int .i64 5, .string t], .int .i64 0]) ?_ rfl ?_
  ·have b0 : w2.heap[w.heap.size]? = some (.cells #[.int .i64 0, .string ⟨#[]⟩] 23) := blk_below (blk_alloc (blk_new w _) _) hb
   have q0 := blk_put (cs := #[.int .i64 5, .string ⟨#[]⟩]) (cs' := #[.int .i64 5, .string t]) (blk_put (cs := #[.int .i64 0, .string ⟨#[]⟩]) (cs' := #[.int .i64 5, .string ⟨#[]⟩]) (blk_far b0 (p := ⟨w.heap.size + 1, 0, none⟩) (by simp) (.int .i64 5)) 0 (.int .i64 5) rfl) 1 (.string t) rfl
   have q1 := blk_cell q0 0
   have q2 := blk_cell q0 1
   simp [results, Tryd.results9, go_sem, q1, q2]
  exact ⟨er_, by repeat (first | (with_reducible first | exact HB2 | refine below_set ?_ (Nat.le_refl _) | refine below_set ?_ (Nat.le_succ _) | apply below_alloc | apply pw_below_drewN | apply below_drew1) | exact HB2)⟩
theorem class3n (k : Nat) (t : ByteArray) (v er : Int) (w : World) (hsh : SH w) (h : ctok_Char.f k t = some (v, er)) (he : (er == 0) = false) : Calls Tryd.prog 9 #[.int .i64 3, .string t] w fun e w' => e = .returned (.tuple #[.agg #[.int .i64 0, .string ⟨#[]⟩], .int .i64 40]) ∧ Below w.heap.size w w' := by
  go_enter Tryd.func9, Tryd.ntmps9
  go_wp2_with (go_at_call 29; refine (ctok_Char.calls k _ _ _ _ ((hsh.alloc _).alloc _) h).mono ?_; rintro e w2 ⟨rfl, hb⟩; have c00 : w2.cell? ⟨w.heap.size, 0, none⟩ = some (.int .i64 0) := (hb.cell (p := ⟨w.heap.size, 0, none⟩) (by simp; try omega)).trans (by simp); have f00 : w2.frozen? ⟨w.heap.size, 0, none⟩ = false := (hb.frozen (p := ⟨w.heap.size, 0, none⟩) (by simp; try omega)).trans (by simp); have c01 : w2.cell? ⟨w.heap.size, 1, none⟩ = some (.string ⟨#[]⟩) := (hb.cell (p := ⟨w.heap.size, 1, none⟩) (by simp; try omega)).trans (by simp); have f01 : w2.frozen? ⟨w.heap.size, 1, none⟩ = false := (hb.frozen (p := ⟨w.heap.size, 1, none⟩) (by simp; try omega)).trans (by simp); have c10 : w2.cell? ⟨w.heap.size + 1, 0, none⟩ = some (.int .i64 0) := (hb.cell (p := ⟨w.heap.size + 1, 0, none⟩) (by simp; try omega)).trans (by simp); have f10 : w2.frozen? ⟨w.heap.size + 1, 0, none⟩ = false := (hb.frozen (p := ⟨w.heap.size + 1, 0, none⟩) (by simp; try omega)).trans (by simp); have c11 : w2.cell? ⟨w.heap.size + 1, 1, none⟩ = some (.string t) := (hb.cell (p := ⟨w.heap.size + 1, 1, none⟩) (by simp; try omega)).trans (by simp); have f11 : w2.frozen? ⟨w.heap.size + 1, 1, none⟩ = false := (hb.frozen (p := ⟨w.heap.size + 1, 1, none⟩) (by simp; try omega)).trans (by simp))
  have HB2 : Below w.heap.size w w2 := (((Below.refl _ _).alloc (Nat.le_refl _) _).alloc (by simp) _).trans (hb.mono (by simp; omega))
  refine bodyPost_ret (v := .tuple #[.agg #[.int .i64 0, .string ⟨#[]⟩], .int .i64 40]) ?_ rfl ?_
  ·have b0 : w2.heap[w.heap.size]? = some (.cells #[.int .i64 0, .string ⟨#[]⟩] 23) := blk_below (blk_alloc (blk_new w _) _) hb
   have q0 := blk_put (cs := #[.int .i64 0, .string ⟨#[]⟩]) (cs' := #[.int .i64 0, .string ⟨#[]⟩]) (blk_put (cs := #[.int .i64 0, .string ⟨#[]⟩]) (cs' := #[.int .i64 0, .string ⟨#[]⟩]) b0 0 (.int .i64 0) rfl) 1 (.string ⟨#[]⟩) rfl
   have q1 := blk_cell q0 0
   have q2 := blk_cell q0 1
   simp [results, Tryd.results9, go_sem, q1, q2]
  exact ⟨er_, by repeat (first | (with_reducible first | exact HB2 | refine below_set ?_ (Nat.le_refl _) | refine below_set ?_ (Nat.le_succ _) | apply below_alloc | apply pw_below_drewN | apply below_drew1) | exact HB2)⟩
theorem class4y (k : Nat) (t : ByteArray) (l : List Int) (w : World) (hsh : SH w) (h : ctok_Str.f k t = some (l, 0)) : Calls Tryd.prog 9 #[.int .i64 4, .string t] w fun e w' => e = .returned (.tuple #[.agg #[.int .i64 6, .string t], .int .i64 0]) ∧ Below w.heap.size w w' := by
  go_enter Tryd.func9, Tryd.ntmps9
  go_wp2_with (go_at_call 21; refine (ctok_Str.calls k _ _ _ _ ((hsh.alloc _).alloc _) h).mono ?_; rintro e w2 ⟨v0_, rfl, hR, hb⟩; have c00 : w2.cell? ⟨w.heap.size, 0, none⟩ = some (.int .i64 0) := (hb.cell (p := ⟨w.heap.size, 0, none⟩) (by simp; try omega)).trans (by simp); have f00 : w2.frozen? ⟨w.heap.size, 0, none⟩ = false := (hb.frozen (p := ⟨w.heap.size, 0, none⟩) (by simp; try omega)).trans (by simp); have c01 : w2.cell? ⟨w.heap.size, 1, none⟩ = some (.string ⟨#[]⟩) := (hb.cell (p := ⟨w.heap.size, 1, none⟩) (by simp; try omega)).trans (by simp); have f01 : w2.frozen? ⟨w.heap.size, 1, none⟩ = false := (hb.frozen (p := ⟨w.heap.size, 1, none⟩) (by simp; try omega)).trans (by simp); have c10 : w2.cell? ⟨w.heap.size + 1, 0, none⟩ = some (.int .i64 0) := (hb.cell (p := ⟨w.heap.size + 1, 0, none⟩) (by simp; try omega)).trans (by simp); have f10 : w2.frozen? ⟨w.heap.size + 1, 0, none⟩ = false := (hb.frozen (p := ⟨w.heap.size + 1, 0, none⟩) (by simp; try omega)).trans (by simp); have c11 : w2.cell? ⟨w.heap.size + 1, 1, none⟩ = some (.string t) := (hb.cell (p := ⟨w.heap.size + 1, 1, none⟩) (by simp; try omega)).trans (by simp); have f11 : w2.frozen? ⟨w.heap.size + 1, 1, none⟩ = false := (hb.frozen (p := ⟨w.heap.size + 1, 1, none⟩) (by simp; try omega)).trans (by simp))
  have HB2 : Below w.heap.size w w2 := (((Below.refl _ _).alloc (Nat.le_refl _) _).alloc (by simp) _).trans (hb.mono (by simp; omega))
  refine bodyPost_ret (v := .tuple #[.agg #[.int .i64 6, .string t], .int .i64 0]) ?_ rfl ?_
  ·have b0 : w2.heap[w.heap.size]? = some (.cells #[.int .i64 0, .string ⟨#[]⟩] 23) := blk_below (blk_alloc (blk_new w _) _) hb
   have q0 := blk_put (cs := #[.int .i64 6, .string ⟨#[]⟩]) (cs' := #[.int .i64 6, .string t]) (blk_put (cs := #[.int .i64 0, .string ⟨#[]⟩]) (cs' := #[.int .i64 6, .string ⟨#[]⟩]) (blk_far b0 (p := ⟨w.heap.size + 1, 0, none⟩) (by simp) (.int .i64 6)) 0 (.int .i64 6) rfl) 1 (.string t) rfl
   have q1 := blk_cell q0 0
   have q2 := blk_cell q0 1
   simp [results, Tryd.results9, go_sem, q1, q2]
  exact ⟨er_, by repeat (first | (with_reducible first | exact HB2 | refine below_set ?_ (Nat.le_refl _) | refine below_set ?_ (Nat.le_succ _) | apply below_alloc | apply pw_below_drewN | apply below_drew1) | exact HB2)⟩
theorem class4n (k : Nat) (t : ByteArray) (l : List Int) (er : Int) (w : World) (hsh : SH w) (h : ctok_Str.f k t = some (l, er)) (he : (er == 0) = false) : Calls Tryd.prog 9 #[.int .i64 4, .string t] w fun e w' => e = .returned (.tuple #[.agg #[.int .i64 0, .string ⟨#[]⟩], .int .i64 40]) ∧ Below w.heap.size w w' := by
  go_enter Tryd.func9, Tryd.ntmps9
  go_wp2_with (go_at_call 21; refine (ctok_Str.calls k _ _ _ _ ((hsh.alloc _).alloc _) h).mono ?_; rintro e w2 ⟨v0_, rfl, hR, hb⟩; have c00 : w2.cell? ⟨w.heap.size, 0, none⟩ = some (.int .i64 0) := (hb.cell (p := ⟨w.heap.size, 0, none⟩) (by simp; try omega)).trans (by simp); have f00 : w2.frozen? ⟨w.heap.size, 0, none⟩ = false := (hb.frozen (p := ⟨w.heap.size, 0, none⟩) (by simp; try omega)).trans (by simp); have c01 : w2.cell? ⟨w.heap.size, 1, none⟩ = some (.string ⟨#[]⟩) := (hb.cell (p := ⟨w.heap.size, 1, none⟩) (by simp; try omega)).trans (by simp); have f01 : w2.frozen? ⟨w.heap.size, 1, none⟩ = false := (hb.frozen (p := ⟨w.heap.size, 1, none⟩) (by simp; try omega)).trans (by simp); have c10 : w2.cell? ⟨w.heap.size + 1, 0, none⟩ = some (.int .i64 0) := (hb.cell (p := ⟨w.heap.size + 1, 0, none⟩) (by simp; try omega)).trans (by simp); have f10 : w2.frozen? ⟨w.heap.size + 1, 0, none⟩ = false := (hb.frozen (p := ⟨w.heap.size + 1, 0, none⟩) (by simp; try omega)).trans (by simp); have c11 : w2.cell? ⟨w.heap.size + 1, 1, none⟩ = some (.string t) := (hb.cell (p := ⟨w.heap.size + 1, 1, none⟩) (by simp; try omega)).trans (by simp); have f11 : w2.frozen? ⟨w.heap.size + 1, 1, none⟩ = false := (hb.frozen (p := ⟨w.heap.size + 1, 1, none⟩) (by simp; try omega)).trans (by simp))
  have HB2 : Below w.heap.size w w2 := (((Below.refl _ _).alloc (Nat.le_refl _) _).alloc (by simp) _).trans (hb.mono (by simp; omega))
  refine bodyPost_ret (v := .tuple #[.agg #[.int .i64 0, .string ⟨#[]⟩], .int .i64 40]) ?_ rfl ?_
  ·have b0 : w2.heap[w.heap.size]? = some (.cells #[.int .i64 0, .string ⟨#[]⟩] 23) := blk_below (blk_alloc (blk_new w _) _) hb
   have q0 := blk_put (cs := #[.int .i64 0, .string ⟨#[]⟩]) (cs' := #[.int .i64 0, .string ⟨#[]⟩]) (blk_put (cs := #[.int .i64 0, .string ⟨#[]⟩]) (cs' := #[.int .i64 0, .string ⟨#[]⟩]) b0 0 (.int .i64 0) rfl) 1 (.string ⟨#[]⟩) rfl
   have q1 := blk_cell q0 0
   have q2 := blk_cell q0 1
   simp [results, Tryd.results9, go_sem, q1, q2]
  exact ⟨er_, by repeat (first | (with_reducible first | exact HB2 | refine below_set ?_ (Nat.le_refl _) | refine below_set ?_ (Nat.le_succ _) | apply below_alloc | apply pw_below_drewN | apply below_drew1) | exact HB2)⟩
theorem class2i (k : Nat) (t : ByteArray) (v : Int) (u : Bool) (w : World) (hsh : SH w) (h : ctok_Int.f t = some (v, u, 0)) : Calls Tryd.prog 9 #[.int .i64 2, .string t] w fun e w' => e = .returned (.tuple #[.agg #[.int .i64 3, .string t], .int .i64 0]) ∧ Below w.heap.size w w' := by
  go_enter Tryd.func9, Tryd.ntmps9
  go_wp2_with (go_at_call 28; refine (ctok_Int.calls _ _ _ _ _ ((hsh.alloc _).alloc _) h).mono ?_; rintro e w2 ⟨rfl, hb⟩; have c00 : w2.cell? ⟨w.heap.size, 0, none⟩ = some (.int .i64 0) := (hb.cell (p := ⟨w.heap.size, 0, none⟩) (by simp; try omega)).trans (by simp); have f00 : w2.frozen? ⟨w.heap.size, 0, none⟩ = false := (hb.frozen (p := ⟨w.heap.size, 0, none⟩) (by simp; try omega)).trans (by simp); have c01 : w2.cell? ⟨w.heap.size, 1, none⟩ = some (.string ⟨#[]⟩) := (hb.cell (p := ⟨w.heap.size, 1, none⟩) (by simp; try omega)).trans (by simp); have f01 : w2.frozen? ⟨w.heap.size, 1, none⟩ = false := (hb.frozen (p := ⟨w.heap.size, 1, none⟩) (by simp; try omega)).trans (by simp); have c10 : w2.cell? ⟨w.heap.size + 1, 0, none⟩ = some (.int .i64 0) := (hb.cell (p := ⟨w.heap.size + 1, 0, none⟩) (by simp; try omega)).trans (by simp); have f10 : w2.frozen? ⟨w.heap.size + 1, 0, none⟩ = false := (hb.frozen (p := ⟨w.heap.size + 1, 0, none⟩) (by simp; try omega)).trans (by simp); have c11 : w2.cell? ⟨w.heap.size + 1, 1, none⟩ = some (.string t) := (hb.cell (p := ⟨w.heap.size + 1, 1, none⟩) (by simp; try omega)).trans (by simp); have f11 : w2.frozen? ⟨w.heap.size + 1, 1, none⟩ = false := (hb.frozen (p := ⟨w.heap.size + 1, 1, none⟩) (by simp; try omega)).trans (by simp))
  have HB2 : Below w.heap.size w w2 := (((Below.refl _ _).alloc (Nat.le_refl _) _).alloc (by simp) _).trans (hb.mono (by simp; omega))
  refine bodyPost_ret (v := .tuple #[.agg #[.int .i64 3, .string t], .int .i64 0]) ?_ rfl ?_
  ·have b0 : w2.heap[w.heap.size]? = some (.cells #[.int .i64 0, .string ⟨#[]⟩] 23) := blk_below (blk_alloc (blk_new w _) _) hb
   have q0 := blk_put (cs := #[.int .i64 3, .string ⟨#[]⟩]) (cs' := #[.int .i64 3, .string t]) (blk_put (cs := #[.int .i64 0, .string ⟨#[]⟩]) (cs' := #[.int .i64 3, .string ⟨#[]⟩]) (blk_far b0 (p := ⟨w.heap.size + 1, 0, none⟩) (by simp) (.int .i64 3)) 0 (.int .i64 3) rfl) 1 (.string t) rfl
   have q1 := blk_cell q0 0
   have q2 := blk_cell q0 1
   simp [results, Tryd.results9, go_sem, q1, q2]
  exact ⟨er_, by repeat (first | (with_reducible first | exact HB2 | refine below_set ?_ (Nat.le_refl _) | refine below_set ?_ (Nat.le_succ _) | apply below_alloc | apply pw_below_drewN | apply below_drew1) | exact HB2)⟩
theorem class2f (k : Nat) (t : ByteArray) (v : Int) (u : Bool) (er : Int) (w : World) (hsh : SH w) (h : ctok_Int.f t = some (v, u, er)) (he : (er == 0) = false) (hf : ctok_Float.f k t = some true) : Calls Tryd.prog 9 #[.int .i64 2, .string t] w fun e w' => e = .returned (.tuple #[.agg #[.int .i64 4, .string t], .int .i64 0]) ∧ Below w.heap.size w w' := by
  go_enter Tryd.func9, Tryd.ntmps9
  go_wp2_with (first | (go_at_call 28; refine (ctok_Int.calls _ _ _ _ _ ((hsh.alloc _).alloc _) h).mono ?_; rintro e w2 ⟨rfl, hb⟩; have c00 : w2.cell? ⟨w.heap.size, 0, none⟩ = some (.int .i64 0) := (hb.cell (p := ⟨w.heap.size, 0, none⟩) (by simp; try omega)).trans (by simp); have f00 : w2.frozen? ⟨w.heap.size, 0, none⟩ = false := (hb.frozen (p := ⟨w.heap.size, 0, none⟩) (by simp; try omega)).trans (by simp); have c01 : w2.cell? ⟨w.heap.size, 1, none⟩ = some (.string ⟨#[]⟩) := (hb.cell (p := ⟨w.heap.size, 1, none⟩) (by simp; try omega)).trans (by simp); have f01 : w2.frozen? ⟨w.heap.size, 1, none⟩ = false := (hb.frozen (p := ⟨w.heap.size, 1, none⟩) (by simp; try omega)).trans (by simp); have c10 : w2.cell? ⟨w.heap.size + 1, 0, none⟩ = some (.int .i64 0) := (hb.cell (p := ⟨w.heap.size + 1, 0, none⟩) (by simp; try omega)).trans (by simp); have f10 : w2.frozen? ⟨w.heap.size + 1, 0, none⟩ = false := (hb.frozen (p := ⟨w.heap.size + 1, 0, none⟩) (by simp; try omega)).trans (by simp); have c11 : w2.cell? ⟨w.heap.size + 1, 1, none⟩ = some (.string t) := (hb.cell (p := ⟨w.heap.size + 1, 1, none⟩) (by simp; try omega)).trans (by simp); have f11 : w2.frozen? ⟨w.heap.size + 1, 1, none⟩ = false := (hb.frozen (p := ⟨w.heap.size + 1, 1, none⟩) (by simp; try omega)).trans (by simp)) | (go_at_call 15; refine (ctok_Float.calls k _ _ _ hf).mono ?_; rintro e w3 ⟨rfl, hb2⟩; have d00 : w3.cell? ⟨w.heap.size, 0, none⟩ = some (.int .i64 0) := (hb2.cell (p := ⟨w.heap.size, 0, none⟩) (by have := hb.size; simp at this ⊢; omega)).trans c00; have g00 : w3.frozen? ⟨w.heap.size, 0, none⟩ = false := (hb2.frozen (p := ⟨w.heap.size, 0, none⟩) (by have := hb.size; simp at this ⊢; omega)).trans f00; have d01 : w3.cell? ⟨w.heap.size, 1, none⟩ = some (.string ⟨#[]⟩) := (hb2.cell (p := ⟨w.heap.size, 1, none⟩) (by have := hb.size; simp at this ⊢; omega)).trans c01; have g01 : w3.frozen? ⟨w.heap.size, 1, none⟩ = false := (hb2.frozen (p := ⟨w.heap.size, 1, none⟩) (by have := hb.size; simp at this ⊢; omega)).trans f01; have d10 : w3.cell? ⟨w.heap.size + 1, 0, none⟩ = some (.int .i64 0) := (hb2.cell (p := ⟨w.heap.size + 1, 0, none⟩) (by have := hb.size; simp at this ⊢; omega)).trans c10; have g10 : w3.frozen? ⟨w.heap.size + 1, 0, none⟩ = false := (hb2.frozen (p := ⟨w.heap.size + 1, 0, none⟩) (by have := hb.size; simp at this ⊢; omega)).trans f10; have d11 : w3.cell? ⟨w.heap.size + 1, 1, none⟩ = some (.string t) := (hb2.cell (p := ⟨w.heap.size + 1, 1, none⟩) (by have := hb.size; simp at this ⊢; omega)).trans c11; have g11 : w3.frozen? ⟨w.heap.size + 1, 1, none⟩ = false := (hb2.frozen (p := ⟨w.heap.size + 1, 1, none⟩) (by have := hb.size; simp at this ⊢; omega)).trans f11))
  have HB2 : Below w.heap.size w w3 := ((((Below.refl _ _).alloc (Nat.le_refl _) _).alloc (by simp) _).trans (hb.mono (by simp; omega))).trans (hb2.mono (by have := hb.size; simp at this ⊢; omega))
  refine bodyPost_ret (v := .tuple #[.agg #[.int .i64 4, .string t], .int .i64 0]) ?_ rfl ?_
  ·have b00 : w2.heap[w.heap.size]? = some (.cells #[.int .i64 0, .string ⟨#[]⟩] 23) := blk_below (blk_alloc (blk_new w _) _) hb
   have b0 : w3.heap[w.heap.size]? = some (.cells #[.int .i64 0, .string ⟨#[]⟩] 23) := blk_below b00 hb2
   have q0 := blk_put (cs := #[.int .i64 4, .string ⟨#[]⟩]) (cs' := #[.int .i64 4, .string t]) (blk_put (cs := #[.int .i64 0, .string ⟨#[]⟩]) (cs' := #[.int .i64 4, .string ⟨#[]⟩]) (blk_far b0 (p := ⟨w.heap.size + 1, 0, none⟩) (by simp) (.int .i64 4)) 0 (.int .i64 4) rfl) 1 (.string t) rfl
   have q1 := blk_cell q0 0
   have q2 := blk_cell q0 1
   simp [results, Tryd.results9, go_sem, q1, q2]
  exact ⟨er_, by repeat (first | (with_reducible first | exact HB2 | refine below_set ?_ (Nat.le_refl _) | refine below_set ?_ (Nat.le_succ _) | apply below_alloc | apply pw_below_drewN | apply below_drew1) | exact HB2)⟩
theorem class2n (k : Nat) (t : ByteArray) (v : Int) (u : Bool) (er : Int) (w : World) (hsh : SH w) (h : ctok_Int.f t = some (v, u, er)) (he : (er == 0) = false) (hf : ctok_Float.f k t = some false) : Calls Tryd.prog 9 #[.int .i64 2, .string t] w fun e w' => e = .returned (.tuple #[.agg #[.int .i64 0, .string ⟨#[]⟩], .int .i64 40]) ∧ Below w.heap.size w w' := by
  go_enter Tryd.func9, Tryd.ntmps9
  go_wp2_with (first | (go_at_call 28; refine (ctok_Int.calls _ _ _ _ _ ((hsh.alloc _).alloc _) h).mono ?_; rintro e w2 ⟨rfl, hb⟩; have c00 : w2.cell? ⟨w.heap.size, 0, none⟩ = some (.int .i64 0) := (hb.cell (p := ⟨w.heap.size, 0, none⟩) (by simp; try omega)).trans (by simp); have f00 : w2.frozen? ⟨w.heap.size, 0, none⟩ = false := (hb.frozen (p := ⟨w.heap.size, 0, none⟩) (by simp; try omega)).trans (by simp); have c01 : w2.cell? ⟨w.heap.size, 1, none⟩ = some (.string ⟨#[]⟩) := (hb.cell (p := ⟨w.heap.size, 1, none⟩) (by simp; try omega)).trans (by simp); have f01 : w2.frozen? ⟨w.heap.size, 1, none⟩ = false := (hb.frozen (p := ⟨w.heap.size, 1, none⟩) (by simp; try omega)).trans (by simp); have c10 : w2.cell? ⟨w.heap.size + 1, 0, none⟩ = some (.int .i64 0) := (hb.cell (p := ⟨w.heap.size + 1, 0, none⟩) (by simp; try omega)).trans (by simp); have f10 : w2.frozen? ⟨w.heap.size + 1, 0, none⟩ = false := (hb.frozen (p := ⟨w.heap.size + 1, 0, none⟩) (by simp; try omega)).trans (by simp); have c11 : w2.cell? ⟨w.heap.size + 1, 1, none⟩ = some (.string t) := (hb.cell (p := ⟨w.heap.size + 1, 1, none⟩) (by simp; try omega)).trans (by simp); have f11 : w2.frozen? ⟨w.heap.size + 1, 1, none⟩ = false := (hb.frozen (p := ⟨w.heap.size + 1, 1, none⟩) (by simp; try omega)).trans (by simp)) | (go_at_call 15; refine (ctok_Float.calls k _ _ _ hf).mono ?_; rintro e w3 ⟨rfl, hb2⟩; have d00 : w3.cell? ⟨w.heap.size, 0, none⟩ = some (.int .i64 0) := (hb2.cell (p := ⟨w.heap.size, 0, none⟩) (by have := hb.size; simp at this ⊢; omega)).trans c00; have g00 : w3.frozen? ⟨w.heap.size, 0, none⟩ = false := (hb2.frozen (p := ⟨w.heap.size, 0, none⟩) (by have := hb.size; simp at this ⊢; omega)).trans f00; have d01 : w3.cell? ⟨w.heap.size, 1, none⟩ = some (.string ⟨#[]⟩) := (hb2.cell (p := ⟨w.heap.size, 1, none⟩) (by have := hb.size; simp at this ⊢; omega)).trans c01; have g01 : w3.frozen? ⟨w.heap.size, 1, none⟩ = false := (hb2.frozen (p := ⟨w.heap.size, 1, none⟩) (by have := hb.size; simp at this ⊢; omega)).trans f01; have d10 : w3.cell? ⟨w.heap.size + 1, 0, none⟩ = some (.int .i64 0) := (hb2.cell (p := ⟨w.heap.size + 1, 0, none⟩) (by have := hb.size; simp at this ⊢; omega)).trans c10; have g10 : w3.frozen? ⟨w.heap.size + 1, 0, none⟩ = false := (hb2.frozen (p := ⟨w.heap.size + 1, 0, none⟩) (by have := hb.size; simp at this ⊢; omega)).trans f10; have d11 : w3.cell? ⟨w.heap.size + 1, 1, none⟩ = some (.string t) := (hb2.cell (p := ⟨w.heap.size + 1, 1, none⟩) (by have := hb.size; simp at this ⊢; omega)).trans c11; have g11 : w3.frozen? ⟨w.heap.size + 1, 1, none⟩ = false := (hb2.frozen (p := ⟨w.heap.size + 1, 1, none⟩) (by have := hb.size; simp at this ⊢; omega)).trans f11))
  have HB2 : Below w.heap.size w w3 := ((((Below.refl _ _).alloc (Nat.le_refl _) _).alloc (by simp) _).trans (hb.mono (by simp; omega))).trans (hb2.mono (by have := hb.size; simp at this ⊢; omega))
  refine bodyPost_ret (v := .tuple #[.agg #[.int .i64 0, .string ⟨#[]⟩], .int .i64 40]) ?_ rfl ?_
  ·have b00 : w2.heap[w.heap.size]? = some (.cells #[.int .i64 0, .string ⟨#[]⟩] 23) := blk_below (blk_alloc (blk_new w _) _) hb
   have b0 : w3.heap[w.heap.size]? = some (.cells #[.int .i64 0, .string ⟨#[]⟩] 23) := blk_below b00 hb2
   have q0 := blk_put (cs := #[.int .i64 0, .string ⟨#[]⟩]) (cs' := #[.int .i64 0, .string ⟨#[]⟩]) (blk_put (cs := #[.int .i64 0, .string ⟨#[]⟩]) (cs' := #[.int .i64 0, .string ⟨#[]⟩]) b0 0 (.int .i64 0) rfl) 1 (.string ⟨#[]⟩) rfl
   have q1 := blk_cell q0 0
   have q2 := blk_cell q0 1
   simp [results, Tryd.results9, go_sem, q1, q2]
  exact ⟨er_, by repeat (first | (with_reducible first | exact HB2 | refine below_set ?_ (Nat.le_refl _) | refine below_set ?_ (Nat.le_succ _) | apply below_alloc | apply pw_below_drewN | apply below_drew1) | exact HB2)⟩
theorem ctok_Class.calls (k : Nat) (a0 : Int) (a1 : ByteArray) (r1 : Int) (r2 : ByteArray) (r3 : Int) (w : World) (hsh : SH w) (h : ctok_Class.f k a0 a1 = some (r1, r2, r3)) :
  Calls Tryd.prog 9 #[.int .i64 a0, .string a1] w fun e w' => e = .returned (.tuple #[.agg #[.int .i64 r1, .string r2], .int .i64 r3]) ∧ Below w.heap.size w w' := by
 unfold ctok_Class.f at h
 split at h
 ·rename_i e; subst e
  obtain ⟨b, hb, h⟩ := Option.bind_eq_some_iff.1 h
  have := class1 a1 b w hb
  cases b <;> (simp at h this; obtain ⟨rfl, rfl, rfl⟩ := h; exact this)
 rename_i n1
 split at h
 ·rename_i e; subst e
  obtain ⟨⟨v, u, er⟩, hb, h⟩ := Option.bind_eq_some_iff.1 h
  dsimp only at h
  split at h
  ·rename_i e; subst e
   injection h with h; obtain ⟨rfl, rfl, rfl⟩ := h
   exact class2i k a1 v u w hsh hb
  rename_i e
  have e' : (er == 0) = false := by simpa using e
  obtain ⟨b, hf, h⟩ := Option.bind_eq_some_iff.1 h
  cases b
  ·simp at h; obtain ⟨rfl, rfl, rfl⟩ := h
   exact class2n k a1 v u er w hsh hb e' hf
  simp at h; obtain ⟨rfl, rfl, rfl⟩ := h
  exact class2f k a1 v u er w hsh hb e' hf
 rename_i n2
 split at h
 ·rename_i e; subst e
  obtain ⟨⟨v, er⟩, hb, h⟩ := Option.bind_eq_some_iff.1 h
  dsimp only at h
  split at h
  ·rename_i e; subst e
   injection h with h; obtain ⟨rfl, rfl, rfl⟩ := h
   exact class3y k a1 v w hsh hb
  rename_i e
  injection h with h; obtain ⟨rfl, rfl, rfl⟩ := h
  exact class3n k a1 v er w hsh hb (by simpa using e)
 rename_i n3
 split at h
 ·rename_i e; subst e
  obtain ⟨⟨v, er⟩, hb, h⟩ := Option.bind_eq_some_iff.1 h
  dsimp only at h
  split at h
  ·rename_i e; subst e
   injection h with h; obtain ⟨rfl, rfl, rfl⟩ := h
   exact class4y k a1 v w hsh hb
  rename_i e
  injection h with h; obtain ⟨rfl, rfl, rfl⟩ := h
  exact class4n k a1 v er w hsh hb (by simpa using e)
 rename_i n4
 split at h
 ·rename_i e; subst e
  obtain ⟨t, hb, h⟩ := Option.bind_eq_some_iff.1 h
  injection h with h; obtain ⟨rfl, rfl, rfl⟩ := h
  exact class5 a1 _ w hb
 rename_i n5
 injection h with h; obtain ⟨rfl, rfl, rfl⟩ := h
 exact class0 a0 a1 w (by simpa using n1) (by simpa using n2) (by simpa using n3) (by simpa using n4) (by simpa using n5)
end Go.Proofs.YtcdleippdegibaaDoor.ClassH
namespace Go.Proofs.YtcdleippdegibaaDoor.PF
open Go.RowKit Go.Proofs.YtcdleippdegibaaDoorW.PrintWords Go.Proofs.YtcdleippdegibaaDoorW.PrintLast Go.Proofs.YtcdleippdegibaaDoorW.PrintMore
open Go.Proofs.YtcdleippdegibaaDoor.LibG (SH SH.below SH.drewN SH.drew SH.alloc)
open Go.Proofs.YtcdleippdegibaaDoor.PK
attribute [local go_sem] max2_int min2_int max_two min_two max_three min_three max_four min_four
def errW : Option Int → Value
 | none => .nilIface
 | some c => .iface 0 (.int .i64 c)
theorem errW_none : errW none = .nilIface := rfl
theorem errW_some (c : Int) : errW (some c) = .iface 0 (.int .i64 c) := rfl
theorem info23 : (Tryd.prog.info? 23).map (fun i => (i.zero, i.size, i.bytes)) = some (some (.agg #[(.int .i64 0), (.string ⟨#[]⟩)]), 2, 24) := by kernel_rfl
theorem info44 : (Tryd.prog.info? 44).map (fun i => (i.zero, i.size, i.bytes)) = some (some (.agg #[(.int .i64 0), (.string ⟨#[]⟩), (.int .i64 0), (.int .i64 0), (.bool false)]), 5, 48) := by kernel_rfl
def scan_Bare.l0 : Nat → List (S44) → Bool → List (S44) → Int → Int → Option ((List (S44)))
 | 0, _, _, _, _, _ => none
 | k + 1, x3, x4, x7, x8, x9 => if x9 < x8 then (if 0 ≤ x9 then (if x9 < (x7.length : Int) then (if ((rd_T44 x7 x9).f0) = 8 then (scan_Bare.l0 k x3 true x7 x8 (wrap64 (x9 + 1))) else (if ((rd_T44 x7 x9).f0) = 9 then (scan_Bare.l0 k x3 true x7 x8 (wrap64 (x9 + 1))) else (if (rd_T44 x7 x9).f4 = true then (if x3.length < 2932031007402 then (scan_Bare.l0 k (x3 ++ [(⟨(rd_T44 x7 x9).f0, (rd_T44 x7 x9).f1, (rd_T44 x7 x9).f2, (rd_T44 x7 x9).f3, true⟩ : S44)]) false x7 x8 (wrap64 (x9 + 1))) else (none)) else (if x3.length < 2932031007402 then (scan_Bare.l0 k (x3 ++ [(⟨(rd_T44 x7 x9).f0, (rd_T44 x7 x9).f1, (rd_T44 x7 x9).f2, (rd_T44 x7 x9).f3, x4⟩ : S44)]) false x7 x8 (wrap64 (x9 + 1))) else (none))))) else (none)) else (none)) else (some x3)
def scan_Bare.f (k : Nat) (l0 : List (S44)) : Option ((List (S44))) := scan_Bare.l0 k ([] : List (S44)) false l0 (l0.length : Int) 0
theorem scan_Bare.calls (k : Nat) (A0 : Option Addr) (c0 : Nat) (l0 : List (S44)) (r : List (S44)) (w : World) (hr0 : Kd.C k44 w A0 l0.length l0) (hc0 : l0.length ≤ c0) (h : scan_Bare.f k l0 = some r) :
  Calls Tryd.prog 39 #[.slice A0 l0.length c0] w fun e w' => ∃ v0_ : Value, e = .returned (v0_) ∧ Kd.R k44 44 w' w.heap.size (fun _ => True) v0_ r ∧ Below w.heap.size w w' := by
 have hu44 := Tryd.underlying44
 have HR0 := Aside0.mk hr0
 have HC0 := Aside0.mk hc0
 clear hr0 hc0
 have HB := Aside0.mk (Below.refl w.heap.size w)
 have H : (scan_Bare.l0 k ([] : List (S44)) false l0 (l0.length : Int) 0) = some r := h
 clear h
 have H' := Aside0.mk H
 clear H
 go_enter Tryd.func39, Tryd.ntmps39
 go_wp2
 go_step3
 go_wp2
 go_step3
 go_wp2
 go_loopg [3, 4, 9] k (fun kq v3 v4 v9 w' => ∃ (x3_1 : List (S44)) (x4_1 : Bool) (x9_1 : Int), v4 = .bool x4_1 ∧ v9 = .int .i64 x9_1 ∧ Aside0 (scan_Bare.l0 kq x3_1 x4_1 l0 (l0.length : Int) x9_1 = some r) ∧ Aside0 (kq ≤ k) ∧ Aside0 (Kd.R k44 44 w' w.heap.size (fun _ => True) v3 x3_1) ∧ Aside0 (Below w.heap.size w w'))
 case atStart => exact ⟨(([] : List (S44))), (false), (0), er_, er_, H', ⟨Nat.le_refl _⟩, ⟨by first | exact Kd.R_nil _ _ _ _ _ | exact Kd.N_nil _ _ _ _ _ | exact Kd.V_nil _ _ _ _ _ | exact Kd.Q_nil _ _ _ _ _ | exact Kd.S_nil _ _ _ _ _⟩, ⟨bl_⟩⟩
 case round =>
  clear H'
  obtain ⟨x3_1, x4_1, x9_1, rfl, rfl, HA, HK1, HO_3, HB⟩ := hrel
  cases gk with
  | zero => exact absurd HA.out (by simp [scan_Bare.l0])
  | succ k1 =>
   have H := HA.out
   clear HA
   simp only [scan_Bare.l0] at H
   replace H := id_ H
   obtain ⟨-, c2b0, H⟩ | ⟨-, c2b0, H⟩ := H
   ·replace H := id_ H
    obtain ⟨-, c3b0, H⟩ | ⟨-, -, H⟩ := H
    ·replace H := id_ H
     obtain ⟨-, c4b0, H⟩ | ⟨-, -, H⟩ := H
     ·replace H := ie_ H
      obtain ⟨c5b0, c5b1, H⟩ | ⟨c5b0, c5b1, c5, H⟩ := H
      ·have H' := Aside0.mk H
       clear H
       have p101 : 0 ≤ (x9_1 : Int) := da_
       have q101 : x9_1 < (l0.length : Int) := da_
       obtain ⟨ad101, e101, hx101_0, hx101_1, hx101_2, hx101_3, hx101_4⟩ := at_T44 HR0.out x9_1 p101 q101
       cases e101
       replace hx101_0 := (HB.out.cell (World.block_lt_of_cell? w _ hx101_0)).trans hx101_0
       replace hx101_1 := (HB.out.cell (World.block_lt_of_cell? w _ hx101_1)).trans hx101_1
       replace hx101_2 := (HB.out.cell (World.block_lt_of_cell? w _ hx101_2)).trans hx101_2
       replace hx101_3 := (HB.out.cell (World.block_lt_of_cell? w _ hx101_3)).trans hx101_3
       replace hx101_4 := (HB.out.cell (World.block_lt_of_cell? w _ hx101_4)).trans hx101_4
       replace p101 := eq_true p101
       replace q101 := eq_true q101
       go_wp2_with (first | ((with_reducible refine gate_dst (N := 6) rfl ?_); refine box_event ?hg (N := 6) ?hd (cs := #[.int .i64 0, .string (⟨#[]⟩ : ByteArray), .int .i64 0, .int .i64 0, .bool false]) (t := 44) ?hr ?_; (case hd => rfl); (case hg => rfl); (case hr => first | (go_simp; done) | (go_simp; rfl)); intro gb102 hg w6 hbox hb; have n0_ := Aside0.mk (Kd.R_below (Kd.R_elderB (by (with_reducible repeat (first | apply Kd.R_alloc | apply Kd.R_drewN | apply Kd.R_drew)); exact HO_3.out) gb102 (Nat.le_of_eq hg.symm)) hb); have n1_ := Aside0.mk (below_step bl_ hb); have n2_ := Aside0.mk (hbox); have n3_ := Aside0.mk ((by rw [hg]; exact (below_size bl_) : w.heap.size ≤ gb102)); have n4_ := Aside0.mk ((by rw [hg]; exact (below_size bl_) : w.heap.size ≤ gb102)); clear HO_3; clear HB; have HO_3 := n0_; have HB := n1_; have BK102 := n2_; have GW102 := n3_; have GE102 := n4_; clear n0_ n1_ n2_ n3_ n4_; clear hb hbox hg; have hcz7_0 : w6.cell? ⟨gb102, 0, none⟩ = some (.int .i64 0) := (blk_cell BK102.out 0).trans rfl; have hcz7_1 : w6.cell? ⟨gb102, 1, none⟩ = some (.string (⟨#[]⟩ : ByteArray)) := (blk_cell BK102.out 1).trans rfl; have hcz7_2 : w6.cell? ⟨gb102, 2, none⟩ = some (.int .i64 0) := (blk_cell BK102.out 2).trans rfl; have hcz7_3 : w6.cell? ⟨gb102, 3, none⟩ = some (.int .i64 0) := (blk_cell BK102.out 3).trans rfl; have hcz7_4 : w6.cell? ⟨gb102, 4, none⟩ = some (.bool false) := (blk_cell BK102.out 4).trans rfl; have hfz7_0 := blk_frozen BK102.out 0; have hfz7_1 := blk_frozen BK102.out 1; have hfz7_2 := blk_frozen BK102.out 2; have hfz7_3 := blk_frozen BK102.out 3; have hfz7_4 := blk_frozen BK102.out 4))
       go_roundg k1
       case measure => have := HK1.out; omega
       case rel => exact ⟨(x3_1), (true), (wrap64 (x9_1 + 1)), er_, er_, H', ⟨by have := HK1.out; omega⟩, ⟨by (with_reducible repeat (first | apply Kd.R_alloc | apply Kd.R_drewN | apply Kd.R_drew)); exact Kd.R_mono (Kd.R_far (p := ⟨gb102, 4, none⟩) (Kd.R_far (p := ⟨gb102, 3, none⟩) (Kd.R_far (p := ⟨gb102, 2, none⟩) (Kd.R_far (p := ⟨gb102, 1, none⟩) (Kd.R_far (p := ⟨gb102, 0, none⟩) (Kd.R_mono HO_3.out (fun k_ hk => (⟨hk, hk.2⟩ : _ ∧ k_ ≠ gb102))) (fun _ hk => hk.2) (.int .i64 ((rd_T44 l0 x9_1).f0))) (fun _ hk => hk.2) (.string ((rd_T44 l0 x9_1).f1))) (fun _ hk => hk.2) (.int .i64 ((rd_T44 l0 x9_1).f2))) (fun _ hk => hk.2) (.int .i64 ((rd_T44 l0 x9_1).f3))) (fun _ hk => hk.2) (.bool ((rd_T44 l0 x9_1).f4))) (fun _ hk => trivial)⟩, ⟨by repeat (first | (with_reducible first | exact HB.out | apply below_alloc | apply pw_below_drewN | apply below_drew1 | refine below_set ?_ GE102.out) | exact HB.out)⟩⟩
      replace H := ie_ H
      obtain ⟨c8b0, c8b1, H⟩ | ⟨c8b0, c8b1, c8, H⟩ := H
      ·have H' := Aside0.mk H
       clear H
       have p101 : 0 ≤ (x9_1 : Int) := da_
       have q101 : x9_1 < (l0.length : Int) := da_
       obtain ⟨ad101, e101, hx101_0, hx101_1, hx101_2, hx101_3, hx101_4⟩ := at_T44 HR0.out x9_1 p101 q101
       cases e101
       replace hx101_0 := (HB.out.cell (World.block_lt_of_cell? w _ hx101_0)).trans hx101_0
       replace hx101_1 := (HB.out.cell (World.block_lt_of_cell? w _ hx101_1)).trans hx101_1
       replace hx101_2 := (HB.out.cell (World.block_lt_of_cell? w _ hx101_2)).trans hx101_2
       replace hx101_3 := (HB.out.cell (World.block_lt_of_cell? w _ hx101_3)).trans hx101_3
       replace hx101_4 := (HB.out.cell (World.block_lt_of_cell? w _ hx101_4)).trans hx101_4
       replace p101 := eq_true p101
       replace q101 := eq_true q101
       go_wp2_with (first | ((with_reducible refine gate_dst (N := 6) rfl ?_); refine box_event ?hg (N := 6) ?hd (cs := #[.int .i64 0, .string (⟨#[]⟩ : ByteArray), .int .i64 0, .int .i64 0, .bool false]) (t := 44) ?hr ?_; (case hd => rfl); (case hg => rfl); (case hr => first | (go_simp; done) | (go_simp; rfl)); intro gb102 hg w9 hbox hb; have n0_ := Aside0.mk (Kd.R_below (Kd.R_elderB (by (with_reducible repeat (first | apply Kd.R_alloc | apply Kd.R_drewN | apply Kd.R_drew)); exact HO_3.out) gb102 (Nat.le_of_eq hg.symm)) hb); have n1_ := Aside0.mk (below_step bl_ hb); have n2_ := Aside0.mk (hbox); have n3_ := Aside0.mk ((by rw [hg]; exact (below_size bl_) : w.heap.size ≤ gb102)); have n4_ := Aside0.mk ((by rw [hg]; exact (below_size bl_) : w.heap.size ≤ gb102)); clear HO_3; clear HB; have HO_3 := n0_; have HB := n1_; have BK102 := n2_; have GW102 := n3_; have GE102 := n4_; clear n0_ n1_ n2_ n3_ n4_; clear hb hbox hg; have hcz10_0 : w9.cell? ⟨gb102, 0, none⟩ = some (.int .i64 0) := (blk_cell BK102.out 0).trans rfl; have hcz10_1 : w9.cell? ⟨gb102, 1, none⟩ = some (.string (⟨#[]⟩ : ByteArray)) := (blk_cell BK102.out 1).trans rfl; have hcz10_2 : w9.cell? ⟨gb102, 2, none⟩ = some (.int .i64 0) := (blk_cell BK102.out 2).trans rfl; have hcz10_3 : w9.cell? ⟨gb102, 3, none⟩ = some (.int .i64 0) := (blk_cell BK102.out 3).trans rfl; have hcz10_4 : w9.cell? ⟨gb102, 4, none⟩ = some (.bool false) := (blk_cell BK102.out 4).trans rfl; have hfz10_0 := blk_frozen BK102.out 0; have hfz10_1 := blk_frozen BK102.out 1; have hfz10_2 := blk_frozen BK102.out 2; have hfz10_3 := blk_frozen BK102.out 3; have hfz10_4 := blk_frozen BK102.out 4))
       go_roundg k1
       case measure => have := HK1.out; omega
       case rel => exact ⟨(x3_1), (true), (wrap64 (x9_1 + 1)), er_, er_, H', ⟨by have := HK1.out; omega⟩, ⟨by (with_reducible repeat (first | apply Kd.R_alloc | apply Kd.R_drewN | apply Kd.R_drew)); exact Kd.R_mono (Kd.R_far (p := ⟨gb102, 4, none⟩) (Kd.R_far (p := ⟨gb102, 3, none⟩) (Kd.R_far (p := ⟨gb102, 2, none⟩) (Kd.R_far (p := ⟨gb102, 1, none⟩) (Kd.R_far (p := ⟨gb102, 0, none⟩) (Kd.R_mono HO_3.out (fun k_ hk => (⟨hk, hk.2⟩ : _ ∧ k_ ≠ gb102))) (fun _ hk => hk.2) (.int .i64 ((rd_T44 l0 x9_1).f0))) (fun _ hk => hk.2) (.string ((rd_T44 l0 x9_1).f1))) (fun _ hk => hk.2) (.int .i64 ((rd_T44 l0 x9_1).f2))) (fun _ hk => hk.2) (.int .i64 ((rd_T44 l0 x9_1).f3))) (fun _ hk => hk.2) (.bool ((rd_T44 l0 x9_1).f4))) (fun _ hk => trivial)⟩, ⟨by repeat (first | (with_reducible first | exact HB.out | apply below_alloc | apply pw_below_drewN | apply below_drew1 | refine below_set ?_ GE102.out) | exact HB.out)⟩⟩
      obtain ⟨bq11, hbq11⟩ : ∃ b_ : Bool, b_ = ((rd_T44 l0 x9_1).f4) := ⟨_, rfl⟩
      replace H : (if bq11 = true then (if x3_1.length < 2932031007402 then (scan_Bare.l0 k1 (x3_1 ++ [(⟨(rd_T44 l0 x9_1).f0, (rd_T44 l0 x9_1).f1, (rd_T44 l0 x9_1).f2, (rd_T44 l0 x9_1).f3, true⟩ : S44)]) false l0 (l0.length : Int) (wrap64 (x9_1 + 1))) else (none)) else (if x3_1.length < 2932031007402 then (scan_Bare.l0 k1 (x3_1 ++ [(⟨(rd_T44 l0 x9_1).f0, (rd_T44 l0 x9_1).f1, (rd_T44 l0 x9_1).f2, (rd_T44 l0 x9_1).f3, x4_1⟩ : S44)]) false l0 (l0.length : Int) (wrap64 (x9_1 + 1))) else (none))) = some r := by rw [← hbq11] at H; exact H
      have Nbq11 := Aside0.mk hbq11
      clear hbq11
      by_cases c12 : bq11 = true
      ·subst c12
       have H1 : (if x3_1.length < 2932031007402 then (scan_Bare.l0 k1 (x3_1 ++ [(⟨(rd_T44 l0 x9_1).f0, (rd_T44 l0 x9_1).f1, (rd_T44 l0 x9_1).f2, (rd_T44 l0 x9_1).f3, true⟩ : S44)]) false l0 (l0.length : Int) (wrap64 (x9_1 + 1))) else (none)) = some r := by rw [if_pos rfl] at H; exact H
       clear H
       have H := H1
       clear H1
       replace H := ib_ H
       obtain ⟨c13, H⟩ | ⟨c13, H⟩ := H
       ·have LMc13 := Aside0.mk c13
        clear c13
        obtain ⟨y103, hy103⟩ : ∃ y_ : List (S44), y_ = (x3_1 ++ [(⟨(rd_T44 l0 x9_1).f0, (rd_T44 l0 x9_1).f1, (rd_T44 l0 x9_1).f2, (rd_T44 l0 x9_1).f3, true⟩ : S44)]) := ⟨_, rfl⟩
        replace H : (scan_Bare.l0 k1 y103 false l0 (l0.length : Int) (wrap64 (x9_1 + 1))) = some r := by first | (rw [hy103]; with_reducible exact H) | (have H2_ := (Option.bind_some _ _).symm.trans H; rw [hy103]; with_reducible exact H2_) | (have H2_ := (Option.bind_some _ _).symm.trans H; with_reducible exact H2_) | with_reducible exact H | (rw [hy103]; exact H) | exact H
        have Ny103 := Aside0.mk hy103
        clear hy103
        have H' := Aside0.mk H
        clear H
        have p101 : 0 ≤ (x9_1 : Int) := da_
        have q101 : x9_1 < (l0.length : Int) := da_
        obtain ⟨ad101, e101, hx101_0, hx101_1, hx101_2, hx101_3, hx101_4⟩ := at_T44 HR0.out x9_1 p101 q101
        (try rw [← Nbq11.out] at hx101_4)
        cases e101
        replace hx101_0 := (HB.out.cell (World.block_lt_of_cell? w _ hx101_0)).trans hx101_0
        replace hx101_1 := (HB.out.cell (World.block_lt_of_cell? w _ hx101_1)).trans hx101_1
        replace hx101_2 := (HB.out.cell (World.block_lt_of_cell? w _ hx101_2)).trans hx101_2
        replace hx101_3 := (HB.out.cell (World.block_lt_of_cell? w _ hx101_3)).trans hx101_3
        replace hx101_4 := (HB.out.cell (World.block_lt_of_cell? w _ hx101_4)).trans hx101_4
        replace p101 := eq_true p101
        replace q101 := eq_true q101
        go_wp2_with (first | ((with_reducible refine gate_builtin (b := .append) (xs := #[.tmp 24, .tmp 26]) rfl ?_); at_builtin; refine Kd.R_append k44 (w0 := w) w.heap.size rfl (.tmp 24) (.tmp 26) 42 44 (.agg #[(.int .i64 0), (.string ⟨#[]⟩), (.int .i64 0), (.int .i64 0), (.bool false)]) 48 rfl Tryd.underlying42 info44 rfl (by decide) (by omega) u3 x3_1 (⟨(rd_T44 l0 x9_1).f0, (rd_T44 l0 x9_1).f1, (rd_T44 l0 x9_1).f2, (rd_T44 l0 x9_1).f3, true⟩ : S44) [.int .i64 ((rd_T44 l0 x9_1).f0), .string ((rd_T44 l0 x9_1).f1), .int .i64 ((rd_T44 l0 x9_1).f2), .int .i64 ((rd_T44 l0 x9_1).f3), .bool true] (fun _ => True) (fun _ => False) rfl (by first | rfl | (go_simp; done) | (go_simp; rfl)) ?aP (fun _ hk => hk.elim) ?aF ?aO ?aB ?aS ?aL ?_; (case aP => exact k44_mkM _ _ _ (⟨(rd_T44 l0 x9_1).f0, (rd_T44 l0 x9_1).f1, (rd_T44 l0 x9_1).f2, (rd_T44 l0 x9_1).f3, true⟩ : S44)); (case aB => exact bl_); (case aF => exact (fun _ _ => trivial)); (case aO => exact (by (with_reducible repeat (first | apply Kd.R_alloc | apply Kd.R_drewN | apply Kd.R_drew)); exact HO_3.out)); (case aS => exact (below_size bl_)); (case aL => have := LMc13.out; omega); intro v104 w16 ho hb hg hat; rw [← Ny103.out] at ho; have n0_ := Aside0.mk (hb); have n1_ := Aside0.mk (ho); clear HB; clear HO_3; have HB := n0_; have HO105 := n1_; clear n0_ n1_; clear ho hb hg hat))
        go_roundg k1
        case measure => have := HK1.out; omega
        case rel => exact ⟨(y103), (false), (wrap64 (x9_1 + 1)), er_, er_, H', ⟨by have := HK1.out; omega⟩, ⟨by (with_reducible repeat (first | apply Kd.R_alloc | apply Kd.R_drewN | apply Kd.R_drew)); exact Kd.R_mono HO105.out (fun _ hk => trivial)⟩, ⟨bl_⟩⟩
       exact absurd H (by simp)
      replace c12 := Bool.eq_false_iff.mpr c12
      subst c12
      have H1 : (if x3_1.length < 2932031007402 then (scan_Bare.l0 k1 (x3_1 ++ [(⟨(rd_T44 l0 x9_1).f0, (rd_T44 l0 x9_1).f1, (rd_T44 l0 x9_1).f2, (rd_T44 l0 x9_1).f3, x4_1⟩ : S44)]) false l0 (l0.length : Int) (wrap64 (x9_1 + 1))) else (none)) = some r := by rw [if_neg (show ¬ (false = true) by decide)] at H; exact H
      clear H
      have H := H1
      clear H1
      replace H := ib_ H
      obtain ⟨c17, H⟩ | ⟨c17, H⟩ := H
      ·have LMc17 := Aside0.mk c17
       clear c17
       obtain ⟨y106, hy106⟩ : ∃ y_ : List (S44), y_ = (x3_1 ++ [(⟨(rd_T44 l0 x9_1).f0, (rd_T44 l0 x9_1).f1, (rd_T44 l0 x9_1).f2, (rd_T44 l0 x9_1).f3, x4_1⟩ : S44)]) := ⟨_, rfl⟩
       replace H : (scan_Bare.l0 k1 y106 false l0 (l0.length : Int) (wrap64 (x9_1 + 1))) = some r := by first | (rw [hy106]; with_reducible exact H) | (have H2_ := (Option.bind_some _ _).symm.trans H; rw [hy106]; with_reducible exact H2_) | (have H2_ := (Option.bind_some _ _).symm.trans H; with_reducible exact H2_) | with_reducible exact H | (rw [hy106]; exact H) | exact H
       have Ny106 := Aside0.mk hy106
       clear hy106
       have H' := Aside0.mk H
       clear H
       have p101 : 0 ≤ (x9_1 : Int) := da_
       have q101 : x9_1 < (l0.length : Int) := da_
       obtain ⟨ad101, e101, hx101_0, hx101_1, hx101_2, hx101_3, hx101_4⟩ := at_T44 HR0.out x9_1 p101 q101
       (try rw [← Nbq11.out] at hx101_4)
       cases e101
       replace hx101_0 := (HB.out.cell (World.block_lt_of_cell? w _ hx101_0)).trans hx101_0
       replace hx101_1 := (HB.out.cell (World.block_lt_of_cell? w _ hx101_1)).trans hx101_1
       replace hx101_2 := (HB.out.cell (World.block_lt_of_cell? w _ hx101_2)).trans hx101_2
       replace hx101_3 := (HB.out.cell (World.block_lt_of_cell? w _ hx101_3)).trans hx101_3
       replace hx101_4 := (HB.out.cell (World.block_lt_of_cell? w _ hx101_4)).trans hx101_4
       replace p101 := eq_true p101
       replace q101 := eq_true q101
       go_wp2_with (first | ((with_reducible refine gate_builtin (b := .append) (xs := #[.tmp 24, .tmp 26]) rfl ?_); at_builtin; refine Kd.R_append k44 (w0 := w) w.heap.size rfl (.tmp 24) (.tmp 26) 42 44 (.agg #[(.int .i64 0), (.string ⟨#[]⟩), (.int .i64 0), (.int .i64 0), (.bool false)]) 48 rfl Tryd.underlying42 info44 rfl (by decide) (by omega) u3 x3_1 (⟨(rd_T44 l0 x9_1).f0, (rd_T44 l0 x9_1).f1, (rd_T44 l0 x9_1).f2, (rd_T44 l0 x9_1).f3, x4_1⟩ : S44) [.int .i64 ((rd_T44 l0 x9_1).f0), .string ((rd_T44 l0 x9_1).f1), .int .i64 ((rd_T44 l0 x9_1).f2), .int .i64 ((rd_T44 l0 x9_1).f3), .bool x4_1] (fun _ => True) (fun _ => False) rfl (by first | rfl | (go_simp; done) | (go_simp; rfl)) ?aP (fun _ hk => hk.elim) ?aF ?aO ?aB ?aS ?aL ?_; (case aP => exact k44_mkM _ _ _ (⟨(rd_T44 l0 x9_1).f0, (rd_T44 l0 x9_1).f1, (rd_T44 l0 x9_1).f2, (rd_T44 l0 x9_1).f3, x4_1⟩ : S44)); (case aB => exact bl_); (case aF => exact (fun _ _ => trivial)); (case aO => exact (by (with_reducible repeat (first | apply Kd.R_alloc | apply Kd.R_drewN | apply Kd.R_drew)); exact HO_3.out)); (case aS => exact (below_size bl_)); (case aL => have := LMc17.out; omega); intro v107 w20 ho hb hg hat; rw [← Ny106.out] at ho; have n0_ := Aside0.mk (hb); have n1_ := Aside0.mk (ho); clear HB; clear HO_3; have HB := n0_; have HO108 := n1_; clear n0_ n1_; clear ho hb hg hat))
       go_roundg k1
       case measure => have := HK1.out; omega
       case rel => exact ⟨(y106), (false), (wrap64 (x9_1 + 1)), er_, er_, H', ⟨by have := HK1.out; omega⟩, ⟨by (with_reducible repeat (first | apply Kd.R_alloc | apply Kd.R_drewN | apply Kd.R_drew)); exact Kd.R_mono HO108.out (fun _ hk => trivial)⟩, ⟨bl_⟩⟩
      exact absurd H (by simp)
     exact absurd H (by simp)
    exact absurd H (by simp)
   obtain rfl := Option.some.inj H
   go_wp2
   go_ret
   exact ⟨_, es_, by (with_reducible repeat (first | apply Kd.R_alloc | apply Kd.R_drewN | apply Kd.R_drew)); exact HO_3.out, bl_⟩
end Go.Proofs.YtcdleippdegibaaDoor.PF
namespace Go.Proofs.YtcdleippdegibaaDoor.PF
open Go.RowKit Go.Proofs.YtcdleippdegibaaDoorW.PrintWords Go.Proofs.YtcdleippdegibaaDoorW.PrintLast Go.Proofs.YtcdleippdegibaaDoorW.PrintMore
open Go.Proofs.YtcdleippdegibaaDoor.LibG (SH SH.below SH.drewN SH.drew SH.alloc)
open Go.Proofs.YtcdleippdegibaaDoor.PK
attribute [local go_sem] max2_int min2_int max_two min_two max_three min_three max_four min_four
end Go.Proofs.YtcdleippdegibaaDoor.PF
namespace Go.Proofs.YtcdleippdegibaaDoor.PF
open Go.RowKit Go.Proofs.YtcdleippdegibaaDoorW.PrintWords Go.Proofs.YtcdleippdegibaaDoorW.PrintLast Go.Proofs.YtcdleippdegibaaDoorW.PrintMore
open Go.Proofs.YtcdleippdegibaaDoor.LibG (SH SH.below SH.drewN SH.drew SH.alloc)
open Go.Proofs.YtcdleippdegibaaDoor.PK
attribute [local go_sem] max2_int min2_int max_two min_two max_three min_three max_four min_four
def ctok_Tokens.l0 : Nat → List (S23) → List (S44) → Int → Int → Option ((List (S23)) × Int × Int)
 | 0, _, _, _, _ => none
 | k + 1, x5, x11, x12, x13 => if x13 < x12 then (if 0 ≤ x13 then (if x13 < (x11.length : Int) then ((ClassH.ctok_Class.f k ((rd_T44 x11 x13).f0) ((rd_T44 x11 x13).f1)).bind fun bt118 => (if bt118.2.2 = 0 then (if x5.length < 5864062014805 then (ctok_Tokens.l0 k (x5 ++ [(⟨bt118.1, bt118.2.1⟩ : S23)]) x11 x12 (wrap64 (x13 + 1))) else (none)) else (some (([] : List (S23)), x13, bt118.2.2)))) else (none)) else (none)) else (some (x5, 0, 0))
def ctok_Tokens.f (k : Nat) (l0 : List (S44)) : Option ((List (S23)) × Int × Int) := (scan_Bare.f k l0).bind fun t113 => (ctok_Tokens.l0 k ([] : List (S23)) t113 (t113.length : Int) 0)
theorem ctok_Tokens.calls (k : Nat) (A0 : Option Addr) (c0 : Nat) (l0 : List (S44)) (r1 : List (S23)) (r2 : Int) (r3 : Int) (w : World) (hr0 : Kd.C k44 w A0 l0.length l0) (hc0 : l0.length ≤ c0) (hsh : SH w) (h : ctok_Tokens.f k l0 = some (r1, r2, r3)) :
  Calls Tryd.prog 22 #[.slice A0 l0.length c0] w fun e w' => ∃ v0_ : Value, e = .returned (.tuple #[v0_, .int .i64 r2, .int .i64 r3]) ∧ Kd.R k23 23 w' w.heap.size (fun _ => True) v0_ r1 ∧ Below w.heap.size w w' := by
 have hu44 := Tryd.underlying44
 have hu23 := Tryd.underlying23
 have HSH := Aside0.mk hsh
 clear hsh
 have HR0 := Aside0.mk hr0
 have HC0 := Aside0.mk hc0
 clear hr0 hc0
 have HB := Aside0.mk (Below.refl w.heap.size w)
 have H : ((scan_Bare.f k l0).bind fun t113 => (ctok_Tokens.l0 k ([] : List (S23)) t113 (t113.length : Int) 0)) = some (r1, r2, r3) := h
 clear h
 replace H := Option.bind_eq_some_iff.mp H
 obtain ⟨t113, A20, H⟩ := H
 replace H : (ctok_Tokens.l0 k ([] : List (S23)) t113 (t113.length : Int) 0) = some (r1, r2, r3) := H
 have A2 := Aside0.mk A20
 clear A20
 have H' := Aside0.mk H
 clear H
 go_enter Tryd.func22, Tryd.ntmps22
 go_wp2_with (first | ((with_reducible refine gate_callee (f := 39) rfl ?_); refine goesL_ (some 11) rfl rfl Tryd.func39 (by kernel_rfl) rfl #[.slice A0 l0.length c0] rfl ar_ ?_; (with_reducible refine (scan_Bare.calls k _ _ l0 t113 _ ?side1 ?side2 A2.out).mono ?_); (case side1 => repeat (first | exact HR0.out | (with_reducible refine Kd.C_alloc ?_ _) | (with_reducible refine Kd.C_drewN ?_ _) | (with_reducible refine Kd.C_drew ?_))); (case side2 => exact HC0.out); rintro e w3 ⟨v114, rfl, ho0, hb⟩; refine ⟨_, rfl, ?_⟩; have n0_ := Aside0.mk (Kd.R_lower ho0 (below_size bl_)); have n1_ := Aside0.mk (below_step bl_ hb); clear HB; have HO115 := n0_; have HB := n1_; clear n0_ n1_; (try clear hb); (try clear hb2); (try clear hk); (try clear hi); (try clear ho0); obtain ⟨Ao4, co4, eo4⟩ := Kd.R_slice HO115.out; subst eo4))
 go_loopg [5, 13] k (fun kq v5 v13 w' => ∃ (x5_1 : List (S23)) (x13_1 : Int), v13 = .int .i64 x13_1 ∧ Aside0 (ctok_Tokens.l0 kq x5_1 t113 (t113.length : Int) x13_1 = some (r1, r2, r3)) ∧ Aside0 (kq ≤ k) ∧ Aside0 (Kd.R k23 23 w' w.heap.size (fun _ => True) v5 x5_1) ∧ Aside0 (Kd.R k44 44 w' w.heap.size (fun _ => True) (.slice Ao4 t113.length co4) t113) ∧ Aside0 (Below w.heap.size w w'))
 case atStart => exact ⟨(([] : List (S23))), (0), er_, H', ⟨Nat.le_refl _⟩, ⟨by first | exact Kd.R_nil _ _ _ _ _ | exact Kd.N_nil _ _ _ _ _ | exact Kd.V_nil _ _ _ _ _ | exact Kd.Q_nil _ _ _ _ _ | exact Kd.S_nil _ _ _ _ _⟩, ⟨by (with_reducible repeat (first | apply Kd.R_alloc | apply Kd.R_drewN | apply Kd.R_drew)); exact HO115.out⟩, ⟨bl_⟩⟩
 case round =>
  clear H'
  obtain ⟨x5_1, x13_1, rfl, HA, HK1, HO_5, HO_11, HB⟩ := hrel
  cases gk with
  | zero => exact absurd HA.out (by simp [ctok_Tokens.l0])
  | succ k1 =>
   have H := HA.out
   clear HA
   simp only [ctok_Tokens.l0] at H
   replace H := id_ H
   obtain ⟨-, c5b0, H⟩ | ⟨-, c5b0, H⟩ := H
   ·replace H := id_ H
    obtain ⟨-, c6b0, H⟩ | ⟨-, -, H⟩ := H
    ·replace H := id_ H
     obtain ⟨-, c7b0, H⟩ | ⟨-, -, H⟩ := H
     ·replace H := Option.bind_eq_some_iff.mp H
      obtain ⟨⟨t118, t119, t120⟩, A80, H⟩ := H
      replace H : (if t120 = 0 then (if x5_1.length < 5864062014805 then (ctok_Tokens.l0 k1 (x5_1 ++ [(⟨t118, t119⟩ : S23)]) t113 (t113.length : Int) (wrap64 (x13_1 + 1))) else (none)) else (some (([] : List (S23)), x13_1, t120))) = some (r1, r2, r3) := H
      have A8 := Aside0.mk A80
      clear A80
      replace H := ie_ H
      obtain ⟨c9b0, c9b1, H⟩ | ⟨c9b0, c9b1, c9, H⟩ := H
      ·replace H := ib_ H
       obtain ⟨c10, H⟩ | ⟨c10, H⟩ := H
       ·have LMc10 := Aside0.mk c10
        clear c10
        obtain ⟨y122, hy122⟩ : ∃ y_ : List (S23), y_ = (x5_1 ++ [(⟨t118, t119⟩ : S23)]) := ⟨_, rfl⟩
        replace H : (ctok_Tokens.l0 k1 y122 t113 (t113.length : Int) (wrap64 (x13_1 + 1))) = some (r1, r2, r3) := by first | (rw [hy122]; with_reducible exact H) | (have H2_ := (Option.bind_some _ _).symm.trans H; rw [hy122]; with_reducible exact H2_) | (have H2_ := (Option.bind_some _ _).symm.trans H; with_reducible exact H2_) | with_reducible exact H | (rw [hy122]; exact H) | exact H
        have Ny122 := Aside0.mk hy122
        clear hy122
        have H' := Aside0.mk H
        clear H
        have p116 : 0 ≤ (x13_1 : Int) := da_
        have q116 : x13_1 < (t113.length : Int) := da_
        obtain ⟨ad116, e116, hx116_0, hx116_1, hx116_2, hx116_3, hx116_4⟩ := at_T44 (Kd.R_reads' HO_11.out).2.2 x13_1 p116 q116
        cases e116
        replace p116 := eq_true p116
        replace q116 := eq_true q116
        go_wp2_with (first | ((with_reducible refine gate_dst (N := 7) rfl ?_); refine box_event ?hg (N := 7) ?hd (cs := #[.int .i64 0, .string (⟨#[]⟩ : ByteArray), .int .i64 0, .int .i64 0, .bool false]) (t := 44) ?hr ?_; (case hd => rfl); (case hg => rfl); (case hr => first | (go_simp; done) | (go_simp; rfl)); intro gb117 hg w11 hbox hb; have n0_ := Aside0.mk (Kd.R_below (by (with_reducible repeat (first | apply Kd.R_alloc | apply Kd.R_drewN | apply Kd.R_drew)); exact HO_5.out) hb); have n1_ := Aside0.mk (Kd.R_below (Kd.R_elderB (by (with_reducible repeat (first | apply Kd.R_alloc | apply Kd.R_drewN | apply Kd.R_drew)); exact HO_11.out) gb117 (Nat.le_of_eq hg.symm)) hb); have n2_ := Aside0.mk (below_step bl_ hb); have n3_ := Aside0.mk (hbox); have n4_ := Aside0.mk ((by rw [hg]; exact (below_size bl_) : w.heap.size ≤ gb117)); have n5_ := Aside0.mk ((by rw [hg]; exact (below_size bl_) : w.heap.size ≤ gb117)); clear HO_5; clear HO_11; clear HB; have HO_5 := n0_; have HO_11 := n1_; have HB := n2_; have BK117 := n3_; have GW117 := n4_; have GE117 := n5_; clear n0_ n1_ n2_ n3_ n4_ n5_; clear hb hbox hg; have hcz12_0 : w11.cell? ⟨gb117, 0, none⟩ = some (.int .i64 0) := (blk_cell BK117.out 0).trans rfl; have hcz12_1 : w11.cell? ⟨gb117, 1, none⟩ = some (.string (⟨#[]⟩ : ByteArray)) := (blk_cell BK117.out 1).trans rfl; have hcz12_2 : w11.cell? ⟨gb117, 2, none⟩ = some (.int .i64 0) := (blk_cell BK117.out 2).trans rfl; have hcz12_3 : w11.cell? ⟨gb117, 3, none⟩ = some (.int .i64 0) := (blk_cell BK117.out 3).trans rfl; have hcz12_4 : w11.cell? ⟨gb117, 4, none⟩ = some (.bool false) := (blk_cell BK117.out 4).trans rfl; have hfz12_0 := blk_frozen BK117.out 0; have hfz12_1 := blk_frozen BK117.out 1; have hfz12_2 := blk_frozen BK117.out 2; have hfz12_3 := blk_frozen BK117.out 3; have hfz12_4 := blk_frozen BK117.out 4) | ((with_reducible refine gate_callee (f := 9) rfl ?_); refine goesL_ (some 23) rfl rfl Tryd.func9 (by kernel_rfl) rfl #[.int .i64 ((rd_T44 t113 x13_1).f0), .string ((rd_T44 t113 x13_1).f1)] rfl ar_ ?_; (with_reducible refine (ClassH.ctok_Class.calls k1 ((rd_T44 t113 x13_1).f0) ((rd_T44 t113 x13_1).f1) t118 t119 t120 _ ?side1 A8.out).mono ?_); (case side1 => first | exact SH.below HSH.out (by repeat (first | (with_reducible first | exact HB.out | apply below_alloc | apply pw_below_drewN | apply below_drew1 | refine below_set ?_ GE117.out) | exact HB.out)) | (repeat (first | exact HSH.out | (with_reducible refine SH.drewN ?_ _) | (with_reducible refine SH.drew ?_) | (with_reducible refine SH.alloc ?_ _)))); rintro e w13 ⟨rfl, hb⟩; refine ⟨_, rfl, ?_⟩; have n0_ := Aside0.mk (Kd.R_below (by (with_reducible repeat (first | apply Kd.R_alloc | apply Kd.R_drewN | apply Kd.R_drew)); exact (Kd.R_mono (Kd.R_far (p := ⟨gb117, 4, none⟩) (Kd.R_far (p := ⟨gb117, 3, none⟩) (Kd.R_far (p := ⟨gb117, 2, none⟩) (Kd.R_far (p := ⟨gb117, 1, none⟩) (Kd.R_far (p := ⟨gb117, 0, none⟩) (Kd.R_types HO_5.out BK117.out (by decide)) (fun _ hk => hk.2) (.int .i64 ((rd_T44 t113 x13_1).f0))) (fun _ hk => hk.2) (.string ((rd_T44 t113 x13_1).f1))) (fun _ hk => hk.2) (.int .i64 ((rd_T44 t113 x13_1).f2))) (fun _ hk => hk.2) (.int .i64 ((rd_T44 t113 x13_1).f3))) (fun _ hk => hk.2) (.bool ((rd_T44 t113 x13_1).f4))) (fun _ h_ => h_.1))) hb); have n1_ := Aside0.mk (Kd.R_below (by (with_reducible repeat (first | apply Kd.R_alloc | apply Kd.R_drewN | apply Kd.R_drew)); exact (Kd.R_mono (Kd.R_far (p := ⟨gb117, 4, none⟩) (Kd.R_far (p := ⟨gb117, 3, none⟩) (Kd.R_far (p := ⟨gb117, 2, none⟩) (Kd.R_far (p := ⟨gb117, 1, none⟩) (Kd.R_far (p := ⟨gb117, 0, none⟩) (Kd.R_mono HO_11.out (fun k_ hk => (⟨hk, hk.2⟩ : _ ∧ k_ ≠ gb117))) (fun _ hk => hk.2) (.int .i64 ((rd_T44 t113 x13_1).f0))) (fun _ hk => hk.2) (.string ((rd_T44 t113 x13_1).f1))) (fun _ hk => hk.2) (.int .i64 ((rd_T44 t113 x13_1).f2))) (fun _ hk => hk.2) (.int .i64 ((rd_T44 t113 x13_1).f3))) (fun _ hk => hk.2) (.bool ((rd_T44 t113 x13_1).f4))) (fun _ h_ => h_.1))) hb); have n2_ := Aside0.mk (blk_below (g := gb117) (o := .cells #[.int .i64 ((rd_T44 t113 x13_1).f0), .string ((rd_T44 t113 x13_1).f1), .int .i64 ((rd_T44 t113 x13_1).f2), .int .i64 ((rd_T44 t113 x13_1).f3), .bool ((rd_T44 t113 x13_1).f4)] 44 (0, 0)) (by (with_reducible repeat (first | refine blk_drewN ?_ _ | refine blk_drew ?_ | refine blk_alloc ?_ _)); refine blk_put (cs := #[.int .i64 ((rd_T44 t113 x13_1).f0), .string ((rd_T44 t113 x13_1).f1), .int .i64 ((rd_T44 t113 x13_1).f2), .int .i64 ((rd_T44 t113 x13_1).f3), .bool false]) ?_ 4 _ rfl; (with_reducible repeat (first | refine blk_drewN ?_ _ | refine blk_drew ?_ | refine blk_alloc ?_ _)); refine blk_put (cs := #[.int .i64 ((rd_T44 t113 x13_1).f0), .string ((rd_T44 t113 x13_1).f1), .int .i64 ((rd_T44 t113 x13_1).f2), .int .i64 0, .bool false]) ?_ 3 _ rfl; (with_reducible repeat (first | refine blk_drewN ?_ _ | refine blk_drew ?_ | refine blk_alloc ?_ _)); refine blk_put (cs := #[.int .i64 ((rd_T44 t113 x13_1).f0), .string ((rd_T44 t113 x13_1).f1), .int .i64 0, .int .i64 0, .bool false]) ?_ 2 _ rfl; (with_reducible repeat (first | refine blk_drewN ?_ _ | refine blk_drew ?_ | refine blk_alloc ?_ _)); refine blk_put (cs := #[.int .i64 ((rd_T44 t113 x13_1).f0), .string (⟨#[]⟩ : ByteArray), .int .i64 0, .int .i64 0, .bool false]) ?_ 1 _ rfl; (with_reducible repeat (first | refine blk_drewN ?_ _ | refine blk_drew ?_ | refine blk_alloc ?_ _)); refine blk_put (cs := #[.int .i64 0, .string (⟨#[]⟩ : ByteArray), .int .i64 0, .int .i64 0, .bool false]) ?_ 0 _ rfl; (with_reducible repeat (first | refine blk_drewN ?_ _ | refine blk_drew ?_ | refine blk_alloc ?_ _)); exact BK117.out) hb); have n3_ := Aside0.mk (below_step (by repeat (first | (with_reducible first | exact HB.out | apply below_alloc | apply pw_below_drewN | apply below_drew1 | refine below_set ?_ GE117.out) | exact HB.out)) hb); clear HO_5; clear HO_11; clear BK117; clear HB; have HO_5 := n0_; have HO_11 := n1_; have BK117 := n2_; have HB := n3_; clear n0_ n1_ n2_ n3_; (try clear hb); (try clear hb2); (try clear hk); (try clear hi)) | ((with_reducible refine gate_dst (N := 8) rfl ?_); refine box_event ?hg (N := 8) ?hd (cs := #[.int .i64 0, .string (⟨#[]⟩ : ByteArray)]) (t := 23) ?hr ?_; (case hd => rfl); (case hg => rfl); (case hr => first | (go_simp; done) | (go_simp; rfl)); intro gb121 hg w14 hbox hb; have n0_ := Aside0.mk (Kd.R_below (Kd.R_elderB (by (with_reducible repeat (first | apply Kd.R_alloc | apply Kd.R_drewN | apply Kd.R_drew)); exact HO_5.out) gb121 (Nat.le_of_eq hg.symm)) hb); have n1_ := Aside0.mk (Kd.R_below (by (with_reducible repeat (first | apply Kd.R_alloc | apply Kd.R_drewN | apply Kd.R_drew)); exact HO_11.out) hb); have n2_ := Aside0.mk (blk_below (g := gb117) (o := .cells #[.int .i64 ((rd_T44 t113 x13_1).f0), .string ((rd_T44 t113 x13_1).f1), .int .i64 ((rd_T44 t113 x13_1).f2), .int .i64 ((rd_T44 t113 x13_1).f3), .bool ((rd_T44 t113 x13_1).f4)] 44 (0, 0)) (by (with_reducible repeat (first | refine blk_drewN ?_ _ | refine blk_drew ?_ | refine blk_alloc ?_ _)); exact BK117.out) hb); have n3_ := Aside0.mk (below_step (by repeat (first | (with_reducible first | exact HB.out | apply below_alloc | apply pw_below_drewN | apply below_drew1 | refine below_set ?_ GE117.out) | exact HB.out)) hb); have n4_ := Aside0.mk (hbox); have n5_ := Aside0.mk ((by rw [hg]; exact (below_size (by repeat (first | (with_reducible first | exact HB.out | apply below_alloc | apply pw_below_drewN | apply below_drew1 | refine below_set ?_ GE117.out) | exact HB.out))) : w.heap.size ≤ gb121)); have n6_ := Aside0.mk ((by rw [hg]; exact (below_size (by repeat (first | (with_reducible first | exact HB.out | apply below_alloc | apply pw_below_drewN | apply below_drew1 | refine below_set ?_ GE117.out) | exact HB.out))) : w.heap.size ≤ gb121)); have n7_ := Aside0.mk ((by rw [hg]; exact Nat.ne_of_lt (blk_lt (g := gb117) (o := .cells #[.int .i64 ((rd_T44 t113 x13_1).f0), .string ((rd_T44 t113 x13_1).f1), .int .i64 ((rd_T44 t113 x13_1).f2), .int .i64 ((rd_T44 t113 x13_1).f3), .bool ((rd_T44 t113 x13_1).f4)] 44 (0, 0)) (by (with_reducible repeat (first | refine blk_drewN ?_ _ | refine blk_drew ?_ | refine blk_alloc ?_ _)); exact BK117.out)) : gb117 ≠ gb121)); have n8_ := Aside0.mk ((by rw [hg]; exact Nat.ne_of_gt (blk_lt (g := gb117) (o := .cells #[.int .i64 ((rd_T44 t113 x13_1).f0), .string ((rd_T44 t113 x13_1).f1), .int .i64 ((rd_T44 t113 x13_1).f2), .int .i64 ((rd_T44 t113 x13_1).f3), .bool ((rd_T44 t113 x13_1).f4)] 44 (0, 0)) (by (with_reducible repeat (first | refine blk_drewN ?_ _ | refine blk_drew ?_ | refine blk_alloc ?_ _)); exact BK117.out)) : gb121 ≠ gb117)); clear HO_5; clear HO_11; clear BK117; clear HB; have HO_5 := n0_; have HO_11 := n1_; have BK117 := n2_; have HB := n3_; have BK121 := n4_; have GW121 := n5_; have GE121 := n6_; have NB117_121 := n7_; have NB121_117 := n8_; clear n0_ n1_ n2_ n3_ n4_ n5_ n6_ n7_ n8_; clear hb hbox hg; have hnb15 := NB121_117.out; have hnc15 := NB117_121.out; have hcz16_0 : w14.cell? ⟨gb121, 0, none⟩ = some (.int .i64 0) := (blk_cell BK121.out 0).trans rfl; have hcz16_1 : w14.cell? ⟨gb121, 1, none⟩ = some (.string (⟨#[]⟩ : ByteArray)) := (blk_cell BK121.out 1).trans rfl; have hfz16_0 := blk_frozen BK121.out 0; have hfz16_1 := blk_frozen BK121.out 1) | ((with_reducible refine gate_builtin (b := .append) (xs := #[.tmp 30, .tmp 32]) rfl ?_); at_builtin; refine Kd.R_append k23 (w0 := w) w.heap.size rfl (.tmp 30) (.tmp 32) 45 23 (.agg #[(.int .i64 0), (.string ⟨#[]⟩)]) 24 rfl Tryd.underlying45 info23 rfl (by decide) (by omega) u5 x5_1 (⟨t118, t119⟩ : S23) [.int .i64 t118, .string t119] (fun k_ => k_ ≠ gb121) (fun _ => False) rfl (by first | (go_simp; done) | (go_simp; rfl)) ?aP (fun _ hk => hk.elim) ?aF ?aO ?aB ?aS ?aL ?_; (case aP => exact k23_mkM _ _ _ (⟨t118, t119⟩ : S23)); (case aB => exact (by repeat (first | (with_reducible first | exact HB.out | apply below_alloc | apply pw_below_drewN | apply below_drew1 | refine below_set ?_ GE117.out | refine below_set ?_ GE121.out) | exact HB.out))); (case aF => exact (fun k_ hk => Kd.freshB (g := gb121) (o := .cells #[.int .i64 t118, .string t119] 23 (0, 0)) (by (with_reducible repeat (first | refine blk_drewN ?_ _ | refine blk_drew ?_ | refine blk_alloc ?_ _)); refine blk_put (cs := #[.int .i64 t118, .string (⟨#[]⟩ : ByteArray)]) ?_ 1 _ rfl; (with_reducible repeat (first | refine blk_drewN ?_ _ | refine blk_drew ?_ | refine blk_alloc ?_ _)); refine blk_put (cs := #[.int .i64 0, .string (⟨#[]⟩ : ByteArray)]) ?_ 0 _ rfl; (with_reducible repeat (first | refine blk_drewN ?_ _ | refine blk_drew ?_ | refine blk_alloc ?_ _)); exact BK121.out) k_ hk)); (case aO => exact (by (with_reducible repeat (first | apply Kd.R_alloc | apply Kd.R_drewN | apply Kd.R_drew)); exact Kd.R_mono (Kd.R_far (p := ⟨gb121, 1, none⟩) (Kd.R_far (p := ⟨gb121, 0, none⟩) (Kd.R_mono HO_5.out (fun k_ hk => (⟨hk, hk.2⟩ : _ ∧ k_ ≠ gb121))) (fun _ hk => hk.2) (.int .i64 t118)) (fun _ hk => hk.2) (.string t119)) (fun _ hk => hk.1.2))); (case aS => exact (below_size (by repeat (first | (with_reducible first | exact HB.out | apply below_alloc | apply pw_below_drewN | apply below_drew1 | refine below_set ?_ GE117.out | refine below_set ?_ GE121.out) | exact HB.out)))); (case aL => have := LMc10.out; omega); intro v123 w17 ho hb hg hat; rw [← Ny122.out] at ho; have n0_ := Aside0.mk (Kd.R_over' (by (with_reducible repeat (first | apply Kd.R_alloc | apply Kd.R_drewN | apply Kd.R_drew)); exact (Kd.R_mono (Kd.R_far (p := ⟨gb121, 1, none⟩) (Kd.R_far (p := ⟨gb121, 0, none⟩) (Kd.R_types HO_11.out BK121.out (by decide)) (fun _ hk => hk.2) (.int .i64 t118)) (fun _ hk => hk.2) (.string t119)) (fun _ h_ => h_.1))) (Kd.R_typed (by (with_reducible repeat (first | apply Kd.R_alloc | apply Kd.R_drewN | apply Kd.R_drew)); exact (Kd.R_mono (Kd.R_far (p := ⟨gb121, 1, none⟩) (Kd.R_far (p := ⟨gb121, 0, none⟩) (Kd.R_mono HO_5.out (fun k_ hk => (⟨hk, hk.2⟩ : _ ∧ k_ ≠ gb121))) (fun _ hk => hk.2) (.int .i64 t118)) (fun _ hk => hk.2) (.string t119)) (fun _ h_ => h_.1)))) (by decide) hg); have n1_ := Aside0.mk (blk_grown (g := gb117) (o := .cells #[.int .i64 ((rd_T44 t113 x13_1).f0), .string ((rd_T44 t113 x13_1).f1), .int .i64 ((rd_T44 t113 x13_1).f2), .int .i64 ((rd_T44 t113 x13_1).f3), .bool ((rd_T44 t113 x13_1).f4)] 44 (0, 0)) (by (with_reducible repeat (first | refine blk_drewN ?_ _ | refine blk_drew ?_ | refine blk_alloc ?_ _)); refine blk_far ?_ NB117_121.out _; (with_reducible repeat (first | refine blk_drewN ?_ _ | refine blk_drew ?_ | refine blk_alloc ?_ _)); refine blk_far ?_ NB117_121.out _; (with_reducible repeat (first | refine blk_drewN ?_ _ | refine blk_drew ?_ | refine blk_alloc ?_ _)); exact BK117.out) hg (Kd.R_ne HO_5.out BK117.out (by decide))); have n2_ := Aside0.mk (blk_grown (g := gb121) (o := .cells #[.int .i64 t118, .string t119] 23 (0, 0)) (by (with_reducible repeat (first | refine blk_drewN ?_ _ | refine blk_drew ?_ | refine blk_alloc ?_ _)); refine blk_put (cs := #[.int .i64 t118, .string (⟨#[]⟩ : ByteArray)]) ?_ 1 _ rfl; (with_reducible repeat (first | refine blk_drewN ?_ _ | refine blk_drew ?_ | refine blk_alloc ?_ _)); refine blk_put (cs := #[.int .i64 0, .string (⟨#[]⟩ : ByteArray)]) ?_ 0 _ rfl; (with_reducible repeat (first | refine blk_drewN ?_ _ | refine blk_drew ?_ | refine blk_alloc ?_ _)); exact BK121.out) hg (Kd.R_away HO_5.out (fun _ hk => hk.2))); have n3_ := Aside0.mk (hb); have n4_ := Aside0.mk (ho); clear HO_11; clear BK117; clear BK121; clear HB; clear HO_5; have HO_11 := n0_; have BK117 := n1_; have BK121 := n2_; have HB := n3_; have HO124 := n4_; clear n0_ n1_ n2_ n3_ n4_; clear ho hb hg hat))
        go_roundg k1
        case measure => have := HK1.out; omega
        case rel => exact ⟨(y122), (wrap64 (x13_1 + 1)), er_, H', ⟨by have := HK1.out; omega⟩, ⟨by (with_reducible repeat (first | apply Kd.R_alloc | apply Kd.R_drewN | apply Kd.R_drew)); exact Kd.R_mono HO124.out (fun _ hk => trivial)⟩, ⟨by (with_reducible repeat (first | apply Kd.R_alloc | apply Kd.R_drewN | apply Kd.R_drew)); exact Kd.R_mono HO_11.out (fun _ hk => trivial)⟩, ⟨by repeat (first | (with_reducible first | exact HB.out | apply below_alloc | apply pw_below_drewN | apply below_drew1 | refine below_set ?_ GE117.out | refine below_set ?_ GE121.out) | exact HB.out)⟩⟩
       exact absurd H (by simp)
      simp only [Option.some.injEq, Prod.mk.injEq] at H
      obtain ⟨rfl, rfl, rfl⟩ := H
      have p116 : 0 ≤ (x13_1 : Int) := da_
      have q116 : x13_1 < (t113.length : Int) := da_
      obtain ⟨ad116, e116, hx116_0, hx116_1, hx116_2, hx116_3, hx116_4⟩ := at_T44 (Kd.R_reads' HO_11.out).2.2 x13_1 p116 q116
      cases e116
      replace p116 := eq_true p116
      replace q116 := eq_true q116
      go_wp2_with (first | ((with_reducible refine gate_dst (N := 7) rfl ?_); refine box_event ?hg (N := 7) ?hd (cs := #[.int .i64 0, .string (⟨#[]⟩ : ByteArray), .int .i64 0, .int .i64 0, .bool false]) (t := 44) ?hr ?_; (case hd => rfl); (case hg => rfl); (case hr => first | (go_simp; done) | (go_simp; rfl)); intro gb117 hg w18 hbox hb; have n0_ := Aside0.mk (Kd.R_below (by (with_reducible repeat (first | apply Kd.R_alloc | apply Kd.R_drewN | apply Kd.R_drew)); exact HO_5.out) hb); have n1_ := Aside0.mk (Kd.R_below (Kd.R_elderB (by (with_reducible repeat (first | apply Kd.R_alloc | apply Kd.R_drewN | apply Kd.R_drew)); exact HO_11.out) gb117 (Nat.le_of_eq hg.symm)) hb); have n2_ := Aside0.mk (below_step bl_ hb); have n3_ := Aside0.mk (hbox); have n4_ := Aside0.mk ((by rw [hg]; exact (below_size bl_) : w.heap.size ≤ gb117)); have n5_ := Aside0.mk ((by rw [hg]; exact (below_size bl_) : w.heap.size ≤ gb117)); clear HO_5; clear HO_11; clear HB; have HO_5 := n0_; have HO_11 := n1_; have HB := n2_; have BK117 := n3_; have GW117 := n4_; have GE117 := n5_; clear n0_ n1_ n2_ n3_ n4_ n5_; clear hb hbox hg; have hcz19_0 : w18.cell? ⟨gb117, 0, none⟩ = some (.int .i64 0) := (blk_cell BK117.out 0).trans rfl; have hcz19_1 : w18.cell? ⟨gb117, 1, none⟩ = some (.string (⟨#[]⟩ : ByteArray)) := (blk_cell BK117.out 1).trans rfl; have hcz19_2 : w18.cell? ⟨gb117, 2, none⟩ = some (.int .i64 0) := (blk_cell BK117.out 2).trans rfl; have hcz19_3 : w18.cell? ⟨gb117, 3, none⟩ = some (.int .i64 0) := (blk_cell BK117.out 3).trans rfl; have hcz19_4 : w18.cell? ⟨gb117, 4, none⟩ = some (.bool false) := (blk_cell BK117.out 4).trans rfl; have hfz19_0 := blk_frozen BK117.out 0; have hfz19_1 := blk_frozen BK117.out 1; have hfz19_2 := blk_frozen BK117.out 2; have hfz19_3 := blk_frozen BK117.out 3; have hfz19_4 := blk_frozen BK117.out 4) | ((with_reducible refine gate_callee (f := 9) rfl ?_); refine goesL_ (some 23) rfl rfl Tryd.func9 (by kernel_rfl) rfl #[.int .i64 ((rd_T44 t113 x13_1).f0), .string ((rd_T44 t113 x13_1).f1)] rfl ar_ ?_; (with_reducible refine (ClassH.ctok_Class.calls k1 ((rd_T44 t113 x13_1).f0) ((rd_T44 t113 x13_1).f1) t118 t119 t120 _ ?side1 A8.out).mono ?_); (case side1 => first | exact SH.below HSH.out (by repeat (first | (with_reducible first | exact HB.out | apply below_alloc | apply pw_below_drewN | apply below_drew1 | refine below_set ?_ GE117.out) | exact HB.out)) | (repeat (first | exact HSH.out | (with_reducible refine SH.drewN ?_ _) | (with_reducible refine SH.drew ?_) | (with_reducible refine SH.alloc ?_ _)))); rintro e w20 ⟨rfl, hb⟩; refine ⟨_, rfl, ?_⟩; have n0_ := Aside0.mk (Kd.R_below (by (with_reducible repeat (first | apply Kd.R_alloc | apply Kd.R_drewN | apply Kd.R_drew)); exact (Kd.R_mono (Kd.R_far (p := ⟨gb117, 4, none⟩) (Kd.R_far (p := ⟨gb117, 3, none⟩) (Kd.R_far (p := ⟨gb117, 2, none⟩) (Kd.R_far (p := ⟨gb117, 1, none⟩) (Kd.R_far (p := ⟨gb117, 0, none⟩) (Kd.R_types HO_5.out BK117.out (by decide)) (fun _ hk => hk.2) (.int .i64 ((rd_T44 t113 x13_1).f0))) (fun _ hk => hk.2) (.string ((rd_T44 t113 x13_1).f1))) (fun _ hk => hk.2) (.int .i64 ((rd_T44 t113 x13_1).f2))) (fun _ hk => hk.2) (.int .i64 ((rd_T44 t113 x13_1).f3))) (fun _ hk => hk.2) (.bool ((rd_T44 t113 x13_1).f4))) (fun _ h_ => h_.1))) hb); have n1_ := Aside0.mk (Kd.R_below (by (with_reducible repeat (first | apply Kd.R_alloc | apply Kd.R_drewN | apply Kd.R_drew)); exact (Kd.R_mono (Kd.R_far (p := ⟨gb117, 4, none⟩) (Kd.R_far (p := ⟨gb117, 3, none⟩) (Kd.R_far (p := ⟨gb117, 2, none⟩) (Kd.R_far (p := ⟨gb117, 1, none⟩) (Kd.R_far (p := ⟨gb117, 0, none⟩) (Kd.R_mono HO_11.out (fun k_ hk => (⟨hk, hk.2⟩ : _ ∧ k_ ≠ gb117))) (fun _ hk => hk.2) (.int .i64 ((rd_T44 t113 x13_1).f0))) (fun _ hk => hk.2) (.string ((rd_T44 t113 x13_1).f1))) (fun _ hk => hk.2) (.int .i64 ((rd_T44 t113 x13_1).f2))) (fun _ hk => hk.2) (.int .i64 ((rd_T44 t113 x13_1).f3))) (fun _ hk => hk.2) (.bool ((rd_T44 t113 x13_1).f4))) (fun _ h_ => h_.1))) hb); have n2_ := Aside0.mk (blk_below (g := gb117) (o := .cells #[.int .i64 ((rd_T44 t113 x13_1).f0), .string ((rd_T44 t113 x13_1).f1), .int .i64 ((rd_T44 t113 x13_1).f2), .int .i64 ((rd_T44 t113 x13_1).f3), .bool ((rd_T44 t113 x13_1).f4)] 44 (0, 0)) (by (with_reducible repeat (first | refine blk_drewN ?_ _ | refine blk_drew ?_ | refine blk_alloc ?_ _)); refine blk_put (cs := #[.int .i64 ((rd_T44 t113 x13_1).f0), .string ((rd_T44 t113 x13_1).f1), .int .i64 ((rd_T44 t113 x13_1).f2), .int .i64 ((rd_T44 t113 x13_1).f3), .bool false]) ?_ 4 _ rfl; (with_reducible repeat (first | refine blk_drewN ?_ _ | refine blk_drew ?_ | refine blk_alloc ?_ _)); refine blk_put (cs := #[.int .i64 ((rd_T44 t113 x13_1).f0), .string ((rd_T44 t113 x13_1).f1), .int .i64 ((rd_T44 t113 x13_1).f2), .int .i64 0, .bool false]) ?_ 3 _ rfl; (with_reducible repeat (first | refine blk_drewN ?_ _ | refine blk_drew ?_ | refine blk_alloc ?_ _)); refine blk_put (cs := #[.int .i64 ((rd_T44 t113 x13_1).f0), .string ((rd_T44 t113 x13_1).f1), .int .i64 0, .int .i64 0, .bool false]) ?_ 2 _ rfl; (with_reducible repeat (first | refine blk_drewN ?_ _ | refine blk_drew ?_ | refine blk_alloc ?_ _)); refine blk_put (cs := #[.int .i64 ((rd_T44 t113 x13_1).f0), .string (⟨#[]⟩ : ByteArray), .int .i64 0, .int .i64 0, .bool false]) ?_ 1 _ rfl; (with_reducible repeat (first | refine blk_drewN ?_ _ | refine blk_drew ?_ | refine blk_alloc ?_ _)); refine blk_put (cs := #[.int .i64 0, .string (⟨#[]⟩ : ByteArray), .int .i64 0, .int .i64 0, .bool false]) ?_ 0 _ rfl; (with_reducible repeat (first | refine blk_drewN ?_ _ | refine blk_drew ?_ | refine blk_alloc ?_ _)); exact BK117.out) hb); have n3_ := Aside0.mk (below_step (by repeat (first | (with_reducible first | exact HB.out | apply below_alloc | apply pw_below_drewN | apply below_drew1 | refine below_set ?_ GE117.out) | exact HB.out)) hb); clear HO_5; clear HO_11; clear BK117; clear HB; have HO_5 := n0_; have HO_11 := n1_; have BK117 := n2_; have HB := n3_; clear n0_ n1_ n2_ n3_; (try clear hb); (try clear hb2); (try clear hk); (try clear hi)) | ((with_reducible refine gate_dst (N := 8) rfl ?_); refine box_event ?hg (N := 8) ?hd (cs := #[.int .i64 0, .string (⟨#[]⟩ : ByteArray)]) (t := 23) ?hr ?_; (case hd => rfl); (case hg => rfl); (case hr => first | (go_simp; done) | (go_simp; rfl)); intro gb121 hg w21 hbox hb; have n0_ := Aside0.mk (Kd.R_below (Kd.R_elderB (by (with_reducible repeat (first | apply Kd.R_alloc | apply Kd.R_drewN | apply Kd.R_drew)); exact HO_5.out) gb121 (Nat.le_of_eq hg.symm)) hb); have n1_ := Aside0.mk (Kd.R_below (by (with_reducible repeat (first | apply Kd.R_alloc | apply Kd.R_drewN | apply Kd.R_drew)); exact HO_11.out) hb); have n2_ := Aside0.mk (blk_below (g := gb117) (o := .cells #[.int .i64 ((rd_T44 t113 x13_1).f0), .string ((rd_T44 t113 x13_1).f1), .int .i64 ((rd_T44 t113 x13_1).f2), .int .i64 ((rd_T44 t113 x13_1).f3), .bool ((rd_T44 t113 x13_1).f4)] 44 (0, 0)) (by (with_reducible repeat (first | refine blk_drewN ?_ _ | refine blk_drew ?_ | refine blk_alloc ?_ _)); exact BK117.out) hb); have n3_ := Aside0.mk (below_step (by repeat (first | (with_reducible first | exact HB.out | apply below_alloc | apply pw_below_drewN | apply below_drew1 | refine below_set ?_ GE117.out) | exact HB.out)) hb); have n4_ := Aside0.mk (hbox); have n5_ := Aside0.mk ((by rw [hg]; exact (below_size (by repeat (first | (with_reducible first | exact HB.out | apply below_alloc | apply pw_below_drewN | apply below_drew1 | refine below_set ?_ GE117.out) | exact HB.out))) : w.heap.size ≤ gb121)); have n6_ := Aside0.mk ((by rw [hg]; exact (below_size (by repeat (first | (with_reducible first | exact HB.out | apply below_alloc | apply pw_below_drewN | apply below_drew1 | refine below_set ?_ GE117.out) | exact HB.out))) : w.heap.size ≤ gb121)); have n7_ := Aside0.mk ((by rw [hg]; exact Nat.ne_of_lt (blk_lt (g := gb117) (o := .cells #[.int .i64 ((rd_T44 t113 x13_1).f0), .string ((rd_T44 t113 x13_1).f1), .int .i64 ((rd_T44 t113 x13_1).f2), .int .i64 ((rd_T44 t113 x13_1).f3), .bool ((rd_T44 t113 x13_1).f4)] 44 (0, 0)) (by (with_reducible repeat (first | refine blk_drewN ?_ _ | refine blk_drew ?_ | refine blk_alloc ?_ _)); exact BK117.out)) : gb117 ≠ gb121)); have n8_ := Aside0.mk ((by rw [hg]; exact Nat.ne_of_gt (blk_lt (g := gb117) (o := .cells #[.int .i64 ((rd_T44 t113 x13_1).f0), .string ((rd_T44 t113 x13_1).f1), .int .i64 ((rd_T44 t113 x13_1).f2), .int .i64 ((rd_T44 t113 x13_1).f3), .bool ((rd_T44 t113 x13_1).f4)] 44 (0, 0)) (by (with_reducible repeat (first | refine blk_drewN ?_ _ | refine blk_drew ?_ | refine blk_alloc ?_ _)); exact BK117.out)) : gb121 ≠ gb117)); clear HO_5; clear HO_11; clear BK117; clear HB; have HO_5 := n0_; have HO_11 := n1_; have BK117 := n2_; have HB := n3_; have BK121 := n4_; have GW121 := n5_; have GE121 := n6_; have NB117_121 := n7_; have NB121_117 := n8_; clear n0_ n1_ n2_ n3_ n4_ n5_ n6_ n7_ n8_; clear hb hbox hg; have hnb22 := NB121_117.out; have hnc22 := NB117_121.out; have hcz23_0 : w21.cell? ⟨gb121, 0, none⟩ = some (.int .i64 0) := (blk_cell BK121.out 0).trans rfl; have hcz23_1 : w21.cell? ⟨gb121, 1, none⟩ = some (.string (⟨#[]⟩ : ByteArray)) := (blk_cell BK121.out 1).trans rfl; have hfz23_0 := blk_frozen BK121.out 0; have hfz23_1 := blk_frozen BK121.out 1))
      go_ret3
      exact ⟨_, es_, by first | exact Kd.R_nil _ _ _ _ _ | exact Kd.N_nil _ _ _ _ _ | exact Kd.V_nil _ _ _ _ _ | exact Kd.Q_nil _ _ _ _ _ | exact Kd.S_nil _ _ _ _ _, by repeat (first | (with_reducible first | exact HB.out | apply below_alloc | apply pw_below_drewN | apply below_drew1 | refine below_set ?_ GE117.out | refine below_set ?_ GE121.out) | exact HB.out)⟩
     exact absurd H (by simp)
    exact absurd H (by simp)
   simp only [Option.some.injEq, Prod.mk.injEq] at H
   obtain ⟨rfl, rfl, rfl⟩ := H
   go_wp2
   go_ret3
   exact ⟨_, es_, by (with_reducible repeat (first | apply Kd.R_alloc | apply Kd.R_drewN | apply Kd.R_drew)); exact HO_5.out, bl_⟩
end Go.Proofs.YtcdleippdegibaaDoor.PF
namespace Go.Proofs.YtcdleippdegibaaDoor.PR
open Go.RowKit Go.Proofs.YtcdleippdegibaaDoorW.PrintWords Go.Proofs.YtcdleippdegibaaDoorW.PrintLast Go.Proofs.YtcdleippdegibaaDoorW.PrintMore
open Go.Proofs.YtcdleippdegibaaDoor.LibG (SH SH.below SH.drewN SH.drew SH.alloc)
open Go.Proofs.YtcdleippdegibaaDoor.PK
attribute [local go_sem] max2_int min2_int max_two min_two max_three min_three max_four min_four
def errW : Option Int → Value
 | none => .nilIface
 | some c => .iface 0 (.int .i64 c)
theorem errW_none : errW none = .nilIface := rfl
theorem errW_some (c : Int) : errW (some c) = .iface 0 (.int .i64 c) := rfl
theorem info2 : (Tryd.prog.info? 2).map (fun i => (i.zero, i.size, i.bytes)) = some (some (.int .i64 0), 1, 8) := by kernel_rfl
theorem info9 : (Tryd.prog.info? 9).map (fun i => (i.zero, i.size, i.bytes)) = some (some (.string ⟨#[]⟩), 1, 16) := by kernel_rfl
theorem info44 : (Tryd.prog.info? 44).map (fun i => (i.zero, i.size, i.bytes)) = some (some (.agg #[(.int .i64 0), (.string ⟨#[]⟩), (.int .i64 0), (.int .i64 0), (.bool false)]), 5, 48) := by kernel_rfl
def d_Canon.f (a0 : ByteArray) : Option (ByteArray) := if a0.toList = ([60, 58] : List UInt8) then (some (⟨#[91]⟩ : ByteArray)) else (if a0.toList = ([58, 62] : List UInt8) then (some (⟨#[93]⟩ : ByteArray)) else (if a0.toList = ([60, 37] : List UInt8) then (some (⟨#[123]⟩ : ByteArray)) else (if a0.toList = ([37, 62] : List UInt8) then (some (⟨#[125]⟩ : ByteArray)) else (if a0.toList = ([37, 58] : List UInt8) then (some (⟨#[35]⟩ : ByteArray)) else (if a0.toList = ([37, 58, 37, 58] : List UInt8) then (some (⟨#[35, 35]⟩ : ByteArray)) else (some a0))))))
theorem d_Canon.calls (a0 : ByteArray) (r : ByteArray) (w : World) (h : d_Canon.f a0 = some r) :
  Calls Tryd.prog 14 #[.string a0] w fun e w' => e = .returned (.string r) ∧ Drawn0 w w' := by
 have H : (if a0.toList = ([60, 58] : List UInt8) then (some (⟨#[91]⟩ : ByteArray)) else (if a0.toList = ([58, 62] : List UInt8) then (some (⟨#[93]⟩ : ByteArray)) else (if a0.toList = ([60, 37] : List UInt8) then (some (⟨#[123]⟩ : ByteArray)) else (if a0.toList = ([37, 62] : List UInt8) then (some (⟨#[125]⟩ : ByteArray)) else (if a0.toList = ([37, 58] : List UInt8) then (some (⟨#[35]⟩ : ByteArray)) else (if a0.toList = ([37, 58, 37, 58] : List UInt8) then (some (⟨#[35, 35]⟩ : ByteArray)) else (some a0))))))) = some r := h
 clear h
 replace H := ie_ H
 obtain ⟨c2b0, c2b1, H⟩ | ⟨c2b0, c2b1, c2, H⟩ := H
 ·obtain rfl := Option.some.inj H
  go_enter Tryd.func14, Tryd.ntmps14
  go_wp2
  go_ret
  exact ⟨er_, dr_⟩
 replace H := ie_ H
 obtain ⟨c3b0, c3b1, H⟩ | ⟨c3b0, c3b1, c3, H⟩ := H
 ·obtain rfl := Option.some.inj H
  go_enter Tryd.func14, Tryd.ntmps14
  go_wp2
  go_ret
  exact ⟨er_, dr_⟩
 replace H := ie_ H
 obtain ⟨c4b0, c4b1, H⟩ | ⟨c4b0, c4b1, c4, H⟩ := H
 ·obtain rfl := Option.some.inj H
  go_enter Tryd.func14, Tryd.ntmps14
  go_wp2
  go_ret
  exact ⟨er_, dr_⟩
 replace H := ie_ H
 obtain ⟨c5b0, c5b1, H⟩ | ⟨c5b0, c5b1, c5, H⟩ := H
 ·obtain rfl := Option.some.inj H
  go_enter Tryd.func14, Tryd.ntmps14
  go_wp2
  go_ret
  exact ⟨er_, dr_⟩
 replace H := ie_ H
 obtain ⟨c6b0, c6b1, H⟩ | ⟨c6b0, c6b1, c6, H⟩ := H
 ·obtain rfl := Option.some.inj H
  go_enter Tryd.func14, Tryd.ntmps14
  go_wp2
  go_ret
  exact ⟨er_, dr_⟩
 replace H := ie_ H
 obtain ⟨c7b0, c7b1, H⟩ | ⟨c7b0, c7b1, c7, H⟩ := H
 ·obtain rfl := Option.some.inj H
  go_enter Tryd.func14, Tryd.ntmps14
  go_wp2
  go_ret
  exact ⟨er_, dr_⟩
 obtain rfl := Option.some.inj H
 go_enter Tryd.func14, Tryd.ntmps14
 go_wp2
 go_ret
 exact ⟨er_, dr_⟩
set_option maxRecDepth 100000
mutual
def d_Keyword.l0 : Nat → ByteArray → ByteArray → Int → Option (Bool)
 | 0, _, _, _ => none
 | k + 1, x0, x3, x4 => if x4 < (x0.size : Int) then (if 0 ≤ x4 then (if (bt x0 x4) = 32 then (some false) else (d_Keyword.l0 k x0 x3 (wrap64 (x4 + 1)))) else (none)) else (d_Keyword.l1 k x0 x3 0)
def d_Keyword.l1 : Nat → ByteArray → ByteArray → Int → Option (Bool)
 | 0, _, _, _ => none
 | k + 1, x0, x3, x5 => if (wrap64 (x5 + (x3.size : Int))) ≤ 315 then (d_Keyword.j2 k x0 x3 x5 (decide ((x0.size : Int) > 0))) else (d_Keyword.j2 k x0 x3 x5 false)
def d_Keyword.j2 : Nat → ByteArray → ByteArray → Int → Bool → Option (Bool)
 | 0, _, _, _, _ => none
 | k + 1, x0, x3, x5, x28 => if x28 = true then (if 0 ≤ x5 then (if x5 ≤ (wrap64 (x5 + (x3.size : Int))) then (if (wrap64 (x5 + (x3.size : Int))) ≤ 315 then (if ((⟨#[32, 97, 117, 116, 111, 32, 98, 114, 101, 97, 107, 32, 99, 97, 115, 101, 32, 99, 104, 97, 114, 32, 99, 111, 110, 115, 116, 32, 99, 111, 110, 116, 105, 110, 117, 101, 32, 100, 101, 102, 97, 117, 108, 116, 32, 100, 111, 32, 100, 111, 117, 98, 108, 101, 32, 101, 108, 115, 101, 32, 101, 110, 117, 109, 32, 101, 120, 116, 101, 114, 110, 32, 102, 108, 111, 97, 116, 32, 102, 111, 114, 32, 103, 111, 116, 111, 32, 105, 102, 32, 105, 110, 108, 105, 110, 101, 32, 105, 110, 116, 32, 108, 111, 110, 103, 32, 114, 101, 103, 105, 115, 116, 101, 114, 32, 114, 101, 115, 116, 114, 105, 99, 116, 32, 114, 101, 116, 117, 114, 110, 32, 115, 104, 111, 114, 116, 32, 115, 105, 103, 110, 101, 100, 32, 115, 105, 122, 101, 111, 102, 32, 115, 116, 97, 116, 105, 99, 32, 115, 116, 114, 117, 99, 116, 32, 115, 119, 105, 116, 99, 104, 32, 116, 121, 112, 101, 100, 101, 102, 32, 117, 110, 105, 111, 110, 32, 117, 110, 115, 105, 103, 110, 101, 100, 32, 118, 111, 105, 100, 32, 118, 111, 108, 97, 116, 105, 108, 101, 32, 119, 104, 105, 108, 101, 32, 95, 65, 108, 105, 103, 110, 97, 115, 32, 95, 65, 108, 105, 103, 110, 111, 102, 32, 95, 65, 116, 111, 109, 105, 99, 32, 95, 66, 111, 111, 108, 32, 95, 67, 111, 109, 112, 108, 101, 120, 32, 95, 71, 101, 110, 101, 114, 105, 99, 32, 95, 73, 109, 97, 103, 105, 110, 97, 114, 121, 32, 95, 78, 111, 114, 101, 116, 117, 114, 110, 32, 95, 83, 116, 97, 116, 105, 99, 95, 97, 115, 115, 101, 114, 116, 32, 95, 84, 104, 114, 101, 97, 100, 95, 108, 111, 99, 97, 108, 32]⟩ : ByteArray).extract (x5 : Int).toNat ((wrap64 (x5 + (x3.size : Int))) : Int).toNat).toList = x3.toList then (some true) else (d_Keyword.l1 k x0 x3 (wrap64 (x5 + 1)))) else (none)) else (none)) else (none)) else (some false)
end
def d_Keyword.f (k : Nat) (a0 : ByteArray) : Option (Bool) := if 1 + a0.size ≤ 9223372036854775807 then (if ((⟨#[32]⟩ : ByteArray) ++ a0).size + 1 ≤ 9223372036854775807 then (d_Keyword.l0 k a0 (((⟨#[32]⟩ : ByteArray) ++ a0) ++ (⟨#[32]⟩ : ByteArray)) 0) else (none)) else (none)
theorem d_Keyword.mono_l : ∀ k, (∀ y0 y1 y2, LeO (d_Keyword.l0 k y0 y1 y2) (d_Keyword.l0 (k + 1) y0 y1 y2)) ∧ (∀ y0 y1 y2, LeO (d_Keyword.l1 k y0 y1 y2) (d_Keyword.l1 (k + 1) y0 y1 y2)) ∧ (∀ y0 y1 y2 y3, LeO (d_Keyword.j2 k y0 y1 y2 y3) (d_Keyword.j2 (k + 1) y0 y1 y2 y3))
 | 0 => ⟨fun _ _ _ r h => by simp [d_Keyword.l0] at h, fun _ _ _ r h => by simp [d_Keyword.l1] at h, fun _ _ _ _ r h => by simp [d_Keyword.j2] at h⟩
 | k + 1 => by
  obtain ⟨ih0, ih1, ih2⟩ := d_Keyword.mono_l k
  refine ⟨?_, ?_, ?_⟩
  ·intro y0 y1 y2
   unfold d_Keyword.l0
   repeat' first
   | (with_reducible exact ih0 _ _ _)
   | (with_reducible exact ih1 _ _ _)
   | (with_reducible exact ih2 _ _ _ _)
   | (with_reducible exact LeO.refl _)
   | (with_reducible exact LeO.none _)
   | (with_reducible refine LeO.ite ?_ ?_)
   | (with_reducible refine LeO.bind ?_ (fun _ => ?_))
  ·intro y0 y1 y2
   unfold d_Keyword.l1
   repeat' first
   | (with_reducible exact ih0 _ _ _)
   | (with_reducible exact ih1 _ _ _)
   | (with_reducible exact ih2 _ _ _ _)
   | (with_reducible exact LeO.refl _)
   | (with_reducible exact LeO.none _)
   | (with_reducible refine LeO.ite ?_ ?_)
   | (with_reducible refine LeO.bind ?_ (fun _ => ?_))
  intro y0 y1 y2 y3
  unfold d_Keyword.j2
  repeat' first
  | (with_reducible exact ih0 _ _ _)
  | (with_reducible exact ih1 _ _ _)
  | (with_reducible exact ih2 _ _ _ _)
  | (with_reducible exact LeO.refl _)
  | (with_reducible exact LeO.none _)
  | (with_reducible refine LeO.ite ?_ ?_)
  | (with_reducible refine LeO.bind ?_ (fun _ => ?_))
theorem d_Keyword.mono : ∀ a0 k, LeO (d_Keyword.f k a0) (d_Keyword.f (k + 1) a0) := by
 intro a0 k
 obtain ⟨ih0, ih1, ih2⟩ := d_Keyword.mono_l k
 unfold d_Keyword.f
 repeat' first
   | (with_reducible exact ih0 _ _ _)
   | (with_reducible exact ih1 _ _ _)
   | (with_reducible exact ih2 _ _ _ _)
   | (with_reducible exact LeO.refl _)
   | (with_reducible exact LeO.none _)
   | (with_reducible refine LeO.ite ?_ ?_)
   | (with_reducible refine LeO.bind ?_ (fun _ => ?_))
theorem d_Keyword.calls (k : Nat) (a0 : ByteArray) (r : Bool) (w : World) (h : d_Keyword.f k a0 = some r) :
  Calls Tryd.prog 12 #[.string a0] w fun e w' => e = .returned (.bool r) ∧ Drawn0 w w' := by
 have H : (if 1 + a0.size ≤ 9223372036854775807 then (if ((⟨#[32]⟩ : ByteArray) ++ a0).size + 1 ≤ 9223372036854775807 then (d_Keyword.l0 k a0 (((⟨#[32]⟩ : ByteArray) ++ a0) ++ (⟨#[32]⟩ : ByteArray)) 0) else (none)) else (none)) = some r := h
 clear h
 replace H := ib_ H
 obtain ⟨c2, H⟩ | ⟨c2, H⟩ := H
 ·have c2b0 := eq_true c2
  have c2b1 := decide_eq_true c2
  try have c2b2 : (9223372036854775807 < 1 + a0.size) = False := eq_false (Nat.not_lt.2 c2)
  replace H := ib_ H
  obtain ⟨c3, H⟩ | ⟨c3, H⟩ := H
  ·have c3b0 := eq_true c3
   have c3b1 := decide_eq_true c3
   try have c3b2 : (9223372036854775807 < ((⟨#[32]⟩ : ByteArray) ++ a0).size + 1) = False := eq_false (Nat.not_lt.2 c3)
   have c3h : 1 + a0.size + 1 ≤ 9223372036854775807 := by (have h0_ := c3; rw [ByteArray.size_append] at h0_; exact h0_)
   have c3b3 : (9223372036854775807 < 1 + a0.size + 1) = False := eq_false (Nat.not_lt.2 c3h)
   have H' := Aside0.mk H
   clear H
   go_enter Tryd.func12, Tryd.ntmps12
   go_wp2
   obtain ⟨y3, hy3⟩ : ∃ y_ : ByteArray, (((⟨#[32]⟩ : ByteArray) ++ a0) ++ (⟨#[32]⟩ : ByteArray)) = y_ := ⟨_, rfl⟩
   have hc_ := H'.out
   clear H'
   simp only [hy3] at hc_ ⊢
   have H' := Aside0.mk hc_
   clear hc_
   go_loopg [4] k (fun kq v4 w' => ∃ (x4_1 : Int), v4 = .int .i64 x4_1 ∧ Aside0 (d_Keyword.l0 kq a0 y3 x4_1 = some r) ∧ Aside0 (kq ≤ k) ∧ Drawn0 w w')
   case atStart => exact ⟨(0), er_, H', ⟨Nat.le_refl _⟩, dr_⟩
   case round =>
    clear H'
    try clear c2
    try clear c2b0
    try clear c2b1
    try clear c2b2
    try clear c3
    try clear c3b0
    try clear c3b1
    try clear c3b2
    obtain ⟨x4_1, rfl, HA, HK1, ⟨m1, rfl⟩⟩ := hrel
    cases gk with
    | zero => exact absurd HA.out (by simp [d_Keyword.l0])
    | succ k1 =>
     have H := HA.out
     clear HA
     simp only [d_Keyword.l0] at H
     replace H := ib_ H
     obtain ⟨c4, H⟩ | ⟨c4, H⟩ := H
     ·have c4b0 := decide_eq_true c4
      clear c4
      replace H := id_ H
      obtain ⟨-, c5b0, H⟩ | ⟨-, -, H⟩ := H
      ·replace H := ie_ H
       obtain ⟨c7b0, c7b1, H⟩ | ⟨c7b0, c7b1, c7, H⟩ := H
       ·obtain rfl := Option.some.inj H
        have p6 : 0 ≤ (x4_1 : Int) := da_
        have q6 : x4_1 < (a0.size : Int) := da_
        have hx6 := bt_at a0 x4_1
        replace p6 := eq_true p6
        replace q6 := eq_true q6
        go_wp2
        go_ret
        exact ⟨er_, dr_⟩
       have H' := Aside0.mk H
       clear H
       have p6 : 0 ≤ (x4_1 : Int) := da_
       have q6 : x4_1 < (a0.size : Int) := da_
       have hx6 := bt_at a0 x4_1
       replace p6 := eq_true p6
       replace q6 := eq_true q6
       go_wp2
       go_roundg k1
       case measure => have := HK1.out; omega
       case rel => exact ⟨(wrap64 (x4_1 + 1)), er_, H', ⟨by have := HK1.out; omega⟩, dr_⟩
      exact absurd H (by simp)
     have c4b0 := decide_eq_false c4
     clear c4
     have H' := Aside0.mk H
     clear H
     go_wp2
     go_loopg [5] k1 (fun kq v5 w' => ∃ (x5_2 : Int), v5 = .int .i64 x5_2 ∧ Aside0 (d_Keyword.l1 kq a0 y3 x5_2 = some r) ∧ Aside0 (kq ≤ k1) ∧ Drawn0 w w')
     case atStart => exact ⟨(0), er_, H', ⟨Nat.le_refl _⟩, dr_⟩
     case round =>
      clear H'
      try clear c2
      try clear c2b0
      try clear c2b1
      try clear c2b2
      try clear c3
      try clear c3b0
      try clear c3b1
      try clear c3b2
      try clear c4
      try clear c4b0
      try clear c5b0
      try clear p6
      try clear q6
      try clear hx6
      try clear c7
      try clear c7b0
      try clear c7b1
      try clear p6
      try clear q6
      obtain ⟨x5_2, rfl, HA, HK2, ⟨m2, rfl⟩⟩ := hrel
      cases gk with
      | zero => exact absurd HA.out (by simp [d_Keyword.l1])
      | succ k2 =>
       have H := HA.out
       clear HA
       simp only [d_Keyword.l1] at H
       have HC8 := Aside0.mk H
       clear H
       go_upto_region 8 with (fail)
       go_cut [28] (fun v28 wc => ∃ (kq : Nat) (x28_7 : Bool), v28 = .bool x28_7 ∧ Aside0 (d_Keyword.j2 kq a0 y3 x5_2 x28_7 = some r) ∧ Aside0 (kq ≤ k2) ∧ Drawn0 w wc)
       case first =>
        have H := HC8.out
        clear HC8
        replace H := id_ H
        obtain ⟨-, c9b0, H⟩ | ⟨-, c9b0, H⟩ := H
        ·(first | rw [c9b0] | (simp only [i64_w, i32_w]; rw [c9b0]) | skip)
         have H' := Aside0.mk H
         clear H
         go_wp2
         go_meet
         case rel => exact ⟨_, (decide ((a0.size : Int) > 0)), er_, H', ⟨by have := HK1.out; have := HK2.out; first | omega | exact Nat.le_refl _⟩, dr_⟩
        (first | rw [c9b0] | (simp only [i64_w, i32_w]; rw [c9b0]) | skip)
        have H' := Aside0.mk H
        clear H
        go_wp2
        go_meet
        case rel => exact ⟨_, (false), er_, H', ⟨by have := HK1.out; have := HK2.out; first | omega | exact Nat.le_refl _⟩, dr_⟩
       case rest =>
        clear HC8
        try clear c2
        try clear c2b0
        try clear c2b1
        try clear c2b2
        try clear c3
        try clear c3b0
        try clear c3b1
        try clear c3b2
        try clear c4
        try clear c4b0
        try clear c5b0
        try clear p6
        try clear q6
        try clear hx6
        try clear c7
        try clear c7b0
        try clear c7b1
        try clear c9b0
        try clear p6
        try clear q6
        obtain ⟨kq, x28_7, rfl, HA, HJ7, ⟨mc7, rfl⟩⟩ := hcut
        cases kq with
        | zero => exact absurd HA.out (by simp [d_Keyword.j2])
        | succ kj7 =>
         have H := HA.out
         clear HA
         simp only [d_Keyword.j2] at H
         by_cases c10 : x28_7 = true
         ·subst c10
          have H1 : (if 0 ≤ x5_2 then (if x5_2 ≤ (wrap64 (x5_2 + (y3.size : Int))) then (if (wrap64 (x5_2 + (y3.size : Int))) ≤ 315 then (if ((⟨#[32, 97, 117, 116, 111, 32, 98, 114, 101, 97, 107, 32, 99, 97, 115, 101, 32, 99, 104, 97, 114, 32, 99, 111, 110, 115, 116, 32, 99, 111, 110, 116, 105, 110, 117, 101, 32, 100, 101, 102, 97, 117, 108, 116, 32, 100, 111, 32, 100, 111, 117, 98, 108, 101, 32, 101, 108, 115, 101, 32, 101, 110, 117, 109, 32, 101, 120, 116, 101, 114, 110, 32, 102, 108, 111, 97, 116, 32, 102, 111, 114, 32, 103, 111, 116, 111, 32, 105, 102, 32, 105, 110, 108, 105, 110, 101, 32, 105, 110, 116, 32, 108, 111, 110, 103, 32, 114, 101, 103, 105, 115, 116, 101, 114, 32, 114, 101, 115, 116, 114, 105, 99, 116, 32, 114, 101, 116, 117, 114, 110, 32, 115, 104, 111, 114, 116, 32, 115, 105, 103, 110, 101, 100, 32, 115, 105, 122, 101, 111, 102, 32, 115, 116, 97, 116, 105, 99, 32, 115, 116, 114, 117, 99, 116, 32, 115, 119, 105, 116, 99, 104, 32, 116, 121, 112, 101, 100, 101, 102, 32, 117, 110, 105, 111, 110, 32, 117, 110, 115, 105, 103, 110, 101, 100, 32, 118, 111, 105, 100, 32, 118, 111, 108, 97, 116, 105, 108, 101, 32, 119, 104, 105, 108, 101, 32, 95, 65, 108, 105, 103, 110, 97, 115, 32, 95, 65, 108, 105, 103, 110, 111, 102, 32, 95, 65, 116, 111, 109, 105, 99, 32, 95, 66, 111, 111, 108, 32, 95, 67, 111, 109, 112, 108, 101, 120, 32, 95, 71, 101, 110, 101, 114, 105, 99, 32, 95, 73, 109, 97, 103, 105, 110, 97, 114, 121, 32, 95, 78, 111, 114, 101, 116, 117, 114, 110, 32, 95, 83, 116, 97, 116, 105, 99, 95, 97, 115, 115, 101, 114, 116, 32, 95, 84, 104, 114, 101, 97, 100, 95, 108, 111, 99, 97, 108, 32]⟩ : ByteArray).extract (x5_2 : Int).toNat ((wrap64 (x5_2 + (y3.size : Int))) : Int).toNat).toList = y3.toList then (some true) else (d_Keyword.l1 kj7 a0 y3 (wrap64 (x5_2 + 1)))) else (none)) else (none)) else (none)) = some r := by rw [if_pos rfl] at H; exact H
          clear H
          have H := H1
          clear H1
          replace H := id_ H
          obtain ⟨c11b0, c11b1, H⟩ | ⟨-, -, H⟩ := H
          ·replace H := ib_ H
           obtain ⟨c12, H⟩ | ⟨c12, H⟩ := H
           ·have c12b0 := eq_true c12
            have c12b1 := decide_eq_true c12
            replace H := ib_ H
            obtain ⟨c13, H⟩ | ⟨c13, H⟩ := H
            ·have c13b0 := eq_true c13
             have c13b1 := decide_eq_true c13
             replace H := ie_ H
             obtain ⟨c14b0, c14b1, H⟩ | ⟨c14b0, c14b1, c14, H⟩ := H
             ·obtain rfl := Option.some.inj H
              go_wp2
              go_ret
              exact ⟨er_, dr_⟩
             have H' := Aside0.mk H
             clear H
             go_wp2
             go_roundg kj7
             case measure => have := HK1.out; have := HK2.out; have := HJ7.out; omega
             case rel => exact ⟨(wrap64 (x5_2 + 1)), er_, H', ⟨by have := HK1.out; have := HK2.out; have := HJ7.out; omega⟩, dr_⟩
            exact absurd H (by simp)
           exact absurd H (by simp)
          exact absurd H (by simp)
         replace c10 := Bool.eq_false_iff.mpr c10
         subst c10
         have H1 : (some false) = some r := by rw [if_neg (show ¬ (false = true) by decide)] at H; exact H
         clear H
         have H := H1
         clear H1
         obtain rfl := Option.some.inj H
         go_wp2
         go_ret
         exact ⟨er_, dr_⟩
  exact absurd H (by simp)
 exact absurd H (by simp)
def d_hex.f (a0 : ByteArray) : Option (Bool) := if (a0.size : Int) > 1 then (if 0 < (a0.size : Int) then (if (bt a0 0) = 48 then (if 1 < (a0.size : Int) then (if (bt a0 1) = 120 then (some true) else (some ((bt a0 1) == 88))) else (none)) else (some false)) else (none)) else (some false)
theorem d_hex.calls (a0 : ByteArray) (r : Bool) (w : World) (h : d_hex.f a0 = some r) :
  Calls Tryd.prog 34 #[.string a0] w fun e w' => e = .returned (.bool r) ∧ Drawn0 w w' := by
 have H : (if (a0.size : Int) > 1 then (if 0 < (a0.size : Int) then (if (bt a0 0) = 48 then (if 1 < (a0.size : Int) then (if (bt a0 1) = 120 then (some true) else (some ((bt a0 1) == 88))) else (none)) else (some false)) else (none)) else (some false)) = some r := h
 clear h
 replace H := ib_ H
 obtain ⟨c2, H⟩ | ⟨c2, H⟩ := H
 ·have c2b0 : decide (1 < (a0.size : Int)) = true := decide_eq_true c2
  have c2b1 : decide (1 < a0.size) = true := decide_eq_true (by omega)
  clear c2
  replace H := ib_ H
  obtain ⟨c3, H⟩ | ⟨c3, H⟩ := H
  ·have c3b0 := decide_eq_true c3
   have c3b1 : decide (0 < a0.size) = true := decide_eq_true (by omega)
   clear c3
   replace H := ie_ H
   obtain ⟨c5b0, c5b1, H⟩ | ⟨c5b0, c5b1, c5, H⟩ := H
   ·replace H := ib_ H
    obtain ⟨c6, H⟩ | ⟨c6, H⟩ := H
    ·have c6b0 := decide_eq_true c6
     have c6b1 : decide (1 < a0.size) = true := decide_eq_true (by omega)
     clear c6
     replace H := ie_ H
     obtain ⟨c8b0, c8b1, H⟩ | ⟨c8b0, c8b1, c8, H⟩ := H
     ·obtain rfl := Option.some.inj H
      have p4 : 0 ≤ (0 : Int) := (by omega)
      have q4 : 0 < a0.size := (by have : (0 : Int) < (a0.size : Int) := da_; omega)
      have hx4 : ∀ h : 0 < a0.size, ((a0[0]'h).toNat : Int) = bt a0 0 := bt_at a0 0
      clear p4
      have qi4 : (0 < (a0.size : Int)) = True := eq_true da_
      replace q4 := eq_true q4
      have p7 : 0 ≤ (1 : Int) := (by omega)
      have q7 : 1 < a0.size := (by have : (1 : Int) < (a0.size : Int) := da_; omega)
      have hx7 : ∀ h : 1 < a0.size, ((a0[1]'h).toNat : Int) = bt a0 1 := bt_at a0 1
      clear p7
      have qi7 : (1 < (a0.size : Int)) = True := eq_true da_
      replace q7 := eq_true q7
      go_enter Tryd.func34, Tryd.ntmps34
      go_wp2
      go_ret
      exact ⟨er_, dr_⟩
     obtain rfl := Option.some.inj H
     have p4 : 0 ≤ (0 : Int) := (by omega)
     have q4 : 0 < a0.size := (by have : (0 : Int) < (a0.size : Int) := da_; omega)
     have hx4 : ∀ h : 0 < a0.size, ((a0[0]'h).toNat : Int) = bt a0 0 := bt_at a0 0
     clear p4
     have qi4 : (0 < (a0.size : Int)) = True := eq_true da_
     replace q4 := eq_true q4
     have p7 : 0 ≤ (1 : Int) := (by omega)
     have q7 : 1 < a0.size := (by have : (1 : Int) < (a0.size : Int) := da_; omega)
     have hx7 : ∀ h : 1 < a0.size, ((a0[1]'h).toNat : Int) = bt a0 1 := bt_at a0 1
     clear p7
     have qi7 : (1 < (a0.size : Int)) = True := eq_true da_
     replace q7 := eq_true q7
     have p9 : 0 ≤ (1 : Int) := (by omega)
     have q9 : 1 < a0.size := (by have : (1 : Int) < (a0.size : Int) := da_; omega)
     have hx9 : ∀ h : 1 < a0.size, ((a0[1]'h).toNat : Int) = bt a0 1 := bt_at a0 1
     clear p9
     have qi9 : (1 < (a0.size : Int)) = True := eq_true da_
     replace q9 := eq_true q9
     go_enter Tryd.func34, Tryd.ntmps34
     go_wp2
     go_ret
     exact ⟨er_, dr_⟩
    exact absurd H (by simp)
   obtain rfl := Option.some.inj H
   have p4 : 0 ≤ (0 : Int) := (by omega)
   have q4 : 0 < a0.size := (by have : (0 : Int) < (a0.size : Int) := da_; omega)
   have hx4 : ∀ h : 0 < a0.size, ((a0[0]'h).toNat : Int) = bt a0 0 := bt_at a0 0
   clear p4
   have qi4 : (0 < (a0.size : Int)) = True := eq_true da_
   replace q4 := eq_true q4
   go_enter Tryd.func34, Tryd.ntmps34
   go_wp2
   go_ret
   exact ⟨er_, dr_⟩
  exact absurd H (by simp)
 have c2b0 : decide (1 < (a0.size : Int)) = false := decide_eq_false c2
 have c2b1 : decide (1 < a0.size) = false := decide_eq_false (by omega)
 clear c2
 obtain rfl := Option.some.inj H
 go_enter Tryd.func34, Tryd.ntmps34
 go_wp2
 go_ret
 exact ⟨er_, dr_⟩
end Go.Proofs.YtcdleippdegibaaDoor.PR
