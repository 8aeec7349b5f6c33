import Derived.Test.YtcdleippdegibaaDoorKM3
import Derived.Test.YtcdleippdegibaaDoorKM1
import Derived.Test.YtcdleippdegibaaDoorKM0
import Derived.Test.YtcdleippdegibaaDoorKM2
import Derived.Test.YtcdleippdegibaaDoorProg
import Derived.Below
import Derived.Deep.Draws
import Derived.Deep.AppendLies
import Derived.Maps.AppendAt
import Derived.OwnWalk
import Derived.Laws.BytesArg
import Derived.Laws.MakeOwn
import Derived.Laws.OwnMore
import Derived.Deep.OwnRows
import Derived.Tactics
import Derived.Lib.ConvBytes
import Derived.Laws.Slices
import Derived.WalkKit
import Derived.KernelRfl
import Derived.RowKit3
import Derived.Deep.LoopGhost
import Derived.Deep.QuietTactic
import Derived.BigQuiet
import Derived.WideLaws
import Derived.Deep.DeepCutAuto
import Derived.Deep.CutBlock
import Derived.Deep.RegionHeld3
import Derived.Laws.Rows
import Derived.Lib.AppendStr
import Derived.ArgAppend
import Derived.Laws.IdiomCopy
import Derived.OrdersHeld
import Derived.Laws.BitsLemmas
import Derived.RowKit
set_option linter.unusedVariables false
set_option linter.unusedSimpArgs false
set_option linter.unusedSectionVars false
namespace Go.Proofs.YtcdleippdegibaaDoor.PE
open Go.RowKit Go.Proofs.YtcdleippdegibaaDoorW.PrintWords Go.Proofs.YtcdleippdegibaaDoorW.PrintLast Go.Proofs.YtcdleippdegibaaDoorW.PrintMore
open Go.Proofs.YtcdleippdegibaaDoor.LibG (SH SH.below SH.drewN SH.drew SH.alloc)
open Go.Proofs.YtcdleippdegibaaDoor.PK
attribute [local go_sem] max2_int min2_int max_two min_two max_three min_three max_four min_four
mutual
def ctok_Char.j0 : Nat → ByteArray → Bool → Option (Int × Int)
 | 0, _, _ => none
 | k + 1, x0, x23 => if x23 = true then (some (0, 40)) else ((ctok_elements.f k x0 (⟨#[39]⟩ : ByteArray)).bind fun bt121 => (if bt121.2.2 = 0 then (if (bt121.1.length : Int) = 0 then (ctok_Char.j1 k bt121.1 bt121.2.1 true) else (if (bt121.1.length : Int) > 4 then (ctok_Char.j1 k bt121.1 bt121.2.1 true) else (if bt121.2.1.toList = ([] : List UInt8) then (ctok_Char.j1 k bt121.1 bt121.2.1 false) else (ctok_Char.j1 k bt121.1 bt121.2.1 (decide ((bt121.1.length : Int) > 1)))))) else (ctok_Char.j1 k bt121.1 bt121.2.1 true)))
def ctok_Char.j1 : Nat → List Int → ByteArray → Bool → Option (Int × Int)
 | 0, _, _, _ => none
 | k + 1, x6, x7, x30 => if x30 = true then (some (0, 40)) else (if x7.toList = ([] : List UInt8) then (ctok_Char.l0 k x6 0 x6 (x6.length : Int) 0) else (if 0 < (x6.length : Int) then (some (rd x6 0, 0)) else (none)))
def ctok_Char.l0 : Nat → List Int → Int → List Int → Int → Int → Option (Int × Int)
 | 0, _, _, _, _, _ => none
 | k + 1, x6, x9, x58, x59, x60 => if x60 < x59 then (if 0 ≤ x60 then (if x60 < (x58.length : Int) then (ctok_Char.l0 k x6 (Go.bits .or .i64 (wrap64 (x9 * 256)) (rd x58 x60)) x58 x59 (wrap64 (x60 + 1))) else (none)) else (none)) else (if 0 ≤ (wrap64 ((wrap64 (8 * (x6.length : Int))) - 1)) then (if (shr .i64 x9 (wrap64 ((wrap64 (8 * (x6.length : Int))) - 1))) = 1 then (if 0 ≤ (wrap64 (8 * (x6.length : Int))) then (some (wrap64 (x9 - (shl .i64 1 (wrap64 (8 * (x6.length : Int))))), 0)) else (none)) else (some (x9, 0))) else (none))
end
def ctok_Char.f (k : Nat) (a0 : ByteArray) : Option (Int × Int) := (Go.Proofs.YtcdleippdegibaaDoor.One.scan_One.f k a0).bind fun bt119 => (if bt119.2 = true then (ctok_Char.j0 k a0 (bt119.1 != 3)) else (ctok_Char.j0 k a0 true))
theorem ctok_Char.mono_l : ∀ k, (∀ y0 y1, LeO (ctok_Char.j0 k y0 y1) (ctok_Char.j0 (k + 1) y0 y1)) ∧ (∀ y0 y1 y2, LeO (ctok_Char.j1 k y0 y1 y2) (ctok_Char.j1 (k + 1) y0 y1 y2)) ∧ (∀ y0 y1 y2 y3 y4, LeO (ctok_Char.l0 k y0 y1 y2 y3 y4) (ctok_Char.l0 (k + 1) y0 y1 y2 y3 y4))
 | 0 => ⟨fun _ _ r h => by simp [ctok_Char.j0] at h, fun _ _ _ r h => by simp [ctok_Char.j1] at h, fun _ _ _ _ _ r h => by simp [ctok_Char.l0] at h⟩
 | k + 1 => by
  obtain ⟨ih0, ih1, ih2⟩ := ctok_Char.mono_l k
  refine ⟨?_, ?_, ?_⟩
  ·intro y0 y1
   unfold ctok_Char.j0
   repeat' first
   | (with_reducible exact ih0 _ _)
   | (with_reducible exact ih1 _ _ _)
   | (with_reducible exact ih2 _ _ _ _ _)
   | (with_reducible exact Go.Proofs.YtcdleippdegibaaDoor.One.scan_One.mono _ _)
   | (with_reducible exact ctok_elements.mono _ _ _)
   | (with_reducible exact LeO.refl _)
   | (with_reducible exact LeO.none _)
   | (with_reducible refine LeO.ite ?_ ?_)
   | (with_reducible refine LeO.bind ?_ (fun _ => ?_))
   | exact ih0 _ _
   | exact ih1 _ _ _
   | exact ih2 _ _ _ _ _
   | exact Go.Proofs.YtcdleippdegibaaDoor.One.scan_One.mono _ _
   | exact ctok_elements.mono _ _ _
   | exact LeO.none _
   | refine LeO.ite ?_ ?_
   | refine LeO.bind ?_ (fun _ => ?_)
  ·intro y0 y1 y2
   unfold ctok_Char.j1
   repeat' first
   | (with_reducible exact ih0 _ _)
   | (with_reducible exact ih1 _ _ _)
   | (with_reducible exact ih2 _ _ _ _ _)
   | (with_reducible exact Go.Proofs.YtcdleippdegibaaDoor.One.scan_One.mono _ _)
   | (with_reducible exact ctok_elements.mono _ _ _)
   | (with_reducible exact LeO.refl _)
   | (with_reducible exact LeO.none _)
   | (with_reducible refine LeO.ite ?_ ?_)
   | (with_reducible refine LeO.bind ?_ (fun _ => ?_))
   | exact ih0 _ _
   | exact ih1 _ _ _
   | exact ih2 _ _ _ _ _
   | exact Go.Proofs.YtcdleippdegibaaDoor.One.scan_One.mono _ _
   | exact ctok_elements.mono _ _ _
   | exact LeO.none _
   | refine LeO.ite ?_ ?_
   | refine LeO.bind ?_ (fun _ => ?_)
  intro y0 y1 y2 y3 y4
  unfold ctok_Char.l0
  repeat' first
  | (with_reducible exact ih0 _ _)
  | (with_reducible exact ih1 _ _ _)
  | (with_reducible exact ih2 _ _ _ _ _)
  | (with_reducible exact Go.Proofs.YtcdleippdegibaaDoor.One.scan_One.mono _ _)
  | (with_reducible exact ctok_elements.mono _ _ _)
  | (with_reducible exact LeO.refl _)
  | (with_reducible exact LeO.none _)
  | (with_reducible refine LeO.ite ?_ ?_)
  | (with_reducible refine LeO.bind ?_ (fun _ => ?_))
  | exact ih0 _ _
  | exact ih1 _ _ _
  | exact ih2 _ _ _ _ _
  | exact Go.Proofs.YtcdleippdegibaaDoor.One.scan_One.mono _ _
  | exact ctok_elements.mono _ _ _
  | exact LeO.none _
  | refine LeO.ite ?_ ?_
  | refine LeO.bind ?_ (fun _ => ?_)
theorem ctok_Char.mono : ∀ a0 k, LeO (ctok_Char.f k a0) (ctok_Char.f (k + 1) a0) := by
 intro a0 k
 obtain ⟨ih0, ih1, ih2⟩ := ctok_Char.mono_l k
 unfold ctok_Char.f
 repeat' first
   | (with_reducible exact ih0 _ _)
   | (with_reducible exact ih1 _ _ _)
   | (with_reducible exact ih2 _ _ _ _ _)
   | (with_reducible exact Go.Proofs.YtcdleippdegibaaDoor.One.scan_One.mono _ _)
   | (with_reducible exact ctok_elements.mono _ _ _)
   | (with_reducible exact LeO.refl _)
   | (with_reducible exact LeO.none _)
   | (with_reducible refine LeO.ite ?_ ?_)
   | (with_reducible refine LeO.bind ?_ (fun _ => ?_))
   | exact ih0 _ _
   | exact ih1 _ _ _
   | exact ih2 _ _ _ _ _
   | exact Go.Proofs.YtcdleippdegibaaDoor.One.scan_One.mono _ _
   | exact ctok_elements.mono _ _ _
   | exact LeO.none _
   | refine LeO.ite ?_ ?_
   | refine LeO.bind ?_ (fun _ => ?_)
set_option maxHeartbeats 8000000 in
set_option maxRecDepth 100000 in
theorem ctok_Char.calls (k : Nat) (a0 : ByteArray) (r1 : Int) (r2 : Int) (w : World) (hsh : SH w) (h : ctok_Char.f k a0 = some (r1, r2)) :
  Calls Tryd.prog 29 #[.string a0] w fun e w' => e = .returned (.tuple #[.int .i64 r1, .int .i64 r2]) ∧ Below w.heap.size w w' := by
 have HSH := Aside0.mk hsh
 clear hsh
 have HB := Aside0.mk (Below.refl w.heap.size w)
 have H : ((Go.Proofs.YtcdleippdegibaaDoor.One.scan_One.f k a0).bind fun bt119 => (if bt119.2 = true then (ctok_Char.j0 k a0 (bt119.1 != 3)) else (ctok_Char.j0 k a0 true))) = some (r1, r2) := h
 clear h
 replace H := Option.bind_eq_some_iff.mp H
 obtain ⟨⟨t119, t120⟩, A20, H⟩ := H
 replace H : (if t120 = true then (ctok_Char.j0 k a0 (t119 != 3)) else (ctok_Char.j0 k a0 true)) = some (r1, r2) := H
 have A2 := Aside0.mk A20
 clear A20
 have HC3 := Aside0.mk H
 clear H
 go_enter Tryd.func29, Tryd.ntmps29
 go_upto_region 2 with (first | ((with_reducible refine gate_callee (f := 37) rfl ?_); refine goesL_ (some 15) rfl rfl Tryd.func37 (by kernel_rfl) rfl #[.string a0] rfl ar_ ?_; (with_reducible refine (Go.Proofs.YtcdleippdegibaaDoor.One.scan_One.calls k a0 t119 t120 _ ?side1 A2.out).mono ?_); (case side1 => first | exact SH.below HSH.out bl_ | (repeat (first | exact HSH.out | (with_reducible refine SH.drewN ?_ _) | (with_reducible refine SH.drew ?_) | (with_reducible refine SH.alloc ?_ _)))); rintro e w4 ⟨rfl, hb⟩; refine ⟨_, rfl, ?_⟩; have n0_ := Aside0.mk (below_step bl_ hb); clear HB; have HB := n0_; clear n0_; (try clear hb); (try clear hb2); (try clear hk); (try clear hi)))
 (try simp only [Act.put, List.setIfInBounds_toArray, List.set_cons_zero, List.set_cons_succ])
 go_cut [23] (fun v23 wc => ∃ (kq : Nat) (x23_2 : Bool), v23 = .bool x23_2 ∧ Aside0 (ctok_Char.j0 kq a0 x23_2 = some (r1, r2)) ∧ Aside0 (kq ≤ k) ∧ Aside0 (Below w.heap.size w wc))
 case first =>
  have H := HC3.out
  clear HC3
  by_cases c5 : t120 = true
  ·subst c5
   have H1 : (ctok_Char.j0 k a0 (t119 != 3)) = some (r1, r2) := by rw [if_pos rfl] at H; exact H
   clear H
   have H := H1
   clear H1
   have H' := Aside0.mk H
   clear H
   go_wp2
   go_meet
   case rel => exact ⟨_, ((t119 != 3)), er_, H', ⟨om_⟩, ⟨bl_⟩⟩
  replace c5 := Bool.eq_false_iff.mpr c5
  subst c5
  have H1 : (ctok_Char.j0 k a0 true) = some (r1, r2) := by rw [if_neg (show ¬ (false = true) by decide)] at H; exact H
  clear H
  have H := H1
  clear H1
  have H' := Aside0.mk H
  clear H
  go_wp2
  go_meet
  case rel => exact ⟨_, (true), er_, H', ⟨om_⟩, ⟨bl_⟩⟩
 case rest =>
  clear HC3
  try clear c2
  try clear p2
  try clear c3
  try clear c5
  obtain ⟨kq, x23_2, rfl, HA, HJ2, HB⟩ := hcut
  cases kq with
  | zero => exact absurd HA.out (by simp [ctok_Char.j0])
  | succ kj2 =>
   have H := HA.out
   clear HA
   simp only [ctok_Char.j0] at H
   by_cases c6 : x23_2 = true
   ·subst c6
    have H1 : (some (0, 40)) = some (r1, r2) := by rw [if_pos rfl] at H; exact H
    clear H
    have H := H1
    clear H1
    simp only [Option.some.injEq, Prod.mk.injEq] at H
    obtain ⟨rfl, rfl⟩ := H
    go_wp2
    go_ret2
    exact ⟨es_, bl_⟩
   replace c6 := Bool.eq_false_iff.mpr c6
   subst c6
   have H1 : ((ctok_elements.f kj2 a0 (⟨#[39]⟩ : ByteArray)).bind fun bt121 => (if bt121.2.2 = 0 then (if (bt121.1.length : Int) = 0 then (ctok_Char.j1 kj2 bt121.1 bt121.2.1 true) else (if (bt121.1.length : Int) > 4 then (ctok_Char.j1 kj2 bt121.1 bt121.2.1 true) else (if bt121.2.1.toList = ([] : List UInt8) then (ctok_Char.j1 kj2 bt121.1 bt121.2.1 false) else (ctok_Char.j1 kj2 bt121.1 bt121.2.1 (decide ((bt121.1.length : Int) > 1)))))) else (ctok_Char.j1 kj2 bt121.1 bt121.2.1 true))) = some (r1, r2) := by rw [if_neg (show ¬ (false = true) by decide)] at H; exact H
   clear H
   have H := H1
   clear H1
   replace H := Option.bind_eq_some_iff.mp H
   obtain ⟨⟨t121, t122, t123⟩, A70, H⟩ := H
   replace H : (if t123 = 0 then (if (t121.length : Int) = 0 then (ctok_Char.j1 kj2 t121 t122 true) else (if (t121.length : Int) > 4 then (ctok_Char.j1 kj2 t121 t122 true) else (if t122.toList = ([] : List UInt8) then (ctok_Char.j1 kj2 t121 t122 false) else (ctok_Char.j1 kj2 t121 t122 (decide ((t121.length : Int) > 1)))))) else (ctok_Char.j1 kj2 t121 t122 true)) = some (r1, r2) := H
   have A7 := Aside0.mk A70
   clear A70
   have HC8 := Aside0.mk H
   clear H
   go_upto_region 5 with (first | ((with_reducible refine gate_callee (f := 38) rfl ?_); refine goesL_ (some 26) rfl rfl Tryd.func38 (by kernel_rfl) rfl #[.string a0, .string (⟨#[39]⟩ : ByteArray)] rfl ar_ ?_; (with_reducible refine (ctok_elements.calls kj2 a0 (⟨#[39]⟩ : ByteArray) t121 t122 t123 _ ?side1 A7.out).mono ?_); (case side1 => first | exact SH.below HSH.out bl_ | (repeat (first | exact HSH.out | (with_reducible refine SH.drewN ?_ _) | (with_reducible refine SH.drew ?_) | (with_reducible refine SH.alloc ?_ _)))); rintro e w9 ⟨v124, rfl, ho0, hb⟩; refine ⟨_, rfl, ?_⟩; have n0_ := Aside0.mk (Kd.R_lower ho0 (below_size bl_)); have n1_ := Aside0.mk (below_step bl_ hb); clear HB; have HO125 := n0_; have HB := n1_; clear n0_ n1_; (try clear hb); (try clear hb2); (try clear hk); (try clear hi); (try clear ho0)))
   (try simp only [Act.put, List.setIfInBounds_toArray, List.set_cons_zero, List.set_cons_succ])
   go_cut [30] (fun v30 wc => ∃ (kq : Nat) (x30_7 : Bool), v30 = .bool x30_7 ∧ Aside0 (ctok_Char.j1 kq t121 t122 x30_7 = some (r1, r2)) ∧ Aside0 (kq ≤ kj2) ∧ Aside0 (Kd.R (Kd.int .i64) 2 wc w.heap.size (fun _ => True) v124 t121) ∧ Aside0 (Below w.heap.size w wc))
   case first =>
    have H := HC8.out
    clear HC8
    by_cases c10 : t123 = 0
    ·rw [if_pos c10] at H
     have c10b0 := beq_iff_eq.mpr c10
     have c10b1 := bne_eq_false_iff_eq.mpr c10
     clear c10
     (first | rw [c10b0] | (simp only [i64_w, i32_w]; rw [c10b0]) | skip)
     by_cases c11 : (t121.length : Int) = 0
     ·rw [if_pos c11] at H
      have c11b0 := beq_iff_eq.mpr c11
      have c11b1 := bne_eq_false_iff_eq.mpr c11
      clear c11
      have H' := Aside0.mk H
      clear H
      obtain ⟨Ao12, co12, eo12⟩ := Kd.R_slice HO125.out
      subst eo12
      go_wp2
      go_meet
      case rel => exact ⟨_, (true), er_, H', ⟨by have := HJ2.out; first | omega | exact Nat.le_refl _⟩, ⟨by (with_reducible repeat (first | apply Kd.R_alloc | apply Kd.R_drewN | apply Kd.R_drew)); exact HO125.out⟩, ⟨bl_⟩⟩
     rw [if_neg c11] at H
     have c11b0 := beq_eq_false_iff_ne.mpr c11
     have c11b1 := bne_iff_ne.mpr c11
     have c11b2 : ¬ (t121 = []) := fun h_ => c11 (by rw [h_]; rfl)
     by_cases c13 : (t121.length : Int) > 4
     ·rw [if_pos c13] at H
      have c13b0 : decide (4 < (t121.length : Int)) = true := decide_eq_true c13
      have c13b1 : decide (4 < t121.length) = true := decide_eq_true (by omega)
      clear c13
      have H' := Aside0.mk H
      clear H
      obtain ⟨Ao14, co14, eo14⟩ := Kd.R_slice HO125.out
      subst eo14
      go_wp2
      go_meet
      case rel => exact ⟨_, (true), er_, H', ⟨by have := HJ2.out; first | omega | exact Nat.le_refl _⟩, ⟨by (with_reducible repeat (first | apply Kd.R_alloc | apply Kd.R_drewN | apply Kd.R_drew)); exact HO125.out⟩, ⟨bl_⟩⟩
     rw [if_neg c13] at H
     have c13b0 : decide (4 < (t121.length : Int)) = false := decide_eq_false c13
     have c13b1 : decide (4 < t121.length) = false := decide_eq_false (by omega)
     clear c13
     by_cases c15 : t122.toList = ([] : List UInt8)
     ·rw [if_pos c15] at H
      have c15b0 := beq_iff_eq.mpr c15
      have c15b1 := bne_eq_false_iff_eq.mpr c15
      clear c15
      have H' := Aside0.mk H
      clear H
      obtain ⟨Ao16, co16, eo16⟩ := Kd.R_slice HO125.out
      subst eo16
      go_wp2
      go_meet
      case rel => exact ⟨_, (false), er_, H', ⟨by have := HJ2.out; first | omega | exact Nat.le_refl _⟩, ⟨by (with_reducible repeat (first | apply Kd.R_alloc | apply Kd.R_drewN | apply Kd.R_drew)); exact HO125.out⟩, ⟨bl_⟩⟩
     rw [if_neg c15] at H
     have c15b0 := beq_eq_false_iff_ne.mpr c15
     have c15b1 := bne_iff_ne.mpr c15
     have H' := Aside0.mk H
     clear H
     obtain ⟨Ao17, co17, eo17⟩ := Kd.R_slice HO125.out
     subst eo17
     go_wp2
     go_meet
     case rel => exact ⟨_, (decide ((t121.length : Int) > 1)), er_, H', ⟨by have := HJ2.out; first | omega | exact Nat.le_refl _⟩, ⟨by (with_reducible repeat (first | apply Kd.R_alloc | apply Kd.R_drewN | apply Kd.R_drew)); exact HO125.out⟩, ⟨bl_⟩⟩
    rw [if_neg c10] at H
    have c10b0 := beq_eq_false_iff_ne.mpr c10
    have c10b1 := bne_iff_ne.mpr c10
    (first | rw [c10b0] | (simp only [i64_w, i32_w]; rw [c10b0]) | skip)
    have H' := Aside0.mk H
    clear H
    go_wp2
    go_meet
    case rel => exact ⟨_, (true), er_, H', ⟨by have := HJ2.out; first | omega | exact Nat.le_refl _⟩, ⟨by (with_reducible repeat (first | apply Kd.R_alloc | apply Kd.R_drewN | apply Kd.R_drew)); exact HO125.out⟩, ⟨bl_⟩⟩
   case rest =>
    clear HC8
    try clear c1
    try clear c2
    try clear p2
    try clear c3
    try clear c5
    try clear c6
    try clear c10
    try clear c10b0
    try clear c10b1
    try clear c11
    try clear c11b0
    try clear c11b1
    try clear c11b2
    try clear c13
    try clear c13b0
    try clear c13b1
    try clear c15
    try clear c15b0
    try clear c15b1
    try clear p2
    obtain ⟨kq, x30_7, rfl, HA, HJ7, HO_6, HB⟩ := hcut
    cases kq with
    | zero => exact absurd HA.out (by simp [ctok_Char.j1])
    | succ kj7 =>
     have H := HA.out
     clear HA
     simp only [ctok_Char.j1] at H
     by_cases c18 : x30_7 = true
     ·subst c18
      have H1 : (some (0, 40)) = some (r1, r2) := by rw [if_pos rfl] at H; exact H
      clear H
      have H := H1
      clear H1
      simp only [Option.some.injEq, Prod.mk.injEq] at H
      obtain ⟨rfl, rfl⟩ := H
      go_wp2
      go_ret2
      exact ⟨es_, bl_⟩
     replace c18 := Bool.eq_false_iff.mpr c18
     subst c18
     have H1 : (if t122.toList = ([] : List UInt8) then (ctok_Char.l0 kj7 t121 0 t121 (t121.length : Int) 0) else (if 0 < (t121.length : Int) then (some (rd t121 0, 0)) else (none))) = some (r1, r2) := by rw [if_neg (show ¬ (false = true) by decide)] at H; exact H
     clear H
     have H := H1
     clear H1
     by_cases c19 : t122.toList = ([] : List UInt8)
     ·rw [if_pos c19] at H
      have c19b0 := beq_iff_eq.mpr c19
      have c19b1 := bne_eq_false_iff_eq.mpr c19
      clear c19
      have H' := Aside0.mk H
      clear H
      obtain ⟨Ao20, co20, eo20⟩ := Kd.R_slice HO_6.out
      subst eo20
      go_wp2
      go_loopg [9, 60] kj7 (fun kq v9 v60 w' => ∃ (x9_3 : Int) (x60_3 : Int), v9 = .int .i64 x9_3 ∧ v60 = .int .i64 x60_3 ∧ Aside0 (ctok_Char.l0 kq t121 x9_3 t121 (t121.length : Int) x60_3 = some (r1, r2)) ∧ Aside0 (kq ≤ kj7) ∧ Aside0 (Kd.R (Kd.int .i64) 2 w' w.heap.size (fun _ => True) (.slice Ao20 t121.length co20) t121) ∧ Aside0 (Kd.R (Kd.int .i64) 2 w' w.heap.size (fun _ => True) (.slice Ao20 t121.length co20) t121) ∧ Aside0 (Below w.heap.size w w'))
      case atStart => exact ⟨(0), (0), er_, er_, H', ⟨Nat.le_refl _⟩, ⟨by (with_reducible repeat (first | apply Kd.R_alloc | apply Kd.R_drewN | apply Kd.R_drew)); exact HO_6.out⟩, ⟨by (with_reducible repeat (first | apply Kd.R_alloc | apply Kd.R_drewN | apply Kd.R_drew)); exact HO_6.out⟩, ⟨bl_⟩⟩
      case round =>
       clear H'
       try clear c1
       try clear c2
       try clear p2
       try clear c3
       try clear c5
       try clear c6
       try clear c10
       try clear c10b0
       try clear c10b1
       try clear c11
       try clear c11b0
       try clear c11b1
       try clear c11b2
       try clear c13
       try clear c13b0
       try clear c13b1
       try clear c15
       try clear c15b0
       try clear c15b1
       try clear c18
       try clear c19
       try clear c19b0
       try clear c19b1
       try clear p2
       obtain ⟨x9_3, x60_3, rfl, rfl, HA, HK3, HO_6, HO_58, HB⟩ := hrel
       cases gk with
       | zero => exact absurd HA.out (by simp [ctok_Char.l0])
       | succ k3 =>
        have H := HA.out
        clear HA
        simp only [ctok_Char.l0] at H
        by_cases c21 : x60_3 < (t121.length : Int)
        ·rw [if_pos c21] at H
         have c21b0 := decide_eq_true c21
         clear c21
         by_cases c22 : 0 ≤ x60_3
         ·rw [if_pos c22] at H
          have c22b0 := decide_eq_true c22
          clear c22
          by_cases c23 : x60_3 < (t121.length : Int)
          ·rw [if_pos c23] at H
           have c23b0 := decide_eq_true c23
           clear c23
           have H' := Aside0.mk H
           clear H
           have p127 : 0 ≤ (x60_3 : Int) := da_
           have q127 : x60_3 < (t121.length : Int) := da_
           obtain ⟨ad127, e127, hx127_0⟩ := Kd.at_int (Kd.R_reads' HO_58.out).2.2 x60_3 p127 q127
           cases e127
           replace p127 := eq_true p127
           replace q127 := eq_true q127
           go_wp2
           go_roundg k3
           case measure => have := HJ2.out; have := HJ7.out; have := HK3.out; omega
           case rel => exact ⟨(Go.bits .or .i64 (wrap64 (x9_3 * 256)) (rd t121 x60_3)), (wrap64 (x60_3 + 1)), er_, er_, H', ⟨by have := HJ2.out; have := HJ7.out; have := HK3.out; omega⟩, ⟨by (with_reducible repeat (first | apply Kd.R_alloc | apply Kd.R_drewN | apply Kd.R_drew)); exact HO_6.out⟩, ⟨by (with_reducible repeat (first | apply Kd.R_alloc | apply Kd.R_drewN | apply Kd.R_drew)); exact HO_58.out⟩, ⟨bl_⟩⟩
          rw [if_neg c23] at H
          exact absurd H (by simp)
         rw [if_neg c22] at H
         exact absurd H (by simp)
        rw [if_neg c21] at H
        have c21b0 := decide_eq_false c21
        clear c21
        obtain ⟨ji24, hji24⟩ : ∃ j_ : Int, (wrap64 ((wrap64 (8 * (t121.length : Int))) - 1)) = j_ := ⟨_, rfl⟩
        replace H : (if 0 ≤ (ji24) then (if (shr .i64 x9_3 (ji24)) = 1 then (if 0 ≤ (wrap64 (8 * (t121.length : Int))) then (some (wrap64 (x9_3 - (shl .i64 1 (wrap64 (8 * (t121.length : Int))))), 0)) else (none)) else (some (x9_3, 0))) else (none)) = some (r1, r2) := by first | (rw [hji24] at H; exact H) | (simp only [hji24] at H ⊢; exact H)
        have hji24w : (IntKind.i64.wrap ((wrap64 (8 * (t121.length : Int))) - 1)) = ji24 := (i64_w _).trans hji24
        by_cases c25 : 0 ≤ (ji24)
        ·rw [if_pos c25] at H
         have c25b0 := eq_true c25
         have c25b1 := decide_eq_true c25
         clear c25
         obtain ⟨ji26, hji26⟩ : ∃ j_ : Int, (shr .i64 x9_3 (ji24)) = j_ := ⟨_, rfl⟩
         replace H : (if (ji26) = 1 then (if 0 ≤ (wrap64 (8 * (t121.length : Int))) then (some (wrap64 (x9_3 - (shl .i64 1 (wrap64 (8 * (t121.length : Int))))), 0)) else (none)) else (some (x9_3, 0))) = some (r1, r2) := by first | (rw [hji26] at H; exact H) | (simp only [hji26] at H ⊢; exact H)
         have hji26_ : (x9_3 / 2 ^ min (ji24).toNat 64) = ji26 := hji26
         have hji26z : (ji24) ≤ 64 → (x9_3 / 2 ^ (ji24).toNat) = ji26 := shr_small hji26
         by_cases c27 : (ji26) = 1
         ·rw [if_pos c27] at H
          have c27b0 := beq_iff_eq.mpr c27
          have c27b1 := bne_eq_false_iff_eq.mpr c27
          clear c27
          obtain ⟨ji28, hji28⟩ : ∃ j_ : Int, (wrap64 (8 * (t121.length : Int))) = j_ := ⟨_, rfl⟩
          replace H : (if 0 ≤ (ji28) then (some (wrap64 (x9_3 - (shl .i64 1 (ji28))), 0)) else (none)) = some (r1, r2) := by first | (rw [hji28] at H; exact H) | (simp only [hji28] at H ⊢; exact H)
          have hji28w : (IntKind.i64.wrap (8 * (t121.length : Int))) = ji28 := (i64_w _).trans hji28
          have hji24q : wrap64 (ji28 - 1) = ji24 := by rw [← hji28]; exact hji24
          by_cases c29 : 0 ≤ (ji28)
          ·rw [if_pos c29] at H
           have c29b0 := eq_true c29
           have c29b1 := decide_eq_true c29
           clear c29
           obtain ⟨ji30, hji30⟩ : ∃ j_ : Int, (shl .i64 1 (ji28)) = j_ := ⟨_, rfl⟩
           replace H : (some (wrap64 (x9_3 - (ji30)), 0)) = some (r1, r2) := by first | (rw [hji30] at H; exact H) | (simp only [hji30] at H ⊢; exact H)
           have hji30_ : (IntKind.i64.wrap (1 * 2 ^ min (ji28).toNat 64)) = ji30 := hji30
           have hji30z : (ji28) ≤ 64 → (IntKind.i64.wrap (1 * 2 ^ (ji28).toNat)) = ji30 := shl_small hji30
           have hji30u : (IntKind.i64.wrap (2 ^ min (ji28).toNat 64)) = ji30 := by have h_ := hji30_; rw [Int.one_mul] at h_; exact h_
           have hji30v : (ji28) ≤ 64 → (IntKind.i64.wrap (2 ^ (ji28).toNat)) = ji30 := fun hle_ => by have h_ := hji30z hle_; rw [Int.one_mul] at h_; exact h_
           have hji30y : (wrap64 (1 * 2 ^ min (ji28).toNat 64)) = ji30 := (i64_w _).symm.trans hji30_
           have hji30x : (ji28) ≤ 64 → (wrap64 (1 * 2 ^ (ji28).toNat)) = ji30 := fun h_ => (i64_w _).symm.trans (hji30z h_)
           simp only [Option.some.injEq, Prod.mk.injEq] at H
           obtain ⟨rfl, rfl⟩ := H
           go_wp2
           go_ret2
           exact ⟨by first | rfl | (simp [errW_none, errW_some] <;> rfl) | (simp only [← hji24, ← hji26, ← hji28, ← hji30]; first | rfl | (simp [errW_none, errW_some] <;> rfl)) | (simp [*, errW_none, errW_some] <;> rfl), bl_⟩
          rw [if_neg c29] at H
          exact absurd H (by simp)
         rw [if_neg c27] at H
         have c27b0 := beq_eq_false_iff_ne.mpr c27
         have c27b1 := bne_iff_ne.mpr c27
         simp only [Option.some.injEq, Prod.mk.injEq] at H
         obtain ⟨rfl, rfl⟩ := H
         go_wp2
         go_ret2
         exact ⟨by first | rfl | (simp [errW_none, errW_some] <;> rfl) | (simp only [← hji24, ← hji26]; first | rfl | (simp [errW_none, errW_some] <;> rfl)) | (simp [*, errW_none, errW_some] <;> rfl), bl_⟩
        rw [if_neg c25] at H
        exact absurd H (by simp)
     rw [if_neg c19] at H
     have c19b0 := beq_eq_false_iff_ne.mpr c19
     have c19b1 := bne_iff_ne.mpr c19
     by_cases c31 : 0 < (t121.length : Int)
     ·rw [if_pos c31] at H
      have c31b0 := decide_eq_true c31
      have c31b1 : decide (0 < t121.length) = true := decide_eq_true (by omega)
      clear c31
      simp only [Option.some.injEq, Prod.mk.injEq] at H
      obtain ⟨rfl, rfl⟩ := H
      obtain ⟨Ao32, co32, eo32⟩ := Kd.R_slice HO_6.out
      subst eo32
      have p126 : 0 ≤ (0 : Int) := (by omega)
      have q126 : 0 < (t121.length : Int) := da_
      obtain ⟨ad126, e126, hx126_0⟩ := Kd.at_int (Kd.R_reads' HO_6.out).2.2 0 p126 q126
      cases e126
      have qi126 : (0 < t121.length) = True := eq_true (by omega)
      (try rw [show ((0 : Int)).toNat = 0 from rfl] at hx126_0)
      (try rw [Addr.add_zero'] at hx126_0)
      replace p126 := eq_true p126
      replace q126 := eq_true q126
      go_wp2
      go_ret2
      exact ⟨es_, bl_⟩
     rw [if_neg c31] at H
     exact absurd H (by simp)
end Go.Proofs.YtcdleippdegibaaDoor.PE
namespace Go.Proofs.YtcdleippdegibaaDoor.PC
open Go.RowKit Go.Proofs.YtcdleippdegibaaDoorW.PrintWords Go.Proofs.YtcdleippdegibaaDoorW.PrintLast Go.Proofs.YtcdleippdegibaaDoorW.PrintMore
open Go.Proofs.YtcdleippdegibaaDoor.LibG (SH SH.below SH.drewN SH.drew SH.alloc)
open Go.Proofs.YtcdleippdegibaaDoor.PK
attribute [local go_sem] max2_int min2_int max_two min_two max_three min_three max_four min_four
def errW : Option Int → Value
 | none => .nilIface
 | some c => .iface 0 (.int .i64 c)
theorem errW_none : errW none = .nilIface := rfl
theorem errW_some (c : Int) : errW (some c) = .iface 0 (.int .i64 c) := rfl
mutual
def ctok_exponent.j0 : Nat → ByteArray → Bool → Option (Int)
 | 0, _, _ => none
 | k + 1, x0, x15 => if x15 = true then (some 0) else (if 1 < (x0.size : Int) then (if (bt x0 1) = 43 then (ctok_exponent.j1 k x0 1 true) else (ctok_exponent.j1 k x0 1 ((bt x0 1) == 45))) else (ctok_exponent.j1 k x0 1 false))
def ctok_exponent.j1 : Nat → ByteArray → Int → Bool → Option (Int)
 | 0, _, _, _ => none
 | k + 1, x0, x5, x31 => if x31 = true then (if 0 ≤ (wrap64 (x5 + 1)) then (if (wrap64 (x5 + 1)) ≤ (x0.size : Int) then ((Go.Proofs.YtcdleippdegibaaDoor.Digits.ctok_run.f (x0.extract ((wrap64 (x5 + 1)) : Int).toNat x0.size) 10).bind fun t101 => (if t101 = 0 then (some 0) else (some (wrap64 ((wrap64 (x5 + 1)) + t101))))) else (none)) else (none)) else (if 0 ≤ x5 then (if x5 ≤ (x0.size : Int) then ((Go.Proofs.YtcdleippdegibaaDoor.Digits.ctok_run.f (x0.extract (x5 : Int).toNat x0.size) 10).bind fun t102 => (if t102 = 0 then (some 0) else (some (wrap64 (x5 + t102))))) else (none)) else (none))
end
def ctok_exponent.f (k : Nat) (a0 : ByteArray) (a1 : Int) : Option (Int) := if a0.toList = ([] : List UInt8) then (ctok_exponent.j0 k a0 true) else (if 0 < (a0.size : Int) then (ctok_exponent.j0 k a0 ((Go.bits .or .u8 (bt a0 0) 32) != a1)) else (none))
theorem ctok_exponent.mono_l : ∀ k, (∀ y0 y1, LeO (ctok_exponent.j0 k y0 y1) (ctok_exponent.j0 (k + 1) y0 y1)) ∧ (∀ y0 y1 y2, LeO (ctok_exponent.j1 k y0 y1 y2) (ctok_exponent.j1 (k + 1) y0 y1 y2))
 | 0 => ⟨fun _ _ r h => by simp [ctok_exponent.j0] at h, fun _ _ _ r h => by simp [ctok_exponent.j1] at h⟩
 | k + 1 => by
  obtain ⟨ih0, ih1⟩ := ctok_exponent.mono_l k
  refine ⟨?_, ?_⟩
  ·intro y0 y1
   unfold ctok_exponent.j0
   repeat' first
   | (with_reducible exact ih0 _ _)
   | (with_reducible exact ih1 _ _ _)
   | (with_reducible exact LeO.refl _)
   | (with_reducible exact LeO.none _)
   | (with_reducible refine LeO.ite ?_ ?_)
   | (with_reducible refine LeO.bind ?_ (fun _ => ?_))
   | exact ih0 _ _
   | exact ih1 _ _ _
   | exact LeO.none _
   | refine LeO.ite ?_ ?_
   | refine LeO.bind ?_ (fun _ => ?_)
  intro y0 y1 y2
  unfold ctok_exponent.j1
  repeat' first
  | (with_reducible exact ih0 _ _)
  | (with_reducible exact ih1 _ _ _)
  | (with_reducible exact LeO.refl _)
  | (with_reducible exact LeO.none _)
  | (with_reducible refine LeO.ite ?_ ?_)
  | (with_reducible refine LeO.bind ?_ (fun _ => ?_))
  | exact ih0 _ _
  | exact ih1 _ _ _
  | exact LeO.none _
  | refine LeO.ite ?_ ?_
  | refine LeO.bind ?_ (fun _ => ?_)
theorem ctok_exponent.mono : ∀ a0 a1 k, LeO (ctok_exponent.f k a0 a1) (ctok_exponent.f (k + 1) a0 a1) := by
 intro a0 a1 k
 obtain ⟨ih0, ih1⟩ := ctok_exponent.mono_l k
 unfold ctok_exponent.f
 repeat' first
   | (with_reducible exact ih0 _ _)
   | (with_reducible exact ih1 _ _ _)
   | (with_reducible exact LeO.refl _)
   | (with_reducible exact LeO.none _)
   | (with_reducible refine LeO.ite ?_ ?_)
   | (with_reducible refine LeO.bind ?_ (fun _ => ?_))
   | exact ih0 _ _
   | exact ih1 _ _ _
   | exact LeO.none _
   | refine LeO.ite ?_ ?_
   | refine LeO.bind ?_ (fun _ => ?_)
set_option maxHeartbeats 8000000 in
set_option maxRecDepth 100000 in
theorem ctok_exponent.calls (k : Nat) (a0 : ByteArray) (a1 : Int) (r : Int) (w : World) (h : ctok_exponent.f k a0 a1 = some r) :
  Calls Tryd.prog 33 #[.string a0, .int .u8 a1] w fun e w' => e = .returned (.int .i64 r) ∧ Below w.heap.size w w' := by
 have HB := Aside0.mk (Below.refl w.heap.size w)
 have H : (if a0.toList = ([] : List UInt8) then (ctok_exponent.j0 k a0 true) else (if 0 < (a0.size : Int) then (ctok_exponent.j0 k a0 ((Go.bits .or .u8 (bt a0 0) 32) != a1)) else (none))) = some r := h
 clear h
 have HC3 := Aside0.mk H
 clear H
 go_enter Tryd.func33, Tryd.ntmps33
 go_upto_region 1 with (fail)
 go_cut [15] (fun v15 wc => ∃ (kq : Nat) (x15_2 : Bool), v15 = .bool x15_2 ∧ Aside0 (ctok_exponent.j0 kq a0 x15_2 = some r) ∧ Aside0 (kq ≤ k) ∧ Aside0 (Below w.heap.size w wc))
 case first =>
  have H := HC3.out
  clear HC3
  by_cases c4 : a0.toList = ([] : List UInt8)
  ·rw [if_pos c4] at H
   have c4b0 := beq_iff_eq.mpr c4
   have c4b1 := bne_eq_false_iff_eq.mpr c4
   clear c4
   (first | rw [c4b0] | (simp only [i64_w, i32_w]; rw [c4b0]) | skip)
   have H' := Aside0.mk H
   clear H
   go_wp2
   go_meet
   case rel => exact ⟨_, (true), er_, H', ⟨om_⟩, ⟨bl_⟩⟩
  rw [if_neg c4] at H
  have c4b0 := beq_eq_false_iff_ne.mpr c4
  have c4b1 := bne_iff_ne.mpr c4
  (first | rw [c4b0] | (simp only [i64_w, i32_w]; rw [c4b0]) | skip)
  by_cases c5 : 0 < (a0.size : Int)
  ·rw [if_pos c5] at H
   have c5b0 := decide_eq_true c5
   have c5b1 : decide (0 < a0.size) = true := decide_eq_true (by omega)
   clear c5
   have H' := Aside0.mk H
   clear H
   have p6 : 0 ≤ (0 : Int) := (by omega)
   have q6 : 0 < a0.size := (by have : (0 : Int) < (a0.size : Int) := of_decide_eq_true (by first | (with_reducible assumption) | assumption); omega)
   have hx6 : ∀ h : 0 < a0.size, ((a0[0]'h).toNat : Int) = bt a0 0 := bt_at a0 0
   clear p6
   have qi6 : (0 < (a0.size : Int)) = True := eq_true da_
   replace q6 := eq_true q6
   go_wp2
   go_meet
   case rel => exact ⟨_, (((Go.bits .or .u8 (bt a0 0) 32) != a1)), er_, H', ⟨om_⟩, ⟨bl_⟩⟩
  rw [if_neg c5] at H
  exact absurd H (by simp)
 case rest =>
  clear HC3
  try clear p2
  try clear c3
  try clear c4
  try clear c4b0
  try clear c4b1
  try clear c5
  try clear c5b0
  try clear c5b1
  try clear p6
  try clear q6
  try clear hx6
  try clear qi6
  try clear p6
  try clear q6
  obtain ⟨kq, x15_2, rfl, HA, HJ2, HB⟩ := hcut
  cases kq with
  | zero => exact absurd HA.out (by simp [ctok_exponent.j0])
  | succ kj2 =>
   have H := HA.out
   clear HA
   simp only [ctok_exponent.j0] at H
   by_cases c7 : x15_2 = true
   ·subst c7
    have H1 : (some 0) = some r := by rw [if_pos rfl] at H; exact H
    clear H
    have H := H1
    clear H1
    obtain rfl := Option.some.inj H
    go_wp2
    go_ret
    exact ⟨es_, bl_⟩
   replace c7 := Bool.eq_false_iff.mpr c7
   subst c7
   have H1 : (if 1 < (a0.size : Int) then (if (bt a0 1) = 43 then (ctok_exponent.j1 kj2 a0 1 true) else (ctok_exponent.j1 kj2 a0 1 ((bt a0 1) == 45))) else (ctok_exponent.j1 kj2 a0 1 false)) = some r := by rw [if_neg (show ¬ (false = true) by decide)] at H; exact H
   clear H
   have H := H1
   clear H1
   have HC8 := Aside0.mk H
   clear H
   go_upto_region 4 with (fail)
   go_cut [31] (fun v31 wc => ∃ (kq : Nat) (x31_7 : Bool), v31 = .bool x31_7 ∧ Aside0 (ctok_exponent.j1 kq a0 1 x31_7 = some r) ∧ Aside0 (kq ≤ kj2) ∧ Aside0 (Below w.heap.size w wc))
   case first =>
    have H := HC8.out
    clear HC8
    by_cases c9 : 1 < (a0.size : Int)
    ·rw [if_pos c9] at H
     have c9b0 := decide_eq_true c9
     have c9b1 : decide (1 < a0.size) = true := decide_eq_true (by omega)
     clear c9
     (first | rw [c9b0] | (simp only [i64_w, i32_w]; rw [c9b0]) | skip)
     by_cases c11 : (bt a0 1) = 43
     ·rw [if_pos c11] at H
      have c11b0 := beq_iff_eq.mpr c11
      have c11b1 := bne_eq_false_iff_eq.mpr c11
      clear c11
      have H' := Aside0.mk H
      clear H
      have p10 : 0 ≤ (1 : Int) := (by omega)
      have q10 : 1 < a0.size := (by have : (1 : Int) < (a0.size : Int) := of_decide_eq_true (by first | (with_reducible assumption) | assumption); omega)
      have hx10 : ∀ h : 1 < a0.size, ((a0[1]'h).toNat : Int) = bt a0 1 := bt_at a0 1
      clear p10
      have qi10 : (1 < (a0.size : Int)) = True := eq_true da_
      replace q10 := eq_true q10
      go_wp2
      go_meet
      case rel => exact ⟨_, (true), er_, H', ⟨by have := HJ2.out; first | omega | exact Nat.le_refl _⟩, ⟨bl_⟩⟩
     rw [if_neg c11] at H
     have c11b0 := beq_eq_false_iff_ne.mpr c11
     have c11b1 := bne_iff_ne.mpr c11
     have H' := Aside0.mk H
     clear H
     have p10 : 0 ≤ (1 : Int) := (by omega)
     have q10 : 1 < a0.size := (by have : (1 : Int) < (a0.size : Int) := of_decide_eq_true (by first | (with_reducible assumption) | assumption); omega)
     have hx10 : ∀ h : 1 < a0.size, ((a0[1]'h).toNat : Int) = bt a0 1 := bt_at a0 1
     clear p10
     have qi10 : (1 < (a0.size : Int)) = True := eq_true da_
     replace q10 := eq_true q10
     have p12 : 0 ≤ (1 : Int) := (by omega)
     have q12 : 1 < a0.size := (by have : (1 : Int) < (a0.size : Int) := of_decide_eq_true (by first | (with_reducible assumption) | assumption); omega)
     have hx12 : ∀ h : 1 < a0.size, ((a0[1]'h).toNat : Int) = bt a0 1 := bt_at a0 1
     clear p12
     have qi12 : (1 < (a0.size : Int)) = True := eq_true da_
     replace q12 := eq_true q12
     go_wp2
     go_meet
     case rel => exact ⟨_, (((bt a0 1) == 45)), er_, H', ⟨by have := HJ2.out; first | omega | exact Nat.le_refl _⟩, ⟨bl_⟩⟩
    rw [if_neg c9] at H
    have c9b0 := decide_eq_false c9
    have c9b1 : decide (1 < a0.size) = false := decide_eq_false (by omega)
    clear c9
    (first | rw [c9b0] | (simp only [i64_w, i32_w]; rw [c9b0]) | skip)
    have H' := Aside0.mk H
    clear H
    go_wp2
    go_meet
    case rel => exact ⟨_, (false), er_, H', ⟨by have := HJ2.out; first | omega | exact Nat.le_refl _⟩, ⟨bl_⟩⟩
   case rest =>
    clear HC8
    try clear c1
    try clear p1
    try clear q1
    try clear hx1
    try clear qi1
    try clear p2
    try clear c3
    try clear c4
    try clear c4b0
    try clear c4b1
    try clear c5
    try clear c5b0
    try clear c5b1
    try clear p6
    try clear q6
    try clear hx6
    try clear qi6
    try clear c7
    try clear c9
    try clear c9b0
    try clear c9b1
    try clear p10
    try clear q10
    try clear hx10
    try clear qi10
    try clear c11
    try clear c11b0
    try clear c11b1
    try clear p12
    try clear q12
    try clear hx12
    try clear qi12
    try clear p10
    try clear p12
    try clear p2
    try clear p6
    try clear q10
    try clear q12
    try clear q6
    obtain ⟨kq, x31_7, rfl, HA, HJ7, HB⟩ := hcut
    cases kq with
    | zero => exact absurd HA.out (by simp [ctok_exponent.j1])
    | succ kj7 =>
     have H := HA.out
     clear HA
     simp only [ctok_exponent.j1] at H
     by_cases c13 : x31_7 = true
     ·subst c13
      have H1 : (if 0 ≤ (wrap64 (1 + 1)) then (if (wrap64 (1 + 1)) ≤ (a0.size : Int) then ((Go.Proofs.YtcdleippdegibaaDoor.Digits.ctok_run.f (a0.extract ((wrap64 (1 + 1)) : Int).toNat a0.size) 10).bind fun t101 => (if t101 = 0 then (some 0) else (some (wrap64 ((wrap64 (1 + 1)) + t101))))) else (none)) else (none)) = some r := by rw [if_pos rfl] at H; exact H
      clear H
      have H := H1
      clear H1
      have hji14 : (wrap64 (1 + 1)) = 2 := by unfold wrap64; omega
      replace H : (if 0 ≤ (2) then (if (2) ≤ (a0.size : Int) then ((Go.Proofs.YtcdleippdegibaaDoor.Digits.ctok_run.f (a0.extract ((2) : Int).toNat a0.size) 10).bind fun t101 => (if t101 = 0 then (some 0) else (some (wrap64 ((2) + t101))))) else (none)) else (none)) = some r := by first | (rw [hji14] at H; exact H) | (simp only [hji14] at H ⊢; exact H)
      have hji14w : (IntKind.i64.wrap (1 + 1)) = 2 := (i64_w _).trans hji14
      by_cases c15 : 0 ≤ (2)
      ·rw [if_pos c15] at H
       have c15b0 := eq_true c15
       have c15b1 := decide_eq_true c15
       clear c15
       by_cases c16 : (2) ≤ (a0.size : Int)
       ·rw [if_pos c16] at H
        have c16b0 := eq_true c16
        have c16b1 := decide_eq_true c16
        clear c16
        replace H := Option.bind_eq_some_iff.mp H
        obtain ⟨t101, A170, H⟩ := H
        replace H : (if t101 = 0 then (some 0) else (some (wrap64 ((2) + t101)))) = some r := H
        have A17 := Aside0.mk A170
        clear A170
        by_cases c18 : t101 = 0
        ·rw [if_pos c18] at H
         have c18b0 := beq_iff_eq.mpr c18
         have c18b1 := bne_eq_false_iff_eq.mpr c18
         clear c18
         obtain rfl := Option.some.inj H
         go_wp2_with (first | ((with_reducible refine gate_callee (f := 32) rfl ?_); refine goesL_ (some 37) rfl rfl Tryd.func32 (by kernel_rfl) rfl #[.string (a0.extract ((2) : Int).toNat a0.size), .int .i64 10] rfl (by (try simp only [List.map_toArray, List.map_cons, List.map_nil]); first | done | (simp only [hji14]; rfl) | rfl | (simp only [List.length_drop, List.length_take]; rfl)) ?_; (with_reducible refine (Go.Proofs.YtcdleippdegibaaDoor.Digits.ctok_run.calls (a0.extract ((2) : Int).toNat a0.size) 10 t101 _ A17.out).mono ?_); rintro e w19 ⟨rfl, hb⟩; refine ⟨_, rfl, ?_⟩; have n0_ := Aside0.mk (below_step bl_ hb); clear HB; have HB := n0_; clear n0_; (try clear hb); (try clear hb2); (try clear hk); (try clear hi)))
         go_ret
         exact ⟨by first | rfl | (simp [errW_none, errW_some] <;> rfl) | (simp only [← hji14]; first | rfl | (simp [errW_none, errW_some] <;> rfl)) | (simp [*, errW_none, errW_some] <;> rfl), bl_⟩
        rw [if_neg c18] at H
        have c18b0 := beq_eq_false_iff_ne.mpr c18
        have c18b1 := bne_iff_ne.mpr c18
        obtain rfl := Option.some.inj H
        go_wp2_with (first | ((with_reducible refine gate_callee (f := 32) rfl ?_); refine goesL_ (some 37) rfl rfl Tryd.func32 (by kernel_rfl) rfl #[.string (a0.extract ((2) : Int).toNat a0.size), .int .i64 10] rfl (by (try simp only [List.map_toArray, List.map_cons, List.map_nil]); first | done | (simp only [hji14]; rfl) | rfl | (simp only [List.length_drop, List.length_take]; rfl)) ?_; (with_reducible refine (Go.Proofs.YtcdleippdegibaaDoor.Digits.ctok_run.calls (a0.extract ((2) : Int).toNat a0.size) 10 t101 _ A17.out).mono ?_); rintro e w20 ⟨rfl, hb⟩; refine ⟨_, rfl, ?_⟩; have n0_ := Aside0.mk (below_step bl_ hb); clear HB; have HB := n0_; clear n0_; (try clear hb); (try clear hb2); (try clear hk); (try clear hi)))
        go_ret
        exact ⟨by first | rfl | (simp [errW_none, errW_some] <;> rfl) | (simp only [← hji14]; first | rfl | (simp [errW_none, errW_some] <;> rfl)) | (simp [*, errW_none, errW_some] <;> rfl), bl_⟩
       rw [if_neg c16] at H
       exact absurd H (by simp)
      rw [if_neg c15] at H
      exact absurd H (by simp)
     replace c13 := Bool.eq_false_iff.mpr c13
     subst c13
     have H1 : (if 0 ≤ 1 then (if 1 ≤ (a0.size : Int) then ((Go.Proofs.YtcdleippdegibaaDoor.Digits.ctok_run.f (a0.extract (1 : Int).toNat a0.size) 10).bind fun t102 => (if t102 = 0 then (some 0) else (some (wrap64 (1 + t102))))) else (none)) else (none)) = some r := by rw [if_neg (show ¬ (false = true) by decide)] at H; exact H
     clear H
     have H := H1
     clear H1
     by_cases c21 : 0 ≤ 1
     ·rw [if_pos c21] at H
      have c21b0 := eq_true c21
      have c21b1 := decide_eq_true c21
      clear c21
      by_cases c22 : 1 ≤ (a0.size : Int)
      ·rw [if_pos c22] at H
       have c22b0 := eq_true c22
       have c22b1 := decide_eq_true c22
       clear c22
       replace H := Option.bind_eq_some_iff.mp H
       obtain ⟨t102, A230, H⟩ := H
       replace H : (if t102 = 0 then (some 0) else (some (wrap64 (1 + t102)))) = some r := H
       have A23 := Aside0.mk A230
       clear A230
       by_cases c24 : t102 = 0
       ·rw [if_pos c24] at H
        have c24b0 := beq_iff_eq.mpr c24
        have c24b1 := bne_eq_false_iff_eq.mpr c24
        clear c24
        obtain rfl := Option.some.inj H
        go_wp2_with (first | ((with_reducible refine gate_callee (f := 32) rfl ?_); refine goesL_ (some 37) rfl rfl Tryd.func32 (by kernel_rfl) rfl #[.string (a0.extract (1 : Int).toNat a0.size), .int .i64 10] rfl ar_ ?_; (with_reducible refine (Go.Proofs.YtcdleippdegibaaDoor.Digits.ctok_run.calls (a0.extract (1 : Int).toNat a0.size) 10 t102 _ A23.out).mono ?_); rintro e w25 ⟨rfl, hb⟩; refine ⟨_, rfl, ?_⟩; have n0_ := Aside0.mk (below_step bl_ hb); clear HB; have HB := n0_; clear n0_; (try clear hb); (try clear hb2); (try clear hk); (try clear hi)))
        go_ret
        exact ⟨es_, bl_⟩
       rw [if_neg c24] at H
       have c24b0 := beq_eq_false_iff_ne.mpr c24
       have c24b1 := bne_iff_ne.mpr c24
       obtain rfl := Option.some.inj H
       go_wp2_with (first | ((with_reducible refine gate_callee (f := 32) rfl ?_); refine goesL_ (some 37) rfl rfl Tryd.func32 (by kernel_rfl) rfl #[.string (a0.extract (1 : Int).toNat a0.size), .int .i64 10] rfl ar_ ?_; (with_reducible refine (Go.Proofs.YtcdleippdegibaaDoor.Digits.ctok_run.calls (a0.extract (1 : Int).toNat a0.size) 10 t102 _ A23.out).mono ?_); rintro e w26 ⟨rfl, hb⟩; refine ⟨_, rfl, ?_⟩; have n0_ := Aside0.mk (below_step bl_ hb); clear HB; have HB := n0_; clear n0_; (try clear hb); (try clear hb2); (try clear hk); (try clear hi)))
       go_ret
       exact ⟨es_, bl_⟩
      rw [if_neg c22] at H
      exact absurd H (by simp)
     rw [if_neg c21] at H
     exact absurd H (by simp)
mutual
def ctok_Float.j0 : Nat → Int → Int → ByteArray → Option (Bool)
 | 0, _, _, _ => none
 | k + 1, x3, x4, x5 => (Go.Proofs.YtcdleippdegibaaDoor.Digits.ctok_run.f x5 x3).bind fun t104 => (if t104 < (x5.size : Int) then (if 0 ≤ t104 then (ctok_Float.j1 k x3 x4 x5 t104 ((bt x5 t104) == 46)) else (none)) else (ctok_Float.j1 k x3 x4 x5 t104 false))
def ctok_Float.j1 : Nat → Int → Int → ByteArray → Int → Bool → Option (Bool)
 | 0, _, _, _, _, _ => none
 | k + 1, x3, x4, x5, x6, x7 => if 0 ≤ x6 then (if x6 ≤ (x5.size : Int) then (if x7 = true then (if 1 ≤ ((x5.extract (x6 : Int).toNat x5.size).size : Int) then ((Go.Proofs.YtcdleippdegibaaDoor.Digits.ctok_run.f ((x5.extract (x6 : Int).toNat x5.size).extract 1 (x5.extract (x6 : Int).toNat x5.size).size) x3).bind fun t105 => (if 0 ≤ (wrap64 (1 + t105)) then (if (wrap64 (1 + t105)) ≤ ((x5.extract (x6 : Int).toNat x5.size).size : Int) then (ctok_Float.j2 k x3 x4 ((x5.extract (x6 : Int).toNat x5.size).extract ((wrap64 (1 + t105)) : Int).toNat (x5.extract (x6 : Int).toNat x5.size).size) (wrap64 (x6 + t105)) x7) else (none)) else (none))) else (none)) else (ctok_Float.j2 k x3 x4 (x5.extract (x6 : Int).toNat x5.size) x6 x7)) else (none)) else (none)
def ctok_Float.j2 : Nat → Int → Int → ByteArray → Int → Bool → Option (Bool)
 | 0, _, _, _, _, _ => none
 | k + 1, x3, x4, x5, x6, x7 => (ctok_exponent.f k x5 x4).bind fun t106 => (if x6 = 0 then (ctok_Float.j3 k x5 t106 true) else (if t106 = 0 then (if x7 = true then (ctok_Float.j3 k x5 t106 (x3 == 16)) else (ctok_Float.j3 k x5 t106 true)) else (ctok_Float.j3 k x5 t106 false)))
def ctok_Float.j3 : Nat → ByteArray → Int → Bool → Option (Bool)
 | 0, _, _, _ => none
 | k + 1, x5, x9, x59 => if x59 = true then (some false) else (if 0 ≤ x9 then (if x9 ≤ (x5.size : Int) then (if (x5.extract (x9 : Int).toNat x5.size).toList = ([] : List UInt8) then (some true) else (if (x5.extract (x9 : Int).toNat x5.size).toList = ([102] : List UInt8) then (some true) else (if (x5.extract (x9 : Int).toNat x5.size).toList = ([70] : List UInt8) then (some true) else (if (x5.extract (x9 : Int).toNat x5.size).toList = ([108] : List UInt8) then (some true) else (if (x5.extract (x9 : Int).toNat x5.size).toList = ([76] : List UInt8) then (some true) else (some false)))))) else (none)) else (none))
end
def ctok_Float.f (k : Nat) (a0 : ByteArray) : Option (Bool) := (Go.Proofs.YtcdleippdegibaaDoor.PB.ctok_hexed.f a0).bind fun t103 => (if t103 = true then (if 2 ≤ (a0.size : Int) then (ctok_Float.j0 k 16 112 (a0.extract 2 a0.size)) else (none)) else (ctok_Float.j0 k 10 101 a0))
theorem ctok_Float.mono_l : ∀ k, (∀ y0 y1 y2, LeO (ctok_Float.j0 k y0 y1 y2) (ctok_Float.j0 (k + 1) y0 y1 y2)) ∧ (∀ y0 y1 y2 y3 y4, LeO (ctok_Float.j1 k y0 y1 y2 y3 y4) (ctok_Float.j1 (k + 1) y0 y1 y2 y3 y4)) ∧ (∀ y0 y1 y2 y3 y4, LeO (ctok_Float.j2 k y0 y1 y2 y3 y4) (ctok_Float.j2 (k + 1) y0 y1 y2 y3 y4)) ∧ (∀ y0 y1 y2, LeO (ctok_Float.j3 k y0 y1 y2) (ctok_Float.j3 (k + 1) y0 y1 y2))
 | 0 => ⟨fun _ _ _ r h => by simp [ctok_Float.j0] at h, fun _ _ _ _ _ r h => by simp [ctok_Float.j1] at h, fun _ _ _ _ _ r h => by simp [ctok_Float.j2] at h, fun _ _ _ r h => by simp [ctok_Float.j3] at h⟩
 | k + 1 => by
  obtain ⟨ih0, ih1, ih2, ih3⟩ := ctok_Float.mono_l k
  refine ⟨?_, ?_, ?_, ?_⟩
  ·intro y0 y1 y2
   unfold ctok_Float.j0
   repeat' first
   | (with_reducible exact ih0 _ _ _)
   | (with_reducible exact ih1 _ _ _ _ _)
   | (with_reducible exact ih2 _ _ _ _ _)
   | (with_reducible exact ih3 _ _ _)
   | (with_reducible exact ctok_exponent.mono _ _ _)
   | (with_reducible exact LeO.refl _)
   | (with_reducible exact LeO.none _)
   | (with_reducible refine LeO.ite ?_ ?_)
   | (with_reducible refine LeO.bind ?_ (fun _ => ?_))
   | exact ih0 _ _ _
   | exact ih1 _ _ _ _ _
   | exact ih2 _ _ _ _ _
   | exact ih3 _ _ _
   | exact ctok_exponent.mono _ _ _
   | exact LeO.none _
   | refine LeO.ite ?_ ?_
   | refine LeO.bind ?_ (fun _ => ?_)
  ·intro y0 y1 y2 y3 y4
   unfold ctok_Float.j1
   repeat' first
   | (with_reducible exact ih0 _ _ _)
   | (with_reducible exact ih1 _ _ _ _ _)
   | (with_reducible exact ih2 _ _ _ _ _)
   | (with_reducible exact ih3 _ _ _)
   | (with_reducible exact ctok_exponent.mono _ _ _)
   | (with_reducible exact LeO.refl _)
   | (with_reducible exact LeO.none _)
   | (with_reducible refine LeO.ite ?_ ?_)
   | (with_reducible refine LeO.bind ?_ (fun _ => ?_))
   | exact ih0 _ _ _
   | exact ih1 _ _ _ _ _
   | exact ih2 _ _ _ _ _
   | exact ih3 _ _ _
   | exact ctok_exponent.mono _ _ _
   | exact LeO.none _
   | refine LeO.ite ?_ ?_
   | refine LeO.bind ?_ (fun _ => ?_)
  ·intro y0 y1 y2 y3 y4
   unfold ctok_Float.j2
   repeat' first
   | (with_reducible exact ih0 _ _ _)
   | (with_reducible exact ih1 _ _ _ _ _)
   | (with_reducible exact ih2 _ _ _ _ _)
   | (with_reducible exact ih3 _ _ _)
   | (with_reducible exact ctok_exponent.mono _ _ _)
   | (with_reducible exact LeO.refl _)
   | (with_reducible exact LeO.none _)
   | (with_reducible refine LeO.ite ?_ ?_)
   | (with_reducible refine LeO.bind ?_ (fun _ => ?_))
   | exact ih0 _ _ _
   | exact ih1 _ _ _ _ _
   | exact ih2 _ _ _ _ _
   | exact ih3 _ _ _
   | exact ctok_exponent.mono _ _ _
   | exact LeO.none _
   | refine LeO.ite ?_ ?_
   | refine LeO.bind ?_ (fun _ => ?_)
  intro y0 y1 y2
  unfold ctok_Float.j3
  repeat' first
  | (with_reducible exact ih0 _ _ _)
  | (with_reducible exact ih1 _ _ _ _ _)
  | (with_reducible exact ih2 _ _ _ _ _)
  | (with_reducible exact ih3 _ _ _)
  | (with_reducible exact ctok_exponent.mono _ _ _)
  | (with_reducible exact LeO.refl _)
  | (with_reducible exact LeO.none _)
  | (with_reducible refine LeO.ite ?_ ?_)
  | (with_reducible refine LeO.bind ?_ (fun _ => ?_))
  | exact ih0 _ _ _
  | exact ih1 _ _ _ _ _
  | exact ih2 _ _ _ _ _
  | exact ih3 _ _ _
  | exact ctok_exponent.mono _ _ _
  | exact LeO.none _
  | refine LeO.ite ?_ ?_
  | refine LeO.bind ?_ (fun _ => ?_)
theorem ctok_Float.mono : ∀ a0 k, LeO (ctok_Float.f k a0) (ctok_Float.f (k + 1) a0) := by
 intro a0 k
 obtain ⟨ih0, ih1, ih2, ih3⟩ := ctok_Float.mono_l k
 unfold ctok_Float.f
 repeat' first
   | (with_reducible exact ih0 _ _ _)
   | (with_reducible exact ih1 _ _ _ _ _)
   | (with_reducible exact ih2 _ _ _ _ _)
   | (with_reducible exact ih3 _ _ _)
   | (with_reducible exact ctok_exponent.mono _ _ _)
   | (with_reducible exact LeO.refl _)
   | (with_reducible exact LeO.none _)
   | (with_reducible refine LeO.ite ?_ ?_)
   | (with_reducible refine LeO.bind ?_ (fun _ => ?_))
   | exact ih0 _ _ _
   | exact ih1 _ _ _ _ _
   | exact ih2 _ _ _ _ _
   | exact ih3 _ _ _
   | exact ctok_exponent.mono _ _ _
   | exact LeO.none _
   | refine LeO.ite ?_ ?_
   | refine LeO.bind ?_ (fun _ => ?_)
set_option maxHeartbeats 8000000 in
set_option maxRecDepth 100000 in
theorem ctok_Float.calls (k : Nat) (a0 : ByteArray) (r : Bool) (w : World) (h : ctok_Float.f k a0 = some r) :
  Calls Tryd.prog 15 #[.string a0] w fun e w' => e = .returned (.bool r) ∧ Below w.heap.size w w' := by
 have HB := Aside0.mk (Below.refl w.heap.size w)
 have H : ((Go.Proofs.YtcdleippdegibaaDoor.PB.ctok_hexed.f a0).bind fun t103 => (if t103 = true then (if 2 ≤ (a0.size : Int) then (ctok_Float.j0 k 16 112 (a0.extract 2 a0.size)) else (none)) else (ctok_Float.j0 k 10 101 a0))) = some r := h
 clear h
 replace H := Option.bind_eq_some_iff.mp H
 obtain ⟨t103, A20, H⟩ := H
 replace H : (if t103 = true then (if 2 ≤ (a0.size : Int) then (ctok_Float.j0 k 16 112 (a0.extract 2 a0.size)) else (none)) else (ctok_Float.j0 k 10 101 a0)) = some r := H
 have A2 := Aside0.mk A20
 clear A20
 have HC3 := Aside0.mk H
 clear H
 go_enter Tryd.func15, Tryd.ntmps15
 go_upto_if 12 with (first | (go_at_call 31; (with_reducible refine (Go.Proofs.YtcdleippdegibaaDoor.PB.ctok_hexed.calls a0 t103 _ A2.out).mono ?_); rintro e w' ⟨rfl, ⟨nd, rfl⟩⟩; (try first | exact ⟨rfl, _, World.drewN_drewN _ _ _⟩ | exact ⟨rfl, _, Eq.trans (World.drewN_drewN _ _ _) (congrArg (World.drewN _) (Nat.add_assoc _ _ _))⟩)))
 repeat (go_quiet (first | (go_at_call 31; (with_reducible refine (Go.Proofs.YtcdleippdegibaaDoor.PB.ctok_hexed.calls a0 t103 _ A2.out).mono ?_); rintro e w' ⟨rfl, ⟨nd, rfl⟩⟩; (try first | exact ⟨rfl, _, World.drewN_drewN _ _ _⟩ | exact ⟨rfl, _, Eq.trans (World.drewN_drewN _ _ _) (congrArg (World.drewN _) (Nat.add_assoc _ _ _))⟩))); go_upto_if 12 with (first | (go_at_call 31; (with_reducible refine (Go.Proofs.YtcdleippdegibaaDoor.PB.ctok_hexed.calls a0 t103 _ A2.out).mono ?_); rintro e w' ⟨rfl, ⟨nd, rfl⟩⟩; (try first | exact ⟨rfl, _, World.drewN_drewN _ _ _⟩ | exact ⟨rfl, _, Eq.trans (World.drewN_drewN _ _ _) (congrArg (World.drewN _) (Nat.add_assoc _ _ _))⟩))))
 (try simp only [Act.put, List.setIfInBounds_toArray, List.set_cons_zero, List.set_cons_succ])
 go_cut [3, 4, 5] (fun v3 v4 v5 wc => ∃ (kq : Nat) (x3_2 : Int) (x4_2 : Int) (x5_2 : ByteArray), v3 = .int .i64 x3_2 ∧ v4 = .int .u8 x4_2 ∧ v5 = .string x5_2 ∧ Aside0 (ctok_Float.j0 kq x3_2 x4_2 x5_2 = some r) ∧ Aside0 (kq ≤ k) ∧ Aside0 (Below w.heap.size w wc))
 case first =>
  have H := HC3.out
  clear HC3
  by_cases c4 : t103 = true
  ·subst c4
   have H1 : (if 2 ≤ (a0.size : Int) then (ctok_Float.j0 k 16 112 (a0.extract 2 a0.size)) else (none)) = some r := by rw [if_pos rfl] at H; exact H
   clear H
   have H := H1
   clear H1
   by_cases c5 : 2 ≤ (a0.size : Int)
   ·rw [if_pos c5] at H
    have c5b0 := eq_true c5
    have c5b1 := decide_eq_true c5
    clear c5
    have H' := Aside0.mk H
    clear H
    go_wp2
    repeat (go_quiet (fail); try go_wp2)
    go_meet
    case rel => exact ⟨_, (16), (112), (a0.extract 2 a0.size), er_, er_, er_, H', ⟨om_⟩, ⟨bl_⟩⟩
   rw [if_neg c5] at H
   exact absurd H (by simp)
  replace c4 := Bool.eq_false_iff.mpr c4
  subst c4
  have H1 : (ctok_Float.j0 k 10 101 a0) = some r := by rw [if_neg (show ¬ (false = true) by decide)] at H; exact H
  clear H
  have H := H1
  clear H1
  have H' := Aside0.mk H
  clear H
  go_wp2
  repeat (go_quiet (fail); try go_wp2)
  go_meet
  case rel => exact ⟨_, (10), (101), (a0), er_, er_, er_, H', ⟨om_⟩, ⟨bl_⟩⟩
 case rest =>
  clear HC3
  try clear c1
  try clear p2
  try clear c4
  try clear c5
  try clear c5b0
  try clear c5b1
  obtain ⟨kq, x3_2, x4_2, x5_2, rfl, rfl, rfl, HA, HJ2, HB⟩ := hcut
  cases kq with
  | zero => exact absurd HA.out (by simp [ctok_Float.j0])
  | succ kj2 =>
   have H := HA.out
   clear HA
   simp only [ctok_Float.j0] at H
   replace H := Option.bind_eq_some_iff.mp H
   obtain ⟨t104, A60, H⟩ := H
   replace H : (if t104 < (x5_2.size : Int) then (if 0 ≤ t104 then (ctok_Float.j1 kj2 x3_2 x4_2 x5_2 t104 ((bt x5_2 t104) == 46)) else (none)) else (ctok_Float.j1 kj2 x3_2 x4_2 x5_2 t104 false)) = some r := H
   have A6 := Aside0.mk A60
   clear A60
   have HC7 := Aside0.mk H
   clear H
   go_upto_region 5 with (first | (go_at_call 32; (with_reducible refine (Go.Proofs.YtcdleippdegibaaDoor.Digits.ctok_run.calls x5_2 x3_2 t104 _ A6.out).mono ?_); rintro e w8 ⟨rfl, hb⟩; have n0_ := Aside0.mk (below_step bl_ hb); clear HB; have HB := n0_; clear n0_; (try clear hb); (try clear hb2); (try clear hk); (try clear hi)))
   repeat (go_quiet (first | (go_at_call 32; (with_reducible refine (Go.Proofs.YtcdleippdegibaaDoor.Digits.ctok_run.calls x5_2 x3_2 t104 _ A6.out).mono ?_); rintro e w8 ⟨rfl, hb⟩; have n0_ := Aside0.mk (below_step bl_ hb); clear HB; have HB := n0_; clear n0_; (try clear hb); (try clear hb2); (try clear hk); (try clear hi))); go_upto_region 5 with (first | (go_at_call 32; (with_reducible refine (Go.Proofs.YtcdleippdegibaaDoor.Digits.ctok_run.calls x5_2 x3_2 t104 _ A6.out).mono ?_); rintro e w8 ⟨rfl, hb⟩; have n0_ := Aside0.mk (below_step bl_ hb); clear HB; have HB := n0_; clear n0_; (try clear hb); (try clear hb2); (try clear hk); (try clear hi))))
   (try simp only [Act.put, List.setIfInBounds_toArray, List.set_cons_zero, List.set_cons_succ])
   go_cut [7] (fun v7 wc => ∃ (kq : Nat) (x7_6 : Bool), v7 = .bool x7_6 ∧ Aside0 (ctok_Float.j1 kq x3_2 x4_2 x5_2 t104 x7_6 = some r) ∧ Aside0 (kq ≤ kj2) ∧ Aside0 (Below w.heap.size w wc))
   case first =>
    have H := HC7.out
    clear HC7
    by_cases c9 : t104 < (x5_2.size : Int)
    ·rw [if_pos c9] at H
     have c9b0 := decide_eq_true c9
     clear c9
     (first | rw [c9b0] | (simp only [i64_w, i32_w]; rw [c9b0]) | skip)
     by_cases c10 : 0 ≤ t104
     ·rw [if_pos c10] at H
      have c10b0 := decide_eq_true c10
      clear c10
      have H' := Aside0.mk H
      clear H
      have p11 : 0 ≤ (t104 : Int) := da_
      have q11 : t104 < (x5_2.size : Int) := da_
      have hx11 := bt_at x5_2 t104
      replace p11 := eq_true p11
      replace q11 := eq_true q11
      go_wp2
      repeat (go_quiet (fail); try go_wp2)
      go_meet
      case rel => exact ⟨_, (((bt x5_2 t104) == 46)), er_, H', ⟨by have := HJ2.out; first | omega | exact Nat.le_refl _⟩, ⟨bl_⟩⟩
     rw [if_neg c10] at H
     exact absurd H (by simp)
    rw [if_neg c9] at H
    have c9b0 := decide_eq_false c9
    clear c9
    (first | rw [c9b0] | (simp only [i64_w, i32_w]; rw [c9b0]) | skip)
    have H' := Aside0.mk H
    clear H
    go_wp2
    repeat (go_quiet (fail); try go_wp2)
    go_meet
    case rel => exact ⟨_, (false), er_, H', ⟨by have := HJ2.out; first | omega | exact Nat.le_refl _⟩, ⟨bl_⟩⟩
   case rest =>
    clear HC7
    try clear c1
    try clear p1
    try clear q1
    try clear hx1
    try clear p2
    try clear c4
    try clear c5
    try clear c5b0
    try clear c5b1
    try clear c9
    try clear c9b0
    try clear c10
    try clear c10b0
    try clear p11
    try clear q11
    try clear hx11
    try clear p11
    try clear p2
    try clear q11
    obtain ⟨kq, x7_6, rfl, HA, HJ6, HB⟩ := hcut
    cases kq with
    | zero => exact absurd HA.out (by simp [ctok_Float.j1])
    | succ kj6 =>
     have H := HA.out
     clear HA
     simp only [ctok_Float.j1] at H
     by_cases c12 : 0 ≤ t104
     ·rw [if_pos c12] at H
      have c12b0 := eq_true c12
      have c12b1 := decide_eq_true c12
      clear c12
      by_cases c13 : t104 ≤ (x5_2.size : Int)
      ·rw [if_pos c13] at H
       have c13b0 := eq_true c13
       have c13b1 := decide_eq_true c13
       clear c13
       have HC14 := Aside0.mk H
       clear H
       go_upto_if 31 with (fail)
       repeat (go_quiet (fail); go_upto_if 31 with (fail))
       go_cut [5, 6] (fun v5 v6 wc => ∃ (kq : Nat) (x5_13 : ByteArray) (x6_13 : Int), v5 = .string x5_13 ∧ v6 = .int .i64 x6_13 ∧ Aside0 (ctok_Float.j2 kq x3_2 x4_2 x5_13 x6_13 x7_6 = some r) ∧ Aside0 (kq ≤ kj6) ∧ Aside0 (Below w.heap.size w wc))
       case first =>
        have H := HC14.out
        clear HC14
        by_cases c15 : x7_6 = true
        ·subst c15
         have H1 : (if 1 ≤ ((x5_2.extract (t104 : Int).toNat x5_2.size).size : Int) then ((Go.Proofs.YtcdleippdegibaaDoor.Digits.ctok_run.f ((x5_2.extract (t104 : Int).toNat x5_2.size).extract 1 (x5_2.extract (t104 : Int).toNat x5_2.size).size) x3_2).bind fun t105 => (if 0 ≤ (wrap64 (1 + t105)) then (if (wrap64 (1 + t105)) ≤ ((x5_2.extract (t104 : Int).toNat x5_2.size).size : Int) then (ctok_Float.j2 kj6 x3_2 x4_2 ((x5_2.extract (t104 : Int).toNat x5_2.size).extract ((wrap64 (1 + t105)) : Int).toNat (x5_2.extract (t104 : Int).toNat x5_2.size).size) (wrap64 (t104 + t105)) true) else (none)) else (none))) else (none)) = some r := by rw [if_pos rfl] at H; exact H
         clear H
         have H := H1
         clear H1
         obtain ⟨xs, hxs⟩ : ∃ xs, x5_2.extract (t104 : Int).toNat x5_2.size = xs := ⟨_, rfl⟩
         rw [hxs] at H
         by_cases c16 : 1 ≤ (xs.size : Int)
         ·rw [if_pos c16] at H
          have c16b0 := eq_true c16
          have c16b1 := decide_eq_true c16
          clear c16
          replace H := Option.bind_eq_some_iff.mp H
          obtain ⟨t105, A170, H⟩ := H
          replace H : (if 0 ≤ (wrap64 (1 + t105)) then (if (wrap64 (1 + t105)) ≤ (xs.size : Int) then (ctok_Float.j2 kj6 x3_2 x4_2 (xs.extract ((wrap64 (1 + t105)) : Int).toNat xs.size) (wrap64 (t104 + t105)) true) else (none)) else (none)) = some r := H
          have A17 := Aside0.mk A170
          clear A170
          obtain ⟨ji18, hji18⟩ : ∃ j_ : Int, (wrap64 (1 + t105)) = j_ := ⟨_, rfl⟩
          replace H : (if 0 ≤ (ji18) then (if (ji18) ≤ (xs.size : Int) then (ctok_Float.j2 kj6 x3_2 x4_2 (xs.extract ((ji18) : Int).toNat xs.size) (wrap64 (t104 + t105)) true) else (none)) else (none)) = some r := by first | (rw [hji18] at H; exact H) | (simp only [hji18] at H ⊢; exact H)
          (try rw [hji18] at A17)
          have hji18w : (IntKind.i64.wrap (1 + t105)) = ji18 := (i64_w _).trans hji18
          by_cases c19 : 0 ≤ (ji18)
          ·rw [if_pos c19] at H
           have c19b0 := eq_true c19
           have c19b1 := decide_eq_true c19
           clear c19
           by_cases c20 : (ji18) ≤ (xs.size : Int)
           ·rw [if_pos c20] at H
            have c20b0 := eq_true c20
            have c20b1 := decide_eq_true c20
            clear c20
            have H' := Aside0.mk H
            clear H
            go_wp2_with (first | (go_at_call 32; (with_reducible refine (Go.Proofs.YtcdleippdegibaaDoor.Digits.ctok_run.calls (xs.extract 1 xs.size) x3_2 t105 _ A17.out).mono ?_); rintro e w21 ⟨rfl, hb⟩; have n0_ := Aside0.mk (below_step bl_ hb); clear HB; have HB := n0_; clear n0_; (try clear hb); (try clear hb2); (try clear hk); (try clear hi)))
            repeat (go_quiet (first | (go_at_call 32; (with_reducible refine (Go.Proofs.YtcdleippdegibaaDoor.Digits.ctok_run.calls (xs.extract 1 xs.size) x3_2 t105 _ A17.out).mono ?_); rintro e w21 ⟨rfl, hb⟩; have n0_ := Aside0.mk (below_step bl_ hb); clear HB; have HB := n0_; clear n0_; (try clear hb); (try clear hb2); (try clear hk); (try clear hi))); try go_wp2_with (first | (go_at_call 32; (with_reducible refine (Go.Proofs.YtcdleippdegibaaDoor.Digits.ctok_run.calls (xs.extract 1 xs.size) x3_2 t105 _ A17.out).mono ?_); rintro e w21 ⟨rfl, hb⟩; have n0_ := Aside0.mk (below_step bl_ hb); clear HB; have HB := n0_; clear n0_; (try clear hb); (try clear hb2); (try clear hk); (try clear hi))))
            go_meet
            case rel => exact ⟨_, (xs.extract ((ji18) : Int).toNat xs.size), (wrap64 (t104 + t105)), (by first | rfl | (simp; done) | (simp only [← hji18] <;> (first | rfl | simp)) | (simp [*]; done)), er_, H', ⟨by have := HJ2.out; have := HJ6.out; first | omega | exact Nat.le_refl _⟩, ⟨bl_⟩⟩
           rw [if_neg c20] at H
           exact absurd H (by simp)
          rw [if_neg c19] at H
          exact absurd H (by simp)
         rw [if_neg c16] at H
         exact absurd H (by simp)
        replace c15 := Bool.eq_false_iff.mpr c15
        subst c15
        have H1 : (ctok_Float.j2 kj6 x3_2 x4_2 (x5_2.extract (t104 : Int).toNat x5_2.size) t104 false) = some r := by rw [if_neg (show ¬ (false = true) by decide)] at H; exact H
        clear H
        have H := H1
        clear H1
        have H' := Aside0.mk H
        clear H
        go_wp2
        repeat (go_quiet (fail); try go_wp2)
        go_meet
        case rel => exact ⟨_, (x5_2.extract (t104 : Int).toNat x5_2.size), (t104), er_, er_, H', ⟨by have := HJ2.out; have := HJ6.out; first | omega | exact Nat.le_refl _⟩, ⟨bl_⟩⟩
       case rest =>
        clear HC14
        try clear c1
        try clear p1
        try clear q1
        try clear hx1
        try clear c2
        try clear p2
        try clear c4
        try clear c5
        try clear c5b0
        try clear c5b1
        try clear p6
        try clear c9
        try clear c9b0
        try clear c10
        try clear c10b0
        try clear p11
        try clear q11
        try clear hx11
        try clear c12
        try clear c12b0
        try clear c12b1
        try clear c13
        try clear c13b0
        try clear c13b1
        try clear c15
        try clear c16
        try clear c16b0
        try clear c16b1
        try clear c19
        try clear c19b0
        try clear c19b1
        try clear c20
        try clear c20b0
        try clear c20b1
        try clear p1
        try clear p11
        try clear p2
        try clear q1
        try clear q11
        obtain ⟨kq, x5_13, x6_13, rfl, rfl, HA, HJ13, HB⟩ := hcut
        cases kq with
        | zero => exact absurd HA.out (by simp [ctok_Float.j2])
        | succ kj13 =>
         have H := HA.out
         clear HA
         simp only [ctok_Float.j2] at H
         replace H := Option.bind_eq_some_iff.mp H
         obtain ⟨t106, A220, H⟩ := H
         replace H : (if x6_13 = 0 then (ctok_Float.j3 kj13 x5_13 t106 true) else (if t106 = 0 then (if x7_6 = true then (ctok_Float.j3 kj13 x5_13 t106 (x3_2 == 16)) else (ctok_Float.j3 kj13 x5_13 t106 true)) else (ctok_Float.j3 kj13 x5_13 t106 false))) = some r := H
         have A22 := Aside0.mk A220
         clear A220
         have HC23 := Aside0.mk H
         clear H
         go_upto_region 12 with (first | (go_at_call 33; (with_reducible refine (ctok_exponent.calls kj13 x5_13 x4_2 t106 _ A22.out).mono ?_); rintro e w24 ⟨rfl, hb⟩; have n0_ := Aside0.mk (below_step bl_ hb); clear HB; have HB := n0_; clear n0_; (try clear hb); (try clear hb2); (try clear hk); (try clear hi)))
         repeat (go_quiet (first | (go_at_call 33; (with_reducible refine (ctok_exponent.calls kj13 x5_13 x4_2 t106 _ A22.out).mono ?_); rintro e w24 ⟨rfl, hb⟩; have n0_ := Aside0.mk (below_step bl_ hb); clear HB; have HB := n0_; clear n0_; (try clear hb); (try clear hb2); (try clear hk); (try clear hi))); go_upto_region 12 with (first | (go_at_call 33; (with_reducible refine (ctok_exponent.calls kj13 x5_13 x4_2 t106 _ A22.out).mono ?_); rintro e w24 ⟨rfl, hb⟩; have n0_ := Aside0.mk (below_step bl_ hb); clear HB; have HB := n0_; clear n0_; (try clear hb); (try clear hb2); (try clear hk); (try clear hi))))
         (try simp only [Act.put, List.setIfInBounds_toArray, List.set_cons_zero, List.set_cons_succ])
         go_cut [59] (fun v59 wc => ∃ (kq : Nat) (x59_22 : Bool), v59 = .bool x59_22 ∧ Aside0 (ctok_Float.j3 kq x5_13 t106 x59_22 = some r) ∧ Aside0 (kq ≤ kj13) ∧ Aside0 (Below w.heap.size w wc))
         case first =>
          have H := HC23.out
          clear HC23
          by_cases c25 : x6_13 = 0
          ·rw [if_pos c25] at H
           have c25b0 := beq_iff_eq.mpr c25
           have c25b1 := bne_eq_false_iff_eq.mpr c25
           clear c25
           (first | rw [c25b0] | (simp only [i64_w, i32_w]; rw [c25b0]) | skip)
           have H' := Aside0.mk H
           clear H
           go_wp2
           repeat (go_quiet (fail); try go_wp2)
           go_meet
           case rel => exact ⟨_, (true), er_, H', ⟨by have := HJ2.out; have := HJ6.out; have := HJ13.out; first | omega | exact Nat.le_refl _⟩, ⟨bl_⟩⟩
          rw [if_neg c25] at H
          have c25b0 := beq_eq_false_iff_ne.mpr c25
          have c25b1 := bne_iff_ne.mpr c25
          (first | rw [c25b0] | (simp only [i64_w, i32_w]; rw [c25b0]) | skip)
          by_cases c26 : t106 = 0
          ·rw [if_pos c26] at H
           have c26b0 := beq_iff_eq.mpr c26
           have c26b1 := bne_eq_false_iff_eq.mpr c26
           clear c26
           by_cases c27 : x7_6 = true
           ·subst c27
            have H1 : (ctok_Float.j3 kj13 x5_13 t106 (x3_2 == 16)) = some r := by rw [if_pos rfl] at H; exact H
            clear H
            have H := H1
            clear H1
            have H' := Aside0.mk H
            clear H
            go_wp2
            repeat (go_quiet (fail); try go_wp2)
            go_meet
            case rel => exact ⟨_, ((x3_2 == 16)), er_, H', ⟨by have := HJ2.out; have := HJ6.out; have := HJ13.out; first | omega | exact Nat.le_refl _⟩, ⟨bl_⟩⟩
           replace c27 := Bool.eq_false_iff.mpr c27
           subst c27
           have H1 : (ctok_Float.j3 kj13 x5_13 t106 true) = some r := by rw [if_neg (show ¬ (false = true) by decide)] at H; exact H
           clear H
           have H := H1
           clear H1
           have H' := Aside0.mk H
           clear H
           go_wp2
           repeat (go_quiet (fail); try go_wp2)
           go_meet
           case rel => exact ⟨_, (true), er_, H', ⟨by have := HJ2.out; have := HJ6.out; have := HJ13.out; first | omega | exact Nat.le_refl _⟩, ⟨bl_⟩⟩
          rw [if_neg c26] at H
          have c26b0 := beq_eq_false_iff_ne.mpr c26
          have c26b1 := bne_iff_ne.mpr c26
          have H' := Aside0.mk H
          clear H
          go_wp2
          repeat (go_quiet (fail); try go_wp2)
          go_meet
          case rel => exact ⟨_, (false), er_, H', ⟨by have := HJ2.out; have := HJ6.out; have := HJ13.out; first | omega | exact Nat.le_refl _⟩, ⟨bl_⟩⟩
         case rest =>
          clear HC23
          try clear c1
          try clear p1
          try clear q1
          try clear hx1
          try clear c2
          try clear p2
          try clear c4
          try clear c5
          try clear c5b0
          try clear c5b1
          try clear p6
          try clear c9
          try clear c9b0
          try clear c10
          try clear c10b0
          try clear p11
          try clear q11
          try clear hx11
          try clear c12
          try clear c12b0
          try clear c12b1
          try clear c13
          try clear c13b0
          try clear c13b1
          try clear c15
          try clear c16
          try clear c16b0
          try clear c16b1
          try clear c19
          try clear c19b0
          try clear c19b1
          try clear c20
          try clear c20b0
          try clear c20b1
          try clear c25
          try clear c25b0
          try clear c25b1
          try clear c26
          try clear c26b0
          try clear c26b1
          try clear c27
          try clear p1
          try clear p11
          try clear p2
          try clear p6
          try clear q1
          try clear q11
          obtain ⟨kq, x59_22, rfl, HA, HJ22, HB⟩ := hcut
          cases kq with
          | zero => exact absurd HA.out (by simp [ctok_Float.j3])
          | succ kj22 =>
           have H := HA.out
           clear HA
           simp only [ctok_Float.j3] at H
           by_cases c28 : x59_22 = true
           ·subst c28
            have H1 : (some false) = some r := by rw [if_pos rfl] at H; exact H
            clear H
            have H := H1
            clear H1
            obtain rfl := Option.some.inj H
            go_wp2
            repeat (go_quiet (fail); try go_wp2)
            go_ret
            exact ⟨es_, bl_⟩
           replace c28 := Bool.eq_false_iff.mpr c28
           subst c28
           have H1 : (if 0 ≤ t106 then (if t106 ≤ (x5_13.size : Int) then (if (x5_13.extract (t106 : Int).toNat x5_13.size).toList = ([] : List UInt8) then (some true) else (if (x5_13.extract (t106 : Int).toNat x5_13.size).toList = ([102] : List UInt8) then (some true) else (if (x5_13.extract (t106 : Int).toNat x5_13.size).toList = ([70] : List UInt8) then (some true) else (if (x5_13.extract (t106 : Int).toNat x5_13.size).toList = ([108] : List UInt8) then (some true) else (if (x5_13.extract (t106 : Int).toNat x5_13.size).toList = ([76] : List UInt8) then (some true) else (some false)))))) else (none)) else (none)) = some r := by rw [if_neg (show ¬ (false = true) by decide)] at H; exact H
           clear H
           have H := H1
           clear H1
           by_cases c29 : 0 ≤ t106
           ·rw [if_pos c29] at H
            have c29b0 := eq_true c29
            have c29b1 := decide_eq_true c29
            clear c29
            by_cases c30 : t106 ≤ (x5_13.size : Int)
            ·rw [if_pos c30] at H
             have c30b0 := eq_true c30
             have c30b1 := decide_eq_true c30
             clear c30
             by_cases c31 : (x5_13.extract (t106 : Int).toNat x5_13.size).toList = ([] : List UInt8)
             ·rw [if_pos c31] at H
              have c31b0 := beq_iff_eq.mpr c31
              have c31b1 := bne_eq_false_iff_eq.mpr c31
              clear c31
              obtain rfl := Option.some.inj H
              go_wp2
              repeat (go_quiet (fail); try go_wp2)
              go_ret
              exact ⟨es_, bl_⟩
             rw [if_neg c31] at H
             have c31b0 := beq_eq_false_iff_ne.mpr c31
             have c31b1 := bne_iff_ne.mpr c31
             by_cases c32 : (x5_13.extract (t106 : Int).toNat x5_13.size).toList = ([102] : List UInt8)
             ·rw [if_pos c32] at H
              have c32b0 := beq_iff_eq.mpr c32
              have c32b1 := bne_eq_false_iff_eq.mpr c32
              clear c32
              obtain rfl := Option.some.inj H
              go_wp2
              repeat (go_quiet (fail); try go_wp2)
              go_ret
              exact ⟨es_, bl_⟩
             rw [if_neg c32] at H
             have c32b0 := beq_eq_false_iff_ne.mpr c32
             have c32b1 := bne_iff_ne.mpr c32
             by_cases c33 : (x5_13.extract (t106 : Int).toNat x5_13.size).toList = ([70] : List UInt8)
             ·rw [if_pos c33] at H
              have c33b0 := beq_iff_eq.mpr c33
              have c33b1 := bne_eq_false_iff_eq.mpr c33
              clear c33
              obtain rfl := Option.some.inj H
              go_wp2
              repeat (go_quiet (fail); try go_wp2)
              go_ret
              exact ⟨es_, bl_⟩
             rw [if_neg c33] at H
             have c33b0 := beq_eq_false_iff_ne.mpr c33
             have c33b1 := bne_iff_ne.mpr c33
             by_cases c34 : (x5_13.extract (t106 : Int).toNat x5_13.size).toList = ([108] : List UInt8)
             ·rw [if_pos c34] at H
              have c34b0 := beq_iff_eq.mpr c34
              have c34b1 := bne_eq_false_iff_eq.mpr c34
              clear c34
              obtain rfl := Option.some.inj H
              go_wp2
              repeat (go_quiet (fail); try go_wp2)
              go_ret
              exact ⟨es_, bl_⟩
             rw [if_neg c34] at H
             have c34b0 := beq_eq_false_iff_ne.mpr c34
             have c34b1 := bne_iff_ne.mpr c34
             by_cases c35 : (x5_13.extract (t106 : Int).toNat x5_13.size).toList = ([76] : List UInt8)
             ·rw [if_pos c35] at H
              have c35b0 := beq_iff_eq.mpr c35
              have c35b1 := bne_eq_false_iff_eq.mpr c35
              clear c35
              obtain rfl := Option.some.inj H
              go_wp2
              repeat (go_quiet (fail); try go_wp2)
              go_ret
              exact ⟨es_, bl_⟩
             rw [if_neg c35] at H
             have c35b0 := beq_eq_false_iff_ne.mpr c35
             have c35b1 := bne_iff_ne.mpr c35
             obtain rfl := Option.some.inj H
             go_wp2
             repeat (go_quiet (fail); try go_wp2)
             go_ret
             exact ⟨es_, bl_⟩
            rw [if_neg c30] at H
            exact absurd H (by simp)
           rw [if_neg c29] at H
           exact absurd H (by simp)
      rw [if_neg c13] at H
      exact absurd H (by simp)
     rw [if_neg c12] at H
     exact absurd H (by simp)
end Go.Proofs.YtcdleippdegibaaDoor.PC
namespace Go.Proofs.YtcdleippdegibaaDoor.ClassH
open Go Go.RowKit Go.Proofs Go.Proofs.YtcdleippdegibaaDoorW.PrintWords Go.Proofs.YtcdleippdegibaaDoor Go.Proofs.YtcdleippdegibaaDoor.PB Go.Proofs.YtcdleippdegibaaDoor.PC Go.Proofs.YtcdleippdegibaaDoor.PE Go.Proofs.YtcdleippdegibaaDoor.Digits Go.Proofs.YtcdleippdegibaaDoor.LibG
def ctok_Class.f (k : Nat) (a0 : Int) (a1 : ByteArray) : Option (Int × ByteArray × Int) :=
 if a0 = 1 then (ctok_Keyword.f a1).bind fun b => if b = true then some (1, a1, 0) else some (2, a1, 0)
 else if a0 = 2 then (ctok_Int.f a1).bind fun r => if r.2.2 = 0 then some (3, a1, 0) else (ctok_Float.f k a1).bind fun b => if b = true then some (4, a1, 0) else some (0, ⟨#[]⟩, 40)
 else if a0 = 3 then (ctok_Char.f k a1).bind fun r => if r.2 = 0 then some (5, a1, 0) else some (0, ⟨#[]⟩, 40)
 else if a0 = 4 then (ctok_Str.f k a1).bind fun r => if r.2 = 0 then some (6, a1, 0) else some (0, ⟨#[]⟩, 40)
 else if a0 = 5 then (ctok_Canon.f a1).bind fun t => some (7, t, 0)
 else some (0, ⟨#[]⟩, 40)
set_option maxHeartbeats 8000000 in
set_option maxRecDepth 100000 in
theorem class1 (t : ByteArray) (b : Bool) (w : World) (h : ctok_Keyword.f t = some b) : Calls Tryd.prog 9 #[.int .i64 1, .string t] w fun e w' => e = .returned (.tuple #[.agg #[.int .i64 (if b = true then 1 else 2), .string t], .int .i64 0]) ∧ Below w.heap.size w w' := by
 have HB := Aside0.mk (Below.refl w.heap.size w)
 cases b with
 | true =>
  go_enter Tryd.func9, Tryd.ntmps9
  go_wp2_with (go_at_call 11; refine (ctok_Keyword.calls _ _ _ h).mono ?_; rintro e w2 ⟨rfl, ⟨nd, rfl⟩⟩)
  refine bodyPost_ret (v := .tuple #[.agg #[.int .i64 1, .string t], .int .i64 0]) ?_ rfl ?_
  ·simp [results, Tryd.results9, go_sem]
  exact ⟨er_, by repeat (first | (with_reducible first | exact HB.out | apply below_alloc | apply pw_below_drewN | apply below_drew1 | refine below_set ?_ (Nat.le_refl _) | refine below_set ?_ (Nat.le_succ _)) | exact HB.out)⟩
 | false =>
  go_enter Tryd.func9, Tryd.ntmps9
  go_wp2_with (go_at_call 11; refine (ctok_Keyword.calls _ _ _ h).mono ?_; rintro e w2 ⟨rfl, ⟨nd, rfl⟩⟩)
  refine bodyPost_ret (v := .tuple #[.agg #[.int .i64 2, .string t], .int .i64 0]) ?_ rfl ?_
  ·simp [results, Tryd.results9, go_sem]
  exact ⟨er_, by repeat (first | (with_reducible first | exact HB.out | apply below_alloc | apply pw_below_drewN | apply below_drew1 | refine below_set ?_ (Nat.le_refl _) | refine below_set ?_ (Nat.le_succ _)) | exact HB.out)⟩
set_option maxHeartbeats 8000000 in
set_option maxRecDepth 100000 in
theorem class5 (t r : ByteArray) (w : World) (h : ctok_Canon.f t = some r) : Calls Tryd.prog 9 #[.int .i64 5, .string t] w fun e w' => e = .returned (.tuple #[.agg #[.int .i64 7, .string r], .int .i64 0]) ∧ Below w.heap.size w w' := by
  have HB := Aside0.mk (Below.refl w.heap.size w)
  go_enter Tryd.func9, Tryd.ntmps9
  go_wp2_with (go_at_call 13; refine (ctok_Canon.calls _ _ _ h).mono ?_; rintro e w2 ⟨rfl, ⟨nd, rfl⟩⟩)
  refine bodyPost_ret (v := .tuple #[.agg #[.int .i64 7, .string r], .int .i64 0]) ?_ rfl ?_
  ·simp [results, Tryd.results9, go_sem]
  exact ⟨er_, by repeat (first | (with_reducible first | exact HB.out | apply below_alloc | apply pw_below_drewN | apply below_drew1 | refine below_set ?_ (Nat.le_refl _) | refine below_set ?_ (Nat.le_succ _)) | exact HB.out)⟩
set_option maxHeartbeats 8000000 in
set_option maxRecDepth 100000 in
theorem class0 (k : Int) (t : ByteArray) (w : World) (h1 : (k == 1) = false) (h2 : (k == 2) = false) (h3 : (k == 3) = false) (h4 : (k == 4) = false) (h5 : (k == 5) = false) : Calls Tryd.prog 9 #[.int .i64 k, .string t] w fun e w' => e = .returned (.tuple #[.agg #[.int .i64 0, .string ⟨#[]⟩], .int .i64 40]) ∧ Below w.heap.size w w' := by
  have HB := Aside0.mk (Below.refl w.heap.size w)
  go_enter Tryd.func9, Tryd.ntmps9
  go_wp2
  refine bodyPost_ret (v := .tuple #[.agg #[.int .i64 0, .string ⟨#[]⟩], .int .i64 40]) ?_ rfl ?_
  ·simp [results, Tryd.results9, go_sem]
  exact ⟨er_, by repeat (first | (with_reducible first | exact HB.out | apply below_alloc | apply pw_below_drewN | apply below_drew1 | refine below_set ?_ (Nat.le_refl _) | refine below_set ?_ (Nat.le_succ _)) | exact HB.out)⟩
set_option maxHeartbeats 8000000 in
set_option maxRecDepth 100000 in
theorem class3y (k : Nat) (t : ByteArray) (v : Int) (w : World) (hsh : SH w) (h : ctok_Char.f k t = some (v, 0)) : Calls Tryd.prog 9 #[.int .i64 3, .string t] w fun e w' => e = .returned (.tuple #[.agg #[.int .i64 5, .string t], .int .i64 0]) ∧ Below w.heap.size w w' := by
  go_enter Tryd.func9, Tryd.ntmps9
  go_wp2_with (go_at_call 29; refine (ctok_Char.calls k _ _ _ _ ((hsh.alloc _).alloc _) h).mono ?_; rintro e w2 ⟨rfl, hb⟩; have c00 : w2.cell? ⟨w.heap.size, 0, none⟩ = some (.int .i64 0) := (hb.cell (p := ⟨w.heap.size, 0, none⟩) (by simp; try omega)).trans (by simp); have f00 : w2.frozen? ⟨w.heap.size, 0, none⟩ = false := (hb.frozen (p := ⟨w.heap.size, 0, none⟩) (by simp; try omega)).trans (by simp); have c01 : w2.cell? ⟨w.heap.size, 1, none⟩ = some (.string ⟨#[]⟩) := (hb.cell (p := ⟨w.heap.size, 1, none⟩) (by simp; try omega)).trans (by simp); have f01 : w2.frozen? ⟨w.heap.size, 1, none⟩ = false := (hb.frozen (p := ⟨w.heap.size, 1, none⟩) (by simp; try omega)).trans (by simp); have c10 : w2.cell? ⟨w.heap.size + 1, 0, none⟩ = some (.int .i64 0) := (hb.cell (p := ⟨w.heap.size + 1, 0, none⟩) (by simp; try omega)).trans (by simp); have f10 : w2.frozen? ⟨w.heap.size + 1, 0, none⟩ = false := (hb.frozen (p := ⟨w.heap.size + 1, 0, none⟩) (by simp; try omega)).trans (by simp); have c11 : w2.cell? ⟨w.heap.size + 1, 1, none⟩ = some (.string t) := (hb.cell (p := ⟨w.heap.size + 1, 1, none⟩) (by simp; try omega)).trans (by simp); have f11 : w2.frozen? ⟨w.heap.size + 1, 1, none⟩ = false := (hb.frozen (p := ⟨w.heap.size + 1, 1, none⟩) (by simp; try omega)).trans (by simp))
  have HB2 : Below w.heap.size w w2 := (((Below.refl _ _).alloc (Nat.le_refl _) _).alloc (by simp) _).trans (hb.mono (by simp; omega))
  refine bodyPost_ret (v := .tuple #[.agg #[.int .i64 5, .string t], .int .i64 0]) ?_ rfl ?_
  ·have b0 : w2.heap[w.heap.size]? = some (.cells #[.int .i64 0, .string ⟨#[]⟩] 23) := blk_below (blk_alloc (blk_new w _) _) hb
   have q0 := blk_put (cs := #[.int .i64 5, .string ⟨#[]⟩]) (cs' := #[.int .i64 5, .string t]) (blk_put (cs := #[.int .i64 0, .string ⟨#[]⟩]) (cs' := #[.int .i64 5, .string ⟨#[]⟩]) (blk_far b0 (p := ⟨w.heap.size + 1, 0, none⟩) (by simp) (.int .i64 5)) 0 (.int .i64 5) rfl) 1 (.string t) rfl
   have q1 := blk_cell q0 0
   have q2 := blk_cell q0 1
   simp [results, Tryd.results9, go_sem, q1, q2]
  exact ⟨er_, by repeat (first | (with_reducible first | exact HB2 | refine below_set ?_ (Nat.le_refl _) | refine below_set ?_ (Nat.le_succ _) | apply below_alloc | apply pw_below_drewN | apply below_drew1) | exact HB2)⟩
set_option maxHeartbeats 8000000 in
set_option maxRecDepth 100000 in
theorem class3n (k : Nat) (t : ByteArray) (v er : Int) (w : World) (hsh : SH w) (h : ctok_Char.f k t = some (v, er)) (he : (er == 0) = false) : Calls Tryd.prog 9 #[.int .i64 3, .string t] w fun e w' => e = .returned (.tuple #[.agg #[.int .i64 0, .string ⟨#[]⟩], .int .i64 40]) ∧ Below w.heap.size w w' := by
  go_enter Tryd.func9, Tryd.ntmps9
  go_wp2_with (go_at_call 29; refine (ctok_Char.calls k _ _ _ _ ((hsh.alloc _).alloc _) h).mono ?_; rintro e w2 ⟨rfl, hb⟩; have c00 : w2.cell? ⟨w.heap.size, 0, none⟩ = some (.int .i64 0) := (hb.cell (p := ⟨w.heap.size, 0, none⟩) (by simp; try omega)).trans (by simp); have f00 : w2.frozen? ⟨w.heap.size, 0, none⟩ = false := (hb.frozen (p := ⟨w.heap.size, 0, none⟩) (by simp; try omega)).trans (by simp); have c01 : w2.cell? ⟨w.heap.size, 1, none⟩ = some (.string ⟨#[]⟩) := (hb.cell (p := ⟨w.heap.size, 1, none⟩) (by simp; try omega)).trans (by simp); have f01 : w2.frozen? ⟨w.heap.size, 1, none⟩ = false := (hb.frozen (p := ⟨w.heap.size, 1, none⟩) (by simp; try omega)).trans (by simp); have c10 : w2.cell? ⟨w.heap.size + 1, 0, none⟩ = some (.int .i64 0) := (hb.cell (p := ⟨w.heap.size + 1, 0, none⟩) (by simp; try omega)).trans (by simp); have f10 : w2.frozen? ⟨w.heap.size + 1, 0, none⟩ = false := (hb.frozen (p := ⟨w.heap.size + 1, 0, none⟩) (by simp; try omega)).trans (by simp); have c11 : w2.cell? ⟨w.heap.size + 1, 1, none⟩ = some (.string t) := (hb.cell (p := ⟨w.heap.size + 1, 1, none⟩) (by simp; try omega)).trans (by simp); have f11 : w2.frozen? ⟨w.heap.size + 1, 1, none⟩ = false := (hb.frozen (p := ⟨w.heap.size + 1, 1, none⟩) (by simp; try omega)).trans (by simp))
  have HB2 : Below w.heap.size w w2 := (((Below.refl _ _).alloc (Nat.le_refl _) _).alloc (by simp) _).trans (hb.mono (by simp; omega))
  refine bodyPost_ret (v := .tuple #[.agg #[.int .i64 0, .string ⟨#[]⟩], .int .i64 40]) ?_ rfl ?_
  ·have b0 : w2.heap[w.heap.size]? = some (.cells #[.int .i64 0, .string ⟨#[]⟩] 23) := blk_below (blk_alloc (blk_new w _) _) hb
   have q0 := blk_put (cs := #[.int .i64 0, .string ⟨#[]⟩]) (cs' := #[.int .i64 0, .string ⟨#[]⟩]) (blk_put (cs := #[.int .i64 0, .string ⟨#[]⟩]) (cs' := #[.int .i64 0, .string ⟨#[]⟩]) b0 0 (.int .i64 0) rfl) 1 (.string ⟨#[]⟩) rfl
   have q1 := blk_cell q0 0
   have q2 := blk_cell q0 1
   simp [results, Tryd.results9, go_sem, q1, q2]
  exact ⟨er_, by repeat (first | (with_reducible first | exact HB2 | refine below_set ?_ (Nat.le_refl _) | refine below_set ?_ (Nat.le_succ _) | apply below_alloc | apply pw_below_drewN | apply below_drew1) | exact HB2)⟩
set_option maxHeartbeats 8000000 in
set_option maxRecDepth 100000 in
theorem class4y (k : Nat) (t : ByteArray) (l : List Int) (w : World) (hsh : SH w) (h : ctok_Str.f k t = some (l, 0)) : Calls Tryd.prog 9 #[.int .i64 4, .string t] w fun e w' => e = .returned (.tuple #[.agg #[.int .i64 6, .string t], .int .i64 0]) ∧ Below w.heap.size w w' := by
  go_enter Tryd.func9, Tryd.ntmps9
  go_wp2_with (go_at_call 21; refine (ctok_Str.calls k _ _ _ _ ((hsh.alloc _).alloc _) h).mono ?_; rintro e w2 ⟨v0_, rfl, hR, hb⟩; have c00 : w2.cell? ⟨w.heap.size, 0, none⟩ = some (.int .i64 0) := (hb.cell (p := ⟨w.heap.size, 0, none⟩) (by simp; try omega)).trans (by simp); have f00 : w2.frozen? ⟨w.heap.size, 0, none⟩ = false := (hb.frozen (p := ⟨w.heap.size, 0, none⟩) (by simp; try omega)).trans (by simp); have c01 : w2.cell? ⟨w.heap.size, 1, none⟩ = some (.string ⟨#[]⟩) := (hb.cell (p := ⟨w.heap.size, 1, none⟩) (by simp; try omega)).trans (by simp); have f01 : w2.frozen? ⟨w.heap.size, 1, none⟩ = false := (hb.frozen (p := ⟨w.heap.size, 1, none⟩) (by simp; try omega)).trans (by simp); have c10 : w2.cell? ⟨w.heap.size + 1, 0, none⟩ = some (.int .i64 0) := (hb.cell (p := ⟨w.heap.size + 1, 0, none⟩) (by simp; try omega)).trans (by simp); have f10 : w2.frozen? ⟨w.heap.size + 1, 0, none⟩ = false := (hb.frozen (p := ⟨w.heap.size + 1, 0, none⟩) (by simp; try omega)).trans (by simp); have c11 : w2.cell? ⟨w.heap.size + 1, 1, none⟩ = some (.string t) := (hb.cell (p := ⟨w.heap.size + 1, 1, none⟩) (by simp; try omega)).trans (by simp); have f11 : w2.frozen? ⟨w.heap.size + 1, 1, none⟩ = false := (hb.frozen (p := ⟨w.heap.size + 1, 1, none⟩) (by simp; try omega)).trans (by simp))
  have HB2 : Below w.heap.size w w2 := (((Below.refl _ _).alloc (Nat.le_refl _) _).alloc (by simp) _).trans (hb.mono (by simp; omega))
  refine bodyPost_ret (v := .tuple #[.agg #[.int .i64 6, .string t], .int .i64 0]) ?_ rfl ?_
  ·have b0 : w2.heap[w.heap.size]? = some (.cells #[.int .i64 0, .string ⟨#[]⟩] 23) := blk_below (blk_alloc (blk_new w _) _) hb
   have q0 := blk_put (cs := #[.int .i64 6, .string ⟨#[]⟩]) (cs' := #[.int .i64 6, .string t]) (blk_put (cs := #[.int .i64 0, .string ⟨#[]⟩]) (cs' := #[.int .i64 6, .string ⟨#[]⟩]) (blk_far b0 (p := ⟨w.heap.size + 1, 0, none⟩) (by simp) (.int .i64 6)) 0 (.int .i64 6) rfl) 1 (.string t) rfl
   have q1 := blk_cell q0 0
   have q2 := blk_cell q0 1
   simp [results, Tryd.results9, go_sem, q1, q2]
  exact ⟨er_, by repeat (first | (with_reducible first | exact HB2 | refine below_set ?_ (Nat.le_refl _) | refine below_set ?_ (Nat.le_succ _) | apply below_alloc | apply pw_below_drewN | apply below_drew1) | exact HB2)⟩
set_option maxHeartbeats 8000000 in
set_option maxRecDepth 100000 in
theorem class4n (k : Nat) (t : ByteArray) (l : List Int) (er : Int) (w : World) (hsh : SH w) (h : ctok_Str.f k t = some (l, er)) (he : (er == 0) = false) : Calls Tryd.prog 9 #[.int .i64 4, .string t] w fun e w' => e = .returned (.tuple #[.agg #[.int .i64 0, .string ⟨#[]⟩], .int .i64 40]) ∧ Below w.heap.size w w' := by
  go_enter Tryd.func9, Tryd.ntmps9
  go_wp2_with (go_at_call 21; refine (ctok_Str.calls k _ _ _ _ ((hsh.alloc _).alloc _) h).mono ?_; rintro e w2 ⟨v0_, rfl, hR, hb⟩; have c00 : w2.cell? ⟨w.heap.size, 0, none⟩ = some (.int .i64 0) := (hb.cell (p := ⟨w.heap.size, 0, none⟩) (by simp; try omega)).trans (by simp); have f00 : w2.frozen? ⟨w.heap.size, 0, none⟩ = false := (hb.frozen (p := ⟨w.heap.size, 0, none⟩) (by simp; try omega)).trans (by simp); have c01 : w2.cell? ⟨w.heap.size, 1, none⟩ = some (.string ⟨#[]⟩) := (hb.cell (p := ⟨w.heap.size, 1, none⟩) (by simp; try omega)).trans (by simp); have f01 : w2.frozen? ⟨w.heap.size, 1, none⟩ = false := (hb.frozen (p := ⟨w.heap.size, 1, none⟩) (by simp; try omega)).trans (by simp); have c10 : w2.cell? ⟨w.heap.size + 1, 0, none⟩ = some (.int .i64 0) := (hb.cell (p := ⟨w.heap.size + 1, 0, none⟩) (by simp; try omega)).trans (by simp); have f10 : w2.frozen? ⟨w.heap.size + 1, 0, none⟩ = false := (hb.frozen (p := ⟨w.heap.size + 1, 0, none⟩) (by simp; try omega)).trans (by simp); have c11 : w2.cell? ⟨w.heap.size + 1, 1, none⟩ = some (.string t) := (hb.cell (p := ⟨w.heap.size + 1, 1, none⟩) (by simp; try omega)).trans (by simp); have f11 : w2.frozen? ⟨w.heap.size + 1, 1, none⟩ = false := (hb.frozen (p := ⟨w.heap.size + 1, 1, none⟩) (by simp; try omega)).trans (by simp))
  have HB2 : Below w.heap.size w w2 := (((Below.refl _ _).alloc (Nat.le_refl _) _).alloc (by simp) _).trans (hb.mono (by simp; omega))
  refine bodyPost_ret (v := .tuple #[.agg #[.int .i64 0, .string ⟨#[]⟩], .int .i64 40]) ?_ rfl ?_
  ·have b0 : w2.heap[w.heap.size]? = some (.cells #[.int .i64 0, .string ⟨#[]⟩] 23) := blk_below (blk_alloc (blk_new w _) _) hb
   have q0 := blk_put (cs := #[.int .i64 0, .string ⟨#[]⟩]) (cs' := #[.int .i64 0, .string ⟨#[]⟩]) (blk_put (cs := #[.int .i64 0, .string ⟨#[]⟩]) (cs' := #[.int .i64 0, .string ⟨#[]⟩]) b0 0 (.int .i64 0) rfl) 1 (.string ⟨#[]⟩) rfl
   have q1 := blk_cell q0 0
   have q2 := blk_cell q0 1
   simp [results, Tryd.results9, go_sem, q1, q2]
  exact ⟨er_, by repeat (first | (with_reducible first | exact HB2 | refine below_set ?_ (Nat.le_refl _) | refine below_set ?_ (Nat.le_succ _) | apply below_alloc | apply pw_below_drewN | apply below_drew1) | exact HB2)⟩
set_option maxHeartbeats 8000000 in
set_option maxRecDepth 100000 in
theorem class2i (k : Nat) (t : ByteArray) (v : Int) (u : Bool) (w : World) (hsh : SH w) (h : ctok_Int.f t = some (v, u, 0)) : Calls Tryd.prog 9 #[.int .i64 2, .string t] w fun e w' => e = .returned (.tuple #[.agg #[.int .i64 3, .string t], .int .i64 0]) ∧ Below w.heap.size w w' := by
  go_enter Tryd.func9, Tryd.ntmps9
  go_wp2_with (go_at_call 28; refine (ctok_Int.calls _ _ _ _ _ ((hsh.alloc _).alloc _) h).mono ?_; rintro e w2 ⟨rfl, hb⟩; have c00 : w2.cell? ⟨w.heap.size, 0, none⟩ = some (.int .i64 0) := (hb.cell (p := ⟨w.heap.size, 0, none⟩) (by simp; try omega)).trans (by simp); have f00 : w2.frozen? ⟨w.heap.size, 0, none⟩ = false := (hb.frozen (p := ⟨w.heap.size, 0, none⟩) (by simp; try omega)).trans (by simp); have c01 : w2.cell? ⟨w.heap.size, 1, none⟩ = some (.string ⟨#[]⟩) := (hb.cell (p := ⟨w.heap.size, 1, none⟩) (by simp; try omega)).trans (by simp); have f01 : w2.frozen? ⟨w.heap.size, 1, none⟩ = false := (hb.frozen (p := ⟨w.heap.size, 1, none⟩) (by simp; try omega)).trans (by simp); have c10 : w2.cell? ⟨w.heap.size + 1, 0, none⟩ = some (.int .i64 0) := (hb.cell (p := ⟨w.heap.size + 1, 0, none⟩) (by simp; try omega)).trans (by simp); have f10 : w2.frozen? ⟨w.heap.size + 1, 0, none⟩ = false := (hb.frozen (p := ⟨w.heap.size + 1, 0, none⟩) (by simp; try omega)).trans (by simp); have c11 : w2.cell? ⟨w.heap.size + 1, 1, none⟩ = some (.string t) := (hb.cell (p := ⟨w.heap.size + 1, 1, none⟩) (by simp; try omega)).trans (by simp); have f11 : w2.frozen? ⟨w.heap.size + 1, 1, none⟩ = false := (hb.frozen (p := ⟨w.heap.size + 1, 1, none⟩) (by simp; try omega)).trans (by simp))
  have HB2 : Below w.heap.size w w2 := (((Below.refl _ _).alloc (Nat.le_refl _) _).alloc (by simp) _).trans (hb.mono (by simp; omega))
  refine bodyPost_ret (v := .tuple #[.agg #[.int .i64 3, .string t], .int .i64 0]) ?_ rfl ?_
  ·have b0 : w2.heap[w.heap.size]? = some (.cells #[.int .i64 0, .string ⟨#[]⟩] 23) := blk_below (blk_alloc (blk_new w _) _) hb
   have q0 := blk_put (cs := #[.int .i64 3, .string ⟨#[]⟩]) (cs' := #[.int .i64 3, .string t]) (blk_put (cs := #[.int .i64 0, .string ⟨#[]⟩]) (cs' := #[.int .i64 3, .string ⟨#[]⟩]) (blk_far b0 (p := ⟨w.heap.size + 1, 0, none⟩) (by simp) (.int .i64 3)) 0 (.int .i64 3) rfl) 1 (.string t) rfl
   have q1 := blk_cell q0 0
   have q2 := blk_cell q0 1
   simp [results, Tryd.results9, go_sem, q1, q2]
  exact ⟨er_, by repeat (first | (with_reducible first | exact HB2 | refine below_set ?_ (Nat.le_refl _) | refine below_set ?_ (Nat.le_succ _) | apply below_alloc | apply pw_below_drewN | apply below_drew1) | exact HB2)⟩
set_option maxHeartbeats 8000000 in
set_option maxRecDepth 100000 in
theorem class2f (k : Nat) (t : ByteArray) (v : Int) (u : Bool) (er : Int) (w : World) (hsh : SH w) (h : ctok_Int.f t = some (v, u, er)) (he : (er == 0) = false) (hf : ctok_Float.f k t = some true) : Calls Tryd.prog 9 #[.int .i64 2, .string t] w fun e w' => e = .returned (.tuple #[.agg #[.int .i64 4, .string t], .int .i64 0]) ∧ Below w.heap.size w w' := by
  go_enter Tryd.func9, Tryd.ntmps9
  go_wp2_with (first | (go_at_call 28; refine (ctok_Int.calls _ _ _ _ _ ((hsh.alloc _).alloc _) h).mono ?_; rintro e w2 ⟨rfl, hb⟩; have c00 : w2.cell? ⟨w.heap.size, 0, none⟩ = some (.int .i64 0) := (hb.cell (p := ⟨w.heap.size, 0, none⟩) (by simp; try omega)).trans (by simp); have f00 : w2.frozen? ⟨w.heap.size, 0, none⟩ = false := (hb.frozen (p := ⟨w.heap.size, 0, none⟩) (by simp; try omega)).trans (by simp); have c01 : w2.cell? ⟨w.heap.size, 1, none⟩ = some (.string ⟨#[]⟩) := (hb.cell (p := ⟨w.heap.size, 1, none⟩) (by simp; try omega)).trans (by simp); have f01 : w2.frozen? ⟨w.heap.size, 1, none⟩ = false := (hb.frozen (p := ⟨w.heap.size, 1, none⟩) (by simp; try omega)).trans (by simp); have c10 : w2.cell? ⟨w.heap.size + 1, 0, none⟩ = some (.int .i64 0) := (hb.cell (p := ⟨w.heap.size + 1, 0, none⟩) (by simp; try omega)).trans (by simp); have f10 : w2.frozen? ⟨w.heap.size + 1, 0, none⟩ = false := (hb.frozen (p := ⟨w.heap.size + 1, 0, none⟩) (by simp; try omega)).trans (by simp); have c11 : w2.cell? ⟨w.heap.size + 1, 1, none⟩ = some (.string t) := (hb.cell (p := ⟨w.heap.size + 1, 1, none⟩) (by simp; try omega)).trans (by simp); have f11 : w2.frozen? ⟨w.heap.size + 1, 1, none⟩ = false := (hb.frozen (p := ⟨w.heap.size + 1, 1, none⟩) (by simp; try omega)).trans (by simp)) | (go_at_call 15; refine (ctok_Float.calls k _ _ _ hf).mono ?_; rintro e w3 ⟨rfl, hb2⟩; have d00 : w3.cell? ⟨w.heap.size, 0, none⟩ = some (.int .i64 0) := (hb2.cell (p := ⟨w.heap.size, 0, none⟩) (by have := hb.size; simp at this ⊢; omega)).trans c00; have g00 : w3.frozen? ⟨w.heap.size, 0, none⟩ = false := (hb2.frozen (p := ⟨w.heap.size, 0, none⟩) (by have := hb.size; simp at this ⊢; omega)).trans f00; have d01 : w3.cell? ⟨w.heap.size, 1, none⟩ = some (.string ⟨#[]⟩) := (hb2.cell (p := ⟨w.heap.size, 1, none⟩) (by have := hb.size; simp at this ⊢; omega)).trans c01; have g01 : w3.frozen? ⟨w.heap.size, 1, none⟩ = false := (hb2.frozen (p := ⟨w.heap.size, 1, none⟩) (by have := hb.size; simp at this ⊢; omega)).trans f01; have d10 : w3.cell? ⟨w.heap.size + 1, 0, none⟩ = some (.int .i64 0) := (hb2.cell (p := ⟨w.heap.size + 1, 0, none⟩) (by have := hb.size; simp at this ⊢; omega)).trans c10; have g10 : w3.frozen? ⟨w.heap.size + 1, 0, none⟩ = false := (hb2.frozen (p := ⟨w.heap.size + 1, 0, none⟩) (by have := hb.size; simp at this ⊢; omega)).trans f10; have d11 : w3.cell? ⟨w.heap.size + 1, 1, none⟩ = some (.string t) := (hb2.cell (p := ⟨w.heap.size + 1, 1, none⟩) (by have := hb.size; simp at this ⊢; omega)).trans c11; have g11 : w3.frozen? ⟨w.heap.size + 1, 1, none⟩ = false := (hb2.frozen (p := ⟨w.heap.size + 1, 1, none⟩) (by have := hb.size; simp at this ⊢; omega)).trans f11))
  have HB2 : Below w.heap.size w w3 := ((((Below.refl _ _).alloc (Nat.le_refl _) _).alloc (by simp) _).trans (hb.mono (by simp; omega))).trans (hb2.mono (by have := hb.size; simp at this ⊢; omega))
  refine bodyPost_ret (v := .tuple #[.agg #[.int .i64 4, .string t], .int .i64 0]) ?_ rfl ?_
  ·have b00 : w2.heap[w.heap.size]? = some (.cells #[.int .i64 0, .string ⟨#[]⟩] 23) := blk_below (blk_alloc (blk_new w _) _) hb
   have b0 : w3.heap[w.heap.size]? = some (.cells #[.int .i64 0, .string ⟨#[]⟩] 23) := blk_below b00 hb2
   have q0 := blk_put (cs := #[.int .i64 4, .string ⟨#[]⟩]) (cs' := #[.int .i64 4, .string t]) (blk_put (cs := #[.int .i64 0, .string ⟨#[]⟩]) (cs' := #[.int .i64 4, .string ⟨#[]⟩]) (blk_far b0 (p := ⟨w.heap.size + 1, 0, none⟩) (by simp) (.int .i64 4)) 0 (.int .i64 4) rfl) 1 (.string t) rfl
   have q1 := blk_cell q0 0
   have q2 := blk_cell q0 1
   simp [results, Tryd.results9, go_sem, q1, q2]
  exact ⟨er_, by repeat (first | (with_reducible first | exact HB2 | refine below_set ?_ (Nat.le_refl _) | refine below_set ?_ (Nat.le_succ _) | apply below_alloc | apply pw_below_drewN | apply below_drew1) | exact HB2)⟩
set_option maxHeartbeats 8000000 in
set_option maxRecDepth 100000 in
theorem class2n (k : Nat) (t : ByteArray) (v : Int) (u : Bool) (er : Int) (w : World) (hsh : SH w) (h : ctok_Int.f t = some (v, u, er)) (he : (er == 0) = false) (hf : ctok_Float.f k t = some false) : Calls Tryd.prog 9 #[.int .i64 2, .string t] w fun e w' => e = .returned (.tuple #[.agg #[.int .i64 0, .string ⟨#[]⟩], .int .i64 40]) ∧ Below w.heap.size w w' := by
  go_enter Tryd.func9, Tryd.ntmps9
  go_wp2_with (first | (go_at_call 28; refine (ctok_Int.calls _ _ _ _ _ ((hsh.alloc _).alloc _) h).mono ?_; rintro e w2 ⟨rfl, hb⟩; have c00 : w2.cell? ⟨w.heap.size, 0, none⟩ = some (.int .i64 0) := (hb.cell (p := ⟨w.heap.size, 0, none⟩) (by simp; try omega)).trans (by simp); have f00 : w2.frozen? ⟨w.heap.size, 0, none⟩ = false := (hb.frozen (p := ⟨w.heap.size, 0, none⟩) (by simp; try omega)).trans (by simp); have c01 : w2.cell? ⟨w.heap.size, 1, none⟩ = some (.string ⟨#[]⟩) := (hb.cell (p := ⟨w.heap.size, 1, none⟩) (by simp; try omega)).trans (by simp); have f01 : w2.frozen? ⟨w.heap.size, 1, none⟩ = false := (hb.frozen (p := ⟨w.heap.size, 1, none⟩) (by simp; try omega)).trans (by simp); have c10 : w2.cell? ⟨w.heap.size + 1, 0, none⟩ = some (.int .i64 0) := (hb.cell (p := ⟨w.heap.size + 1, 0, none⟩) (by simp; try omega)).trans (by simp); have f10 : w2.frozen? ⟨w.heap.size + 1, 0, none⟩ = false := (hb.frozen (p := ⟨w.heap.size + 1, 0, none⟩) (by simp; try omega)).trans (by simp); have c11 : w2.cell? ⟨w.heap.size + 1, 1, none⟩ = some (.string t) := (hb.cell (p := ⟨w.heap.size + 1, 1, none⟩) (by simp; try omega)).trans (by simp); have f11 : w2.frozen? ⟨w.heap.size + 1, 1, none⟩ = false := (hb.frozen (p := ⟨w.heap.size + 1, 1, none⟩) (by simp; try omega)).trans (by simp)) | (go_at_call 15; refine (ctok_Float.calls k _ _ _ hf).mono ?_; rintro e w3 ⟨rfl, hb2⟩; have d00 : w3.cell? ⟨w.heap.size, 0, none⟩ = some (.int .i64 0) := (hb2.cell (p := ⟨w.heap.size, 0, none⟩) (by have := hb.size; simp at this ⊢; omega)).trans c00; have g00 : w3.frozen? ⟨w.heap.size, 0, none⟩ = false := (hb2.frozen (p := ⟨w.heap.size, 0, none⟩) (by have := hb.size; simp at this ⊢; omega)).trans f00; have d01 : w3.cell? ⟨w.heap.size, 1, none⟩ = some (.string ⟨#[]⟩) := (hb2.cell (p := ⟨w.heap.size, 1, none⟩) (by have := hb.size; simp at this ⊢; omega)).trans c01; have g01 : w3.frozen? ⟨w.heap.size, 1, none⟩ = false := (hb2.frozen (p := ⟨w.heap.size, 1, none⟩) (by have := hb.size; simp at this ⊢; omega)).trans f01; have d10 : w3.cell? ⟨w.heap.size + 1, 0, none⟩ = some (.int .i64 0) := (hb2.cell (p := ⟨w.heap.size + 1, 0, none⟩) (by have := hb.size; simp at this ⊢; omega)).trans c10; have g10 : w3.frozen? ⟨w.heap.size + 1, 0, none⟩ = false := (hb2.frozen (p := ⟨w.heap.size + 1, 0, none⟩) (by have := hb.size; simp at this ⊢; omega)).trans f10; have d11 : w3.cell? ⟨w.heap.size + 1, 1, none⟩ = some (.string t) := (hb2.cell (p := ⟨w.heap.size + 1, 1, none⟩) (by have := hb.size; simp at this ⊢; omega)).trans c11; have g11 : w3.frozen? ⟨w.heap.size + 1, 1, none⟩ = false := (hb2.frozen (p := ⟨w.heap.size + 1, 1, none⟩) (by have := hb.size; simp at this ⊢; omega)).trans f11))
  have HB2 : Below w.heap.size w w3 := ((((Below.refl _ _).alloc (Nat.le_refl _) _).alloc (by simp) _).trans (hb.mono (by simp; omega))).trans (hb2.mono (by have := hb.size; simp at this ⊢; omega))
  refine bodyPost_ret (v := .tuple #[.agg #[.int .i64 0, .string ⟨#[]⟩], .int .i64 40]) ?_ rfl ?_
  ·have b00 : w2.heap[w.heap.size]? = some (.cells #[.int .i64 0, .string ⟨#[]⟩] 23) := blk_below (blk_alloc (blk_new w _) _) hb
   have b0 : w3.heap[w.heap.size]? = some (.cells #[.int .i64 0, .string ⟨#[]⟩] 23) := blk_below b00 hb2
   have q0 := blk_put (cs := #[.int .i64 0, .string ⟨#[]⟩]) (cs' := #[.int .i64 0, .string ⟨#[]⟩]) (blk_put (cs := #[.int .i64 0, .string ⟨#[]⟩]) (cs' := #[.int .i64 0, .string ⟨#[]⟩]) b0 0 (.int .i64 0) rfl) 1 (.string ⟨#[]⟩) rfl
   have q1 := blk_cell q0 0
   have q2 := blk_cell q0 1
   simp [results, Tryd.results9, go_sem, q1, q2]
  exact ⟨er_, by repeat (first | (with_reducible first | exact HB2 | refine below_set ?_ (Nat.le_refl _) | refine below_set ?_ (Nat.le_succ _) | apply below_alloc | apply pw_below_drewN | apply below_drew1) | exact HB2)⟩
theorem ctok_Class.calls (k : Nat) (a0 : Int) (a1 : ByteArray) (r1 : Int) (r2 : ByteArray) (r3 : Int) (w : World) (hsh : SH w) (h : ctok_Class.f k a0 a1 = some (r1, r2, r3)) :
  Calls Tryd.prog 9 #[.int .i64 a0, .string a1] w fun e w' => e = .returned (.tuple #[.agg #[.int .i64 r1, .string r2], .int .i64 r3]) ∧ Below w.heap.size w w' := by
 unfold ctok_Class.f at h
 split at h
 ·rename_i e; subst e
  obtain ⟨b, hb, h⟩ := Option.bind_eq_some_iff.1 h
  have := class1 a1 b w hb
  cases b <;> (simp at h this; obtain ⟨rfl, rfl, rfl⟩ := h; exact this)
 rename_i n1
 split at h
 ·rename_i e; subst e
  obtain ⟨⟨v, u, er⟩, hb, h⟩ := Option.bind_eq_some_iff.1 h
  dsimp only at h
  split at h
  ·rename_i e; subst e
   injection h with h; obtain ⟨rfl, rfl, rfl⟩ := h
   exact class2i k a1 v u w hsh hb
  rename_i e
  have e' : (er == 0) = false := by simpa using e
  obtain ⟨b, hf, h⟩ := Option.bind_eq_some_iff.1 h
  cases b
  ·simp at h; obtain ⟨rfl, rfl, rfl⟩ := h
   exact class2n k a1 v u er w hsh hb e' hf
  simp at h; obtain ⟨rfl, rfl, rfl⟩ := h
  exact class2f k a1 v u er w hsh hb e' hf
 rename_i n2
 split at h
 ·rename_i e; subst e
  obtain ⟨⟨v, er⟩, hb, h⟩ := Option.bind_eq_some_iff.1 h
  dsimp only at h
  split at h
  ·rename_i e; subst e
   injection h with h; obtain ⟨rfl, rfl, rfl⟩ := h
   exact class3y k a1 v w hsh hb
  rename_i e
  injection h with h; obtain ⟨rfl, rfl, rfl⟩ := h
  exact class3n k a1 v er w hsh hb (by simpa using e)
 rename_i n3
 split at h
 ·rename_i e; subst e
  obtain ⟨⟨v, er⟩, hb, h⟩ := Option.bind_eq_some_iff.1 h
  dsimp only at h
  split at h
  ·rename_i e; subst e
   injection h with h; obtain ⟨rfl, rfl, rfl⟩ := h
   exact class4y k a1 v w hsh hb
  rename_i e
  injection h with h; obtain ⟨rfl, rfl, rfl⟩ := h
  exact class4n k a1 v er w hsh hb (by simpa using e)
 rename_i n4
 split at h
 ·rename_i e; subst e
  obtain ⟨t, hb, h⟩ := Option.bind_eq_some_iff.1 h
  injection h with h; obtain ⟨rfl, rfl, rfl⟩ := h
  exact class5 a1 _ w hb
 rename_i n5
 injection h with h; obtain ⟨rfl, rfl, rfl⟩ := h
 exact class0 a0 a1 w (by simpa using n1) (by simpa using n2) (by simpa using n3) (by simpa using n4) (by simpa using n5)
end Go.Proofs.YtcdleippdegibaaDoor.ClassH
namespace Go.Proofs.YtcdleippdegibaaDoor.PR
open Go.RowKit Go.Proofs.YtcdleippdegibaaDoorW.PrintWords Go.Proofs.YtcdleippdegibaaDoorW.PrintLast Go.Proofs.YtcdleippdegibaaDoorW.PrintMore
open Go.Proofs.YtcdleippdegibaaDoor.LibG (SH SH.below SH.drewN SH.drew SH.alloc)
open Go.Proofs.YtcdleippdegibaaDoor.PK
attribute [local go_sem] max2_int min2_int max_two min_two max_three min_three max_four min_four
def errW : Option Int → Value
 | none => .nilIface
 | some c => .iface 0 (.int .i64 c)
theorem errW_none : errW none = .nilIface := rfl
theorem errW_some (c : Int) : errW (some c) = .iface 0 (.int .i64 c) := rfl
theorem info2 : (Tryd.prog.info? 2).map (fun i => (i.zero, i.size, i.bytes)) = some (some (.int .i64 0), 1, 8) := by kernel_rfl
theorem info9 : (Tryd.prog.info? 9).map (fun i => (i.zero, i.size, i.bytes)) = some (some (.string ⟨#[]⟩), 1, 16) := by kernel_rfl
theorem info44 : (Tryd.prog.info? 44).map (fun i => (i.zero, i.size, i.bytes)) = some (some (.agg #[(.int .i64 0), (.string ⟨#[]⟩), (.int .i64 0), (.int .i64 0), (.bool false)]), 5, 48) := by kernel_rfl
mutual
def regletref04_worth.j0 : Nat → Int → Bool → Option (Int)
 | 0, _, _ => none
 | k + 1, x0, x8 => if x8 = true then (some (wrap64 ((wrap64 (x0)) - 48))) else (if x0 ≥ 97 then (regletref04_worth.j1 k x0 (decide (x0 ≤ 102))) else (regletref04_worth.j1 k x0 false))
def regletref04_worth.j1 : Nat → Int → Bool → Option (Int)
 | 0, _, _ => none
 | k + 1, x0, x17 => if x17 = true then (some (wrap64 ((wrap64 ((wrap64 (x0)) - 97)) + 10))) else (if x0 ≥ 65 then (if x0 ≤ 70 then (some (wrap64 ((wrap64 ((wrap64 (x0)) - 65)) + 10))) else (some 99)) else (some 99))
end
def regletref04_worth.f (k : Nat) (a0 : Int) : Option (Int) := if a0 ≥ 48 then (regletref04_worth.j0 k a0 (decide (a0 ≤ 57))) else (regletref04_worth.j0 k a0 false)
theorem regletref04_worth.mono_l : ∀ k, (∀ y0 y1, LeO (regletref04_worth.j0 k y0 y1) (regletref04_worth.j0 (k + 1) y0 y1)) ∧ (∀ y0 y1, LeO (regletref04_worth.j1 k y0 y1) (regletref04_worth.j1 (k + 1) y0 y1))
 | 0 => ⟨fun _ _ r h => by simp [regletref04_worth.j0] at h, fun _ _ r h => by simp [regletref04_worth.j1] at h⟩
 | k + 1 => by
  obtain ⟨ih0, ih1⟩ := regletref04_worth.mono_l k
  refine ⟨?_, ?_⟩
  ·intro y0 y1
   unfold regletref04_worth.j0
   repeat' first
   | (with_reducible exact ih0 _ _)
   | (with_reducible exact ih1 _ _)
   | (with_reducible exact LeO.refl _)
   | (with_reducible exact LeO.none _)
   | (with_reducible refine LeO.ite ?_ ?_)
   | (with_reducible refine LeO.bind ?_ (fun _ => ?_))
   | exact ih0 _ _
   | exact ih1 _ _
   | exact LeO.none _
   | refine LeO.ite ?_ ?_
   | refine LeO.bind ?_ (fun _ => ?_)
  intro y0 y1
  unfold regletref04_worth.j1
  repeat' first
  | (with_reducible exact ih0 _ _)
  | (with_reducible exact ih1 _ _)
  | (with_reducible exact LeO.refl _)
  | (with_reducible exact LeO.none _)
  | (with_reducible refine LeO.ite ?_ ?_)
  | (with_reducible refine LeO.bind ?_ (fun _ => ?_))
  | exact ih0 _ _
  | exact ih1 _ _
  | exact LeO.none _
  | refine LeO.ite ?_ ?_
  | refine LeO.bind ?_ (fun _ => ?_)
theorem regletref04_worth.mono : ∀ a0 k, LeO (regletref04_worth.f k a0) (regletref04_worth.f (k + 1) a0) := by
 intro a0 k
 obtain ⟨ih0, ih1⟩ := regletref04_worth.mono_l k
 unfold regletref04_worth.f
 repeat' first
   | (with_reducible exact ih0 _ _)
   | (with_reducible exact ih1 _ _)
   | (with_reducible exact LeO.refl _)
   | (with_reducible exact LeO.none _)
   | (with_reducible refine LeO.ite ?_ ?_)
   | (with_reducible refine LeO.bind ?_ (fun _ => ?_))
   | exact ih0 _ _
   | exact ih1 _ _
   | exact LeO.none _
   | refine LeO.ite ?_ ?_
   | refine LeO.bind ?_ (fun _ => ?_)
set_option maxHeartbeats 8000000 in
set_option maxRecDepth 100000 in
theorem regletref04_worth.calls (k : Nat) (a0 : Int) (r : Int) (w : World) (h : regletref04_worth.f k a0 = some r) :
  Calls Tryd.prog 47 #[.int .u8 a0] w fun e w' => e = .returned (.int .i64 r) ∧ Drawn0 w w' := by
 have H : (if a0 ≥ 48 then (regletref04_worth.j0 k a0 (decide (a0 ≤ 57))) else (regletref04_worth.j0 k a0 false)) = some r := h
 clear h
 have HC2 := Aside0.mk H
 clear H
 go_enter Tryd.func47, Tryd.ntmps47
 go_upto_region 1 with (fail)
 go_cut [8] (fun v8 wc => ∃ (kq : Nat) (x8_1 : Bool), v8 = .bool x8_1 ∧ Aside0 (regletref04_worth.j0 kq a0 x8_1 = some r) ∧ Aside0 (kq ≤ k) ∧ Drawn0 w wc)
 case first =>
  have H := HC2.out
  clear HC2
  by_cases c3 : a0 ≥ 48
  ·rw [if_pos c3] at H
   have c3b0 : decide (48 ≤ a0) = true := decide_eq_true c3
   clear c3
   (first | rw [c3b0] | (simp only [i64_w, i32_w]; rw [c3b0]) | skip)
   have H' := Aside0.mk H
   clear H
   go_wp2
   go_meet
   case rel => exact ⟨_, (decide (a0 ≤ 57)), er_, H', ⟨om_⟩, dr_⟩
  rw [if_neg c3] at H
  have c3b0 : decide (48 ≤ a0) = false := decide_eq_false c3
  clear c3
  (first | rw [c3b0] | (simp only [i64_w, i32_w]; rw [c3b0]) | skip)
  have H' := Aside0.mk H
  clear H
  go_wp2
  go_meet
  case rel => exact ⟨_, (false), er_, H', ⟨om_⟩, dr_⟩
 case rest =>
  clear HC2
  try clear p2
  try clear c3
  try clear c3b0
  obtain ⟨kq, x8_1, rfl, HA, HJ1, ⟨mc1, rfl⟩⟩ := hcut
  cases kq with
  | zero => exact absurd HA.out (by simp [regletref04_worth.j0])
  | succ kj1 =>
   have H := HA.out
   clear HA
   simp only [regletref04_worth.j0] at H
   by_cases c4 : x8_1 = true
   ·subst c4
    have H1 : (some (wrap64 ((wrap64 (a0)) - 48))) = some r := by rw [if_pos rfl] at H; exact H
    clear H
    have H := H1
    clear H1
    obtain rfl := Option.some.inj H
    go_wp2
    go_ret
    exact ⟨er_, dr_⟩
   replace c4 := Bool.eq_false_iff.mpr c4
   subst c4
   have H1 : (if a0 ≥ 97 then (regletref04_worth.j1 kj1 a0 (decide (a0 ≤ 102))) else (regletref04_worth.j1 kj1 a0 false)) = some r := by rw [if_neg (show ¬ (false = true) by decide)] at H; exact H
   clear H
   have H := H1
   clear H1
   have HC5 := Aside0.mk H
   clear H
   go_upto_region 3 with (fail)
   go_cut [17] (fun v17 wc => ∃ (kq : Nat) (x17_4 : Bool), v17 = .bool x17_4 ∧ Aside0 (regletref04_worth.j1 kq a0 x17_4 = some r) ∧ Aside0 (kq ≤ kj1) ∧ Drawn0 w wc)
   case first =>
    have H := HC5.out
    clear HC5
    by_cases c6 : a0 ≥ 97
    ·rw [if_pos c6] at H
     have c6b0 : decide (97 ≤ a0) = true := decide_eq_true c6
     clear c6
     (first | rw [c6b0] | (simp only [i64_w, i32_w]; rw [c6b0]) | skip)
     have H' := Aside0.mk H
     clear H
     go_wp2
     go_meet
     case rel => exact ⟨_, (decide (a0 ≤ 102)), er_, H', ⟨by have := HJ1.out; first | omega | exact Nat.le_refl _⟩, dr_⟩
    rw [if_neg c6] at H
    have c6b0 : decide (97 ≤ a0) = false := decide_eq_false c6
    clear c6
    (first | rw [c6b0] | (simp only [i64_w, i32_w]; rw [c6b0]) | skip)
    have H' := Aside0.mk H
    clear H
    go_wp2
    go_meet
    case rel => exact ⟨_, (false), er_, H', ⟨by have := HJ1.out; first | omega | exact Nat.le_refl _⟩, dr_⟩
   case rest =>
    clear HC5
    try clear c1
    try clear p2
    try clear c3
    try clear c3b0
    try clear c4
    try clear c6
    try clear c6b0
    try clear p6
    try clear p2
    obtain ⟨kq, x17_4, rfl, HA, HJ4, ⟨mc4, rfl⟩⟩ := hcut
    cases kq with
    | zero => exact absurd HA.out (by simp [regletref04_worth.j1])
    | succ kj4 =>
     have H := HA.out
     clear HA
     simp only [regletref04_worth.j1] at H
     by_cases c7 : x17_4 = true
     ·subst c7
      have H1 : (some (wrap64 ((wrap64 ((wrap64 (a0)) - 97)) + 10))) = some r := by rw [if_pos rfl] at H; exact H
      clear H
      have H := H1
      clear H1
      obtain rfl := Option.some.inj H
      go_wp2
      go_ret
      exact ⟨er_, dr_⟩
     replace c7 := Bool.eq_false_iff.mpr c7
     subst c7
     have H1 : (if a0 ≥ 65 then (if a0 ≤ 70 then (some (wrap64 ((wrap64 ((wrap64 (a0)) - 65)) + 10))) else (some 99)) else (some 99)) = some r := by rw [if_neg (show ¬ (false = true) by decide)] at H; exact H
     clear H
     have H := H1
     clear H1
     by_cases c8 : a0 ≥ 65
     ·rw [if_pos c8] at H
      have c8b0 : decide (65 ≤ a0) = true := decide_eq_true c8
      clear c8
      by_cases c9 : a0 ≤ 70
      ·rw [if_pos c9] at H
       have c9b0 := decide_eq_true c9
       clear c9
       obtain rfl := Option.some.inj H
       go_wp2
       go_ret
       exact ⟨er_, dr_⟩
      rw [if_neg c9] at H
      have c9b0 := decide_eq_false c9
      clear c9
      obtain rfl := Option.some.inj H
      go_wp2
      go_ret
      exact ⟨er_, dr_⟩
     rw [if_neg c8] at H
     have c8b0 : decide (65 ≤ a0) = false := decide_eq_false c8
     clear c8
     obtain rfl := Option.some.inj H
     go_wp2
     go_ret
     exact ⟨er_, dr_⟩
def regletref04_run.l0 : Nat → ByteArray → Int → Int → Int → Option (Int)
 | 0, _, _, _, _ => none
 | k + 1, x0, x1, x2, x7 => if (wrap64 (x1 + x7)) < (x0.size : Int) then (if 0 ≤ (wrap64 (x1 + x7)) then ((regletref04_worth.f k (bt x0 (wrap64 (x1 + x7)))).bind fun t101 => (if t101 < x2 then (regletref04_run.l0 k x0 x1 x2 (wrap64 (x7 + 1))) else (some x7))) else (none)) else (some x7)
def regletref04_run.f (k : Nat) (a0 : ByteArray) (a1 : Int) (a2 : Int) : Option (Int) := regletref04_run.l0 k a0 a1 a2 0
theorem regletref04_run.mono_l : ∀ k, (∀ y0 y1 y2 y3, LeO (regletref04_run.l0 k y0 y1 y2 y3) (regletref04_run.l0 (k + 1) y0 y1 y2 y3))
 | 0 => fun _ _ _ _ r h => by simp [regletref04_run.l0] at h
 | k + 1 => by
  have ih0 := regletref04_run.mono_l k
  intro y0 y1 y2 y3
  unfold regletref04_run.l0
  repeat' first
  | (with_reducible exact ih0 _ _ _ _)
  | (with_reducible exact regletref04_worth.mono _ _)
  | (with_reducible exact LeO.refl _)
  | (with_reducible exact LeO.none _)
  | (with_reducible refine LeO.ite ?_ ?_)
  | (with_reducible refine LeO.bind ?_ (fun _ => ?_))
  | exact ih0 _ _ _ _
  | exact regletref04_worth.mono _ _
  | exact LeO.none _
  | refine LeO.ite ?_ ?_
  | refine LeO.bind ?_ (fun _ => ?_)
theorem regletref04_run.mono : ∀ a0 a1 a2 k, LeO (regletref04_run.f k a0 a1 a2) (regletref04_run.f (k + 1) a0 a1 a2) := by
 intro a0 a1 a2 k
 have ih0 := regletref04_run.mono_l k
 unfold regletref04_run.f
 repeat' first
   | (with_reducible exact ih0 _ _ _ _)
   | (with_reducible exact regletref04_worth.mono _ _)
   | (with_reducible exact LeO.refl _)
   | (with_reducible exact LeO.none _)
   | (with_reducible refine LeO.ite ?_ ?_)
   | (with_reducible refine LeO.bind ?_ (fun _ => ?_))
   | exact ih0 _ _ _ _
   | exact regletref04_worth.mono _ _
   | exact LeO.none _
   | refine LeO.ite ?_ ?_
   | refine LeO.bind ?_ (fun _ => ?_)
set_option maxHeartbeats 8000000 in
set_option maxRecDepth 100000 in
theorem regletref04_run.calls (k : Nat) (a0 : ByteArray) (a1 : Int) (a2 : Int) (r : Int) (w : World) (h : regletref04_run.f k a0 a1 a2 = some r) :
  Calls Tryd.prog 35 #[.string a0, .int .i64 a1, .int .i64 a2] w fun e w' => e = .returned (.int .i64 r) ∧ Drawn0 w w' := by
 have H : (regletref04_run.l0 k a0 a1 a2 0) = some r := h
 clear h
 have H' := Aside0.mk H
 clear H
 go_enter Tryd.func35, Tryd.ntmps35
 go_wp2
 go_loopg [7] k (fun kq v7 w' => ∃ (x7_1 : Int), v7 = .int .i64 x7_1 ∧ Aside0 (regletref04_run.l0 kq a0 a1 a2 x7_1 = some r) ∧ Aside0 (kq ≤ k) ∧ Drawn0 w w')
 case atStart => exact ⟨(0), er_, H', ⟨Nat.le_refl _⟩, dr_⟩
 case round =>
  clear H'
  try clear p2
  try clear c3
  obtain ⟨x7_1, rfl, HA, HK1, ⟨m1, rfl⟩⟩ := hrel
  cases gk with
  | zero => exact absurd HA.out (by simp [regletref04_run.l0])
  | succ k1 =>
   have H := HA.out
   clear HA
   simp only [regletref04_run.l0] at H
   by_cases c4 : (wrap64 (a1 + x7_1)) < (a0.size : Int)
   ·rw [if_pos c4] at H
    have c4b0 := decide_eq_true c4
    clear c4
    obtain ⟨ji5, hji5⟩ : ∃ j_ : Int, (wrap64 (a1 + x7_1)) = j_ := ⟨_, rfl⟩
    replace H : (if 0 ≤ (ji5) then ((regletref04_worth.f k1 (bt a0 (ji5))).bind fun t101 => (if t101 < a2 then (regletref04_run.l0 k1 a0 a1 a2 (wrap64 (x7_1 + 1))) else (some x7_1))) else (none)) = some r := by first | (rw [hji5] at H; exact H) | (simp only [hji5] at H ⊢; exact H)
    (try rw [hji5] at c4b0)
    have hji5w : (IntKind.i64.wrap (a1 + x7_1)) = ji5 := (i64_w _).trans hji5
    by_cases c6 : 0 ≤ (ji5)
    ·rw [if_pos c6] at H
     have c6b0 := decide_eq_true c6
     clear c6
     replace H := Option.bind_eq_some_iff.mp H
     obtain ⟨t101, A80, H⟩ := H
     replace H : (if t101 < a2 then (regletref04_run.l0 k1 a0 a1 a2 (wrap64 (x7_1 + 1))) else (some x7_1)) = some r := H
     have A8 := Aside0.mk A80
     clear A80
     by_cases c9 : t101 < a2
     ·rw [if_pos c9] at H
      have c9b0 := decide_eq_true c9
      clear c9
      have H' := Aside0.mk H
      clear H
      have p7 : 0 ≤ ((ji5) : Int) := da_
      have q7 : (ji5) < (a0.size : Int) := da_
      have hx7 := bt_at a0 (ji5)
      replace p7 := eq_true p7
      replace q7 := eq_true q7
      go_wp2_with (first | (go_at_call 47; (with_reducible refine (regletref04_worth.calls k1 (bt a0 (ji5)) t101 _ A8.out).mono ?_); rintro e w' ⟨rfl, ⟨nd, rfl⟩⟩))
      go_roundg k1
      case measure => have := HK1.out; omega
      case rel => exact ⟨(wrap64 (x7_1 + 1)), er_, H', ⟨by have := HK1.out; omega⟩, dr_⟩
     rw [if_neg c9] at H
     have c9b0 := decide_eq_false c9
     clear c9
     obtain rfl := Option.some.inj H
     have p7 : 0 ≤ ((ji5) : Int) := da_
     have q7 : (ji5) < (a0.size : Int) := da_
     have hx7 := bt_at a0 (ji5)
     replace p7 := eq_true p7
     replace q7 := eq_true q7
     go_wp2_with (first | (go_at_call 47; (with_reducible refine (regletref04_worth.calls k1 (bt a0 (ji5)) t101 _ A8.out).mono ?_); rintro e w' ⟨rfl, ⟨nd, rfl⟩⟩))
     go_ret
     exact ⟨by first | rfl | (simp; done) | (simp only [← hji5] <;> (first | rfl | simp)) | (simp [*]; done), dr_⟩
    rw [if_neg c6] at H
    exact absurd H (by simp)
   rw [if_neg c4] at H
   have c4b0 := decide_eq_false c4
   clear c4
   obtain rfl := Option.some.inj H
   go_wp2
   go_ret
   exact ⟨er_, dr_⟩
def regletref04_simple.j0 : Nat → Int → Int → Bool → Option (Int)
 | 0, _, _, _ => none
 | k + 1, x0, x3, x4 => if x4 = true then (some (wrap64 (x0))) else (if x3 = 97 then (some 7) else (if x3 = 98 then (some 8) else (if x3 = 102 then (some 12) else (if x3 = 110 then (some 10) else (if x3 = 114 then (some 13) else (if x3 = 116 then (some 9) else (if x3 = 118 then (some 11) else (some 0))))))))
def regletref04_simple.f (k : Nat) (a0 : Int) : Option (Int) := if a0 = 39 then (regletref04_simple.j0 k a0 a0 (a0 == 39)) else (if a0 = 34 then (regletref04_simple.j0 k a0 a0 (a0 == 34)) else (if a0 = 63 then (regletref04_simple.j0 k a0 a0 (a0 == 63)) else (regletref04_simple.j0 k a0 a0 (a0 == 92))))
theorem regletref04_simple.mono_l : ∀ k, (∀ y0 y1 y2, LeO (regletref04_simple.j0 k y0 y1 y2) (regletref04_simple.j0 (k + 1) y0 y1 y2))
 | 0 => fun _ _ _ r h => by simp [regletref04_simple.j0] at h
 | k + 1 => by
  have ih0 := regletref04_simple.mono_l k
  intro y0 y1 y2
  unfold regletref04_simple.j0
  repeat' first
  | (with_reducible exact ih0 _ _ _)
  | (with_reducible exact LeO.refl _)
  | (with_reducible exact LeO.none _)
  | (with_reducible refine LeO.ite ?_ ?_)
  | (with_reducible refine LeO.bind ?_ (fun _ => ?_))
  | exact ih0 _ _ _
  | exact LeO.none _
  | refine LeO.ite ?_ ?_
  | refine LeO.bind ?_ (fun _ => ?_)
theorem regletref04_simple.mono : ∀ a0 k, LeO (regletref04_simple.f k a0) (regletref04_simple.f (k + 1) a0) := by
 intro a0 k
 have ih0 := regletref04_simple.mono_l k
 unfold regletref04_simple.f
 repeat' first
   | (with_reducible exact ih0 _ _ _)
   | (with_reducible exact LeO.refl _)
   | (with_reducible exact LeO.none _)
   | (with_reducible refine LeO.ite ?_ ?_)
   | (with_reducible refine LeO.bind ?_ (fun _ => ?_))
   | exact ih0 _ _ _
   | exact LeO.none _
   | refine LeO.ite ?_ ?_
   | refine LeO.bind ?_ (fun _ => ?_)
set_option maxHeartbeats 8000000 in
set_option maxRecDepth 100000 in
theorem regletref04_simple.calls (k : Nat) (a0 : Int) (r : Int) (w : World) (h : regletref04_simple.f k a0 = some r) :
  Calls Tryd.prog 89 #[.int .u8 a0] w fun e w' => e = .returned (.int .i64 r) ∧ Drawn0 w w' := by
 have H : (if a0 = 39 then (regletref04_simple.j0 k a0 a0 (a0 == 39)) else (if a0 = 34 then (regletref04_simple.j0 k a0 a0 (a0 == 34)) else (if a0 = 63 then (regletref04_simple.j0 k a0 a0 (a0 == 63)) else (regletref04_simple.j0 k a0 a0 (a0 == 92))))) = some r := h
 clear h
 have HC2 := Aside0.mk H
 clear H
 go_enter Tryd.func89, Tryd.ntmps89
 go_upto_if 4 with (fail)
 go_cut [4] (fun v4 wc => ∃ (kq : Nat) (x4_1 : Bool), v4 = .bool x4_1 ∧ Aside0 (regletref04_simple.j0 kq a0 a0 x4_1 = some r) ∧ Aside0 (kq ≤ k) ∧ Drawn0 w wc)
 case first =>
  have H := HC2.out
  clear HC2
  by_cases c3 : a0 = 39
  ·rw [if_pos c3] at H
   have c3b0 := beq_iff_eq.mpr c3
   have c3b1 := bne_eq_false_iff_eq.mpr c3
   clear c3
   (first | rw [c3b0] | (simp only [i64_w, i32_w]; rw [c3b0]) | skip)
   have H' := Aside0.mk H
   clear H
   go_wp2
   go_meet
   case rel => exact ⟨_, ((a0 == 39)), er_, H', ⟨om_⟩, dr_⟩
  rw [if_neg c3] at H
  have c3b0 := beq_eq_false_iff_ne.mpr c3
  have c3b1 := bne_iff_ne.mpr c3
  (first | rw [c3b0] | (simp only [i64_w, i32_w]; rw [c3b0]) | skip)
  by_cases c4 : a0 = 34
  ·rw [if_pos c4] at H
   have c4b0 := beq_iff_eq.mpr c4
   have c4b1 := bne_eq_false_iff_eq.mpr c4
   clear c4
   have H' := Aside0.mk H
   clear H
   go_wp2
   go_meet
   case rel => exact ⟨_, ((a0 == 34)), er_, H', ⟨om_⟩, dr_⟩
  rw [if_neg c4] at H
  have c4b0 := beq_eq_false_iff_ne.mpr c4
  have c4b1 := bne_iff_ne.mpr c4
  by_cases c5 : a0 = 63
  ·rw [if_pos c5] at H
   have c5b0 := beq_iff_eq.mpr c5
   have c5b1 := bne_eq_false_iff_eq.mpr c5
   clear c5
   have H' := Aside0.mk H
   clear H
   go_wp2
   go_meet
   case rel => exact ⟨_, ((a0 == 63)), er_, H', ⟨om_⟩, dr_⟩
  rw [if_neg c5] at H
  have c5b0 := beq_eq_false_iff_ne.mpr c5
  have c5b1 := bne_iff_ne.mpr c5
  have H' := Aside0.mk H
  clear H
  go_wp2
  go_meet
  case rel => exact ⟨_, ((a0 == 92)), er_, H', ⟨om_⟩, dr_⟩
 case rest =>
  clear HC2
  try clear p2
  try clear c3
  try clear c3b0
  try clear c3b1
  try clear c4
  try clear c4b0
  try clear c4b1
  try clear c5
  try clear c5b0
  try clear c5b1
  obtain ⟨kq, x4_1, rfl, HA, HJ1, ⟨mc1, rfl⟩⟩ := hcut
  cases kq with
  | zero => exact absurd HA.out (by simp [regletref04_simple.j0])
  | succ kj1 =>
   have H := HA.out
   clear HA
   simp only [regletref04_simple.j0] at H
   by_cases c6 : x4_1 = true
   ·subst c6
    have H1 : (some (wrap64 (a0))) = some r := by rw [if_pos rfl] at H; exact H
    clear H
    have H := H1
    clear H1
    obtain rfl := Option.some.inj H
    go_wp2
    go_ret
    exact ⟨er_, dr_⟩
   replace c6 := Bool.eq_false_iff.mpr c6
   subst c6
   have H1 : (if a0 = 97 then (some 7) else (if a0 = 98 then (some 8) else (if a0 = 102 then (some 12) else (if a0 = 110 then (some 10) else (if a0 = 114 then (some 13) else (if a0 = 116 then (some 9) else (if a0 = 118 then (some 11) else (some 0)))))))) = some r := by rw [if_neg (show ¬ (false = true) by decide)] at H; exact H
   clear H
   have H := H1
   clear H1
   by_cases c7 : a0 = 97
   ·rw [if_pos c7] at H
    have c7b0 := beq_iff_eq.mpr c7
    have c7b1 := bne_eq_false_iff_eq.mpr c7
    clear c7
    obtain rfl := Option.some.inj H
    go_wp2
    go_ret
    exact ⟨er_, dr_⟩
   rw [if_neg c7] at H
   have c7b0 := beq_eq_false_iff_ne.mpr c7
   have c7b1 := bne_iff_ne.mpr c7
   by_cases c8 : a0 = 98
   ·rw [if_pos c8] at H
    have c8b0 := beq_iff_eq.mpr c8
    have c8b1 := bne_eq_false_iff_eq.mpr c8
    clear c8
    obtain rfl := Option.some.inj H
    go_wp2
    go_ret
    exact ⟨er_, dr_⟩
   rw [if_neg c8] at H
   have c8b0 := beq_eq_false_iff_ne.mpr c8
   have c8b1 := bne_iff_ne.mpr c8
   by_cases c9 : a0 = 102
   ·rw [if_pos c9] at H
    have c9b0 := beq_iff_eq.mpr c9
    have c9b1 := bne_eq_false_iff_eq.mpr c9
    clear c9
    obtain rfl := Option.some.inj H
    go_wp2
    go_ret
    exact ⟨er_, dr_⟩
   rw [if_neg c9] at H
   have c9b0 := beq_eq_false_iff_ne.mpr c9
   have c9b1 := bne_iff_ne.mpr c9
   by_cases c10 : a0 = 110
   ·rw [if_pos c10] at H
    have c10b0 := beq_iff_eq.mpr c10
    have c10b1 := bne_eq_false_iff_eq.mpr c10
    clear c10
    obtain rfl := Option.some.inj H
    go_wp2
    go_ret
    exact ⟨er_, dr_⟩
   rw [if_neg c10] at H
   have c10b0 := beq_eq_false_iff_ne.mpr c10
   have c10b1 := bne_iff_ne.mpr c10
   by_cases c11 : a0 = 114
   ·rw [if_pos c11] at H
    have c11b0 := beq_iff_eq.mpr c11
    have c11b1 := bne_eq_false_iff_eq.mpr c11
    clear c11
    obtain rfl := Option.some.inj H
    go_wp2
    go_ret
    exact ⟨er_, dr_⟩
   rw [if_neg c11] at H
   have c11b0 := beq_eq_false_iff_ne.mpr c11
   have c11b1 := bne_iff_ne.mpr c11
   by_cases c12 : a0 = 116
   ·rw [if_pos c12] at H
    have c12b0 := beq_iff_eq.mpr c12
    have c12b1 := bne_eq_false_iff_eq.mpr c12
    clear c12
    obtain rfl := Option.some.inj H
    go_wp2
    go_ret
    exact ⟨er_, dr_⟩
   rw [if_neg c12] at H
   have c12b0 := beq_eq_false_iff_ne.mpr c12
   have c12b1 := bne_iff_ne.mpr c12
   by_cases c13 : a0 = 118
   ·rw [if_pos c13] at H
    have c13b0 := beq_iff_eq.mpr c13
    have c13b1 := bne_eq_false_iff_eq.mpr c13
    clear c13
    obtain rfl := Option.some.inj H
    go_wp2
    go_ret
    exact ⟨er_, dr_⟩
   rw [if_neg c13] at H
   have c13b0 := beq_eq_false_iff_ne.mpr c13
   have c13b1 := bne_iff_ne.mpr c13
   obtain rfl := Option.some.inj H
   go_wp2
   go_ret
   exact ⟨er_, dr_⟩
mutual
def regletref04_one.j0 : Nat → ByteArray → Int → Int → Int → Int → Int → Option (Int × Int)
 | 0, _, _, _, _, _, _ => none
 | k + 1, x0, x1, x6, x7, x8, x9 => if x9 = 0 then (some (0, 0)) else (regletref04_one.l0 k x0 x1 x6 x7 x8 x9 x8)
def regletref04_one.l0 : Nat → ByteArray → Int → Int → Int → Int → Int → Int → Option (Int × Int)
 | 0, _, _, _, _, _, _, _ => none
 | k + 1, x0, x1, x6, x7, x8, x9, x10 => if x10 < (wrap64 (x8 + x9)) then (if 0 ≤ x10 then (if x10 < (x0.size : Int) then ((regletref04_worth.f k (bt x0 x10)).bind fun t165 => (regletref04_one.l0 k x0 x1 (mn (wrap64 ((wrap64 (x6 * x7)) + t165)) 1099511627776) x7 x8 x9 (wrap64 (x10 + 1)))) else (none)) else (none)) else (some (x6, wrap64 ((wrap64 (x8 + x9)) - x1)))
end
def regletref04_one.f (k : Nat) (a0 : ByteArray) (a1 : Int) : Option (Int × Int) := if 0 ≤ a1 then (if a1 < (a0.size : Int) then (if (bt a0 a1) = 92 then (if (wrap64 (a1 + 1)) = (a0.size : Int) then (some (0, 0)) else (if 0 ≤ (wrap64 (a1 + 1)) then (if (wrap64 (a1 + 1)) < (a0.size : Int) then ((regletref04_simple.f k (bt a0 (wrap64 (a1 + 1)))).bind fun t162 => (if t162 > 0 then (some (t162, 2)) else ((regletref04_run.f k a0 (wrap64 (a1 + 1)) 8).bind fun t163 => (if (bt a0 (wrap64 (a1 + 1))) = 120 then ((regletref04_run.f k a0 (wrap64 (a1 + 2)) 16).bind fun t164 => (regletref04_one.j0 k a0 a1 t162 16 (wrap64 (a1 + 2)) t164)) else (regletref04_one.j0 k a0 a1 t162 8 (wrap64 (a1 + 1)) (mn 3 t163)))))) else (none)) else (none))) else (some (wrap64 (bt a0 a1), 1))) else (none)) else (none)
theorem regletref04_one.mono_l : ∀ k, (∀ y0 y1 y2 y3 y4 y5, LeO (regletref04_one.j0 k y0 y1 y2 y3 y4 y5) (regletref04_one.j0 (k + 1) y0 y1 y2 y3 y4 y5)) ∧ (∀ y0 y1 y2 y3 y4 y5 y6, LeO (regletref04_one.l0 k y0 y1 y2 y3 y4 y5 y6) (regletref04_one.l0 (k + 1) y0 y1 y2 y3 y4 y5 y6))
 | 0 => ⟨fun _ _ _ _ _ _ r h => by simp [regletref04_one.j0] at h, fun _ _ _ _ _ _ _ r h => by simp [regletref04_one.l0] at h⟩
 | k + 1 => by
  obtain ⟨ih0, ih1⟩ := regletref04_one.mono_l k
  refine ⟨?_, ?_⟩
  ·intro y0 y1 y2 y3 y4 y5
   unfold regletref04_one.j0
   repeat' first
   | (with_reducible exact ih0 _ _ _ _ _ _)
   | (with_reducible exact ih1 _ _ _ _ _ _ _)
   | (with_reducible exact regletref04_run.mono _ _ _ _)
   | (with_reducible exact regletref04_simple.mono _ _)
   | (with_reducible exact regletref04_worth.mono _ _)
   | (with_reducible exact LeO.refl _)
   | (with_reducible exact LeO.none _)
   | (with_reducible refine LeO.ite ?_ ?_)
   | (with_reducible refine LeO.bind ?_ (fun _ => ?_))
   | exact ih0 _ _ _ _ _ _
   | exact ih1 _ _ _ _ _ _ _
   | exact regletref04_run.mono _ _ _ _
   | exact regletref04_simple.mono _ _
   | exact regletref04_worth.mono _ _
   | exact LeO.none _
   | refine LeO.ite ?_ ?_
   | refine LeO.bind ?_ (fun _ => ?_)
  intro y0 y1 y2 y3 y4 y5 y6
  unfold regletref04_one.l0
  repeat' first
  | (with_reducible exact ih0 _ _ _ _ _ _)
  | (with_reducible exact ih1 _ _ _ _ _ _ _)
  | (with_reducible exact regletref04_run.mono _ _ _ _)
  | (with_reducible exact regletref04_simple.mono _ _)
  | (with_reducible exact regletref04_worth.mono _ _)
  | (with_reducible exact LeO.refl _)
  | (with_reducible exact LeO.none _)
  | (with_reducible refine LeO.ite ?_ ?_)
  | (with_reducible refine LeO.bind ?_ (fun _ => ?_))
  | exact ih0 _ _ _ _ _ _
  | exact ih1 _ _ _ _ _ _ _
  | exact regletref04_run.mono _ _ _ _
  | exact regletref04_simple.mono _ _
  | exact regletref04_worth.mono _ _
  | exact LeO.none _
  | refine LeO.ite ?_ ?_
  | refine LeO.bind ?_ (fun _ => ?_)
theorem regletref04_one.mono : ∀ a0 a1 k, LeO (regletref04_one.f k a0 a1) (regletref04_one.f (k + 1) a0 a1) := by
 intro a0 a1 k
 obtain ⟨ih0, ih1⟩ := regletref04_one.mono_l k
 unfold regletref04_one.f
 repeat' first
   | (with_reducible exact ih0 _ _ _ _ _ _)
   | (with_reducible exact ih1 _ _ _ _ _ _ _)
   | (with_reducible exact regletref04_run.mono _ _ _ _)
   | (with_reducible exact regletref04_simple.mono _ _)
   | (with_reducible exact regletref04_worth.mono _ _)
   | (with_reducible exact LeO.refl _)
   | (with_reducible exact LeO.none _)
   | (with_reducible refine LeO.ite ?_ ?_)
   | (with_reducible refine LeO.bind ?_ (fun _ => ?_))
   | exact ih0 _ _ _ _ _ _
   | exact ih1 _ _ _ _ _ _ _
   | exact regletref04_run.mono _ _ _ _
   | exact regletref04_simple.mono _ _
   | exact regletref04_worth.mono _ _
   | exact LeO.none _
   | refine LeO.ite ?_ ?_
   | refine LeO.bind ?_ (fun _ => ?_)
set_option maxHeartbeats 8000000 in
set_option maxRecDepth 100000 in
theorem regletref04_one.calls (k : Nat) (a0 : ByteArray) (a1 : Int) (r1 : Int) (r2 : Int) (w : World) (h : regletref04_one.f k a0 a1 = some (r1, r2)) :
  Calls Tryd.prog 71 #[.string a0, .int .i64 a1] w fun e w' => e = .returned (.tuple #[.int .i64 r1, .int .i64 r2]) ∧ Below w.heap.size w w' := by
 have HB := Aside0.mk (Below.refl w.heap.size w)
 have H : (if 0 ≤ a1 then (if a1 < (a0.size : Int) then (if (bt a0 a1) = 92 then (if (wrap64 (a1 + 1)) = (a0.size : Int) then (some (0, 0)) else (if 0 ≤ (wrap64 (a1 + 1)) then (if (wrap64 (a1 + 1)) < (a0.size : Int) then ((regletref04_simple.f k (bt a0 (wrap64 (a1 + 1)))).bind fun t162 => (if t162 > 0 then (some (t162, 2)) else ((regletref04_run.f k a0 (wrap64 (a1 + 1)) 8).bind fun t163 => (if (bt a0 (wrap64 (a1 + 1))) = 120 then ((regletref04_run.f k a0 (wrap64 (a1 + 2)) 16).bind fun t164 => (regletref04_one.j0 k a0 a1 t162 16 (wrap64 (a1 + 2)) t164)) else (regletref04_one.j0 k a0 a1 t162 8 (wrap64 (a1 + 1)) (mn 3 t163)))))) else (none)) else (none))) else (some (wrap64 (bt a0 a1), 1))) else (none)) else (none)) = some (r1, r2) := h
 clear h
 by_cases c3 : 0 ≤ a1
 ·rw [if_pos c3] at H
  have c3b0 := decide_eq_true c3
  clear c3
  by_cases c4 : a1 < (a0.size : Int)
  ·rw [if_pos c4] at H
   have c4b0 := decide_eq_true c4
   clear c4
   by_cases c6 : (bt a0 a1) = 92
   ·rw [if_pos c6] at H
    have c6b0 := beq_iff_eq.mpr c6
    have c6b1 := bne_eq_false_iff_eq.mpr c6
    clear c6
    by_cases c7 : (wrap64 (a1 + 1)) = (a0.size : Int)
    ·rw [if_pos c7] at H
     have c7b0 := beq_iff_eq.mpr c7
     have c7b1 := bne_eq_false_iff_eq.mpr c7
     clear c7
     simp only [Option.some.injEq, Prod.mk.injEq] at H
     obtain ⟨rfl, rfl⟩ := H
     have p5 : 0 ≤ (a1 : Int) := da_
     have q5 : a1 < (a0.size : Int) := da_
     have hx5 := bt_at a0 a1
     replace p5 := eq_true p5
     replace q5 := eq_true q5
     go_enter Tryd.func71, Tryd.ntmps71
     go_wp2
     go_ret2
     exact ⟨es_, bl_⟩
    rw [if_neg c7] at H
    have c7b0 := beq_eq_false_iff_ne.mpr c7
    have c7b1 := bne_iff_ne.mpr c7
    obtain ⟨ji8, hji8⟩ : ∃ j_ : Int, (wrap64 (a1 + 1)) = j_ := ⟨_, rfl⟩
    replace H : (if 0 ≤ (ji8) then (if (ji8) < (a0.size : Int) then ((regletref04_simple.f k (bt a0 (ji8))).bind fun t162 => (if t162 > 0 then (some (t162, 2)) else ((regletref04_run.f k a0 (ji8) 8).bind fun t163 => (if (bt a0 (ji8)) = 120 then ((regletref04_run.f k a0 (wrap64 (a1 + 2)) 16).bind fun t164 => (regletref04_one.j0 k a0 a1 t162 16 (wrap64 (a1 + 2)) t164)) else (regletref04_one.j0 k a0 a1 t162 8 ji8 (mn 3 t163)))))) else (none)) else (none)) = some (r1, r2) := by first | (rw [hji8] at H; exact H) | (simp only [hji8] at H ⊢; exact H)
    (try rw [hji8] at c7b0)
    (try rw [hji8] at c7b1)
    have hji8w : (IntKind.i64.wrap (a1 + 1)) = ji8 := (i64_w _).trans hji8
    by_cases c9 : 0 ≤ (ji8)
    ·rw [if_pos c9] at H
     have c9b0 := decide_eq_true c9
     clear c9
     by_cases c10 : (ji8) < (a0.size : Int)
     ·rw [if_pos c10] at H
      have c10b0 := decide_eq_true c10
      clear c10
      replace H := Option.bind_eq_some_iff.mp H
      obtain ⟨t162, A120, H⟩ := H
      replace H : (if t162 > 0 then (some (t162, 2)) else ((regletref04_run.f k a0 (ji8) 8).bind fun t163 => (if (bt a0 (ji8)) = 120 then ((regletref04_run.f k a0 (wrap64 (a1 + 2)) 16).bind fun t164 => (regletref04_one.j0 k a0 a1 t162 16 (wrap64 (a1 + 2)) t164)) else (regletref04_one.j0 k a0 a1 t162 8 ji8 (mn 3 t163))))) = some (r1, r2) := H
      have A12 := Aside0.mk A120
      clear A120
      by_cases c13 : t162 > 0
      ·rw [if_pos c13] at H
       have c13b0 : decide (0 < t162) = true := decide_eq_true c13
       clear c13
       simp only [Option.some.injEq, Prod.mk.injEq] at H
       obtain ⟨rfl, rfl⟩ := H
       have p5 : 0 ≤ (a1 : Int) := da_
       have q5 : a1 < (a0.size : Int) := da_
       have hx5 := bt_at a0 a1
       replace p5 := eq_true p5
       replace q5 := eq_true q5
       have p11 : 0 ≤ ((ji8) : Int) := da_
       have q11 : (ji8) < (a0.size : Int) := da_
       have hx11 := bt_at a0 (ji8)
       replace p11 := eq_true p11
       replace q11 := eq_true q11
       go_enter Tryd.func71, Tryd.ntmps71
       go_wp2_with (first | ((with_reducible refine gate_callee (f := 89) rfl ?_); refine goesL_ (some 28) rfl rfl Tryd.func89 (by kernel_rfl) rfl #[.int .u8 (bt a0 (ji8))] rfl (by (try simp only [List.map_toArray, List.map_cons, List.map_nil]); first | done | (simp only [hji8]; rfl) | rfl | (simp only [List.length_drop, List.length_take]; rfl)) ?_; (with_reducible refine (regletref04_simple.calls k (bt a0 (ji8)) t162 _ A12.out).mono ?_); rintro e w' ⟨rfl, ⟨nd, rfl⟩⟩; refine ⟨_, rfl, ?_⟩))
       go_ret2
       exact ⟨by first | rfl | (simp [errW_none, errW_some] <;> rfl) | (simp only [← hji8]; first | rfl | (simp [errW_none, errW_some] <;> rfl)) | (simp [*, errW_none, errW_some] <;> rfl), bl_⟩
      rw [if_neg c13] at H
      have c13b0 : decide (0 < t162) = false := decide_eq_false c13
      clear c13
      replace H := Option.bind_eq_some_iff.mp H
      obtain ⟨t163, A140, H⟩ := H
      replace H : (if (bt a0 (ji8)) = 120 then ((regletref04_run.f k a0 (wrap64 (a1 + 2)) 16).bind fun t164 => (regletref04_one.j0 k a0 a1 t162 16 (wrap64 (a1 + 2)) t164)) else (regletref04_one.j0 k a0 a1 t162 8 ji8 (mn 3 t163))) = some (r1, r2) := H
      have A14 := Aside0.mk A140
      clear A140
      obtain ⟨ji15, hji15⟩ : ∃ j_ : Int, (mn 3 t163) = j_ := ⟨_, rfl⟩
      replace H : (if (bt a0 (ji8)) = 120 then ((regletref04_run.f k a0 (wrap64 (a1 + 2)) 16).bind fun t164 => (regletref04_one.j0 k a0 a1 t162 16 (wrap64 (a1 + 2)) t164)) else (regletref04_one.j0 k a0 a1 t162 8 ji8 ji15)) = some (r1, r2) := by first | (rw [hji15] at H; exact H) | (simp only [hji15] at H ⊢; exact H)
      (try rw [hji15] at A12)
      (try rw [hji15] at A14)
      (try (have hji15h : ji15 ≤ 3 := by (rw [← hji15]; unfold mn; (repeat' split) <;> omega)))
      (try (have hji15g : ji15 ≤ 64 := by omega))
      have hji15_ : (if t163 < 3 then t163 else 3) = ji15 := hji15
      have HC17 := Aside0.mk H
      clear H
      have p5 : 0 ≤ (a1 : Int) := da_
      have q5 : a1 < (a0.size : Int) := da_
      have hx5 := bt_at a0 a1
      replace p5 := eq_true p5
      replace q5 := eq_true q5
      have p11 : 0 ≤ ((ji8) : Int) := da_
      have q11 : (ji8) < (a0.size : Int) := da_
      have hx11 := bt_at a0 (ji8)
      replace p11 := eq_true p11
      replace q11 := eq_true q11
      go_enter Tryd.func71, Tryd.ntmps71
      go_upto_if 42 with (first | ((with_reducible refine gate_callee (f := 89) rfl ?_); refine goesL_ (some 28) rfl rfl Tryd.func89 (by kernel_rfl) rfl #[.int .u8 (bt a0 (ji8))] rfl (by (try simp only [List.map_toArray, List.map_cons, List.map_nil]); first | done | (simp only [hji8]; rfl) | rfl | (simp only [List.length_drop, List.length_take]; rfl)) ?_; (with_reducible refine (regletref04_simple.calls k (bt a0 (ji8)) t162 _ A12.out).mono ?_); rintro e w' ⟨rfl, ⟨nd, rfl⟩⟩; refine ⟨_, rfl, ?_⟩) | ((with_reducible refine gate_callee (f := 35) rfl ?_); refine goesL_ (some 36) rfl rfl Tryd.func35 (by kernel_rfl) rfl #[.string a0, .int .i64 ji8, .int .i64 8] rfl (by (try simp only [List.map_toArray, List.map_cons, List.map_nil]); first | done | (simp only [hji8]; rfl) | rfl | (simp only [List.length_drop, List.length_take]; rfl)) ?_; (with_reducible refine (regletref04_run.calls k a0 ji8 8 t163 _ A14.out).mono ?_); rintro e w' ⟨rfl, ⟨nd, rfl⟩⟩; refine ⟨_, rfl, ?_⟩; have p16 : 0 ≤ ((ji8) : Int) := of_decide_eq_true (by first | (with_reducible assumption) | assumption); have q16 : (ji8) < (a0.size : Int) := of_decide_eq_true (by first | (with_reducible assumption) | assumption); have hx16 := bt_at a0 (ji8); replace p16 := eq_true p16; replace q16 := eq_true q16))
      (try simp only [Act.put, List.setIfInBounds_toArray, List.set_cons_zero, List.set_cons_succ])
      go_cut [7, 8, 9] (fun v7 v8 v9 wc => ∃ (kq : Nat) (x7_16 : Int) (x8_16 : Int) (x9_16 : Int), v7 = .int .i64 x7_16 ∧ v8 = .int .i64 x8_16 ∧ v9 = .int .i64 x9_16 ∧ Aside0 (regletref04_one.j0 kq a0 a1 t162 x7_16 x8_16 x9_16 = some (r1, r2)) ∧ Aside0 (kq ≤ k) ∧ Aside0 (Below w.heap.size w wc))
      case first =>
       have H := HC17.out
       clear HC17
       by_cases c18 : (bt a0 (ji8)) = 120
       ·rw [if_pos c18] at H
        have c18b0 := beq_iff_eq.mpr c18
        have c18b1 := bne_eq_false_iff_eq.mpr c18
        clear c18
        (first | rw [c18b0] | (simp only [i64_w, i32_w]; rw [c18b0]) | skip)
        replace H := Option.bind_eq_some_iff.mp H
        obtain ⟨t164, A190, H⟩ := H
        replace H : (regletref04_one.j0 k a0 a1 t162 16 (wrap64 (a1 + 2)) t164) = some (r1, r2) := H
        have A19 := Aside0.mk A190
        clear A190
        have H' := Aside0.mk H
        clear H
        go_wp2_with (first | ((with_reducible refine gate_callee (f := 35) rfl ?_); refine goesL_ (some 47) rfl rfl Tryd.func35 (by kernel_rfl) rfl #[.string a0, .int .i64 (wrap64 (a1 + 2)), .int .i64 16] rfl ar_ ?_; (with_reducible refine (regletref04_run.calls k a0 (wrap64 (a1 + 2)) 16 t164 _ A19.out).mono ?_); rintro e w' ⟨rfl, ⟨nd, rfl⟩⟩; refine ⟨_, rfl, ?_⟩))
        go_meet
        case rel => exact ⟨_, (16), (wrap64 (a1 + 2)), (t164), er_, er_, er_, H', ⟨om_⟩, ⟨bl_⟩⟩
       rw [if_neg c18] at H
       have c18b0 := beq_eq_false_iff_ne.mpr c18
       have c18b1 := bne_iff_ne.mpr c18
       (first | rw [c18b0] | (simp only [i64_w, i32_w]; rw [c18b0]) | skip)
       have H' := Aside0.mk H
       clear H
       go_wp2
       go_meet
       case rel => exact ⟨_, (8), (ji8), (ji15), er_, (by first | rfl | (simp; done) | (simp only [← hji8] <;> (first | rfl | simp)) | (simp [*]; done)), (by first | rfl | (simp; done) | (simp only [← hji15] <;> (first | rfl | simp)) | (simp [*]; done)), H', ⟨om_⟩, ⟨bl_⟩⟩
      case rest =>
       clear HC17
       try clear c1
       try clear p1
       try clear q1
       try clear hx1
       try clear p2
       try clear c3
       try clear c3b0
       try clear c4
       try clear c4b0
       try clear p5
       try clear q5
       try clear hx5
       try clear c6
       try clear c6b0
       try clear c6b1
       try clear p6
       try clear c7
       try clear c7b0
       try clear c7b1
       try clear c8
       try clear c9
       try clear c9b0
       try clear c10
       try clear c10b0
       try clear p11
       try clear q11
       try clear hx11
       try clear c13
       try clear c13b0
       try clear p16
       try clear q16
       try clear hx16
       try clear c18
       try clear c18b0
       try clear c18b1
       try clear p11
       try clear p16
       try clear p5
       try clear q11
       try clear q16
       try clear q5
       obtain ⟨kq, x7_16, x8_16, x9_16, rfl, rfl, rfl, HA, HJ16, HB⟩ := hcut
       cases kq with
       | zero => exact absurd HA.out (by simp [regletref04_one.j0])
       | succ kj16 =>
        have H := HA.out
        clear HA
        simp only [regletref04_one.j0] at H
        by_cases c20 : x9_16 = 0
        ·rw [if_pos c20] at H
         have c20b0 := beq_iff_eq.mpr c20
         have c20b1 := bne_eq_false_iff_eq.mpr c20
         clear c20
         simp only [Option.some.injEq, Prod.mk.injEq] at H
         obtain ⟨rfl, rfl⟩ := H
         go_wp2
         go_ret2
         exact ⟨by first | rfl | (simp [errW_none, errW_some] <;> rfl) | (simp only [← hji8, ← hji15]; first | rfl | (simp [errW_none, errW_some] <;> rfl)) | (simp [*, errW_none, errW_some] <;> rfl), bl_⟩
        rw [if_neg c20] at H
        have c20b0 := beq_eq_false_iff_ne.mpr c20
        have c20b1 := bne_iff_ne.mpr c20
        have H' := Aside0.mk H
        clear H
        go_wp2
        go_loopg [6, 10] kj16 (fun kq v6 v10 w' => ∃ (x6_2 : Int) (x10_2 : Int), v6 = .int .i64 x6_2 ∧ v10 = .int .i64 x10_2 ∧ Aside0 (regletref04_one.l0 kq a0 a1 x6_2 x7_16 x8_16 x9_16 x10_2 = some (r1, r2)) ∧ Aside0 (kq ≤ kj16) ∧ Aside0 (Below w.heap.size w w'))
        case atStart => exact ⟨(t162), (x8_16), er_, er_, H', ⟨Nat.le_refl _⟩, ⟨bl_⟩⟩
        case round =>
         clear H'
         try clear c1
         try clear p1
         try clear q1
         try clear hx1
         try clear c2
         try clear p2
         try clear c3
         try clear c3b0
         try clear c4
         try clear c4b0
         try clear p5
         try clear q5
         try clear hx5
         try clear c6
         try clear c6b0
         try clear c6b1
         try clear p6
         try clear c7
         try clear c7b0
         try clear c7b1
         try clear c8
         try clear c9
         try clear c9b0
         try clear c10
         try clear c10b0
         try clear p11
         try clear q11
         try clear hx11
         try clear c13
         try clear c13b0
         try clear p16
         try clear q16
         try clear hx16
         try clear c18
         try clear c18b0
         try clear c18b1
         try clear c20
         try clear c20b0
         try clear c20b1
         try clear p1
         try clear p11
         try clear p16
         try clear p2
         try clear p5
         try clear p6
         try clear q1
         try clear q11
         try clear q16
         try clear q5
         obtain ⟨x6_2, x10_2, rfl, rfl, HA, HK2, HB⟩ := hrel
         cases gk with
         | zero => exact absurd HA.out (by simp [regletref04_one.l0])
         | succ k2 =>
          have H := HA.out
          clear HA
          simp only [regletref04_one.l0] at H
          by_cases c21 : x10_2 < (wrap64 (x8_16 + x9_16))
          ·rw [if_pos c21] at H
           have c21b0 := decide_eq_true c21
           clear c21
           by_cases c22 : 0 ≤ x10_2
           ·rw [if_pos c22] at H
            have c22b0 := decide_eq_true c22
            clear c22
            by_cases c23 : x10_2 < (a0.size : Int)
            ·rw [if_pos c23] at H
             have c23b0 := decide_eq_true c23
             clear c23
             replace H := Option.bind_eq_some_iff.mp H
             obtain ⟨t165, A250, H⟩ := H
             replace H : (regletref04_one.l0 k2 a0 a1 (mn (wrap64 ((wrap64 (x6_2 * x7_16)) + t165)) 1099511627776) x7_16 x8_16 x9_16 (wrap64 (x10_2 + 1))) = some (r1, r2) := H
             have A25 := Aside0.mk A250
             clear A250
             obtain ⟨ji26, hji26⟩ : ∃ j_ : Int, (mn (wrap64 ((wrap64 (x6_2 * x7_16)) + t165)) 1099511627776) = j_ := ⟨_, rfl⟩
             replace H : (regletref04_one.l0 k2 a0 a1 ji26 x7_16 x8_16 x9_16 (wrap64 (x10_2 + 1))) = some (r1, r2) := by first | (rw [hji26] at H; exact H) | (simp only [hji26] at H ⊢; exact H)
             (try rw [hji26] at A25)
             have hji26_ : (if 1099511627776 < (wrap64 ((wrap64 (x6_2 * x7_16)) + t165)) then 1099511627776 else (wrap64 ((wrap64 (x6_2 * x7_16)) + t165))) = ji26 := hji26
             have H' := Aside0.mk H
             clear H
             have p24 : 0 ≤ (x10_2 : Int) := da_
             have q24 : x10_2 < (a0.size : Int) := da_
             have hx24 := bt_at a0 x10_2
             replace p24 := eq_true p24
             replace q24 := eq_true q24
             go_wp2_with (first | ((with_reducible refine gate_callee (f := 47) rfl ?_); refine goesL_ (some 64) rfl rfl Tryd.func47 (by kernel_rfl) rfl #[.int .u8 (bt a0 x10_2)] rfl ar_ ?_; (with_reducible refine (regletref04_worth.calls k2 (bt a0 x10_2) t165 _ A25.out).mono ?_); rintro e w' ⟨rfl, ⟨nd, rfl⟩⟩; refine ⟨_, rfl, ?_⟩))
             go_roundg k2
             case measure => have := HJ16.out; have := HK2.out; omega
             case rel => exact ⟨(ji26), (wrap64 (x10_2 + 1)), (by first | rfl | (simp; done) | (simp only [← hji26] <;> (first | rfl | simp)) | (simp [*]; done)), er_, H', ⟨by have := HJ16.out; have := HK2.out; omega⟩, ⟨bl_⟩⟩
            rw [if_neg c23] at H
            exact absurd H (by simp)
           rw [if_neg c22] at H
           exact absurd H (by simp)
          rw [if_neg c21] at H
          have c21b0 := decide_eq_false c21
          clear c21
          simp only [Option.some.injEq, Prod.mk.injEq] at H
          obtain ⟨rfl, rfl⟩ := H
          go_wp2
          go_ret2
          exact ⟨by first | rfl | (simp [errW_none, errW_some] <;> rfl) | (simp only [← hji8, ← hji15]; first | rfl | (simp [errW_none, errW_some] <;> rfl)) | (simp [*, errW_none, errW_some] <;> rfl), bl_⟩
     rw [if_neg c10] at H
     exact absurd H (by simp)
    rw [if_neg c9] at H
    exact absurd H (by simp)
   rw [if_neg c6] at H
   have c6b0 := beq_eq_false_iff_ne.mpr c6
   have c6b1 := bne_iff_ne.mpr c6
   simp only [Option.some.injEq, Prod.mk.injEq] at H
   obtain ⟨rfl, rfl⟩ := H
   have p5 : 0 ≤ (a1 : Int) := da_
   have q5 : a1 < (a0.size : Int) := da_
   have hx5 := bt_at a0 a1
   replace p5 := eq_true p5
   replace q5 := eq_true q5
   have p27 : 0 ≤ (a1 : Int) := da_
   have q27 : a1 < (a0.size : Int) := da_
   have hx27 := bt_at a0 a1
   replace p27 := eq_true p27
   replace q27 := eq_true q27
   go_enter Tryd.func71, Tryd.ntmps71
   go_wp2
   go_ret2
   exact ⟨es_, bl_⟩
  rw [if_neg c4] at H
  exact absurd H (by simp)
 rw [if_neg c3] at H
 exact absurd H (by simp)
end Go.Proofs.YtcdleippdegibaaDoor.PR
