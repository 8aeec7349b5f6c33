import Derived.Test.YtcdleippdegibaaDoorKM4
import Derived.Test.YtcdleippdegibaaDoorKM7
import Derived.Test.YtcdleippdegibaaDoorKM5
import Derived.Test.YtcdleippdegibaaDoorKM1
import Derived.Test.YtcdleippdegibaaDoorKM3
import Derived.Test.YtcdleippdegibaaDoorKM2
set_option linter.unusedVariables false
set_option linter.unusedSimpArgs false
set_option linter.unusedSectionVars false
namespace Go.Proofs.YtcdleippdegibaaDoor.PR
open Go.RowKit Go.Proofs.YtcdleippdegibaaDoorW.PrintWords Go.Proofs.YtcdleippdegibaaDoorW.PrintLast Go.Proofs.YtcdleippdegibaaDoorW.PrintMore
open Go.Proofs.YtcdleippdegibaaDoor.LibG (SH SH.below SH.drewN SH.drew SH.alloc)
open Go.Proofs.YtcdleippdegibaaDoor.PK
attribute [local go_sem] max2_int min2_int max_two min_two max_three min_three max_four min_four
mutual
def regletref04_Int.j0 : Nat → ByteArray → Int → Int → Option (Int × Bool × Int)
 | 0, _, _, _ => none
 | k + 1, x0, x5, x6 => (regletref04_run.f k x0 x6 x5).bind fun t110 => (if 0 ≤ (mn (x0.size : Int) (wrap64 (x6 + t110))) then (if (mn (x0.size : Int) (wrap64 (x6 + t110))) ≤ (x0.size : Int) then ((regletref04_suffix.f k (x0.extract ((mn (x0.size : Int) (wrap64 (x6 + t110))) : Int).toNat x0.size)).bind fun bt111 => (if t110 = 0 then (regletref04_Int.j1 k x0 x5 x6 t110 bt111.2 true) else (regletref04_Int.j1 k x0 x5 x6 t110 bt111.2 (!bt111.1)))) else (none)) else (none))
def regletref04_Int.j1 : Nat → ByteArray → Int → Int → Int → Bool → Bool → Option (Int × Bool × Int)
 | 0, _, _, _, _, _, _ => none
 | k + 1, x0, x5, x6, x7, x9, x44 => if x44 = true then (some (0, false, 40)) else (regletref04_Int.l0 k x0 x5 x6 x7 x9 0 x6)
def regletref04_Int.l0 : Nat → ByteArray → Int → Int → Int → Bool → Int → Int → Option (Int × Bool × Int)
 | 0, _, _, _, _, _, _, _ => none
 | k + 1, x0, x5, x6, x7, x9, x10, x11 => if x11 < (wrap64 (x6 + x7)) then (if 0 ≤ x11 then (if x11 < (x0.size : Int) then ((regletref04_worth.f k (bt x0 x11)).bind fun t113 => (if (IntKind.u64.wrap (x5)) = 0 then (none) else (if x10 > (IntKind.u64.wrap (Int.tdiv (IntKind.u64.wrap (18446744073709551615 - (IntKind.u64.wrap (t113)))) (IntKind.u64.wrap (x5)))) then (some (0, false, 40)) else (regletref04_Int.l0 k x0 x5 x6 x7 x9 (IntKind.u64.wrap ((IntKind.u64.wrap (x10 * (IntKind.u64.wrap (x5)))) + (IntKind.u64.wrap (t113)))) (wrap64 (x11 + 1)))))) else (none)) else (none)) else (if x5 = 10 then (if x9 = true then (some (x10, true, 0)) else (if x10 > 9223372036854775807 then (some (0, false, 40)) else (some (x10, false, 0)))) else (if x9 = true then (some (x10, true, 0)) else (if x10 > 9223372036854775807 then (some (x10, (x5 != 10), 0)) else (some (x10, false, 0)))))
end
def regletref04_Int.f (k : Nat) (a0 : ByteArray) : Option (Int × Bool × Int) := (regletref04_hex.f a0).bind fun t109 => (if t109 = true then (regletref04_Int.j0 k a0 16 2) else (if (a0.size : Int) > 0 then (if 0 < (a0.size : Int) then (if (bt a0 0) = 48 then (regletref04_Int.j0 k a0 8 0) else (regletref04_Int.j0 k a0 10 0)) else (none)) else (regletref04_Int.j0 k a0 10 0)))
theorem regletref04_Int.mono_l : ∀ k, (∀ y0 y1 y2, LeO (regletref04_Int.j0 k y0 y1 y2) (regletref04_Int.j0 (k + 1) y0 y1 y2)) ∧ (∀ y0 y1 y2 y3 y4 y5, LeO (regletref04_Int.j1 k y0 y1 y2 y3 y4 y5) (regletref04_Int.j1 (k + 1) y0 y1 y2 y3 y4 y5)) ∧ (∀ y0 y1 y2 y3 y4 y5 y6, LeO (regletref04_Int.l0 k y0 y1 y2 y3 y4 y5 y6) (regletref04_Int.l0 (k + 1) y0 y1 y2 y3 y4 y5 y6))
 | 0 => ⟨fun _ _ _ r h => by simp [regletref04_Int.j0] at h, fun _ _ _ _ _ _ r h => by simp [regletref04_Int.j1] at h, fun _ _ _ _ _ _ _ r h => by simp [regletref04_Int.l0] at h⟩
 | k + 1 => by
  obtain ⟨ih0, ih1, ih2⟩ := regletref04_Int.mono_l k
  refine ⟨?_, ?_, ?_⟩
  ·intro y0 y1 y2
   unfold regletref04_Int.j0
   repeat' first
   | (with_reducible exact ih0 _ _ _)
   | (with_reducible exact ih1 _ _ _ _ _ _)
   | (with_reducible exact ih2 _ _ _ _ _ _ _)
   | (with_reducible exact regletref04_run.mono _ _ _ _)
   | (with_reducible exact regletref04_suffix.mono _ _)
   | (with_reducible exact regletref04_worth.mono _ _)
   | (with_reducible exact LeO.refl _)
   | (with_reducible exact LeO.none _)
   | (with_reducible refine LeO.ite ?_ ?_)
   | (with_reducible refine LeO.bind ?_ (fun _ => ?_))
   | exact ih0 _ _ _
   | exact ih1 _ _ _ _ _ _
   | exact ih2 _ _ _ _ _ _ _
   | exact regletref04_run.mono _ _ _ _
   | exact regletref04_suffix.mono _ _
   | exact regletref04_worth.mono _ _
   | exact LeO.none _
   | refine LeO.ite ?_ ?_
   | refine LeO.bind ?_ (fun _ => ?_)
  ·intro y0 y1 y2 y3 y4 y5
   unfold regletref04_Int.j1
   repeat' first
   | (with_reducible exact ih0 _ _ _)
   | (with_reducible exact ih1 _ _ _ _ _ _)
   | (with_reducible exact ih2 _ _ _ _ _ _ _)
   | (with_reducible exact regletref04_run.mono _ _ _ _)
   | (with_reducible exact regletref04_suffix.mono _ _)
   | (with_reducible exact regletref04_worth.mono _ _)
   | (with_reducible exact LeO.refl _)
   | (with_reducible exact LeO.none _)
   | (with_reducible refine LeO.ite ?_ ?_)
   | (with_reducible refine LeO.bind ?_ (fun _ => ?_))
   | exact ih0 _ _ _
   | exact ih1 _ _ _ _ _ _
   | exact ih2 _ _ _ _ _ _ _
   | exact regletref04_run.mono _ _ _ _
   | exact regletref04_suffix.mono _ _
   | exact regletref04_worth.mono _ _
   | exact LeO.none _
   | refine LeO.ite ?_ ?_
   | refine LeO.bind ?_ (fun _ => ?_)
  intro y0 y1 y2 y3 y4 y5 y6
  unfold regletref04_Int.l0
  repeat' first
  | (with_reducible exact ih0 _ _ _)
  | (with_reducible exact ih1 _ _ _ _ _ _)
  | (with_reducible exact ih2 _ _ _ _ _ _ _)
  | (with_reducible exact regletref04_run.mono _ _ _ _)
  | (with_reducible exact regletref04_suffix.mono _ _)
  | (with_reducible exact regletref04_worth.mono _ _)
  | (with_reducible exact LeO.refl _)
  | (with_reducible exact LeO.none _)
  | (with_reducible refine LeO.ite ?_ ?_)
  | (with_reducible refine LeO.bind ?_ (fun _ => ?_))
  | exact ih0 _ _ _
  | exact ih1 _ _ _ _ _ _
  | exact ih2 _ _ _ _ _ _ _
  | exact regletref04_run.mono _ _ _ _
  | exact regletref04_suffix.mono _ _
  | exact regletref04_worth.mono _ _
  | exact LeO.none _
  | refine LeO.ite ?_ ?_
  | refine LeO.bind ?_ (fun _ => ?_)
theorem regletref04_Int.mono : ∀ a0 k, LeO (regletref04_Int.f k a0) (regletref04_Int.f (k + 1) a0) := by
 intro a0 k
 obtain ⟨ih0, ih1, ih2⟩ := regletref04_Int.mono_l k
 unfold regletref04_Int.f
 repeat' first
   | (with_reducible exact ih0 _ _ _)
   | (with_reducible exact ih1 _ _ _ _ _ _)
   | (with_reducible exact ih2 _ _ _ _ _ _ _)
   | (with_reducible exact regletref04_run.mono _ _ _ _)
   | (with_reducible exact regletref04_suffix.mono _ _)
   | (with_reducible exact regletref04_worth.mono _ _)
   | (with_reducible exact LeO.refl _)
   | (with_reducible exact LeO.none _)
   | (with_reducible refine LeO.ite ?_ ?_)
   | (with_reducible refine LeO.bind ?_ (fun _ => ?_))
   | exact ih0 _ _ _
   | exact ih1 _ _ _ _ _ _
   | exact ih2 _ _ _ _ _ _ _
   | exact regletref04_run.mono _ _ _ _
   | exact regletref04_suffix.mono _ _
   | exact regletref04_worth.mono _ _
   | exact LeO.none _
   | refine LeO.ite ?_ ?_
   | refine LeO.bind ?_ (fun _ => ?_)
set_option maxHeartbeats 8000000 in
set_option maxRecDepth 100000 in
theorem regletref04_Int.calls (k : Nat) (a0 : ByteArray) (r1 : Int) (r2 : Bool) (r3 : Int) (w : World) (h : regletref04_Int.f k a0 = some (r1, r2, r3)) :
  Calls Tryd.prog 44 #[.string a0] w fun e w' => e = .returned (.tuple #[.int .u64 r1, .bool r2, .int .i64 r3]) ∧ Below w.heap.size w w' := by
 have HB := Aside0.mk (Below.refl w.heap.size w)
 have H : ((regletref04_hex.f a0).bind fun t109 => (if t109 = true then (regletref04_Int.j0 k a0 16 2) else (if (a0.size : Int) > 0 then (if 0 < (a0.size : Int) then (if (bt a0 0) = 48 then (regletref04_Int.j0 k a0 8 0) else (regletref04_Int.j0 k a0 10 0)) else (none)) else (regletref04_Int.j0 k a0 10 0)))) = some (r1, r2, r3) := h
 clear h
 replace H := Option.bind_eq_some_iff.mp H
 obtain ⟨t109, A20, H⟩ := H
 replace H : (if t109 = true then (regletref04_Int.j0 k a0 16 2) else (if (a0.size : Int) > 0 then (if 0 < (a0.size : Int) then (if (bt a0 0) = 48 then (regletref04_Int.j0 k a0 8 0) else (regletref04_Int.j0 k a0 10 0)) else (none)) else (regletref04_Int.j0 k a0 10 0))) = some (r1, r2, r3) := H
 have A2 := Aside0.mk A20
 clear A20
 have HC3 := Aside0.mk H
 clear H
 go_enter Tryd.func44, Tryd.ntmps44
 go_upto_if 14 with (first | ((with_reducible refine gate_callee (f := 34) rfl ?_); refine goesL_ (some 14) rfl rfl Tryd.func34 (by kernel_rfl) rfl #[.string a0] rfl ar_ ?_; (with_reducible refine (regletref04_hex.calls a0 t109 _ A2.out).mono ?_); rintro e w' ⟨rfl, ⟨nd, rfl⟩⟩; refine ⟨_, rfl, ?_⟩))
 (try simp only [Act.put, List.setIfInBounds_toArray, List.set_cons_zero, List.set_cons_succ])
 go_cut [5, 6] (fun v5 v6 wc => ∃ (kq : Nat) (x5_2 : Int) (x6_2 : Int), v5 = .int .i64 x5_2 ∧ v6 = .int .i64 x6_2 ∧ Aside0 (regletref04_Int.j0 kq a0 x5_2 x6_2 = some (r1, r2, r3)) ∧ Aside0 (kq ≤ k) ∧ Aside0 (Below w.heap.size w wc))
 case first =>
  have H := HC3.out
  clear HC3
  by_cases c4 : t109 = true
  ·subst c4
   have H1 : (regletref04_Int.j0 k a0 16 2) = some (r1, r2, r3) := by rw [if_pos rfl] at H; exact H
   clear H
   have H := H1
   clear H1
   have H' := Aside0.mk H
   clear H
   go_wp2
   go_meet
   case rel => exact ⟨_, (16), (2), er_, er_, H', ⟨om_⟩, ⟨bl_⟩⟩
  replace c4 := Bool.eq_false_iff.mpr c4
  subst c4
  have H1 : (if (a0.size : Int) > 0 then (if 0 < (a0.size : Int) then (if (bt a0 0) = 48 then (regletref04_Int.j0 k a0 8 0) else (regletref04_Int.j0 k a0 10 0)) else (none)) else (regletref04_Int.j0 k a0 10 0)) = some (r1, r2, r3) := by rw [if_neg (show ¬ (false = true) by decide)] at H; exact H
  clear H
  have H := H1
  clear H1
  by_cases c5 : (a0.size : Int) > 0
  ·rw [if_pos c5] at H
   have c5b0 : decide (0 < (a0.size : Int)) = true := decide_eq_true c5
   have c5b1 : decide (0 < a0.size) = true := decide_eq_true (by omega)
   clear c5
   (first | rw [c5b0] | (simp only [i64_w, i32_w]; rw [c5b0]) | skip)
   by_cases c6 : 0 < (a0.size : Int)
   ·rw [if_pos c6] at H
    have c6b0 := decide_eq_true c6
    have c6b1 : decide (0 < a0.size) = true := decide_eq_true (by omega)
    clear c6
    by_cases c8 : (bt a0 0) = 48
    ·rw [if_pos c8] at H
     have c8b0 := beq_iff_eq.mpr c8
     have c8b1 := bne_eq_false_iff_eq.mpr c8
     clear c8
     have H' := Aside0.mk H
     clear H
     have p7 : 0 ≤ (0 : Int) := (by omega)
     have q7 : 0 < a0.size := (by have : (0 : Int) < (a0.size : Int) := of_decide_eq_true (by first | (with_reducible assumption) | assumption); omega)
     have hx7 : ∀ h : 0 < a0.size, ((a0[0]'h).toNat : Int) = bt a0 0 := bt_at a0 0
     clear p7
     have qi7 : (0 < (a0.size : Int)) = True := eq_true da_
     replace q7 := eq_true q7
     go_wp2
     go_meet
     case rel => exact ⟨_, (8), (0), er_, er_, H', ⟨om_⟩, ⟨bl_⟩⟩
    rw [if_neg c8] at H
    have c8b0 := beq_eq_false_iff_ne.mpr c8
    have c8b1 := bne_iff_ne.mpr c8
    have H' := Aside0.mk H
    clear H
    have p7 : 0 ≤ (0 : Int) := (by omega)
    have q7 : 0 < a0.size := (by have : (0 : Int) < (a0.size : Int) := of_decide_eq_true (by first | (with_reducible assumption) | assumption); omega)
    have hx7 : ∀ h : 0 < a0.size, ((a0[0]'h).toNat : Int) = bt a0 0 := bt_at a0 0
    clear p7
    have qi7 : (0 < (a0.size : Int)) = True := eq_true da_
    replace q7 := eq_true q7
    go_wp2
    go_meet
    case rel => exact ⟨_, (10), (0), er_, er_, H', ⟨om_⟩, ⟨bl_⟩⟩
   rw [if_neg c6] at H
   exact absurd H (by simp)
  rw [if_neg c5] at H
  have c5b0 : decide (0 < (a0.size : Int)) = false := decide_eq_false c5
  have c5b1 : decide (0 < a0.size) = false := decide_eq_false (by omega)
  clear c5
  (first | rw [c5b0] | (simp only [i64_w, i32_w]; rw [c5b0]) | skip)
  have H' := Aside0.mk H
  clear H
  go_wp2
  go_meet
  case rel => exact ⟨_, (10), (0), er_, er_, H', ⟨om_⟩, ⟨bl_⟩⟩
 case rest =>
  clear HC3
  try clear p2
  try clear c3
  try clear c4
  try clear c5
  try clear c5b0
  try clear c5b1
  try clear c6
  try clear c6b0
  try clear c6b1
  try clear p7
  try clear q7
  try clear hx7
  try clear qi7
  try clear c8
  try clear c8b0
  try clear c8b1
  try clear p7
  try clear q7
  obtain ⟨kq, x5_2, x6_2, rfl, rfl, HA, HJ2, HB⟩ := hcut
  cases kq with
  | zero => exact absurd HA.out (by simp [regletref04_Int.j0])
  | succ kj2 =>
   have H := HA.out
   clear HA
   simp only [regletref04_Int.j0] at H
   replace H := Option.bind_eq_some_iff.mp H
   obtain ⟨t110, A90, H⟩ := H
   replace H : (if 0 ≤ (mn (a0.size : Int) (wrap64 (x6_2 + t110))) then (if (mn (a0.size : Int) (wrap64 (x6_2 + t110))) ≤ (a0.size : Int) then ((regletref04_suffix.f kj2 (a0.extract ((mn (a0.size : Int) (wrap64 (x6_2 + t110))) : Int).toNat a0.size)).bind fun bt111 => (if t110 = 0 then (regletref04_Int.j1 kj2 a0 x5_2 x6_2 t110 bt111.2 true) else (regletref04_Int.j1 kj2 a0 x5_2 x6_2 t110 bt111.2 (!bt111.1)))) else (none)) else (none)) = some (r1, r2, r3) := H
   have A9 := Aside0.mk A90
   clear A90
   obtain ⟨ji10, hji10⟩ : ∃ j_ : Int, (mn (a0.size : Int) (wrap64 (x6_2 + t110))) = j_ := ⟨_, rfl⟩
   replace H : (if 0 ≤ (ji10) then (if (ji10) ≤ (a0.size : Int) then ((regletref04_suffix.f kj2 (a0.extract ((ji10) : Int).toNat a0.size)).bind fun bt111 => (if t110 = 0 then (regletref04_Int.j1 kj2 a0 x5_2 x6_2 t110 bt111.2 true) else (regletref04_Int.j1 kj2 a0 x5_2 x6_2 t110 bt111.2 (!bt111.1)))) else (none)) else (none)) = some (r1, r2, r3) := by first | (rw [hji10] at H; exact H) | (simp only [hji10] at H ⊢; exact H)
   (try rw [hji10] at A9)
   have hji10_ : (if (wrap64 (x6_2 + t110)) < (a0.size : Int) then (wrap64 (x6_2 + t110)) else (a0.size : Int)) = ji10 := hji10
   by_cases c11 : 0 ≤ (ji10)
   ·rw [if_pos c11] at H
    have c11b0 := eq_true c11
    have c11b1 := decide_eq_true c11
    clear c11
    by_cases c12 : (ji10) ≤ (a0.size : Int)
    ·rw [if_pos c12] at H
     have c12b0 := eq_true c12
     have c12b1 := decide_eq_true c12
     clear c12
     replace H := Option.bind_eq_some_iff.mp H
     obtain ⟨⟨t111, t112⟩, A130, H⟩ := H
     replace H : (if t110 = 0 then (regletref04_Int.j1 kj2 a0 x5_2 x6_2 t110 t112 true) else (regletref04_Int.j1 kj2 a0 x5_2 x6_2 t110 t112 (!t111))) = some (r1, r2, r3) := H
     have A13 := Aside0.mk A130
     clear A130
     have HC14 := Aside0.mk H
     clear H
     go_upto_region 10 with (first | ((with_reducible refine gate_callee (f := 35) rfl ?_); refine goesL_ (some 26) rfl rfl Tryd.func35 (by kernel_rfl) rfl #[.string a0, .int .i64 x6_2, .int .i64 x5_2] rfl ar_ ?_; (with_reducible refine (regletref04_run.calls kj2 a0 x6_2 x5_2 t110 _ A9.out).mono ?_); rintro e w' ⟨rfl, ⟨nd, rfl⟩⟩; refine ⟨_, rfl, ?_⟩) | ((with_reducible refine gate_callee (f := 55) rfl ?_); refine goesL_ (some 36) rfl rfl Tryd.func55 (by kernel_rfl) rfl #[.string (a0.extract ((ji10) : Int).toNat a0.size)] rfl (by (try simp only [List.map_toArray, List.map_cons, List.map_nil]); first | done | (simp only [hji10]; rfl) | rfl | (simp only [List.length_drop, List.length_take]; rfl)) ?_; (with_reducible refine (regletref04_suffix.calls kj2 (a0.extract ((ji10) : Int).toNat a0.size) t111 t112 _ A13.out).mono ?_); rintro e w' ⟨rfl, ⟨nd, rfl⟩⟩; refine ⟨_, rfl, ?_⟩))
     (try simp only [Act.put, List.setIfInBounds_toArray, List.set_cons_zero, List.set_cons_succ])
     go_cut [44] (fun v44 wc => ∃ (kq : Nat) (x44_13 : Bool), v44 = .bool x44_13 ∧ Aside0 (regletref04_Int.j1 kq a0 x5_2 x6_2 t110 t112 x44_13 = some (r1, r2, r3)) ∧ Aside0 (kq ≤ kj2) ∧ Aside0 (Below w.heap.size w wc))
     case first =>
      have H := HC14.out
      clear HC14
      by_cases c15 : t110 = 0
      ·rw [if_pos c15] at H
       have c15b0 := beq_iff_eq.mpr c15
       have c15b1 := bne_eq_false_iff_eq.mpr c15
       clear c15
       (first | rw [c15b0] | (simp only [i64_w, i32_w]; rw [c15b0]) | skip)
       have H' := Aside0.mk H
       clear H
       go_wp2
       go_meet
       case rel => exact ⟨_, (true), er_, H', ⟨by have := HJ2.out; first | omega | exact Nat.le_refl _⟩, ⟨bl_⟩⟩
      rw [if_neg c15] at H
      have c15b0 := beq_eq_false_iff_ne.mpr c15
      have c15b1 := bne_iff_ne.mpr c15
      (first | rw [c15b0] | (simp only [i64_w, i32_w]; rw [c15b0]) | skip)
      have H' := Aside0.mk H
      clear H
      go_wp2
      go_meet
      case rel => exact ⟨_, (!t111), er_, H', ⟨by have := HJ2.out; first | omega | exact Nat.le_refl _⟩, ⟨bl_⟩⟩
     case rest =>
      clear HC14
      try clear c1
      try clear p2
      try clear c3
      try clear c4
      try clear c5
      try clear c5b0
      try clear c5b1
      try clear c6
      try clear c6b0
      try clear c6b1
      try clear p6
      try clear p7
      try clear q7
      try clear hx7
      try clear qi7
      try clear c8
      try clear c8b0
      try clear c8b1
      try clear c11
      try clear c11b0
      try clear c11b1
      try clear c12
      try clear c12b0
      try clear c12b1
      try clear c15
      try clear c15b0
      try clear c15b1
      try clear p2
      try clear p7
      try clear q7
      obtain ⟨kq, x44_13, rfl, HA, HJ13, HB⟩ := hcut
      cases kq with
      | zero => exact absurd HA.out (by simp [regletref04_Int.j1])
      | succ kj13 =>
       have H := HA.out
       clear HA
       simp only [regletref04_Int.j1] at H
       by_cases c16 : x44_13 = true
       ·subst c16
        have H1 : (some (0, false, 40)) = some (r1, r2, r3) := by rw [if_pos rfl] at H; exact H
        clear H
        have H := H1
        clear H1
        simp only [Option.some.injEq, Prod.mk.injEq] at H
        obtain ⟨rfl, rfl, rfl⟩ := H
        go_wp2
        go_ret3
        exact ⟨by first | rfl | (simp [errW_none, errW_some] <;> rfl) | (simp only [← hji10]; first | rfl | (simp [errW_none, errW_some] <;> rfl)) | (simp [*, errW_none, errW_some] <;> rfl), bl_⟩
       replace c16 := Bool.eq_false_iff.mpr c16
       subst c16
       have H1 : (regletref04_Int.l0 kj13 a0 x5_2 x6_2 t110 t112 0 x6_2) = some (r1, r2, r3) := by rw [if_neg (show ¬ (false = true) by decide)] at H; exact H
       clear H
       have H := H1
       clear H1
       have H' := Aside0.mk H
       clear H
       go_wp2
       go_loopg [10, 11] kj13 (fun kq v10 v11 w' => ∃ (x10_3 : Int) (x11_3 : Int), v10 = .int .u64 x10_3 ∧ v11 = .int .i64 x11_3 ∧ Aside0 (regletref04_Int.l0 kq a0 x5_2 x6_2 t110 t112 x10_3 x11_3 = some (r1, r2, r3)) ∧ Aside0 (kq ≤ kj13) ∧ Aside0 (Below w.heap.size w w'))
       case atStart => exact ⟨(0), (x6_2), er_, er_, H', ⟨Nat.le_refl _⟩, ⟨bl_⟩⟩
       case round =>
        clear H'
        try clear c1
        try clear p2
        try clear c3
        try clear c4
        try clear c5
        try clear c5b0
        try clear c5b1
        try clear c6
        try clear c6b0
        try clear c6b1
        try clear p6
        try clear p7
        try clear q7
        try clear hx7
        try clear qi7
        try clear c8
        try clear c8b0
        try clear c8b1
        try clear c11
        try clear c11b0
        try clear c11b1
        try clear c12
        try clear c12b0
        try clear c12b1
        try clear c15
        try clear c15b0
        try clear c15b1
        try clear c16
        try clear p2
        try clear p6
        try clear p7
        try clear q7
        obtain ⟨x10_3, x11_3, rfl, rfl, HA, HK3, HB⟩ := hrel
        cases gk with
        | zero => exact absurd HA.out (by simp [regletref04_Int.l0])
        | succ k3 =>
         have H := HA.out
         clear HA
         simp only [regletref04_Int.l0] at H
         by_cases c17 : x11_3 < (wrap64 (x6_2 + t110))
         ·rw [if_pos c17] at H
          have c17b0 := decide_eq_true c17
          clear c17
          by_cases c18 : 0 ≤ x11_3
          ·rw [if_pos c18] at H
           have c18b0 := decide_eq_true c18
           clear c18
           by_cases c19 : x11_3 < (a0.size : Int)
           ·rw [if_pos c19] at H
            have c19b0 := decide_eq_true c19
            clear c19
            replace H := Option.bind_eq_some_iff.mp H
            obtain ⟨t113, A210, H⟩ := H
            replace H : (if (IntKind.u64.wrap (x5_2)) = 0 then (none) else (if x10_3 > (IntKind.u64.wrap (Int.tdiv (IntKind.u64.wrap (18446744073709551615 - (IntKind.u64.wrap (t113)))) (IntKind.u64.wrap (x5_2)))) then (some (0, false, 40)) else (regletref04_Int.l0 k3 a0 x5_2 x6_2 t110 t112 (IntKind.u64.wrap ((IntKind.u64.wrap (x10_3 * (IntKind.u64.wrap (x5_2)))) + (IntKind.u64.wrap (t113)))) (wrap64 (x11_3 + 1))))) = some (r1, r2, r3) := H
            have A21 := Aside0.mk A210
            clear A210
            by_cases c22 : (IntKind.u64.wrap (x5_2)) = 0
            ·rw [if_pos c22] at H
             exact absurd H (by simp)
            rw [if_neg c22] at H
            have c22b0 := beq_eq_false_iff_ne.mpr c22
            have c22b1 := bne_iff_ne.mpr c22
            by_cases c23 : x10_3 > (IntKind.u64.wrap (Int.tdiv (IntKind.u64.wrap (18446744073709551615 - (IntKind.u64.wrap (t113)))) (IntKind.u64.wrap (x5_2))))
            ·rw [if_pos c23] at H
             have c23b0 : decide ((IntKind.u64.wrap (Int.tdiv (IntKind.u64.wrap (18446744073709551615 - (IntKind.u64.wrap (t113)))) (IntKind.u64.wrap (x5_2)))) < x10_3) = true := decide_eq_true c23
             clear c23
             simp only [Option.some.injEq, Prod.mk.injEq] at H
             obtain ⟨rfl, rfl, rfl⟩ := H
             have p20 : 0 ≤ (x11_3 : Int) := da_
             have q20 : x11_3 < (a0.size : Int) := da_
             have hx20 := bt_at a0 x11_3
             replace p20 := eq_true p20
             replace q20 := eq_true q20
             go_wp2_with (first | ((with_reducible refine gate_callee (f := 47) rfl ?_); refine goesL_ (some 56) rfl rfl Tryd.func47 (by kernel_rfl) rfl #[.int .u8 (bt a0 x11_3)] rfl ar_ ?_; (with_reducible refine (regletref04_worth.calls k3 (bt a0 x11_3) t113 _ A21.out).mono ?_); rintro e w' ⟨rfl, ⟨nd, rfl⟩⟩; refine ⟨_, rfl, ?_⟩))
             go_ret3
             exact ⟨by first | rfl | (simp [errW_none, errW_some] <;> rfl) | (simp only [← hji10]; first | rfl | (simp [errW_none, errW_some] <;> rfl)) | (simp [*, errW_none, errW_some] <;> rfl), bl_⟩
            rw [if_neg c23] at H
            have c23b0 : decide ((IntKind.u64.wrap (Int.tdiv (IntKind.u64.wrap (18446744073709551615 - (IntKind.u64.wrap (t113)))) (IntKind.u64.wrap (x5_2)))) < x10_3) = false := decide_eq_false c23
            clear c23
            have H' := Aside0.mk H
            clear H
            have p20 : 0 ≤ (x11_3 : Int) := da_
            have q20 : x11_3 < (a0.size : Int) := da_
            have hx20 := bt_at a0 x11_3
            replace p20 := eq_true p20
            replace q20 := eq_true q20
            go_wp2_with (first | ((with_reducible refine gate_callee (f := 47) rfl ?_); refine goesL_ (some 56) rfl rfl Tryd.func47 (by kernel_rfl) rfl #[.int .u8 (bt a0 x11_3)] rfl ar_ ?_; (with_reducible refine (regletref04_worth.calls k3 (bt a0 x11_3) t113 _ A21.out).mono ?_); rintro e w' ⟨rfl, ⟨nd, rfl⟩⟩; refine ⟨_, rfl, ?_⟩))
            go_roundg k3
            case measure => have := HJ2.out; have := HJ13.out; have := HK3.out; omega
            case rel => exact ⟨(IntKind.u64.wrap ((IntKind.u64.wrap (x10_3 * (IntKind.u64.wrap (x5_2)))) + (IntKind.u64.wrap (t113)))), (wrap64 (x11_3 + 1)), er_, er_, H', ⟨by have := HJ2.out; have := HJ13.out; have := HK3.out; omega⟩, ⟨bl_⟩⟩
           rw [if_neg c19] at H
           exact absurd H (by simp)
          rw [if_neg c18] at H
          exact absurd H (by simp)
         rw [if_neg c17] at H
         have c17b0 := decide_eq_false c17
         clear c17
         by_cases c24 : x5_2 = 10
         ·rw [if_pos c24] at H
          have c24b0 := beq_iff_eq.mpr c24
          have c24b1 := bne_eq_false_iff_eq.mpr c24
          clear c24
          by_cases c25 : t112 = true
          ·subst c25
           have H1 : (some (x10_3, true, 0)) = some (r1, r2, r3) := by rw [if_pos rfl] at H; exact H
           clear H
           have H := H1
           clear H1
           simp only [Option.some.injEq, Prod.mk.injEq] at H
           obtain ⟨rfl, rfl, rfl⟩ := H
           go_wp2
           go_ret3
           exact ⟨by first | rfl | (simp [errW_none, errW_some] <;> rfl) | (simp only [← hji10]; first | rfl | (simp [errW_none, errW_some] <;> rfl)) | (simp [*, errW_none, errW_some] <;> rfl), bl_⟩
          replace c25 := Bool.eq_false_iff.mpr c25
          subst c25
          have H1 : (if x10_3 > 9223372036854775807 then (some (0, false, 40)) else (some (x10_3, false, 0))) = some (r1, r2, r3) := by rw [if_neg (show ¬ (false = true) by decide)] at H; exact H
          clear H
          have H := H1
          clear H1
          by_cases c26 : x10_3 > 9223372036854775807
          ·rw [if_pos c26] at H
           have c26b0 : decide (9223372036854775807 < x10_3) = true := decide_eq_true c26
           clear c26
           simp only [Option.some.injEq, Prod.mk.injEq] at H
           obtain ⟨rfl, rfl, rfl⟩ := H
           go_wp2
           go_ret3
           exact ⟨by first | rfl | (simp [errW_none, errW_some] <;> rfl) | (simp only [← hji10]; first | rfl | (simp [errW_none, errW_some] <;> rfl)) | (simp [*, errW_none, errW_some] <;> rfl), bl_⟩
          rw [if_neg c26] at H
          have c26b0 : decide (9223372036854775807 < x10_3) = false := decide_eq_false c26
          clear c26
          simp only [Option.some.injEq, Prod.mk.injEq] at H
          obtain ⟨rfl, rfl, rfl⟩ := H
          go_wp2
          go_ret3
          exact ⟨by first | rfl | (simp [errW_none, errW_some] <;> rfl) | (simp only [← hji10]; first | rfl | (simp [errW_none, errW_some] <;> rfl)) | (simp [*, errW_none, errW_some] <;> rfl), bl_⟩
         rw [if_neg c24] at H
         have c24b0 := beq_eq_false_iff_ne.mpr c24
         have c24b1 := bne_iff_ne.mpr c24
         by_cases c27 : t112 = true
         ·subst c27
          have H1 : (some (x10_3, true, 0)) = some (r1, r2, r3) := by rw [if_pos rfl] at H; exact H
          clear H
          have H := H1
          clear H1
          simp only [Option.some.injEq, Prod.mk.injEq] at H
          obtain ⟨rfl, rfl, rfl⟩ := H
          go_wp2
          go_ret3
          exact ⟨by first | rfl | (simp [errW_none, errW_some] <;> rfl) | (simp only [← hji10]; first | rfl | (simp [errW_none, errW_some] <;> rfl)) | (simp [*, errW_none, errW_some] <;> rfl), bl_⟩
         replace c27 := Bool.eq_false_iff.mpr c27
         subst c27
         have H1 : (if x10_3 > 9223372036854775807 then (some (x10_3, (x5_2 != 10), 0)) else (some (x10_3, false, 0))) = some (r1, r2, r3) := by rw [if_neg (show ¬ (false = true) by decide)] at H; exact H
         clear H
         have H := H1
         clear H1
         by_cases c28 : x10_3 > 9223372036854775807
         ·rw [if_pos c28] at H
          have c28b0 : decide (9223372036854775807 < x10_3) = true := decide_eq_true c28
          clear c28
          simp only [Option.some.injEq, Prod.mk.injEq] at H
          obtain ⟨rfl, rfl, rfl⟩ := H
          go_wp2
          go_ret3
          exact ⟨by first | rfl | (simp [errW_none, errW_some] <;> rfl) | (simp only [← hji10]; first | rfl | (simp [errW_none, errW_some] <;> rfl)) | (simp [*, errW_none, errW_some] <;> rfl), bl_⟩
         rw [if_neg c28] at H
         have c28b0 : decide (9223372036854775807 < x10_3) = false := decide_eq_false c28
         clear c28
         simp only [Option.some.injEq, Prod.mk.injEq] at H
         obtain ⟨rfl, rfl, rfl⟩ := H
         go_wp2
         go_ret3
         exact ⟨by first | rfl | (simp [errW_none, errW_some] <;> rfl) | (simp only [← hji10]; first | rfl | (simp [errW_none, errW_some] <;> rfl)) | (simp [*, errW_none, errW_some] <;> rfl), bl_⟩
    rw [if_neg c12] at H
    exact absurd H (by simp)
   rw [if_neg c11] at H
   exact absurd H (by simp)
mutual
def regletref04_ends.j0 : Nat → ByteArray → Int → Bool → Bool → Option (Bool)
 | 0, _, _, _, _ => none
 | k + 1, x0, x1, x4, x30 => if x30 = true then (if (wrap64 (x1 + 1)) < (x0.size : Int) then (if 0 ≤ (wrap64 (x1 + 1)) then (if (bt x0 (wrap64 (x1 + 1))) = 43 then (regletref04_ends.j1 k x0 (wrap64 (x1 + 1)) true) else (regletref04_ends.j1 k x0 (wrap64 (x1 + 1)) ((bt x0 (wrap64 (x1 + 1))) == 45))) else (none)) else (regletref04_ends.j1 k x0 (wrap64 (x1 + 1)) false)) else (if x4 = true then (if 0 ≤ x1 then (if x1 ≤ (x0.size : Int) then (if (x0.extract (x1 : Int).toNat x0.size).toList = ([] : List UInt8) then (some true) else (if (x0.extract (x1 : Int).toNat x0.size).toList = ([102] : List UInt8) then (some true) else (if (x0.extract (x1 : Int).toNat x0.size).toList = ([70] : List UInt8) then (some true) else (if (x0.extract (x1 : Int).toNat x0.size).toList = ([108] : List UInt8) then (some true) else (some ((x0.extract (x1 : Int).toNat x0.size).toList == ([76] : List UInt8))))))) else (none)) else (none)) else (some false))
def regletref04_ends.j1 : Nat → ByteArray → Int → Bool → Option (Bool)
 | 0, _, _, _ => none
 | k + 1, x0, x1, x48 => if x48 = true then ((regletref04_run.f k x0 (wrap64 (x1 + 1)) 10).bind fun t102 => (if t102 = 0 then (some false) else (if 0 ≤ (wrap64 ((wrap64 (x1 + 1)) + t102)) then (if (wrap64 ((wrap64 (x1 + 1)) + t102)) ≤ (x0.size : Int) then (if (x0.extract ((wrap64 ((wrap64 (x1 + 1)) + t102)) : Int).toNat x0.size).toList = ([] : List UInt8) then (some true) else (if (x0.extract ((wrap64 ((wrap64 (x1 + 1)) + t102)) : Int).toNat x0.size).toList = ([102] : List UInt8) then (some true) else (if (x0.extract ((wrap64 ((wrap64 (x1 + 1)) + t102)) : Int).toNat x0.size).toList = ([70] : List UInt8) then (some true) else (if (x0.extract ((wrap64 ((wrap64 (x1 + 1)) + t102)) : Int).toNat x0.size).toList = ([108] : List UInt8) then (some true) else (some ((x0.extract ((wrap64 ((wrap64 (x1 + 1)) + t102)) : Int).toNat x0.size).toList == ([76] : List UInt8))))))) else (none)) else (none)))) else ((regletref04_run.f k x0 x1 10).bind fun t103 => (if t103 = 0 then (some false) else (if 0 ≤ (wrap64 (x1 + t103)) then (if (wrap64 (x1 + t103)) ≤ (x0.size : Int) then (if (x0.extract ((wrap64 (x1 + t103)) : Int).toNat x0.size).toList = ([] : List UInt8) then (some true) else (if (x0.extract ((wrap64 (x1 + t103)) : Int).toNat x0.size).toList = ([102] : List UInt8) then (some true) else (if (x0.extract ((wrap64 (x1 + t103)) : Int).toNat x0.size).toList = ([70] : List UInt8) then (some true) else (if (x0.extract ((wrap64 (x1 + t103)) : Int).toNat x0.size).toList = ([108] : List UInt8) then (some true) else (some ((x0.extract ((wrap64 (x1 + t103)) : Int).toNat x0.size).toList == ([76] : List UInt8))))))) else (none)) else (none))))
end
def regletref04_ends.f (k : Nat) (a0 : ByteArray) (a1 : Int) (a2 : Int) (a3 : Int) (a4 : Bool) : Option (Bool) := if a1 < (a0.size : Int) then (if 0 ≤ a1 then (if (bt a0 a1) = a2 then (regletref04_ends.j0 k a0 a1 a4 true) else (regletref04_ends.j0 k a0 a1 a4 ((bt a0 a1) == a3))) else (none)) else (regletref04_ends.j0 k a0 a1 a4 false)
theorem regletref04_ends.mono_l : ∀ k, (∀ y0 y1 y2 y3, LeO (regletref04_ends.j0 k y0 y1 y2 y3) (regletref04_ends.j0 (k + 1) y0 y1 y2 y3)) ∧ (∀ y0 y1 y2, LeO (regletref04_ends.j1 k y0 y1 y2) (regletref04_ends.j1 (k + 1) y0 y1 y2))
 | 0 => ⟨fun _ _ _ _ r h => by simp [regletref04_ends.j0] at h, fun _ _ _ r h => by simp [regletref04_ends.j1] at h⟩
 | k + 1 => by
  obtain ⟨ih0, ih1⟩ := regletref04_ends.mono_l k
  refine ⟨?_, ?_⟩
  ·intro y0 y1 y2 y3
   unfold regletref04_ends.j0
   repeat' first
   | (with_reducible exact ih0 _ _ _ _)
   | (with_reducible exact ih1 _ _ _)
   | (with_reducible exact regletref04_run.mono _ _ _ _)
   | (with_reducible exact LeO.refl _)
   | (with_reducible exact LeO.none _)
   | (with_reducible refine LeO.ite ?_ ?_)
   | (with_reducible refine LeO.bind ?_ (fun _ => ?_))
   | exact ih0 _ _ _ _
   | exact ih1 _ _ _
   | exact regletref04_run.mono _ _ _ _
   | exact LeO.none _
   | refine LeO.ite ?_ ?_
   | refine LeO.bind ?_ (fun _ => ?_)
  intro y0 y1 y2
  unfold regletref04_ends.j1
  repeat' first
  | (with_reducible exact ih0 _ _ _ _)
  | (with_reducible exact ih1 _ _ _)
  | (with_reducible exact regletref04_run.mono _ _ _ _)
  | (with_reducible exact LeO.refl _)
  | (with_reducible exact LeO.none _)
  | (with_reducible refine LeO.ite ?_ ?_)
  | (with_reducible refine LeO.bind ?_ (fun _ => ?_))
  | exact ih0 _ _ _ _
  | exact ih1 _ _ _
  | exact regletref04_run.mono _ _ _ _
  | exact LeO.none _
  | refine LeO.ite ?_ ?_
  | refine LeO.bind ?_ (fun _ => ?_)
theorem regletref04_ends.mono : ∀ a0 a1 a2 a3 a4 k, LeO (regletref04_ends.f k a0 a1 a2 a3 a4) (regletref04_ends.f (k + 1) a0 a1 a2 a3 a4) := by
 intro a0 a1 a2 a3 a4 k
 obtain ⟨ih0, ih1⟩ := regletref04_ends.mono_l k
 unfold regletref04_ends.f
 repeat' first
   | (with_reducible exact ih0 _ _ _ _)
   | (with_reducible exact ih1 _ _ _)
   | (with_reducible exact regletref04_run.mono _ _ _ _)
   | (with_reducible exact LeO.refl _)
   | (with_reducible exact LeO.none _)
   | (with_reducible refine LeO.ite ?_ ?_)
   | (with_reducible refine LeO.bind ?_ (fun _ => ?_))
   | exact ih0 _ _ _ _
   | exact ih1 _ _ _
   | exact regletref04_run.mono _ _ _ _
   | exact LeO.none _
   | refine LeO.ite ?_ ?_
   | refine LeO.bind ?_ (fun _ => ?_)
set_option maxHeartbeats 8000000 in
set_option maxRecDepth 100000 in
theorem regletref04_ends.calls (k : Nat) (a0 : ByteArray) (a1 : Int) (a2 : Int) (a3 : Int) (a4 : Bool) (r : Bool) (w : World) (h : regletref04_ends.f k a0 a1 a2 a3 a4 = some r) :
  Calls Tryd.prog 36 #[.string a0, .int .i64 a1, .int .u8 a2, .int .u8 a3, .bool a4] w fun e w' => e = .returned (.bool r) ∧ Drawn0 w w' := by
 have H : (if a1 < (a0.size : Int) then (if 0 ≤ a1 then (if (bt a0 a1) = a2 then (regletref04_ends.j0 k a0 a1 a4 true) else (regletref04_ends.j0 k a0 a1 a4 ((bt a0 a1) == a3))) else (none)) else (regletref04_ends.j0 k a0 a1 a4 false)) = some r := h
 clear h
 have HC6 := Aside0.mk H
 clear H
 go_enter Tryd.func36, Tryd.ntmps36
 go_upto_region 1 with (fail)
 go_cut [30] (fun v30 wc => ∃ (kq : Nat) (x30_5 : Bool), v30 = .bool x30_5 ∧ Aside0 (regletref04_ends.j0 kq a0 a1 a4 x30_5 = some r) ∧ Aside0 (kq ≤ k) ∧ Drawn0 w wc)
 case first =>
  have H := HC6.out
  clear HC6
  by_cases c7 : a1 < (a0.size : Int)
  ·rw [if_pos c7] at H
   have c7b0 := decide_eq_true c7
   clear c7
   (first | rw [c7b0] | (simp only [i64_w, i32_w]; rw [c7b0]) | skip)
   by_cases c8 : 0 ≤ a1
   ·rw [if_pos c8] at H
    have c8b0 := decide_eq_true c8
    clear c8
    by_cases c10 : (bt a0 a1) = a2
    ·rw [if_pos c10] at H
     have c10b0 := beq_iff_eq.mpr c10
     have c10b1 := bne_eq_false_iff_eq.mpr c10
     clear c10
     have H' := Aside0.mk H
     clear H
     have p9 : 0 ≤ (a1 : Int) := da_
     have q9 : a1 < (a0.size : Int) := da_
     have hx9 := bt_at a0 a1
     replace p9 := eq_true p9
     replace q9 := eq_true q9
     go_wp2
     go_meet
     case rel => exact ⟨_, (true), er_, H', ⟨om_⟩, dr_⟩
    rw [if_neg c10] at H
    have c10b0 := beq_eq_false_iff_ne.mpr c10
    have c10b1 := bne_iff_ne.mpr c10
    have H' := Aside0.mk H
    clear H
    have p9 : 0 ≤ (a1 : Int) := da_
    have q9 : a1 < (a0.size : Int) := da_
    have hx9 := bt_at a0 a1
    replace p9 := eq_true p9
    replace q9 := eq_true q9
    have p11 : 0 ≤ (a1 : Int) := da_
    have q11 : a1 < (a0.size : Int) := da_
    have hx11 := bt_at a0 a1
    replace p11 := eq_true p11
    replace q11 := eq_true q11
    go_wp2
    go_meet
    case rel => exact ⟨_, (((bt a0 a1) == a3)), er_, H', ⟨om_⟩, dr_⟩
   rw [if_neg c8] at H
   exact absurd H (by simp)
  rw [if_neg c7] at H
  have c7b0 := decide_eq_false c7
  clear c7
  (first | rw [c7b0] | (simp only [i64_w, i32_w]; rw [c7b0]) | skip)
  have H' := Aside0.mk H
  clear H
  go_wp2
  go_meet
  case rel => exact ⟨_, (false), er_, H', ⟨om_⟩, dr_⟩
 case rest =>
  clear HC6
  try clear c1
  try clear p1
  try clear q1
  try clear hx1
  try clear p2
  try clear c3
  try clear c7
  try clear c7b0
  try clear c8
  try clear c8b0
  try clear p9
  try clear q9
  try clear hx9
  try clear c10
  try clear c10b0
  try clear c10b1
  try clear p11
  try clear q11
  try clear hx11
  try clear p11
  try clear p9
  try clear q11
  try clear q9
  obtain ⟨kq, x30_5, rfl, HA, HJ5, ⟨mc5, rfl⟩⟩ := hcut
  cases kq with
  | zero => exact absurd HA.out (by simp [regletref04_ends.j0])
  | succ kj5 =>
   have H := HA.out
   clear HA
   simp only [regletref04_ends.j0] at H
   by_cases c12 : x30_5 = true
   ·subst c12
    have H1 : (if (wrap64 (a1 + 1)) < (a0.size : Int) then (if 0 ≤ (wrap64 (a1 + 1)) then (if (bt a0 (wrap64 (a1 + 1))) = 43 then (regletref04_ends.j1 kj5 a0 (wrap64 (a1 + 1)) true) else (regletref04_ends.j1 kj5 a0 (wrap64 (a1 + 1)) ((bt a0 (wrap64 (a1 + 1))) == 45))) else (none)) else (regletref04_ends.j1 kj5 a0 (wrap64 (a1 + 1)) false)) = some r := by rw [if_pos rfl] at H; exact H
    clear H
    have H := H1
    clear H1
    have HC13 := Aside0.mk H
    clear H
    go_upto_region 3 with (fail)
    go_cut [48] (fun v48 wc => ∃ (kq : Nat) (x48_12 : Bool), v48 = .bool x48_12 ∧ Aside0 (regletref04_ends.j1 kq a0 (wrap64 (a1 + 1)) x48_12 = some r) ∧ Aside0 (kq ≤ kj5) ∧ Drawn0 w wc)
    case first =>
     have H := HC13.out
     clear HC13
     by_cases c14 : (wrap64 (a1 + 1)) < (a0.size : Int)
     ·rw [if_pos c14] at H
      have c14b0 := decide_eq_true c14
      clear c14
      (first | rw [c14b0] | (simp only [i64_w, i32_w]; rw [c14b0]) | skip)
      obtain ⟨ji15, hji15⟩ : ∃ j_ : Int, (wrap64 (a1 + 1)) = j_ := ⟨_, rfl⟩
      replace H : (if 0 ≤ (ji15) then (if (bt a0 (ji15)) = 43 then (regletref04_ends.j1 kj5 a0 ji15 true) else (regletref04_ends.j1 kj5 a0 ji15 ((bt a0 (ji15)) == 45))) else (none)) = some r := by first | (rw [hji15] at H; exact H) | (simp only [hji15] at H ⊢; exact H)
      (try rw [hji15] at c14b0)
      have hji15w : (IntKind.i64.wrap (a1 + 1)) = ji15 := (i64_w _).trans hji15
      by_cases c16 : 0 ≤ (ji15)
      ·rw [if_pos c16] at H
       have c16b0 := decide_eq_true c16
       clear c16
       by_cases c18 : (bt a0 (ji15)) = 43
       ·rw [if_pos c18] at H
        have c18b0 := beq_iff_eq.mpr c18
        have c18b1 := bne_eq_false_iff_eq.mpr c18
        clear c18
        have H' := Aside0.mk H
        clear H
        have p17 : 0 ≤ ((ji15) : Int) := da_
        have q17 : (ji15) < (a0.size : Int) := da_
        have hx17 := bt_at a0 (ji15)
        replace p17 := eq_true p17
        replace q17 := eq_true q17
        go_wp2
        go_meet
        case rel => exact ⟨_, (true), er_, (by first | exact H' | (rw [hji15]; exact H')), ⟨by have := HJ5.out; first | omega | exact Nat.le_refl _⟩, dr_⟩
       rw [if_neg c18] at H
       have c18b0 := beq_eq_false_iff_ne.mpr c18
       have c18b1 := bne_iff_ne.mpr c18
       have H' := Aside0.mk H
       clear H
       have p17 : 0 ≤ ((ji15) : Int) := da_
       have q17 : (ji15) < (a0.size : Int) := da_
       have hx17 := bt_at a0 (ji15)
       replace p17 := eq_true p17
       replace q17 := eq_true q17
       have p19 : 0 ≤ ((ji15) : Int) := da_
       have q19 : (ji15) < (a0.size : Int) := da_
       have hx19 := bt_at a0 (ji15)
       replace p19 := eq_true p19
       replace q19 := eq_true q19
       go_wp2
       go_meet
       case rel => exact ⟨_, (((bt a0 (ji15)) == 45)), (by first | rfl | (simp; done) | (simp only [← hji15] <;> (first | rfl | simp)) | (simp [*]; done)), (by first | exact H' | (rw [hji15]; exact H')), ⟨by have := HJ5.out; first | omega | exact Nat.le_refl _⟩, dr_⟩
      rw [if_neg c16] at H
      exact absurd H (by simp)
     rw [if_neg c14] at H
     have c14b0 := decide_eq_false c14
     clear c14
     (first | rw [c14b0] | (simp only [i64_w, i32_w]; rw [c14b0]) | skip)
     have H' := Aside0.mk H
     clear H
     go_wp2
     go_meet
     case rel => exact ⟨_, (false), er_, H', ⟨by have := HJ5.out; first | omega | exact Nat.le_refl _⟩, dr_⟩
    case rest =>
     clear HC13
     try clear c1
     try clear p1
     try clear q1
     try clear hx1
     try clear p2
     try clear c3
     try clear c5
     try clear p6
     try clear c7
     try clear c7b0
     try clear c8
     try clear c8b0
     try clear p9
     try clear q9
     try clear hx9
     try clear c10
     try clear c10b0
     try clear c10b1
     try clear p11
     try clear q11
     try clear hx11
     try clear c12
     try clear c14
     try clear c14b0
     try clear c16
     try clear c16b0
     try clear p17
     try clear q17
     try clear hx17
     try clear c18
     try clear c18b0
     try clear c18b1
     try clear p19
     try clear q19
     try clear hx19
     try clear p1
     try clear p11
     try clear p17
     try clear p19
     try clear p2
     try clear p9
     try clear q1
     try clear q11
     try clear q17
     try clear q19
     try clear q9
     obtain ⟨kq, x48_12, rfl, HA, HJ12, ⟨mc12, rfl⟩⟩ := hcut
     cases kq with
     | zero => exact absurd HA.out (by simp [regletref04_ends.j1])
     | succ kj12 =>
      have H := HA.out
      clear HA
      simp only [regletref04_ends.j1] at H
      by_cases c20 : x48_12 = true
      ·subst c20
       have H1 : ((regletref04_run.f kj12 a0 (wrap64 ((wrap64 (a1 + 1)) + 1)) 10).bind fun t102 => (if t102 = 0 then (some false) else (if 0 ≤ (wrap64 ((wrap64 ((wrap64 (a1 + 1)) + 1)) + t102)) then (if (wrap64 ((wrap64 ((wrap64 (a1 + 1)) + 1)) + t102)) ≤ (a0.size : Int) then (if (a0.extract ((wrap64 ((wrap64 ((wrap64 (a1 + 1)) + 1)) + t102)) : Int).toNat a0.size).toList = ([] : List UInt8) then (some true) else (if (a0.extract ((wrap64 ((wrap64 ((wrap64 (a1 + 1)) + 1)) + t102)) : Int).toNat a0.size).toList = ([102] : List UInt8) then (some true) else (if (a0.extract ((wrap64 ((wrap64 ((wrap64 (a1 + 1)) + 1)) + t102)) : Int).toNat a0.size).toList = ([70] : List UInt8) then (some true) else (if (a0.extract ((wrap64 ((wrap64 ((wrap64 (a1 + 1)) + 1)) + t102)) : Int).toNat a0.size).toList = ([108] : List UInt8) then (some true) else (some ((a0.extract ((wrap64 ((wrap64 ((wrap64 (a1 + 1)) + 1)) + t102)) : Int).toNat a0.size).toList == ([76] : List UInt8))))))) else (none)) else (none)))) = some r := by rw [if_pos rfl] at H; exact H
       clear H
       have H := H1
       clear H1
       replace H := Option.bind_eq_some_iff.mp H
       obtain ⟨t102, A210, H⟩ := H
       replace H : (if t102 = 0 then (some false) else (if 0 ≤ (wrap64 ((wrap64 ((wrap64 (a1 + 1)) + 1)) + t102)) then (if (wrap64 ((wrap64 ((wrap64 (a1 + 1)) + 1)) + t102)) ≤ (a0.size : Int) then (if (a0.extract ((wrap64 ((wrap64 ((wrap64 (a1 + 1)) + 1)) + t102)) : Int).toNat a0.size).toList = ([] : List UInt8) then (some true) else (if (a0.extract ((wrap64 ((wrap64 ((wrap64 (a1 + 1)) + 1)) + t102)) : Int).toNat a0.size).toList = ([102] : List UInt8) then (some true) else (if (a0.extract ((wrap64 ((wrap64 ((wrap64 (a1 + 1)) + 1)) + t102)) : Int).toNat a0.size).toList = ([70] : List UInt8) then (some true) else (if (a0.extract ((wrap64 ((wrap64 ((wrap64 (a1 + 1)) + 1)) + t102)) : Int).toNat a0.size).toList = ([108] : List UInt8) then (some true) else (some ((a0.extract ((wrap64 ((wrap64 ((wrap64 (a1 + 1)) + 1)) + t102)) : Int).toNat a0.size).toList == ([76] : List UInt8))))))) else (none)) else (none))) = some r := H
       have A21 := Aside0.mk A210
       clear A210
       by_cases c22 : t102 = 0
       ·rw [if_pos c22] at H
        have c22b0 := beq_iff_eq.mpr c22
        have c22b1 := bne_eq_false_iff_eq.mpr c22
        clear c22
        obtain rfl := Option.some.inj H
        go_wp2_with (first | ((with_reducible refine gate_callee (f := 35) rfl ?_); refine goesL_ (some 53) rfl rfl Tryd.func35 (by kernel_rfl) rfl #[.string a0, .int .i64 (wrap64 ((wrap64 (a1 + 1)) + 1)), .int .i64 10] rfl ar_ ?_; (with_reducible refine (regletref04_run.calls kj12 a0 (wrap64 ((wrap64 (a1 + 1)) + 1)) 10 t102 _ A21.out).mono ?_); rintro e w' ⟨rfl, ⟨nd, rfl⟩⟩; refine ⟨_, rfl, ?_⟩))
        go_ret
        exact ⟨er_, dr_⟩
       rw [if_neg c22] at H
       have c22b0 := beq_eq_false_iff_ne.mpr c22
       have c22b1 := bne_iff_ne.mpr c22
       obtain ⟨ji23, hji23⟩ : ∃ j_ : Int, (wrap64 ((wrap64 ((wrap64 (a1 + 1)) + 1)) + t102)) = j_ := ⟨_, rfl⟩
       replace H : (if 0 ≤ (ji23) then (if (ji23) ≤ (a0.size : Int) then (if (a0.extract ((ji23) : Int).toNat a0.size).toList = ([] : List UInt8) then (some true) else (if (a0.extract ((ji23) : Int).toNat a0.size).toList = ([102] : List UInt8) then (some true) else (if (a0.extract ((ji23) : Int).toNat a0.size).toList = ([70] : List UInt8) then (some true) else (if (a0.extract ((ji23) : Int).toNat a0.size).toList = ([108] : List UInt8) then (some true) else (some ((a0.extract ((ji23) : Int).toNat a0.size).toList == ([76] : List UInt8))))))) else (none)) else (none)) = some r := by first | (rw [hji23] at H; exact H) | (simp only [hji23] at H ⊢; exact H)
       (try rw [hji23] at A21)
       have hji23w : (IntKind.i64.wrap ((wrap64 ((wrap64 (a1 + 1)) + 1)) + t102)) = ji23 := (i64_w _).trans hji23
       by_cases c24 : 0 ≤ (ji23)
       ·rw [if_pos c24] at H
        have c24b0 := eq_true c24
        have c24b1 := decide_eq_true c24
        clear c24
        by_cases c25 : (ji23) ≤ (a0.size : Int)
        ·rw [if_pos c25] at H
         have c25b0 := eq_true c25
         have c25b1 := decide_eq_true c25
         clear c25
         by_cases c26 : (a0.extract ((ji23) : Int).toNat a0.size).toList = ([] : List UInt8)
         ·rw [if_pos c26] at H
          have c26b0 := beq_iff_eq.mpr c26
          have c26b1 := bne_eq_false_iff_eq.mpr c26
          clear c26
          obtain rfl := Option.some.inj H
          go_wp2_with (first | ((with_reducible refine gate_callee (f := 35) rfl ?_); refine goesL_ (some 53) rfl rfl Tryd.func35 (by kernel_rfl) rfl #[.string a0, .int .i64 (wrap64 ((wrap64 (a1 + 1)) + 1)), .int .i64 10] rfl ar_ ?_; (with_reducible refine (regletref04_run.calls kj12 a0 (wrap64 ((wrap64 (a1 + 1)) + 1)) 10 t102 _ A21.out).mono ?_); rintro e w' ⟨rfl, ⟨nd, rfl⟩⟩; refine ⟨_, rfl, ?_⟩))
          go_ret
          exact ⟨by first | rfl | (simp; done) | (simp only [← hji23] <;> (first | rfl | simp)) | (simp [*]; done), dr_⟩
         rw [if_neg c26] at H
         have c26b0 := beq_eq_false_iff_ne.mpr c26
         have c26b1 := bne_iff_ne.mpr c26
         by_cases c27 : (a0.extract ((ji23) : Int).toNat a0.size).toList = ([102] : List UInt8)
         ·rw [if_pos c27] at H
          have c27b0 := beq_iff_eq.mpr c27
          have c27b1 := bne_eq_false_iff_eq.mpr c27
          clear c27
          obtain rfl := Option.some.inj H
          go_wp2_with (first | ((with_reducible refine gate_callee (f := 35) rfl ?_); refine goesL_ (some 53) rfl rfl Tryd.func35 (by kernel_rfl) rfl #[.string a0, .int .i64 (wrap64 ((wrap64 (a1 + 1)) + 1)), .int .i64 10] rfl ar_ ?_; (with_reducible refine (regletref04_run.calls kj12 a0 (wrap64 ((wrap64 (a1 + 1)) + 1)) 10 t102 _ A21.out).mono ?_); rintro e w' ⟨rfl, ⟨nd, rfl⟩⟩; refine ⟨_, rfl, ?_⟩))
          go_ret
          exact ⟨by first | rfl | (simp; done) | (simp only [← hji23] <;> (first | rfl | simp)) | (simp [*]; done), dr_⟩
         rw [if_neg c27] at H
         have c27b0 := beq_eq_false_iff_ne.mpr c27
         have c27b1 := bne_iff_ne.mpr c27
         by_cases c28 : (a0.extract ((ji23) : Int).toNat a0.size).toList = ([70] : List UInt8)
         ·rw [if_pos c28] at H
          have c28b0 := beq_iff_eq.mpr c28
          have c28b1 := bne_eq_false_iff_eq.mpr c28
          clear c28
          obtain rfl := Option.some.inj H
          go_wp2_with (first | ((with_reducible refine gate_callee (f := 35) rfl ?_); refine goesL_ (some 53) rfl rfl Tryd.func35 (by kernel_rfl) rfl #[.string a0, .int .i64 (wrap64 ((wrap64 (a1 + 1)) + 1)), .int .i64 10] rfl ar_ ?_; (with_reducible refine (regletref04_run.calls kj12 a0 (wrap64 ((wrap64 (a1 + 1)) + 1)) 10 t102 _ A21.out).mono ?_); rintro e w' ⟨rfl, ⟨nd, rfl⟩⟩; refine ⟨_, rfl, ?_⟩))
          go_ret
          exact ⟨by first | rfl | (simp; done) | (simp only [← hji23] <;> (first | rfl | simp)) | (simp [*]; done), dr_⟩
         rw [if_neg c28] at H
         have c28b0 := beq_eq_false_iff_ne.mpr c28
         have c28b1 := bne_iff_ne.mpr c28
         by_cases c29 : (a0.extract ((ji23) : Int).toNat a0.size).toList = ([108] : List UInt8)
         ·rw [if_pos c29] at H
          have c29b0 := beq_iff_eq.mpr c29
          have c29b1 := bne_eq_false_iff_eq.mpr c29
          clear c29
          obtain rfl := Option.some.inj H
          go_wp2_with (first | ((with_reducible refine gate_callee (f := 35) rfl ?_); refine goesL_ (some 53) rfl rfl Tryd.func35 (by kernel_rfl) rfl #[.string a0, .int .i64 (wrap64 ((wrap64 (a1 + 1)) + 1)), .int .i64 10] rfl ar_ ?_; (with_reducible refine (regletref04_run.calls kj12 a0 (wrap64 ((wrap64 (a1 + 1)) + 1)) 10 t102 _ A21.out).mono ?_); rintro e w' ⟨rfl, ⟨nd, rfl⟩⟩; refine ⟨_, rfl, ?_⟩))
          go_ret
          exact ⟨by first | rfl | (simp; done) | (simp only [← hji23] <;> (first | rfl | simp)) | (simp [*]; done), dr_⟩
         rw [if_neg c29] at H
         have c29b0 := beq_eq_false_iff_ne.mpr c29
         have c29b1 := bne_iff_ne.mpr c29
         obtain rfl := Option.some.inj H
         go_wp2_with (first | ((with_reducible refine gate_callee (f := 35) rfl ?_); refine goesL_ (some 53) rfl rfl Tryd.func35 (by kernel_rfl) rfl #[.string a0, .int .i64 (wrap64 ((wrap64 (a1 + 1)) + 1)), .int .i64 10] rfl ar_ ?_; (with_reducible refine (regletref04_run.calls kj12 a0 (wrap64 ((wrap64 (a1 + 1)) + 1)) 10 t102 _ A21.out).mono ?_); rintro e w' ⟨rfl, ⟨nd, rfl⟩⟩; refine ⟨_, rfl, ?_⟩))
         go_ret
         exact ⟨by first | rfl | (simp; done) | (simp only [← hji23] <;> (first | rfl | simp)) | (simp [*]; done), dr_⟩
        rw [if_neg c25] at H
        exact absurd H (by simp)
       rw [if_neg c24] at H
       exact absurd H (by simp)
      replace c20 := Bool.eq_false_iff.mpr c20
      subst c20
      have H1 : ((regletref04_run.f kj12 a0 (wrap64 (a1 + 1)) 10).bind fun t103 => (if t103 = 0 then (some false) else (if 0 ≤ (wrap64 ((wrap64 (a1 + 1)) + t103)) then (if (wrap64 ((wrap64 (a1 + 1)) + t103)) ≤ (a0.size : Int) then (if (a0.extract ((wrap64 ((wrap64 (a1 + 1)) + t103)) : Int).toNat a0.size).toList = ([] : List UInt8) then (some true) else (if (a0.extract ((wrap64 ((wrap64 (a1 + 1)) + t103)) : Int).toNat a0.size).toList = ([102] : List UInt8) then (some true) else (if (a0.extract ((wrap64 ((wrap64 (a1 + 1)) + t103)) : Int).toNat a0.size).toList = ([70] : List UInt8) then (some true) else (if (a0.extract ((wrap64 ((wrap64 (a1 + 1)) + t103)) : Int).toNat a0.size).toList = ([108] : List UInt8) then (some true) else (some ((a0.extract ((wrap64 ((wrap64 (a1 + 1)) + t103)) : Int).toNat a0.size).toList == ([76] : List UInt8))))))) else (none)) else (none)))) = some r := by rw [if_neg (show ¬ (false = true) by decide)] at H; exact H
      clear H
      have H := H1
      clear H1
      replace H := Option.bind_eq_some_iff.mp H
      obtain ⟨t103, A300, H⟩ := H
      replace H : (if t103 = 0 then (some false) else (if 0 ≤ (wrap64 ((wrap64 (a1 + 1)) + t103)) then (if (wrap64 ((wrap64 (a1 + 1)) + t103)) ≤ (a0.size : Int) then (if (a0.extract ((wrap64 ((wrap64 (a1 + 1)) + t103)) : Int).toNat a0.size).toList = ([] : List UInt8) then (some true) else (if (a0.extract ((wrap64 ((wrap64 (a1 + 1)) + t103)) : Int).toNat a0.size).toList = ([102] : List UInt8) then (some true) else (if (a0.extract ((wrap64 ((wrap64 (a1 + 1)) + t103)) : Int).toNat a0.size).toList = ([70] : List UInt8) then (some true) else (if (a0.extract ((wrap64 ((wrap64 (a1 + 1)) + t103)) : Int).toNat a0.size).toList = ([108] : List UInt8) then (some true) else (some ((a0.extract ((wrap64 ((wrap64 (a1 + 1)) + t103)) : Int).toNat a0.size).toList == ([76] : List UInt8))))))) else (none)) else (none))) = some r := H
      have A30 := Aside0.mk A300
      clear A300
      by_cases c31 : t103 = 0
      ·rw [if_pos c31] at H
       have c31b0 := beq_iff_eq.mpr c31
       have c31b1 := bne_eq_false_iff_eq.mpr c31
       clear c31
       obtain rfl := Option.some.inj H
       go_wp2_with (first | ((with_reducible refine gate_callee (f := 35) rfl ?_); refine goesL_ (some 53) rfl rfl Tryd.func35 (by kernel_rfl) rfl #[.string a0, .int .i64 (wrap64 (a1 + 1)), .int .i64 10] rfl ar_ ?_; (with_reducible refine (regletref04_run.calls kj12 a0 (wrap64 (a1 + 1)) 10 t103 _ A30.out).mono ?_); rintro e w' ⟨rfl, ⟨nd, rfl⟩⟩; refine ⟨_, rfl, ?_⟩))
       go_ret
       exact ⟨er_, dr_⟩
      rw [if_neg c31] at H
      have c31b0 := beq_eq_false_iff_ne.mpr c31
      have c31b1 := bne_iff_ne.mpr c31
      obtain ⟨ji32, hji32⟩ : ∃ j_ : Int, (wrap64 ((wrap64 (a1 + 1)) + t103)) = j_ := ⟨_, rfl⟩
      replace H : (if 0 ≤ (ji32) then (if (ji32) ≤ (a0.size : Int) then (if (a0.extract ((ji32) : Int).toNat a0.size).toList = ([] : List UInt8) then (some true) else (if (a0.extract ((ji32) : Int).toNat a0.size).toList = ([102] : List UInt8) then (some true) else (if (a0.extract ((ji32) : Int).toNat a0.size).toList = ([70] : List UInt8) then (some true) else (if (a0.extract ((ji32) : Int).toNat a0.size).toList = ([108] : List UInt8) then (some true) else (some ((a0.extract ((ji32) : Int).toNat a0.size).toList == ([76] : List UInt8))))))) else (none)) else (none)) = some r := by first | (rw [hji32] at H; exact H) | (simp only [hji32] at H ⊢; exact H)
      (try rw [hji32] at A30)
      have hji32w : (IntKind.i64.wrap ((wrap64 (a1 + 1)) + t103)) = ji32 := (i64_w _).trans hji32
      by_cases c33 : 0 ≤ (ji32)
      ·rw [if_pos c33] at H
       have c33b0 := eq_true c33
       have c33b1 := decide_eq_true c33
       clear c33
       by_cases c34 : (ji32) ≤ (a0.size : Int)
       ·rw [if_pos c34] at H
        have c34b0 := eq_true c34
        have c34b1 := decide_eq_true c34
        clear c34
        by_cases c35 : (a0.extract ((ji32) : Int).toNat a0.size).toList = ([] : List UInt8)
        ·rw [if_pos c35] at H
         have c35b0 := beq_iff_eq.mpr c35
         have c35b1 := bne_eq_false_iff_eq.mpr c35
         clear c35
         obtain rfl := Option.some.inj H
         go_wp2_with (first | ((with_reducible refine gate_callee (f := 35) rfl ?_); refine goesL_ (some 53) rfl rfl Tryd.func35 (by kernel_rfl) rfl #[.string a0, .int .i64 (wrap64 (a1 + 1)), .int .i64 10] rfl ar_ ?_; (with_reducible refine (regletref04_run.calls kj12 a0 (wrap64 (a1 + 1)) 10 t103 _ A30.out).mono ?_); rintro e w' ⟨rfl, ⟨nd, rfl⟩⟩; refine ⟨_, rfl, ?_⟩))
         go_ret
         exact ⟨by first | rfl | (simp; done) | (simp only [← hji32] <;> (first | rfl | simp)) | (simp [*]; done), dr_⟩
        rw [if_neg c35] at H
        have c35b0 := beq_eq_false_iff_ne.mpr c35
        have c35b1 := bne_iff_ne.mpr c35
        by_cases c36 : (a0.extract ((ji32) : Int).toNat a0.size).toList = ([102] : List UInt8)
        ·rw [if_pos c36] at H
         have c36b0 := beq_iff_eq.mpr c36
         have c36b1 := bne_eq_false_iff_eq.mpr c36
         clear c36
         obtain rfl := Option.some.inj H
         go_wp2_with (first | ((with_reducible refine gate_callee (f := 35) rfl ?_); refine goesL_ (some 53) rfl rfl Tryd.func35 (by kernel_rfl) rfl #[.string a0, .int .i64 (wrap64 (a1 + 1)), .int .i64 10] rfl ar_ ?_; (with_reducible refine (regletref04_run.calls kj12 a0 (wrap64 (a1 + 1)) 10 t103 _ A30.out).mono ?_); rintro e w' ⟨rfl, ⟨nd, rfl⟩⟩; refine ⟨_, rfl, ?_⟩))
         go_ret
         exact ⟨by first | rfl | (simp; done) | (simp only [← hji32] <;> (first | rfl | simp)) | (simp [*]; done), dr_⟩
        rw [if_neg c36] at H
        have c36b0 := beq_eq_false_iff_ne.mpr c36
        have c36b1 := bne_iff_ne.mpr c36
        by_cases c37 : (a0.extract ((ji32) : Int).toNat a0.size).toList = ([70] : List UInt8)
        ·rw [if_pos c37] at H
         have c37b0 := beq_iff_eq.mpr c37
         have c37b1 := bne_eq_false_iff_eq.mpr c37
         clear c37
         obtain rfl := Option.some.inj H
         go_wp2_with (first | ((with_reducible refine gate_callee (f := 35) rfl ?_); refine goesL_ (some 53) rfl rfl Tryd.func35 (by kernel_rfl) rfl #[.string a0, .int .i64 (wrap64 (a1 + 1)), .int .i64 10] rfl ar_ ?_; (with_reducible refine (regletref04_run.calls kj12 a0 (wrap64 (a1 + 1)) 10 t103 _ A30.out).mono ?_); rintro e w' ⟨rfl, ⟨nd, rfl⟩⟩; refine ⟨_, rfl, ?_⟩))
         go_ret
         exact ⟨by first | rfl | (simp; done) | (simp only [← hji32] <;> (first | rfl | simp)) | (simp [*]; done), dr_⟩
        rw [if_neg c37] at H
        have c37b0 := beq_eq_false_iff_ne.mpr c37
        have c37b1 := bne_iff_ne.mpr c37
        by_cases c38 : (a0.extract ((ji32) : Int).toNat a0.size).toList = ([108] : List UInt8)
        ·rw [if_pos c38] at H
         have c38b0 := beq_iff_eq.mpr c38
         have c38b1 := bne_eq_false_iff_eq.mpr c38
         clear c38
         obtain rfl := Option.some.inj H
         go_wp2_with (first | ((with_reducible refine gate_callee (f := 35) rfl ?_); refine goesL_ (some 53) rfl rfl Tryd.func35 (by kernel_rfl) rfl #[.string a0, .int .i64 (wrap64 (a1 + 1)), .int .i64 10] rfl ar_ ?_; (with_reducible refine (regletref04_run.calls kj12 a0 (wrap64 (a1 + 1)) 10 t103 _ A30.out).mono ?_); rintro e w' ⟨rfl, ⟨nd, rfl⟩⟩; refine ⟨_, rfl, ?_⟩))
         go_ret
         exact ⟨by first | rfl | (simp; done) | (simp only [← hji32] <;> (first | rfl | simp)) | (simp [*]; done), dr_⟩
        rw [if_neg c38] at H
        have c38b0 := beq_eq_false_iff_ne.mpr c38
        have c38b1 := bne_iff_ne.mpr c38
        obtain rfl := Option.some.inj H
        go_wp2_with (first | ((with_reducible refine gate_callee (f := 35) rfl ?_); refine goesL_ (some 53) rfl rfl Tryd.func35 (by kernel_rfl) rfl #[.string a0, .int .i64 (wrap64 (a1 + 1)), .int .i64 10] rfl ar_ ?_; (with_reducible refine (regletref04_run.calls kj12 a0 (wrap64 (a1 + 1)) 10 t103 _ A30.out).mono ?_); rintro e w' ⟨rfl, ⟨nd, rfl⟩⟩; refine ⟨_, rfl, ?_⟩))
        go_ret
        exact ⟨by first | rfl | (simp; done) | (simp only [← hji32] <;> (first | rfl | simp)) | (simp [*]; done), dr_⟩
       rw [if_neg c34] at H
       exact absurd H (by simp)
      rw [if_neg c33] at H
      exact absurd H (by simp)
   replace c12 := Bool.eq_false_iff.mpr c12
   subst c12
   have H1 : (if a4 = true then (if 0 ≤ a1 then (if a1 ≤ (a0.size : Int) then (if (a0.extract (a1 : Int).toNat a0.size).toList = ([] : List UInt8) then (some true) else (if (a0.extract (a1 : Int).toNat a0.size).toList = ([102] : List UInt8) then (some true) else (if (a0.extract (a1 : Int).toNat a0.size).toList = ([70] : List UInt8) then (some true) else (if (a0.extract (a1 : Int).toNat a0.size).toList = ([108] : List UInt8) then (some true) else (some ((a0.extract (a1 : Int).toNat a0.size).toList == ([76] : List UInt8))))))) else (none)) else (none)) else (some false)) = some r := by rw [if_neg (show ¬ (false = true) by decide)] at H; exact H
   clear H
   have H := H1
   clear H1
   by_cases c39 : a4 = true
   ·subst c39
    have H1 : (if 0 ≤ a1 then (if a1 ≤ (a0.size : Int) then (if (a0.extract (a1 : Int).toNat a0.size).toList = ([] : List UInt8) then (some true) else (if (a0.extract (a1 : Int).toNat a0.size).toList = ([102] : List UInt8) then (some true) else (if (a0.extract (a1 : Int).toNat a0.size).toList = ([70] : List UInt8) then (some true) else (if (a0.extract (a1 : Int).toNat a0.size).toList = ([108] : List UInt8) then (some true) else (some ((a0.extract (a1 : Int).toNat a0.size).toList == ([76] : List UInt8))))))) else (none)) else (none)) = some r := by rw [if_pos rfl] at H; exact H
    clear H
    have H := H1
    clear H1
    by_cases c40 : 0 ≤ a1
    ·rw [if_pos c40] at H
     have c40b0 := eq_true c40
     have c40b1 := decide_eq_true c40
     clear c40
     by_cases c41 : a1 ≤ (a0.size : Int)
     ·rw [if_pos c41] at H
      have c41b0 := eq_true c41
      have c41b1 := decide_eq_true c41
      clear c41
      by_cases c42 : (a0.extract (a1 : Int).toNat a0.size).toList = ([] : List UInt8)
      ·rw [if_pos c42] at H
       have c42b0 := beq_iff_eq.mpr c42
       have c42b1 := bne_eq_false_iff_eq.mpr c42
       clear c42
       obtain rfl := Option.some.inj H
       go_wp2
       go_ret
       exact ⟨er_, dr_⟩
      rw [if_neg c42] at H
      have c42b0 := beq_eq_false_iff_ne.mpr c42
      have c42b1 := bne_iff_ne.mpr c42
      by_cases c43 : (a0.extract (a1 : Int).toNat a0.size).toList = ([102] : List UInt8)
      ·rw [if_pos c43] at H
       have c43b0 := beq_iff_eq.mpr c43
       have c43b1 := bne_eq_false_iff_eq.mpr c43
       clear c43
       obtain rfl := Option.some.inj H
       go_wp2
       go_ret
       exact ⟨er_, dr_⟩
      rw [if_neg c43] at H
      have c43b0 := beq_eq_false_iff_ne.mpr c43
      have c43b1 := bne_iff_ne.mpr c43
      by_cases c44 : (a0.extract (a1 : Int).toNat a0.size).toList = ([70] : List UInt8)
      ·rw [if_pos c44] at H
       have c44b0 := beq_iff_eq.mpr c44
       have c44b1 := bne_eq_false_iff_eq.mpr c44
       clear c44
       obtain rfl := Option.some.inj H
       go_wp2
       go_ret
       exact ⟨er_, dr_⟩
      rw [if_neg c44] at H
      have c44b0 := beq_eq_false_iff_ne.mpr c44
      have c44b1 := bne_iff_ne.mpr c44
      by_cases c45 : (a0.extract (a1 : Int).toNat a0.size).toList = ([108] : List UInt8)
      ·rw [if_pos c45] at H
       have c45b0 := beq_iff_eq.mpr c45
       have c45b1 := bne_eq_false_iff_eq.mpr c45
       clear c45
       obtain rfl := Option.some.inj H
       go_wp2
       go_ret
       exact ⟨er_, dr_⟩
      rw [if_neg c45] at H
      have c45b0 := beq_eq_false_iff_ne.mpr c45
      have c45b1 := bne_iff_ne.mpr c45
      obtain rfl := Option.some.inj H
      go_wp2
      go_ret
      exact ⟨er_, dr_⟩
     rw [if_neg c41] at H
     exact absurd H (by simp)
    rw [if_neg c40] at H
    exact absurd H (by simp)
   replace c39 := Bool.eq_false_iff.mpr c39
   subst c39
   have H1 : (some false) = some r := by rw [if_neg (show ¬ (false = true) by decide)] at H; exact H
   clear H
   have H := H1
   clear H1
   obtain rfl := Option.some.inj H
   go_wp2
   go_ret
   exact ⟨er_, dr_⟩
mutual
def regletref04_Float.j0 : Nat → ByteArray → Int → Int → Option (Bool)
 | 0, _, _, _ => none
 | k + 1, x0, x3, x4 => (regletref04_run.f k x0 x4 x3).bind fun t105 => (if (wrap64 (x4 + t105)) < (x0.size : Int) then (if 0 ≤ (wrap64 (x4 + t105)) then (regletref04_Float.j1 k x0 x3 (wrap64 (x4 + t105)) t105 ((bt x0 (wrap64 (x4 + t105))) == 46)) else (none)) else (regletref04_Float.j1 k x0 x3 (wrap64 (x4 + t105)) t105 false))
def regletref04_Float.j1 : Nat → ByteArray → Int → Int → Int → Bool → Option (Bool)
 | 0, _, _, _, _, _ => none
 | k + 1, x0, x3, x4, x5, x6 => if x6 = true then ((regletref04_run.f k x0 (wrap64 (x4 + 1)) x3).bind fun t106 => (regletref04_Float.j2 k x0 x3 (wrap64 ((wrap64 (x4 + 1)) + t106)) (wrap64 (x5 + t106)) x6)) else (regletref04_Float.j2 k x0 x3 x4 x5 x6)
def regletref04_Float.j2 : Nat → ByteArray → Int → Int → Int → Bool → Option (Bool)
 | 0, _, _, _, _, _ => none
 | k + 1, x0, x3, x4, x5, x6 => if x5 = 0 then (some false) else (if x3 = 16 then ((regletref04_ends.f k x0 x4 112 80 false).bind fun t107 => (some t107)) else ((regletref04_ends.f k x0 x4 101 69 x6).bind fun t108 => (some t108)))
end
def regletref04_Float.f (k : Nat) (a0 : ByteArray) : Option (Bool) := (regletref04_hex.f a0).bind fun t104 => (if t104 = true then (regletref04_Float.j0 k a0 16 2) else (regletref04_Float.j0 k a0 10 0))
theorem regletref04_Float.mono_l : ∀ k, (∀ y0 y1 y2, LeO (regletref04_Float.j0 k y0 y1 y2) (regletref04_Float.j0 (k + 1) y0 y1 y2)) ∧ (∀ y0 y1 y2 y3 y4, LeO (regletref04_Float.j1 k y0 y1 y2 y3 y4) (regletref04_Float.j1 (k + 1) y0 y1 y2 y3 y4)) ∧ (∀ y0 y1 y2 y3 y4, LeO (regletref04_Float.j2 k y0 y1 y2 y3 y4) (regletref04_Float.j2 (k + 1) y0 y1 y2 y3 y4))
 | 0 => ⟨fun _ _ _ r h => by simp [regletref04_Float.j0] at h, fun _ _ _ _ _ r h => by simp [regletref04_Float.j1] at h, fun _ _ _ _ _ r h => by simp [regletref04_Float.j2] at h⟩
 | k + 1 => by
  obtain ⟨ih0, ih1, ih2⟩ := regletref04_Float.mono_l k
  refine ⟨?_, ?_, ?_⟩
  ·intro y0 y1 y2
   unfold regletref04_Float.j0
   repeat' first
   | (with_reducible exact ih0 _ _ _)
   | (with_reducible exact ih1 _ _ _ _ _)
   | (with_reducible exact ih2 _ _ _ _ _)
   | (with_reducible exact regletref04_ends.mono _ _ _ _ _ _)
   | (with_reducible exact regletref04_run.mono _ _ _ _)
   | (with_reducible exact LeO.refl _)
   | (with_reducible exact LeO.none _)
   | (with_reducible refine LeO.ite ?_ ?_)
   | (with_reducible refine LeO.bind ?_ (fun _ => ?_))
   | exact ih0 _ _ _
   | exact ih1 _ _ _ _ _
   | exact ih2 _ _ _ _ _
   | exact regletref04_ends.mono _ _ _ _ _ _
   | exact regletref04_run.mono _ _ _ _
   | exact LeO.none _
   | refine LeO.ite ?_ ?_
   | refine LeO.bind ?_ (fun _ => ?_)
  ·intro y0 y1 y2 y3 y4
   unfold regletref04_Float.j1
   repeat' first
   | (with_reducible exact ih0 _ _ _)
   | (with_reducible exact ih1 _ _ _ _ _)
   | (with_reducible exact ih2 _ _ _ _ _)
   | (with_reducible exact regletref04_ends.mono _ _ _ _ _ _)
   | (with_reducible exact regletref04_run.mono _ _ _ _)
   | (with_reducible exact LeO.refl _)
   | (with_reducible exact LeO.none _)
   | (with_reducible refine LeO.ite ?_ ?_)
   | (with_reducible refine LeO.bind ?_ (fun _ => ?_))
   | exact ih0 _ _ _
   | exact ih1 _ _ _ _ _
   | exact ih2 _ _ _ _ _
   | exact regletref04_ends.mono _ _ _ _ _ _
   | exact regletref04_run.mono _ _ _ _
   | exact LeO.none _
   | refine LeO.ite ?_ ?_
   | refine LeO.bind ?_ (fun _ => ?_)
  intro y0 y1 y2 y3 y4
  unfold regletref04_Float.j2
  repeat' first
  | (with_reducible exact ih0 _ _ _)
  | (with_reducible exact ih1 _ _ _ _ _)
  | (with_reducible exact ih2 _ _ _ _ _)
  | (with_reducible exact regletref04_ends.mono _ _ _ _ _ _)
  | (with_reducible exact regletref04_run.mono _ _ _ _)
  | (with_reducible exact LeO.refl _)
  | (with_reducible exact LeO.none _)
  | (with_reducible refine LeO.ite ?_ ?_)
  | (with_reducible refine LeO.bind ?_ (fun _ => ?_))
  | exact ih0 _ _ _
  | exact ih1 _ _ _ _ _
  | exact ih2 _ _ _ _ _
  | exact regletref04_ends.mono _ _ _ _ _ _
  | exact regletref04_run.mono _ _ _ _
  | exact LeO.none _
  | refine LeO.ite ?_ ?_
  | refine LeO.bind ?_ (fun _ => ?_)
theorem regletref04_Float.mono : ∀ a0 k, LeO (regletref04_Float.f k a0) (regletref04_Float.f (k + 1) a0) := by
 intro a0 k
 obtain ⟨ih0, ih1, ih2⟩ := regletref04_Float.mono_l k
 unfold regletref04_Float.f
 repeat' first
   | (with_reducible exact ih0 _ _ _)
   | (with_reducible exact ih1 _ _ _ _ _)
   | (with_reducible exact ih2 _ _ _ _ _)
   | (with_reducible exact regletref04_ends.mono _ _ _ _ _ _)
   | (with_reducible exact regletref04_run.mono _ _ _ _)
   | (with_reducible exact LeO.refl _)
   | (with_reducible exact LeO.none _)
   | (with_reducible refine LeO.ite ?_ ?_)
   | (with_reducible refine LeO.bind ?_ (fun _ => ?_))
   | exact ih0 _ _ _
   | exact ih1 _ _ _ _ _
   | exact ih2 _ _ _ _ _
   | exact regletref04_ends.mono _ _ _ _ _ _
   | exact regletref04_run.mono _ _ _ _
   | exact LeO.none _
   | refine LeO.ite ?_ ?_
   | refine LeO.bind ?_ (fun _ => ?_)
set_option maxHeartbeats 8000000 in
set_option maxRecDepth 100000 in
theorem regletref04_Float.calls (k : Nat) (a0 : ByteArray) (r : Bool) (w : World) (h : regletref04_Float.f k a0 = some r) :
  Calls Tryd.prog 16 #[.string a0] w fun e w' => e = .returned (.bool r) ∧ Drawn0 w w' := by
 have H : ((regletref04_hex.f a0).bind fun t104 => (if t104 = true then (regletref04_Float.j0 k a0 16 2) else (regletref04_Float.j0 k a0 10 0))) = some r := h
 clear h
 replace H := Option.bind_eq_some_iff.mp H
 obtain ⟨t104, A20, H⟩ := H
 replace H : (if t104 = true then (regletref04_Float.j0 k a0 16 2) else (regletref04_Float.j0 k a0 10 0)) = some r := H
 have A2 := Aside0.mk A20
 clear A20
 have HC3 := Aside0.mk H
 clear H
 go_enter Tryd.func16, Tryd.ntmps16
 go_upto_if 9 with (first | ((with_reducible refine gate_callee (f := 34) rfl ?_); refine goesL_ (some 9) rfl rfl Tryd.func34 (by kernel_rfl) rfl #[.string a0] rfl ar_ ?_; (with_reducible refine (regletref04_hex.calls a0 t104 _ A2.out).mono ?_); rintro e w' ⟨rfl, ⟨nd, rfl⟩⟩; refine ⟨_, rfl, ?_⟩))
 (try simp only [Act.put, List.setIfInBounds_toArray, List.set_cons_zero, List.set_cons_succ])
 go_cut [3, 4] (fun v3 v4 wc => ∃ (kq : Nat) (x3_2 : Int) (x4_2 : Int), v3 = .int .i64 x3_2 ∧ v4 = .int .i64 x4_2 ∧ Aside0 (regletref04_Float.j0 kq a0 x3_2 x4_2 = some r) ∧ Aside0 (kq ≤ k) ∧ Drawn0 w wc)
 case first =>
  have H := HC3.out
  clear HC3
  by_cases c4 : t104 = true
  ·subst c4
   have H1 : (regletref04_Float.j0 k a0 16 2) = some r := by rw [if_pos rfl] at H; exact H
   clear H
   have H := H1
   clear H1
   have H' := Aside0.mk H
   clear H
   go_wp2
   go_meet
   case rel => exact ⟨_, (16), (2), er_, er_, H', ⟨om_⟩, dr_⟩
  replace c4 := Bool.eq_false_iff.mpr c4
  subst c4
  have H1 : (regletref04_Float.j0 k a0 10 0) = some r := by rw [if_neg (show ¬ (false = true) by decide)] at H; exact H
  clear H
  have H := H1
  clear H1
  have H' := Aside0.mk H
  clear H
  go_wp2
  go_meet
  case rel => exact ⟨_, (10), (0), er_, er_, H', ⟨om_⟩, dr_⟩
 case rest =>
  clear HC3
  try clear c1
  try clear p2
  try clear c3
  try clear c4
  obtain ⟨kq, x3_2, x4_2, rfl, rfl, HA, HJ2, ⟨mc2, rfl⟩⟩ := hcut
  cases kq with
  | zero => exact absurd HA.out (by simp [regletref04_Float.j0])
  | succ kj2 =>
   have H := HA.out
   clear HA
   simp only [regletref04_Float.j0] at H
   replace H := Option.bind_eq_some_iff.mp H
   obtain ⟨t105, A50, H⟩ := H
   replace H : (if (wrap64 (x4_2 + t105)) < (a0.size : Int) then (if 0 ≤ (wrap64 (x4_2 + t105)) then (regletref04_Float.j1 kj2 a0 x3_2 (wrap64 (x4_2 + t105)) t105 ((bt a0 (wrap64 (x4_2 + t105))) == 46)) else (none)) else (regletref04_Float.j1 kj2 a0 x3_2 (wrap64 (x4_2 + t105)) t105 false)) = some r := H
   have A5 := Aside0.mk A50
   clear A50
   have HC6 := Aside0.mk H
   clear H
   go_upto_region 8 with (first | ((with_reducible refine gate_callee (f := 35) rfl ?_); refine goesL_ (some 13) rfl rfl Tryd.func35 (by kernel_rfl) rfl #[.string a0, .int .i64 x4_2, .int .i64 x3_2] rfl ar_ ?_; (with_reducible refine (regletref04_run.calls kj2 a0 x4_2 x3_2 t105 _ A5.out).mono ?_); rintro e w' ⟨rfl, ⟨nd, rfl⟩⟩; refine ⟨_, rfl, ?_⟩))
   (try simp only [Act.put, List.setIfInBounds_toArray, List.set_cons_zero, List.set_cons_succ])
   go_cut [6] (fun v6 wc => ∃ (kq : Nat) (x6_5 : Bool), v6 = .bool x6_5 ∧ Aside0 (regletref04_Float.j1 kq a0 x3_2 (wrap64 (x4_2 + t105)) t105 x6_5 = some r) ∧ Aside0 (kq ≤ kj2) ∧ Drawn0 w wc)
   case first =>
    have H := HC6.out
    clear HC6
    by_cases c7 : (wrap64 (x4_2 + t105)) < (a0.size : Int)
    ·rw [if_pos c7] at H
     have c7b0 := decide_eq_true c7
     clear c7
     (first | rw [c7b0] | (simp only [i64_w, i32_w]; rw [c7b0]) | skip)
     obtain ⟨ji8, hji8⟩ : ∃ j_ : Int, (wrap64 (x4_2 + t105)) = j_ := ⟨_, rfl⟩
     replace H : (if 0 ≤ (ji8) then (regletref04_Float.j1 kj2 a0 x3_2 ji8 t105 ((bt a0 (ji8)) == 46)) else (none)) = some r := by first | (rw [hji8] at H; exact H) | (simp only [hji8] at H ⊢; exact H)
     (try rw [hji8] at c7b0)
     have hji8w : (IntKind.i64.wrap (x4_2 + t105)) = ji8 := (i64_w _).trans hji8
     by_cases c9 : 0 ≤ (ji8)
     ·rw [if_pos c9] at H
      have c9b0 := decide_eq_true c9
      clear c9
      have H' := Aside0.mk H
      clear H
      have p10 : 0 ≤ ((ji8) : Int) := da_
      have q10 : (ji8) < (a0.size : Int) := da_
      have hx10 := bt_at a0 (ji8)
      replace p10 := eq_true p10
      replace q10 := eq_true q10
      go_wp2
      go_meet
      case rel => exact ⟨_, (((bt a0 (ji8)) == 46)), (by first | rfl | (simp; done) | (simp only [← hji8] <;> (first | rfl | simp)) | (simp [*]; done)), (by first | exact H' | (rw [hji8]; exact H')), ⟨by have := HJ2.out; first | omega | exact Nat.le_refl _⟩, dr_⟩
     rw [if_neg c9] at H
     exact absurd H (by simp)
    rw [if_neg c7] at H
    have c7b0 := decide_eq_false c7
    clear c7
    (first | rw [c7b0] | (simp only [i64_w, i32_w]; rw [c7b0]) | skip)
    have H' := Aside0.mk H
    clear H
    go_wp2
    go_meet
    case rel => exact ⟨_, (false), er_, (by first | exact H' | (rw [hji8]; exact H')), ⟨by have := HJ2.out; first | omega | exact Nat.le_refl _⟩, dr_⟩
   case rest =>
    clear HC6
    try clear c1
    try clear p1
    try clear q1
    try clear hx1
    try clear c2
    try clear p2
    try clear c3
    try clear c4
    try clear p6
    try clear c7
    try clear c7b0
    try clear c9
    try clear c9b0
    try clear p10
    try clear q10
    try clear hx10
    try clear p10
    try clear p2
    try clear q10
    obtain ⟨kq, x6_5, rfl, HA, HJ5, ⟨mc5, rfl⟩⟩ := hcut
    cases kq with
    | zero => exact absurd HA.out (by simp [regletref04_Float.j1])
    | succ kj5 =>
     have H := HA.out
     clear HA
     simp only [regletref04_Float.j1] at H
     have HC11 := Aside0.mk H
     clear H
     go_upto_if 27 with (fail)
     go_cut [4, 5] (fun v4 v5 wc => ∃ (kq : Nat) (x4_10 : Int) (x5_10 : Int), v4 = .int .i64 x4_10 ∧ v5 = .int .i64 x5_10 ∧ Aside0 (regletref04_Float.j2 kq a0 x3_2 x4_10 x5_10 x6_5 = some r) ∧ Aside0 (kq ≤ kj5) ∧ Drawn0 w wc)
     case first =>
      have H := HC11.out
      clear HC11
      by_cases c12 : x6_5 = true
      ·subst c12
       have H1 : ((regletref04_run.f kj5 a0 (wrap64 ((wrap64 (x4_2 + t105)) + 1)) x3_2).bind fun t106 => (regletref04_Float.j2 kj5 a0 x3_2 (wrap64 ((wrap64 ((wrap64 (x4_2 + t105)) + 1)) + t106)) (wrap64 (t105 + t106)) true)) = some r := by rw [if_pos rfl] at H; exact H
       clear H
       have H := H1
       clear H1
       replace H := Option.bind_eq_some_iff.mp H
       obtain ⟨t106, A130, H⟩ := H
       replace H : (regletref04_Float.j2 kj5 a0 x3_2 (wrap64 ((wrap64 ((wrap64 (x4_2 + t105)) + 1)) + t106)) (wrap64 (t105 + t106)) true) = some r := H
       have A13 := Aside0.mk A130
       clear A130
       have H' := Aside0.mk H
       clear H
       go_wp2_with (first | ((with_reducible refine gate_callee (f := 35) rfl ?_); refine goesL_ (some 32) rfl rfl Tryd.func35 (by kernel_rfl) rfl #[.string a0, .int .i64 (wrap64 ((wrap64 (x4_2 + t105)) + 1)), .int .i64 x3_2] rfl ar_ ?_; (with_reducible refine (regletref04_run.calls kj5 a0 (wrap64 ((wrap64 (x4_2 + t105)) + 1)) x3_2 t106 _ A13.out).mono ?_); rintro e w' ⟨rfl, ⟨nd, rfl⟩⟩; refine ⟨_, rfl, ?_⟩))
       go_meet
       case rel => exact ⟨_, (wrap64 ((wrap64 ((wrap64 (x4_2 + t105)) + 1)) + t106)), (wrap64 (t105 + t106)), er_, er_, (by first | exact H' | (rw [hji8]; exact H')), ⟨by have := HJ2.out; have := HJ5.out; first | omega | exact Nat.le_refl _⟩, dr_⟩
      replace c12 := Bool.eq_false_iff.mpr c12
      subst c12
      have H1 : (regletref04_Float.j2 kj5 a0 x3_2 (wrap64 (x4_2 + t105)) t105 false) = some r := by rw [if_neg (show ¬ (false = true) by decide)] at H; exact H
      clear H
      have H := H1
      clear H1
      have H' := Aside0.mk H
      clear H
      go_wp2
      go_meet
      case rel => exact ⟨_, ((wrap64 (x4_2 + t105))), (t105), er_, er_, (by first | exact H' | (rw [hji8]; exact H')), ⟨by have := HJ2.out; have := HJ5.out; first | omega | exact Nat.le_refl _⟩, dr_⟩
     case rest =>
      clear HC11
      try clear c1
      try clear p1
      try clear q1
      try clear hx1
      try clear c2
      try clear p2
      try clear c3
      try clear c4
      try clear c5
      try clear p6
      try clear c7
      try clear c7b0
      try clear c9
      try clear c9b0
      try clear p10
      try clear q10
      try clear hx10
      try clear c12
      try clear p1
      try clear p10
      try clear p2
      try clear p6
      try clear q1
      try clear q10
      obtain ⟨kq, x4_10, x5_10, rfl, rfl, HA, HJ10, ⟨mc10, rfl⟩⟩ := hcut
      cases kq with
      | zero => exact absurd HA.out (by simp [regletref04_Float.j2])
      | succ kj10 =>
       have H := HA.out
       clear HA
       simp only [regletref04_Float.j2] at H
       by_cases c14 : x5_10 = 0
       ·rw [if_pos c14] at H
        have c14b0 := beq_iff_eq.mpr c14
        have c14b1 := bne_eq_false_iff_eq.mpr c14
        clear c14
        obtain rfl := Option.some.inj H
        go_wp2
        go_ret
        exact ⟨er_, dr_⟩
       rw [if_neg c14] at H
       have c14b0 := beq_eq_false_iff_ne.mpr c14
       have c14b1 := bne_iff_ne.mpr c14
       by_cases c15 : x3_2 = 16
       ·rw [if_pos c15] at H
        have c15b0 := beq_iff_eq.mpr c15
        have c15b1 := bne_eq_false_iff_eq.mpr c15
        clear c15
        replace H := Option.bind_eq_some_iff.mp H
        obtain ⟨t107, A160, H⟩ := H
        replace H : (some t107) = some r := H
        have A16 := Aside0.mk A160
        clear A160
        obtain rfl := Option.some.inj H
        go_wp2_with (first | ((with_reducible refine gate_callee (f := 36) rfl ?_); refine goesL_ (some 46) rfl rfl Tryd.func36 (by kernel_rfl) rfl #[.string a0, .int .i64 x4_10, .int .u8 112, .int .u8 80, .bool false] rfl ar_ ?_; (with_reducible refine (regletref04_ends.calls kj10 a0 x4_10 112 80 false t107 _ A16.out).mono ?_); rintro e w' ⟨rfl, ⟨nd, rfl⟩⟩; refine ⟨_, rfl, ?_⟩))
        go_ret
        exact ⟨er_, dr_⟩
       rw [if_neg c15] at H
       have c15b0 := beq_eq_false_iff_ne.mpr c15
       have c15b1 := bne_iff_ne.mpr c15
       replace H := Option.bind_eq_some_iff.mp H
       obtain ⟨t108, A170, H⟩ := H
       replace H : (some t108) = some r := H
       have A17 := Aside0.mk A170
       clear A170
       obtain rfl := Option.some.inj H
       go_wp2_with (first | ((with_reducible refine gate_callee (f := 36) rfl ?_); refine goesL_ (some 50) rfl rfl Tryd.func36 (by kernel_rfl) rfl #[.string a0, .int .i64 x4_10, .int .u8 101, .int .u8 69, .bool x6_5] rfl ar_ ?_; (with_reducible refine (regletref04_ends.calls kj10 a0 x4_10 101 69 x6_5 t108 _ A17.out).mono ?_); rintro e w' ⟨rfl, ⟨nd, rfl⟩⟩; refine ⟨_, rfl, ?_⟩))
       go_ret
       exact ⟨er_, dr_⟩
mutual
def regletref04_Char.j0 : Nat → ByteArray → Bool → Option (Int × Int)
 | 0, _, _ => none
 | k + 1, x0, x22 => if x22 = true then (some (0, 40)) else ((regletref04_prefix.f k x0).bind fun t173 => ((regletref04_elements.f k x0 t173).bind fun bt174 => (if bt174.2 = true then (if (bt174.1.length : Int) > 4 then (regletref04_Char.j1 k t173 bt174.1 true) else (if t173 > 0 then (regletref04_Char.j1 k t173 bt174.1 (decide ((bt174.1.length : Int) > 1))) else (regletref04_Char.j1 k t173 bt174.1 false))) else (regletref04_Char.j1 k t173 bt174.1 true))))
def regletref04_Char.j1 : Nat → Int → List Int → Bool → Option (Int × Int)
 | 0, _, _, _ => none
 | k + 1, x6, x7, x46 => if x46 = true then (some (0, 40)) else (regletref04_Char.l0 k x6 x7 0 1 0)
def regletref04_Char.l0 : Nat → Int → List Int → Int → Int → Int → Option (Int × Int)
 | 0, _, _, _, _, _ => none
 | k + 1, x6, x7, x9, x10, x11 => if x11 < (x7.length : Int) then (if 0 ≤ x11 then (regletref04_Char.l0 k x6 x7 (wrap64 ((wrap64 (256 * x9)) + (rd x7 x11))) (wrap64 (256 * x10)) (wrap64 (x11 + 1))) else (none)) else (if x6 = 0 then (if x9 ≥ (wrap64 (Int.tdiv x10 2)) then (some (wrap64 (x9 - x10), 0)) else (some (x9, 0))) else (some (x9, 0)))
end
def regletref04_Char.f (k : Nat) (a0 : ByteArray) : Option (Int × Int) := (regletref02_One.f k a0).bind fun bt171 => (if bt171.2 = true then (regletref04_Char.j0 k a0 (bt171.1 != 3)) else (regletref04_Char.j0 k a0 true))
theorem regletref04_Char.mono_l : ∀ k, (∀ y0 y1, LeO (regletref04_Char.j0 k y0 y1) (regletref04_Char.j0 (k + 1) y0 y1)) ∧ (∀ y0 y1 y2, LeO (regletref04_Char.j1 k y0 y1 y2) (regletref04_Char.j1 (k + 1) y0 y1 y2)) ∧ (∀ y0 y1 y2 y3 y4, LeO (regletref04_Char.l0 k y0 y1 y2 y3 y4) (regletref04_Char.l0 (k + 1) y0 y1 y2 y3 y4))
 | 0 => ⟨fun _ _ r h => by simp [regletref04_Char.j0] at h, fun _ _ _ r h => by simp [regletref04_Char.j1] at h, fun _ _ _ _ _ r h => by simp [regletref04_Char.l0] at h⟩
 | k + 1 => by
  obtain ⟨ih0, ih1, ih2⟩ := regletref04_Char.mono_l k
  refine ⟨?_, ?_, ?_⟩
  ·intro y0 y1
   unfold regletref04_Char.j0
   repeat' first
   | (with_reducible exact ih0 _ _)
   | (with_reducible exact ih1 _ _ _)
   | (with_reducible exact ih2 _ _ _ _ _)
   | (with_reducible exact regletref02_One.mono _ _)
   | (with_reducible exact regletref04_elements.mono _ _ _)
   | (with_reducible exact regletref04_prefix.mono _ _)
   | (with_reducible exact LeO.refl _)
   | (with_reducible exact LeO.none _)
   | (with_reducible refine LeO.ite ?_ ?_)
   | (with_reducible refine LeO.bind ?_ (fun _ => ?_))
   | exact ih0 _ _
   | exact ih1 _ _ _
   | exact ih2 _ _ _ _ _
   | exact regletref02_One.mono _ _
   | exact regletref04_elements.mono _ _ _
   | exact regletref04_prefix.mono _ _
   | exact LeO.none _
   | refine LeO.ite ?_ ?_
   | refine LeO.bind ?_ (fun _ => ?_)
  ·intro y0 y1 y2
   unfold regletref04_Char.j1
   repeat' first
   | (with_reducible exact ih0 _ _)
   | (with_reducible exact ih1 _ _ _)
   | (with_reducible exact ih2 _ _ _ _ _)
   | (with_reducible exact regletref02_One.mono _ _)
   | (with_reducible exact regletref04_elements.mono _ _ _)
   | (with_reducible exact regletref04_prefix.mono _ _)
   | (with_reducible exact LeO.refl _)
   | (with_reducible exact LeO.none _)
   | (with_reducible refine LeO.ite ?_ ?_)
   | (with_reducible refine LeO.bind ?_ (fun _ => ?_))
   | exact ih0 _ _
   | exact ih1 _ _ _
   | exact ih2 _ _ _ _ _
   | exact regletref02_One.mono _ _
   | exact regletref04_elements.mono _ _ _
   | exact regletref04_prefix.mono _ _
   | exact LeO.none _
   | refine LeO.ite ?_ ?_
   | refine LeO.bind ?_ (fun _ => ?_)
  intro y0 y1 y2 y3 y4
  unfold regletref04_Char.l0
  repeat' first
  | (with_reducible exact ih0 _ _)
  | (with_reducible exact ih1 _ _ _)
  | (with_reducible exact ih2 _ _ _ _ _)
  | (with_reducible exact regletref02_One.mono _ _)
  | (with_reducible exact regletref04_elements.mono _ _ _)
  | (with_reducible exact regletref04_prefix.mono _ _)
  | (with_reducible exact LeO.refl _)
  | (with_reducible exact LeO.none _)
  | (with_reducible refine LeO.ite ?_ ?_)
  | (with_reducible refine LeO.bind ?_ (fun _ => ?_))
  | exact ih0 _ _
  | exact ih1 _ _ _
  | exact ih2 _ _ _ _ _
  | exact regletref02_One.mono _ _
  | exact regletref04_elements.mono _ _ _
  | exact regletref04_prefix.mono _ _
  | exact LeO.none _
  | refine LeO.ite ?_ ?_
  | refine LeO.bind ?_ (fun _ => ?_)
theorem regletref04_Char.mono : ∀ a0 k, LeO (regletref04_Char.f k a0) (regletref04_Char.f (k + 1) a0) := by
 intro a0 k
 obtain ⟨ih0, ih1, ih2⟩ := regletref04_Char.mono_l k
 unfold regletref04_Char.f
 repeat' first
   | (with_reducible exact ih0 _ _)
   | (with_reducible exact ih1 _ _ _)
   | (with_reducible exact ih2 _ _ _ _ _)
   | (with_reducible exact regletref02_One.mono _ _)
   | (with_reducible exact regletref04_elements.mono _ _ _)
   | (with_reducible exact regletref04_prefix.mono _ _)
   | (with_reducible exact LeO.refl _)
   | (with_reducible exact LeO.none _)
   | (with_reducible refine LeO.ite ?_ ?_)
   | (with_reducible refine LeO.bind ?_ (fun _ => ?_))
   | exact ih0 _ _
   | exact ih1 _ _ _
   | exact ih2 _ _ _ _ _
   | exact regletref02_One.mono _ _
   | exact regletref04_elements.mono _ _ _
   | exact regletref04_prefix.mono _ _
   | exact LeO.none _
   | refine LeO.ite ?_ ?_
   | refine LeO.bind ?_ (fun _ => ?_)
set_option maxHeartbeats 8000000 in
set_option maxRecDepth 100000 in
theorem regletref04_Char.calls (k : Nat) (a0 : ByteArray) (r1 : Int) (r2 : Int) (w : World) (h : regletref04_Char.f k a0 = some (r1, r2)) :
  Calls Tryd.prog 45 #[.string a0] w fun e w' => e = .returned (.tuple #[.int .i64 r1, .int .i64 r2]) ∧ Below w.heap.size w w' := by
 have HB := Aside0.mk (Below.refl w.heap.size w)
 have H : ((regletref02_One.f k a0).bind fun bt171 => (if bt171.2 = true then (regletref04_Char.j0 k a0 (bt171.1 != 3)) else (regletref04_Char.j0 k a0 true))) = some (r1, r2) := h
 clear h
 replace H := Option.bind_eq_some_iff.mp H
 obtain ⟨⟨t171, t172⟩, A20, H⟩ := H
 replace H : (if t172 = true then (regletref04_Char.j0 k a0 (t171 != 3)) else (regletref04_Char.j0 k a0 true)) = some (r1, r2) := H
 have A2 := Aside0.mk A20
 clear A20
 have HC3 := Aside0.mk H
 clear H
 go_enter Tryd.func45, Tryd.ntmps45
 go_upto_region 2 with (first | ((with_reducible refine gate_callee (f := 56) rfl ?_); refine goesL_ (some 14) rfl rfl Tryd.func56 (by kernel_rfl) rfl #[.string a0] rfl ar_ ?_; (with_reducible refine (regletref02_One.calls k a0 t171 t172 _ A2.out).mono ?_); rintro e w4 ⟨rfl, hb⟩; refine ⟨_, rfl, ?_⟩; have n0_ := Aside0.mk (below_step bl_ hb); clear HB; have HB := n0_; clear n0_; (try clear hb); (try clear hb2); (try clear hk); (try clear hi)))
 (try simp only [Act.put, List.setIfInBounds_toArray, List.set_cons_zero, List.set_cons_succ])
 go_cut [22] (fun v22 wc => ∃ (kq : Nat) (x22_2 : Bool), v22 = .bool x22_2 ∧ Aside0 (regletref04_Char.j0 kq a0 x22_2 = some (r1, r2)) ∧ Aside0 (kq ≤ k) ∧ Aside0 (Below w.heap.size w wc))
 case first =>
  have H := HC3.out
  clear HC3
  by_cases c5 : t172 = true
  ·subst c5
   have H1 : (regletref04_Char.j0 k a0 (t171 != 3)) = some (r1, r2) := by rw [if_pos rfl] at H; exact H
   clear H
   have H := H1
   clear H1
   have H' := Aside0.mk H
   clear H
   go_wp2
   go_meet
   case rel => exact ⟨_, ((t171 != 3)), er_, H', ⟨om_⟩, ⟨bl_⟩⟩
  replace c5 := Bool.eq_false_iff.mpr c5
  subst c5
  have H1 : (regletref04_Char.j0 k a0 true) = some (r1, r2) := by rw [if_neg (show ¬ (false = true) by decide)] at H; exact H
  clear H
  have H := H1
  clear H1
  have H' := Aside0.mk H
  clear H
  go_wp2
  go_meet
  case rel => exact ⟨_, (true), er_, H', ⟨om_⟩, ⟨bl_⟩⟩
 case rest =>
  clear HC3
  try clear p2
  try clear c4
  try clear c5
  obtain ⟨kq, x22_2, rfl, HA, HJ2, HB⟩ := hcut
  cases kq with
  | zero => exact absurd HA.out (by simp [regletref04_Char.j0])
  | succ kj2 =>
   have H := HA.out
   clear HA
   simp only [regletref04_Char.j0] at H
   by_cases c6 : x22_2 = true
   ·subst c6
    have H1 : (some (0, 40)) = some (r1, r2) := by rw [if_pos rfl] at H; exact H
    clear H
    have H := H1
    clear H1
    simp only [Option.some.injEq, Prod.mk.injEq] at H
    obtain ⟨rfl, rfl⟩ := H
    go_wp2
    go_ret2
    exact ⟨es_, bl_⟩
   replace c6 := Bool.eq_false_iff.mpr c6
   subst c6
   have H1 : ((regletref04_prefix.f kj2 a0).bind fun t173 => ((regletref04_elements.f kj2 a0 t173).bind fun bt174 => (if bt174.2 = true then (if (bt174.1.length : Int) > 4 then (regletref04_Char.j1 kj2 t173 bt174.1 true) else (if t173 > 0 then (regletref04_Char.j1 kj2 t173 bt174.1 (decide ((bt174.1.length : Int) > 1))) else (regletref04_Char.j1 kj2 t173 bt174.1 false))) else (regletref04_Char.j1 kj2 t173 bt174.1 true)))) = some (r1, r2) := by rw [if_neg (show ¬ (false = true) by decide)] at H; exact H
   clear H
   have H := H1
   clear H1
   replace H := Option.bind_eq_some_iff.mp H
   obtain ⟨t173, A70, H⟩ := H
   replace H : ((regletref04_elements.f kj2 a0 t173).bind fun bt174 => (if bt174.2 = true then (if (bt174.1.length : Int) > 4 then (regletref04_Char.j1 kj2 t173 bt174.1 true) else (if t173 > 0 then (regletref04_Char.j1 kj2 t173 bt174.1 (decide ((bt174.1.length : Int) > 1))) else (regletref04_Char.j1 kj2 t173 bt174.1 false))) else (regletref04_Char.j1 kj2 t173 bt174.1 true))) = some (r1, r2) := H
   have A7 := Aside0.mk A70
   clear A70
   replace H := Option.bind_eq_some_iff.mp H
   obtain ⟨⟨t174, t175⟩, A80, H⟩ := H
   replace H : (if t175 = true then (if (t174.length : Int) > 4 then (regletref04_Char.j1 kj2 t173 t174 true) else (if t173 > 0 then (regletref04_Char.j1 kj2 t173 t174 (decide ((t174.length : Int) > 1))) else (regletref04_Char.j1 kj2 t173 t174 false))) else (regletref04_Char.j1 kj2 t173 t174 true)) = some (r1, r2) := H
   have A8 := Aside0.mk A80
   clear A80
   have HC9 := Aside0.mk H
   clear H
   go_upto_region 6 with (first | ((with_reducible refine gate_callee (f := 57) rfl ?_); refine goesL_ (some 24) rfl rfl Tryd.func57 (by kernel_rfl) rfl #[.string a0] rfl ar_ ?_; (with_reducible refine (regletref04_prefix.calls kj2 a0 t173 _ A7.out).mono ?_); rintro e w' ⟨rfl, ⟨nd, rfl⟩⟩; refine ⟨_, rfl, ?_⟩) | ((with_reducible refine gate_callee (f := 58) rfl ?_); refine goesL_ (some 28) rfl rfl Tryd.func58 (by kernel_rfl) rfl #[.string a0, .int .i64 t173] rfl ar_ ?_; (with_reducible refine (regletref04_elements.calls kj2 a0 t173 t174 t175 _ A8.out).mono ?_); rintro e w10 ⟨v176, rfl, ho0, hb⟩; refine ⟨_, rfl, ?_⟩; have n0_ := Aside0.mk (Kd.R_lower ho0 (below_size bl_)); have n1_ := Aside0.mk (below_step bl_ hb); clear HB; have HO177 := n0_; have HB := n1_; clear n0_ n1_; (try clear hb); (try clear hb2); (try clear hk); (try clear hi); (try clear ho0)))
   (try simp only [Act.put, List.setIfInBounds_toArray, List.set_cons_zero, List.set_cons_succ])
   go_cut [46] (fun v46 wc => ∃ (kq : Nat) (x46_8 : Bool), v46 = .bool x46_8 ∧ Aside0 (regletref04_Char.j1 kq t173 t174 x46_8 = some (r1, r2)) ∧ Aside0 (kq ≤ kj2) ∧ Aside0 (Kd.R (Kd.int .i64) 2 wc w.heap.size (fun _ => True) v176 t174) ∧ Aside0 (Below w.heap.size w wc))
   case first =>
    have H := HC9.out
    clear HC9
    by_cases c11 : t175 = true
    ·subst c11
     have H1 : (if (t174.length : Int) > 4 then (regletref04_Char.j1 kj2 t173 t174 true) else (if t173 > 0 then (regletref04_Char.j1 kj2 t173 t174 (decide ((t174.length : Int) > 1))) else (regletref04_Char.j1 kj2 t173 t174 false))) = some (r1, r2) := by rw [if_pos rfl] at H; exact H
     clear H
     have H := H1
     clear H1
     by_cases c12 : (t174.length : Int) > 4
     ·rw [if_pos c12] at H
      have c12b0 : decide (4 < (t174.length : Int)) = true := decide_eq_true c12
      have c12b1 : decide (4 < t174.length) = true := decide_eq_true (by omega)
      clear c12
      (first | rw [c12b0] | (simp only [i64_w, i32_w]; rw [c12b0]) | skip)
      have H' := Aside0.mk H
      clear H
      obtain ⟨Ao13, co13, eo13⟩ := Kd.R_slice HO177.out
      subst eo13
      go_wp2
      go_meet
      case rel => exact ⟨_, (true), er_, H', ⟨by have := HJ2.out; first | omega | exact Nat.le_refl _⟩, ⟨by (with_reducible repeat (first | apply Kd.R_alloc | apply Kd.R_drewN | apply Kd.R_drew)); exact HO177.out⟩, ⟨bl_⟩⟩
     rw [if_neg c12] at H
     have c12b0 : decide (4 < (t174.length : Int)) = false := decide_eq_false c12
     have c12b1 : decide (4 < t174.length) = false := decide_eq_false (by omega)
     clear c12
     (first | rw [c12b0] | (simp only [i64_w, i32_w]; rw [c12b0]) | skip)
     by_cases c14 : t173 > 0
     ·rw [if_pos c14] at H
      have c14b0 : decide (0 < t173) = true := decide_eq_true c14
      clear c14
      have H' := Aside0.mk H
      clear H
      obtain ⟨Ao15, co15, eo15⟩ := Kd.R_slice HO177.out
      subst eo15
      go_wp2
      go_meet
      case rel => exact ⟨_, (decide ((t174.length : Int) > 1)), er_, H', ⟨by have := HJ2.out; first | omega | exact Nat.le_refl _⟩, ⟨by (with_reducible repeat (first | apply Kd.R_alloc | apply Kd.R_drewN | apply Kd.R_drew)); exact HO177.out⟩, ⟨bl_⟩⟩
     rw [if_neg c14] at H
     have c14b0 : decide (0 < t173) = false := decide_eq_false c14
     clear c14
     have H' := Aside0.mk H
     clear H
     obtain ⟨Ao16, co16, eo16⟩ := Kd.R_slice HO177.out
     subst eo16
     go_wp2
     go_meet
     case rel => exact ⟨_, (false), er_, H', ⟨by have := HJ2.out; first | omega | exact Nat.le_refl _⟩, ⟨by (with_reducible repeat (first | apply Kd.R_alloc | apply Kd.R_drewN | apply Kd.R_drew)); exact HO177.out⟩, ⟨bl_⟩⟩
    replace c11 := Bool.eq_false_iff.mpr c11
    subst c11
    have H1 : (regletref04_Char.j1 kj2 t173 t174 true) = some (r1, r2) := by rw [if_neg (show ¬ (false = true) by decide)] at H; exact H
    clear H
    have H := H1
    clear H1
    have H' := Aside0.mk H
    clear H
    go_wp2
    go_meet
    case rel => exact ⟨_, (true), er_, H', ⟨by have := HJ2.out; first | omega | exact Nat.le_refl _⟩, ⟨by (with_reducible repeat (first | apply Kd.R_alloc | apply Kd.R_drewN | apply Kd.R_drew)); exact HO177.out⟩, ⟨bl_⟩⟩
   case rest =>
    clear HC9
    try clear c1
    try clear p2
    try clear c4
    try clear c5
    try clear c6
    try clear c11
    try clear c12
    try clear c12b0
    try clear c12b1
    try clear c14
    try clear c14b0
    try clear p2
    obtain ⟨kq, x46_8, rfl, HA, HJ8, HO_7, HB⟩ := hcut
    cases kq with
    | zero => exact absurd HA.out (by simp [regletref04_Char.j1])
    | succ kj8 =>
     have H := HA.out
     clear HA
     simp only [regletref04_Char.j1] at H
     by_cases c17 : x46_8 = true
     ·subst c17
      have H1 : (some (0, 40)) = some (r1, r2) := by rw [if_pos rfl] at H; exact H
      clear H
      have H := H1
      clear H1
      simp only [Option.some.injEq, Prod.mk.injEq] at H
      obtain ⟨rfl, rfl⟩ := H
      go_wp2
      go_ret2
      exact ⟨es_, bl_⟩
     replace c17 := Bool.eq_false_iff.mpr c17
     subst c17
     have H1 : (regletref04_Char.l0 kj8 t173 t174 0 1 0) = some (r1, r2) := by rw [if_neg (show ¬ (false = true) by decide)] at H; exact H
     clear H
     have H := H1
     clear H1
     have H' := Aside0.mk H
     clear H
     go_wp2
     go_loopg [9, 10, 11] kj8 (fun kq v9 v10 v11 w' => ∃ (x9_3 : Int) (x10_3 : Int) (x11_3 : Int), v9 = .int .i64 x9_3 ∧ v10 = .int .i64 x10_3 ∧ v11 = .int .i64 x11_3 ∧ Aside0 (regletref04_Char.l0 kq t173 t174 x9_3 x10_3 x11_3 = some (r1, r2)) ∧ Aside0 (kq ≤ kj8) ∧ Aside0 (Kd.R (Kd.int .i64) 2 w' w.heap.size (fun _ => True) v176 t174) ∧ Aside0 (Below w.heap.size w w'))
     case atStart => exact ⟨(0), (1), (0), er_, er_, er_, H', ⟨Nat.le_refl _⟩, ⟨by (with_reducible repeat (first | apply Kd.R_alloc | apply Kd.R_drewN | apply Kd.R_drew)); exact HO_7.out⟩, ⟨bl_⟩⟩
     case round =>
      clear H'
      try clear c1
      try clear p2
      try clear c4
      try clear c5
      try clear c6
      try clear c11
      try clear c12
      try clear c12b0
      try clear c12b1
      try clear c14
      try clear c14b0
      try clear c17
      try clear p2
      obtain ⟨x9_3, x10_3, x11_3, rfl, rfl, rfl, HA, HK3, HO_7, HB⟩ := hrel
      cases gk with
      | zero => exact absurd HA.out (by simp [regletref04_Char.l0])
      | succ k3 =>
       have H := HA.out
       clear HA
       simp only [regletref04_Char.l0] at H
       by_cases c18 : x11_3 < (t174.length : Int)
       ·rw [if_pos c18] at H
        have c18b0 := decide_eq_true c18
        clear c18
        by_cases c19 : 0 ≤ x11_3
        ·rw [if_pos c19] at H
         have c19b0 := decide_eq_true c19
         clear c19
         have H' := Aside0.mk H
         clear H
         obtain ⟨Ao20, co20, eo20⟩ := Kd.R_slice HO_7.out
         subst eo20
         have p178 : 0 ≤ (x11_3 : Int) := da_
         have q178 : x11_3 < (t174.length : Int) := da_
         obtain ⟨ad178, e178, hx178_0⟩ := Kd.at_int (Kd.R_reads' HO_7.out).2.2 x11_3 p178 q178
         cases e178
         replace p178 := eq_true p178
         replace q178 := eq_true q178
         go_wp2
         go_roundg k3
         case measure => have := HJ2.out; have := HJ8.out; have := HK3.out; omega
         case rel => exact ⟨(wrap64 ((wrap64 (256 * x9_3)) + (rd t174 x11_3))), (wrap64 (256 * x10_3)), (wrap64 (x11_3 + 1)), er_, er_, er_, H', ⟨by have := HJ2.out; have := HJ8.out; have := HK3.out; omega⟩, ⟨by (with_reducible repeat (first | apply Kd.R_alloc | apply Kd.R_drewN | apply Kd.R_drew)); exact HO_7.out⟩, ⟨bl_⟩⟩
        rw [if_neg c19] at H
        exact absurd H (by simp)
       rw [if_neg c18] at H
       have c18b0 := decide_eq_false c18
       clear c18
       by_cases c21 : t173 = 0
       ·rw [if_pos c21] at H
        have c21b0 := beq_iff_eq.mpr c21
        have c21b1 := bne_eq_false_iff_eq.mpr c21
        clear c21
        by_cases c22 : x9_3 ≥ (wrap64 (Int.tdiv x10_3 2))
        ·rw [if_pos c22] at H
         have c22b0 : decide ((wrap64 (Int.tdiv x10_3 2)) ≤ x9_3) = true := decide_eq_true c22
         clear c22
         simp only [Option.some.injEq, Prod.mk.injEq] at H
         obtain ⟨rfl, rfl⟩ := H
         obtain ⟨Ao23, co23, eo23⟩ := Kd.R_slice HO_7.out
         subst eo23
         go_wp2
         go_ret2
         exact ⟨es_, bl_⟩
        rw [if_neg c22] at H
        have c22b0 : decide ((wrap64 (Int.tdiv x10_3 2)) ≤ x9_3) = false := decide_eq_false c22
        clear c22
        simp only [Option.some.injEq, Prod.mk.injEq] at H
        obtain ⟨rfl, rfl⟩ := H
        obtain ⟨Ao24, co24, eo24⟩ := Kd.R_slice HO_7.out
        subst eo24
        go_wp2
        go_ret2
        exact ⟨es_, bl_⟩
       rw [if_neg c21] at H
       have c21b0 := beq_eq_false_iff_ne.mpr c21
       have c21b1 := bne_iff_ne.mpr c21
       simp only [Option.some.injEq, Prod.mk.injEq] at H
       obtain ⟨rfl, rfl⟩ := H
       obtain ⟨Ao25, co25, eo25⟩ := Kd.R_slice HO_7.out
       subst eo25
       go_wp2
       go_ret2
       exact ⟨es_, bl_⟩
def regletref04_class.f (k : Nat) (a0 : Int) (a1 : ByteArray) : Option (Int) := if a0 = 1 then ((regletref04_Keyword.f k a1).bind fun t186 => (if t186 = true then (some 1) else (some 2))) else (if a0 = 2 then ((regletref04_Int.f k a1).bind fun bt187 => (if bt187.2.2 = 0 then (some 3) else ((regletref04_Float.f k a1).bind fun t190 => (if t190 = true then (some 4) else (some 0))))) else (if a0 = 3 then ((regletref04_Char.f k a1).bind fun bt191 => (if bt191.2 = 0 then (some 5) else (some 0))) else (if a0 = 4 then ((regletref04_Str.f k a1).bind fun bt193 => (if bt193.2 = 0 then (some 6) else (some 0))) else (if a0 = 5 then (some 7) else (some 0)))))
set_option maxHeartbeats 8000000 in
set_option maxRecDepth 100000 in
theorem regletref04_class.calls (k : Nat) (a0 : Int) (a1 : ByteArray) (r : Int) (w : World) (h : regletref04_class.f k a0 a1 = some r) :
  Calls Tryd.prog 30 #[.int .i64 a0, .string a1] w fun e w' => e = .returned (.int .i64 r) ∧ Below w.heap.size w w' := by
 have HB := Aside0.mk (Below.refl w.heap.size w)
 have H : (if a0 = 1 then ((regletref04_Keyword.f k a1).bind fun t186 => (if t186 = true then (some 1) else (some 2))) else (if a0 = 2 then ((regletref04_Int.f k a1).bind fun bt187 => (if bt187.2.2 = 0 then (some 3) else ((regletref04_Float.f k a1).bind fun t190 => (if t190 = true then (some 4) else (some 0))))) else (if a0 = 3 then ((regletref04_Char.f k a1).bind fun bt191 => (if bt191.2 = 0 then (some 5) else (some 0))) else (if a0 = 4 then ((regletref04_Str.f k a1).bind fun bt193 => (if bt193.2 = 0 then (some 6) else (some 0))) else (if a0 = 5 then (some 7) else (some 0)))))) = some r := h
 clear h
 by_cases c3 : a0 = 1
 ·rw [if_pos c3] at H
  have c3b0 := beq_iff_eq.mpr c3
  have c3b1 := bne_eq_false_iff_eq.mpr c3
  clear c3
  replace H := Option.bind_eq_some_iff.mp H
  obtain ⟨t186, A40, H⟩ := H
  replace H : (if t186 = true then (some 1) else (some 2)) = some r := H
  have A4 := Aside0.mk A40
  clear A40
  by_cases c5 : t186 = true
  ·subst c5
   have H1 : (some 1) = some r := by rw [if_pos rfl] at H; exact H
   clear H
   have H := H1
   clear H1
   obtain rfl := Option.some.inj H
   go_enter Tryd.func30, Tryd.ntmps30
   go_wp2_with (first | ((with_reducible refine gate_callee (f := 12) rfl ?_); refine goesL_ (some 16) rfl rfl Tryd.func12 (by kernel_rfl) rfl #[.string a1] rfl ar_ ?_; (with_reducible refine (regletref04_Keyword.calls k a1 true _ A4.out).mono ?_); rintro e w' ⟨rfl, ⟨nd, rfl⟩⟩; refine ⟨_, rfl, ?_⟩))
   go_ret
   exact ⟨es_, bl_⟩
  replace c5 := Bool.eq_false_iff.mpr c5
  subst c5
  have H1 : (some 2) = some r := by rw [if_neg (show ¬ (false = true) by decide)] at H; exact H
  clear H
  have H := H1
  clear H1
  obtain rfl := Option.some.inj H
  go_enter Tryd.func30, Tryd.ntmps30
  go_wp2_with (first | ((with_reducible refine gate_callee (f := 12) rfl ?_); refine goesL_ (some 16) rfl rfl Tryd.func12 (by kernel_rfl) rfl #[.string a1] rfl ar_ ?_; (with_reducible refine (regletref04_Keyword.calls k a1 false _ A4.out).mono ?_); rintro e w' ⟨rfl, ⟨nd, rfl⟩⟩; refine ⟨_, rfl, ?_⟩))
  go_ret
  exact ⟨es_, bl_⟩
 rw [if_neg c3] at H
 have c3b0 := beq_eq_false_iff_ne.mpr c3
 have c3b1 := bne_iff_ne.mpr c3
 by_cases c6 : a0 = 2
 ·rw [if_pos c6] at H
  have c6b0 := beq_iff_eq.mpr c6
  have c6b1 := bne_eq_false_iff_eq.mpr c6
  clear c6
  replace H := Option.bind_eq_some_iff.mp H
  obtain ⟨⟨t187, t188, t189⟩, A70, H⟩ := H
  replace H : (if t189 = 0 then (some 3) else ((regletref04_Float.f k a1).bind fun t190 => (if t190 = true then (some 4) else (some 0)))) = some r := H
  have A7 := Aside0.mk A70
  clear A70
  by_cases c8 : t189 = 0
  ·rw [if_pos c8] at H
   have c8b0 := beq_iff_eq.mpr c8
   have c8b1 := bne_eq_false_iff_eq.mpr c8
   clear c8
   obtain rfl := Option.some.inj H
   go_enter Tryd.func30, Tryd.ntmps30
   go_wp2_with (first | ((with_reducible refine gate_callee (f := 44) rfl ?_); refine goesL_ (some 21) rfl rfl Tryd.func44 (by kernel_rfl) rfl #[.string a1] rfl ar_ ?_; (with_reducible refine (regletref04_Int.calls k a1 t187 t188 t189 _ A7.out).mono ?_); rintro e w9 ⟨rfl, hb⟩; refine ⟨_, rfl, ?_⟩; have n0_ := Aside0.mk (below_step bl_ hb); clear HB; have HB := n0_; clear n0_; (try clear hb); (try clear hb2); (try clear hk); (try clear hi)))
   go_ret
   exact ⟨es_, bl_⟩
  rw [if_neg c8] at H
  have c8b0 := beq_eq_false_iff_ne.mpr c8
  have c8b1 := bne_iff_ne.mpr c8
  replace H := Option.bind_eq_some_iff.mp H
  obtain ⟨t190, A100, H⟩ := H
  replace H : (if t190 = true then (some 4) else (some 0)) = some r := H
  have A10 := Aside0.mk A100
  clear A100
  by_cases c11 : t190 = true
  ·subst c11
   have H1 : (some 4) = some r := by rw [if_pos rfl] at H; exact H
   clear H
   have H := H1
   clear H1
   obtain rfl := Option.some.inj H
   go_enter Tryd.func30, Tryd.ntmps30
   go_wp2_with (first | ((with_reducible refine gate_callee (f := 44) rfl ?_); refine goesL_ (some 21) rfl rfl Tryd.func44 (by kernel_rfl) rfl #[.string a1] rfl ar_ ?_; (with_reducible refine (regletref04_Int.calls k a1 t187 t188 t189 _ A7.out).mono ?_); rintro e w12 ⟨rfl, hb⟩; refine ⟨_, rfl, ?_⟩; have n0_ := Aside0.mk (below_step bl_ hb); clear HB; have HB := n0_; clear n0_; (try clear hb); (try clear hb2); (try clear hk); (try clear hi)) | ((with_reducible refine gate_callee (f := 16) rfl ?_); refine goesL_ (some 28) rfl rfl Tryd.func16 (by kernel_rfl) rfl #[.string a1] rfl ar_ ?_; (with_reducible refine (regletref04_Float.calls k a1 true _ A10.out).mono ?_); rintro e w' ⟨rfl, ⟨nd, rfl⟩⟩; refine ⟨_, rfl, ?_⟩))
   go_ret
   exact ⟨es_, bl_⟩
  replace c11 := Bool.eq_false_iff.mpr c11
  subst c11
  have H1 : (some 0) = some r := by rw [if_neg (show ¬ (false = true) by decide)] at H; exact H
  clear H
  have H := H1
  clear H1
  obtain rfl := Option.some.inj H
  go_enter Tryd.func30, Tryd.ntmps30
  go_wp2_with (first | ((with_reducible refine gate_callee (f := 44) rfl ?_); refine goesL_ (some 21) rfl rfl Tryd.func44 (by kernel_rfl) rfl #[.string a1] rfl ar_ ?_; (with_reducible refine (regletref04_Int.calls k a1 t187 t188 t189 _ A7.out).mono ?_); rintro e w13 ⟨rfl, hb⟩; refine ⟨_, rfl, ?_⟩; have n0_ := Aside0.mk (below_step bl_ hb); clear HB; have HB := n0_; clear n0_; (try clear hb); (try clear hb2); (try clear hk); (try clear hi)) | ((with_reducible refine gate_callee (f := 16) rfl ?_); refine goesL_ (some 28) rfl rfl Tryd.func16 (by kernel_rfl) rfl #[.string a1] rfl ar_ ?_; (with_reducible refine (regletref04_Float.calls k a1 false _ A10.out).mono ?_); rintro e w' ⟨rfl, ⟨nd, rfl⟩⟩; refine ⟨_, rfl, ?_⟩))
  go_ret
  exact ⟨es_, bl_⟩
 rw [if_neg c6] at H
 have c6b0 := beq_eq_false_iff_ne.mpr c6
 have c6b1 := bne_iff_ne.mpr c6
 by_cases c14 : a0 = 3
 ·rw [if_pos c14] at H
  have c14b0 := beq_iff_eq.mpr c14
  have c14b1 := bne_eq_false_iff_eq.mpr c14
  clear c14
  replace H := Option.bind_eq_some_iff.mp H
  obtain ⟨⟨t191, t192⟩, A150, H⟩ := H
  replace H : (if t192 = 0 then (some 5) else (some 0)) = some r := H
  have A15 := Aside0.mk A150
  clear A150
  by_cases c16 : t192 = 0
  ·rw [if_pos c16] at H
   have c16b0 := beq_iff_eq.mpr c16
   have c16b1 := bne_eq_false_iff_eq.mpr c16
   clear c16
   obtain rfl := Option.some.inj H
   go_enter Tryd.func30, Tryd.ntmps30
   go_wp2_with (first | ((with_reducible refine gate_callee (f := 45) rfl ?_); refine goesL_ (some 33) rfl rfl Tryd.func45 (by kernel_rfl) rfl #[.string a1] rfl ar_ ?_; (with_reducible refine (regletref04_Char.calls k a1 t191 t192 _ A15.out).mono ?_); rintro e w17 ⟨rfl, hb⟩; refine ⟨_, rfl, ?_⟩; have n0_ := Aside0.mk (below_step bl_ hb); clear HB; have HB := n0_; clear n0_; (try clear hb); (try clear hb2); (try clear hk); (try clear hi)))
   go_ret
   exact ⟨es_, bl_⟩
  rw [if_neg c16] at H
  have c16b0 := beq_eq_false_iff_ne.mpr c16
  have c16b1 := bne_iff_ne.mpr c16
  obtain rfl := Option.some.inj H
  go_enter Tryd.func30, Tryd.ntmps30
  go_wp2_with (first | ((with_reducible refine gate_callee (f := 45) rfl ?_); refine goesL_ (some 33) rfl rfl Tryd.func45 (by kernel_rfl) rfl #[.string a1] rfl ar_ ?_; (with_reducible refine (regletref04_Char.calls k a1 t191 t192 _ A15.out).mono ?_); rintro e w18 ⟨rfl, hb⟩; refine ⟨_, rfl, ?_⟩; have n0_ := Aside0.mk (below_step bl_ hb); clear HB; have HB := n0_; clear n0_; (try clear hb); (try clear hb2); (try clear hk); (try clear hi)))
  go_ret
  exact ⟨es_, bl_⟩
 rw [if_neg c14] at H
 have c14b0 := beq_eq_false_iff_ne.mpr c14
 have c14b1 := bne_iff_ne.mpr c14
 by_cases c19 : a0 = 4
 ·rw [if_pos c19] at H
  have c19b0 := beq_iff_eq.mpr c19
  have c19b1 := bne_eq_false_iff_eq.mpr c19
  clear c19
  replace H := Option.bind_eq_some_iff.mp H
  obtain ⟨⟨t193, t194⟩, A200, H⟩ := H
  replace H : (if t194 = 0 then (some 6) else (some 0)) = some r := H
  have A20 := Aside0.mk A200
  clear A200
  by_cases c21 : t194 = 0
  ·rw [if_pos c21] at H
   have c21b0 := beq_iff_eq.mpr c21
   have c21b1 := bne_eq_false_iff_eq.mpr c21
   clear c21
   obtain rfl := Option.some.inj H
   go_enter Tryd.func30, Tryd.ntmps30
   go_wp2_with (first | ((with_reducible refine gate_callee (f := 46) rfl ?_); refine goesL_ (some 42) rfl rfl Tryd.func46 (by kernel_rfl) rfl #[.string a1] rfl ar_ ?_; (with_reducible refine (regletref04_Str.calls k a1 t193 t194 _ A20.out).mono ?_); rintro e w22 ⟨v195, rfl, ho0, hb⟩; refine ⟨_, rfl, ?_⟩; have n0_ := Aside0.mk (Kd.R_lower ho0 (below_size bl_)); have n1_ := Aside0.mk (below_step bl_ hb); clear HB; have HO196 := n0_; have HB := n1_; clear n0_ n1_; (try clear hb); (try clear hb2); (try clear hk); (try clear hi); (try clear ho0)))
   go_ret
   exact ⟨es_, bl_⟩
  rw [if_neg c21] at H
  have c21b0 := beq_eq_false_iff_ne.mpr c21
  have c21b1 := bne_iff_ne.mpr c21
  obtain rfl := Option.some.inj H
  go_enter Tryd.func30, Tryd.ntmps30
  go_wp2_with (first | ((with_reducible refine gate_callee (f := 46) rfl ?_); refine goesL_ (some 42) rfl rfl Tryd.func46 (by kernel_rfl) rfl #[.string a1] rfl ar_ ?_; (with_reducible refine (regletref04_Str.calls k a1 t193 t194 _ A20.out).mono ?_); rintro e w23 ⟨v195, rfl, ho0, hb⟩; refine ⟨_, rfl, ?_⟩; have n0_ := Aside0.mk (Kd.R_lower ho0 (below_size bl_)); have n1_ := Aside0.mk (below_step bl_ hb); clear HB; have HO196 := n0_; have HB := n1_; clear n0_ n1_; (try clear hb); (try clear hb2); (try clear hk); (try clear hi); (try clear ho0)))
  go_ret
  exact ⟨es_, bl_⟩
 rw [if_neg c19] at H
 have c19b0 := beq_eq_false_iff_ne.mpr c19
 have c19b1 := bne_iff_ne.mpr c19
 by_cases c24 : a0 = 5
 ·rw [if_pos c24] at H
  have c24b0 := beq_iff_eq.mpr c24
  have c24b1 := bne_eq_false_iff_eq.mpr c24
  clear c24
  obtain rfl := Option.some.inj H
  go_enter Tryd.func30, Tryd.ntmps30
  go_wp2
  go_ret
  exact ⟨es_, bl_⟩
 rw [if_neg c24] at H
 have c24b0 := beq_eq_false_iff_ne.mpr c24
 have c24b1 := bne_iff_ne.mpr c24
 obtain rfl := Option.some.inj H
 go_enter Tryd.func30, Tryd.ntmps30
 go_wp2
 go_ret
 exact ⟨es_, bl_⟩
def regletref04_Canon.f (a0 : ByteArray) : Option (ByteArray) := if a0.toList = ([60, 58] : List UInt8) then (some (⟨#[91]⟩ : ByteArray)) else (if a0.toList = ([58, 62] : List UInt8) then (some (⟨#[93]⟩ : ByteArray)) else (if a0.toList = ([60, 37] : List UInt8) then (some (⟨#[123]⟩ : ByteArray)) else (if a0.toList = ([37, 62] : List UInt8) then (some (⟨#[125]⟩ : ByteArray)) else (if a0.toList = ([37, 58] : List UInt8) then (some (⟨#[35]⟩ : ByteArray)) else (if a0.toList = ([37, 58, 37, 58] : List UInt8) then (some (⟨#[35, 35]⟩ : ByteArray)) else (some a0))))))
set_option maxHeartbeats 8000000 in
set_option maxRecDepth 100000 in
theorem regletref04_Canon.calls (a0 : ByteArray) (r : ByteArray) (w : World) (h : regletref04_Canon.f a0 = some r) :
  Calls Tryd.prog 14 #[.string a0] w fun e w' => e = .returned (.string r) ∧ Drawn0 w w' := by
 have H : (if a0.toList = ([60, 58] : List UInt8) then (some (⟨#[91]⟩ : ByteArray)) else (if a0.toList = ([58, 62] : List UInt8) then (some (⟨#[93]⟩ : ByteArray)) else (if a0.toList = ([60, 37] : List UInt8) then (some (⟨#[123]⟩ : ByteArray)) else (if a0.toList = ([37, 62] : List UInt8) then (some (⟨#[125]⟩ : ByteArray)) else (if a0.toList = ([37, 58] : List UInt8) then (some (⟨#[35]⟩ : ByteArray)) else (if a0.toList = ([37, 58, 37, 58] : List UInt8) then (some (⟨#[35, 35]⟩ : ByteArray)) else (some a0))))))) = some r := h
 clear h
 by_cases c2 : a0.toList = ([60, 58] : List UInt8)
 ·rw [if_pos c2] at H
  have c2b0 := beq_iff_eq.mpr c2
  have c2b1 := bne_eq_false_iff_eq.mpr c2
  clear c2
  obtain rfl := Option.some.inj H
  go_enter Tryd.func14, Tryd.ntmps14
  go_wp2
  go_ret
  exact ⟨er_, dr_⟩
 rw [if_neg c2] at H
 have c2b0 := beq_eq_false_iff_ne.mpr c2
 have c2b1 := bne_iff_ne.mpr c2
 by_cases c3 : a0.toList = ([58, 62] : List UInt8)
 ·rw [if_pos c3] at H
  have c3b0 := beq_iff_eq.mpr c3
  have c3b1 := bne_eq_false_iff_eq.mpr c3
  clear c3
  obtain rfl := Option.some.inj H
  go_enter Tryd.func14, Tryd.ntmps14
  go_wp2
  go_ret
  exact ⟨er_, dr_⟩
 rw [if_neg c3] at H
 have c3b0 := beq_eq_false_iff_ne.mpr c3
 have c3b1 := bne_iff_ne.mpr c3
 by_cases c4 : a0.toList = ([60, 37] : List UInt8)
 ·rw [if_pos c4] at H
  have c4b0 := beq_iff_eq.mpr c4
  have c4b1 := bne_eq_false_iff_eq.mpr c4
  clear c4
  obtain rfl := Option.some.inj H
  go_enter Tryd.func14, Tryd.ntmps14
  go_wp2
  go_ret
  exact ⟨er_, dr_⟩
 rw [if_neg c4] at H
 have c4b0 := beq_eq_false_iff_ne.mpr c4
 have c4b1 := bne_iff_ne.mpr c4
 by_cases c5 : a0.toList = ([37, 62] : List UInt8)
 ·rw [if_pos c5] at H
  have c5b0 := beq_iff_eq.mpr c5
  have c5b1 := bne_eq_false_iff_eq.mpr c5
  clear c5
  obtain rfl := Option.some.inj H
  go_enter Tryd.func14, Tryd.ntmps14
  go_wp2
  go_ret
  exact ⟨er_, dr_⟩
 rw [if_neg c5] at H
 have c5b0 := beq_eq_false_iff_ne.mpr c5
 have c5b1 := bne_iff_ne.mpr c5
 by_cases c6 : a0.toList = ([37, 58] : List UInt8)
 ·rw [if_pos c6] at H
  have c6b0 := beq_iff_eq.mpr c6
  have c6b1 := bne_eq_false_iff_eq.mpr c6
  clear c6
  obtain rfl := Option.some.inj H
  go_enter Tryd.func14, Tryd.ntmps14
  go_wp2
  go_ret
  exact ⟨er_, dr_⟩
 rw [if_neg c6] at H
 have c6b0 := beq_eq_false_iff_ne.mpr c6
 have c6b1 := bne_iff_ne.mpr c6
 by_cases c7 : a0.toList = ([37, 58, 37, 58] : List UInt8)
 ·rw [if_pos c7] at H
  have c7b0 := beq_iff_eq.mpr c7
  have c7b1 := bne_eq_false_iff_eq.mpr c7
  clear c7
  obtain rfl := Option.some.inj H
  go_enter Tryd.func14, Tryd.ntmps14
  go_wp2
  go_ret
  exact ⟨er_, dr_⟩
 rw [if_neg c7] at H
 have c7b0 := beq_eq_false_iff_ne.mpr c7
 have c7b1 := bne_iff_ne.mpr c7
 obtain rfl := Option.some.inj H
 go_enter Tryd.func14, Tryd.ntmps14
 go_wp2
 go_ret
 exact ⟨er_, dr_⟩
def regletref04_Class.f (k : Nat) (a0 : Int) (a1 : ByteArray) : Option (Int × ByteArray × Int) := (regletref04_class.f k a0 a1).bind fun t198 => (if t198 = 0 then (some (0, (⟨#[]⟩ : ByteArray), 40)) else (if t198 = 7 then ((regletref04_Canon.f a1).bind fun t199 => (some (t198, t199, 0))) else (some (t198, a1, 0))))
set_option maxHeartbeats 8000000 in
set_option maxRecDepth 100000 in
theorem regletref04_Class.calls (k : Nat) (a0 : Int) (a1 : ByteArray) (r1 : Int) (r2 : ByteArray) (r3 : Int) (w : World) (h : regletref04_Class.f k a0 a1 = some (r1, r2, r3)) :
  Calls Tryd.prog 10 #[.int .i64 a0, .string a1] w fun e w' => e = .returned (.tuple #[.agg #[.int .i64 r1, .string r2], .int .i64 r3]) ∧ Below w.heap.size w w' := by
 have hu23 := Tryd.underlying23
 have HB := Aside0.mk (Below.refl w.heap.size w)
 have H : ((regletref04_class.f k a0 a1).bind fun t198 => (if t198 = 0 then (some (0, (⟨#[]⟩ : ByteArray), 40)) else (if t198 = 7 then ((regletref04_Canon.f a1).bind fun t199 => (some (t198, t199, 0))) else (some (t198, a1, 0))))) = some (r1, r2, r3) := h
 clear h
 replace H := Option.bind_eq_some_iff.mp H
 obtain ⟨t198, A30, H⟩ := H
 replace H : (if t198 = 0 then (some (0, (⟨#[]⟩ : ByteArray), 40)) else (if t198 = 7 then ((regletref04_Canon.f a1).bind fun t199 => (some (t198, t199, 0))) else (some (t198, a1, 0)))) = some (r1, r2, r3) := H
 have A3 := Aside0.mk A30
 clear A30
 by_cases c4 : t198 = 0
 ·rw [if_pos c4] at H
  have c4b0 := beq_iff_eq.mpr c4
  have c4b1 := bne_eq_false_iff_eq.mpr c4
  clear c4
  simp only [Option.some.injEq, Prod.mk.injEq] at H
  obtain ⟨rfl, rfl, rfl⟩ := H
  go_enter Tryd.func10, Tryd.ntmps10
  go_wp2_with (first | ((with_reducible refine gate_dst (N := 4) rfl ?_); refine box_event ?hg (N := 4) ?hd (cs := #[.int .i64 0, .string (⟨#[]⟩ : ByteArray)]) (t := 23) ?hr ?_; (case hd => rfl); (case hg => rfl); (case hr => first | (go_simp; done) | (go_simp; rfl)); intro gb197 hg w5 hbox hb; have n0_ := Aside0.mk (below_step bl_ hb); have n1_ := Aside0.mk (hbox); have n2_ := Aside0.mk ((by rw [hg]; exact (below_size bl_) : w.heap.size ≤ gb197)); have n3_ := Aside0.mk ((by rw [hg]; exact (below_size bl_) : w.heap.size ≤ gb197)); clear HB; have HB := n0_; have BK197 := n1_; have GW197 := n2_; have GE197 := n3_; clear n0_ n1_ n2_ n3_; clear hb hbox hg) | ((with_reducible refine gate_callee (f := 30) rfl ?_); refine goesL_ (some 9) rfl rfl Tryd.func30 (by kernel_rfl) rfl #[.int .i64 a0, .string a1] rfl ar_ ?_; (with_reducible refine (regletref04_class.calls k a0 a1 t198 _ A3.out).mono ?_); rintro e w6 ⟨rfl, hb⟩; refine ⟨_, rfl, ?_⟩; have n0_ := Aside0.mk (blk_below (g := gb197) (o := .cells #[.int .i64 0, .string (⟨#[]⟩ : ByteArray)] 23 (0, 0)) (by (with_reducible repeat (first | refine blk_drewN ?_ _ | refine blk_drew ?_ | refine blk_alloc ?_ _)); exact BK197.out) hb); have n1_ := Aside0.mk (below_step (by repeat (first | (with_reducible first | exact HB.out | apply below_alloc | apply pw_below_drewN | apply below_drew1 | refine below_set ?_ GE197.out) | exact HB.out)) hb); clear BK197; clear HB; have BK197 := n0_; have HB := n1_; clear n0_ n1_; (try clear hb); (try clear hb2); (try clear hk); (try clear hi); have hcz7_0 : w6.cell? ⟨gb197, 0, none⟩ = some (.int .i64 0) := (blk_cell BK197.out 0).trans rfl; have hcz7_1 : w6.cell? ⟨gb197, 1, none⟩ = some (.string (⟨#[]⟩ : ByteArray)) := (blk_cell BK197.out 1).trans rfl; have hfz7_0 := blk_frozen BK197.out 0; have hfz7_1 := blk_frozen BK197.out 1))
  refine bodyPost_ret (results_ct rfl _ _ gb197 23 #[.int .i64 0, .string (⟨#[]⟩ : ByteArray)] (0, 0) _ rfl (by (with_reducible repeat (first | refine blk_drewN ?_ _ | refine blk_drew ?_ | refine blk_alloc ?_ _)); refine blk_put (cs := #[.int .i64 0, .string (⟨#[]⟩ : ByteArray)]) ?_ 1 _ rfl; (with_reducible repeat (first | refine blk_drewN ?_ _ | refine blk_drew ?_ | refine blk_alloc ?_ _)); refine blk_put (cs := #[.int .i64 0, .string (⟨#[]⟩ : ByteArray)]) ?_ 0 _ rfl; (with_reducible repeat (first | refine blk_drewN ?_ _ | refine blk_drew ?_ | refine blk_alloc ?_ _)); exact BK197.out) Tryd.underlying23 rfl (by kernel_rfl)) rfl ?_
  exact ⟨es_, by repeat (first | (with_reducible first | exact HB.out | apply below_alloc | apply pw_below_drewN | apply below_drew1 | refine below_set ?_ GE197.out) | exact HB.out)⟩
 rw [if_neg c4] at H
 have c4b0 := beq_eq_false_iff_ne.mpr c4
 have c4b1 := bne_iff_ne.mpr c4
 by_cases c8 : t198 = 7
 ·rw [if_pos c8] at H
  have c8b0 := beq_iff_eq.mpr c8
  have c8b1 := bne_eq_false_iff_eq.mpr c8
  clear c8
  replace H := Option.bind_eq_some_iff.mp H
  obtain ⟨t199, A90, H⟩ := H
  replace H : (some (t198, t199, 0)) = some (r1, r2, r3) := H
  have A9 := Aside0.mk A90
  clear A90
  simp only [Option.some.injEq, Prod.mk.injEq] at H
  obtain ⟨rfl, rfl, rfl⟩ := H
  go_enter Tryd.func10, Tryd.ntmps10
  go_wp2_with (first | ((with_reducible refine gate_dst (N := 4) rfl ?_); refine box_event ?hg (N := 4) ?hd (cs := #[.int .i64 0, .string (⟨#[]⟩ : ByteArray)]) (t := 23) ?hr ?_; (case hd => rfl); (case hg => rfl); (case hr => first | (go_simp; done) | (go_simp; rfl)); intro gb197 hg w10 hbox hb; have n0_ := Aside0.mk (below_step bl_ hb); have n1_ := Aside0.mk (hbox); have n2_ := Aside0.mk ((by rw [hg]; exact (below_size bl_) : w.heap.size ≤ gb197)); have n3_ := Aside0.mk ((by rw [hg]; exact (below_size bl_) : w.heap.size ≤ gb197)); clear HB; have HB := n0_; have BK197 := n1_; have GW197 := n2_; have GE197 := n3_; clear n0_ n1_ n2_ n3_; clear hb hbox hg) | ((with_reducible refine gate_callee (f := 30) rfl ?_); refine goesL_ (some 9) rfl rfl Tryd.func30 (by kernel_rfl) rfl #[.int .i64 a0, .string a1] rfl ar_ ?_; (with_reducible refine (regletref04_class.calls k a0 a1 t198 _ A3.out).mono ?_); rintro e w11 ⟨rfl, hb⟩; refine ⟨_, rfl, ?_⟩; have n0_ := Aside0.mk (blk_below (g := gb197) (o := .cells #[.int .i64 0, .string (⟨#[]⟩ : ByteArray)] 23 (0, 0)) (by (with_reducible repeat (first | refine blk_drewN ?_ _ | refine blk_drew ?_ | refine blk_alloc ?_ _)); exact BK197.out) hb); have n1_ := Aside0.mk (below_step (by repeat (first | (with_reducible first | exact HB.out | apply below_alloc | apply pw_below_drewN | apply below_drew1 | refine below_set ?_ GE197.out) | exact HB.out)) hb); clear BK197; clear HB; have BK197 := n0_; have HB := n1_; clear n0_ n1_; (try clear hb); (try clear hb2); (try clear hk); (try clear hi)) | ((with_reducible refine gate_callee (f := 14) rfl ?_); refine goesL_ (some 17) rfl rfl Tryd.func14 (by kernel_rfl) rfl #[.string a1] rfl ar_ ?_; (with_reducible refine (regletref04_Canon.calls a1 t199 _ A9.out).mono ?_); rintro e w' ⟨rfl, ⟨nd, rfl⟩⟩; refine ⟨_, rfl, ?_⟩; (try (rw [drewN_self w11]; generalize hq_ : World.drewN w11 _ = w11; have n0_ : Aside0 (w11.heap[gb197]? = some (.cells #[.int .i64 0, .string (⟨#[]⟩ : ByteArray)] 23 (0, 0))) := ⟨by rw [← hq_]; exact (by (with_reducible repeat (first | refine blk_drewN ?_ _ | refine blk_drew ?_ | refine blk_alloc ?_ _)); exact BK197.out)⟩; have n1_ : Aside0 (Below w.heap.size w w11) := ⟨by rw [← hq_]; exact (by repeat (first | (with_reducible first | exact HB.out | apply below_alloc | apply pw_below_drewN | apply below_drew1 | refine below_set ?_ GE197.out) | exact HB.out))⟩; clear BK197 HB hq_; have BK197 := n0_; have HB := n1_; clear n0_ n1_)); have hcz12_0 : w11.cell? ⟨gb197, 0, none⟩ = some (.int .i64 0) := (blk_cell BK197.out 0).trans rfl; have hcz12_1 : w11.cell? ⟨gb197, 1, none⟩ = some (.string (⟨#[]⟩ : ByteArray)) := (blk_cell BK197.out 1).trans rfl; have hfz12_0 := blk_frozen BK197.out 0; have hfz12_1 := blk_frozen BK197.out 1))
  refine bodyPost_ret (results_ct rfl _ _ gb197 23 #[.int .i64 t198, .string t199] (0, 0) _ rfl (by (with_reducible repeat (first | refine blk_drewN ?_ _ | refine blk_drew ?_ | refine blk_alloc ?_ _)); refine blk_put (cs := #[.int .i64 t198, .string (⟨#[]⟩ : ByteArray)]) ?_ 1 _ rfl; (with_reducible repeat (first | refine blk_drewN ?_ _ | refine blk_drew ?_ | refine blk_alloc ?_ _)); refine blk_put (cs := #[.int .i64 0, .string (⟨#[]⟩ : ByteArray)]) ?_ 0 _ rfl; (with_reducible repeat (first | refine blk_drewN ?_ _ | refine blk_drew ?_ | refine blk_alloc ?_ _)); exact BK197.out) Tryd.underlying23 rfl (by kernel_rfl)) rfl ?_
  exact ⟨es_, by repeat (first | (with_reducible first | exact HB.out | apply below_alloc | apply pw_below_drewN | apply below_drew1 | refine below_set ?_ GE197.out) | exact HB.out)⟩
 rw [if_neg c8] at H
 have c8b0 := beq_eq_false_iff_ne.mpr c8
 have c8b1 := bne_iff_ne.mpr c8
 simp only [Option.some.injEq, Prod.mk.injEq] at H
 obtain ⟨rfl, rfl, rfl⟩ := H
 go_enter Tryd.func10, Tryd.ntmps10
 go_wp2_with (first | ((with_reducible refine gate_dst (N := 4) rfl ?_); refine box_event ?hg (N := 4) ?hd (cs := #[.int .i64 0, .string (⟨#[]⟩ : ByteArray)]) (t := 23) ?hr ?_; (case hd => rfl); (case hg => rfl); (case hr => first | (go_simp; done) | (go_simp; rfl)); intro gb197 hg w13 hbox hb; have n0_ := Aside0.mk (below_step bl_ hb); have n1_ := Aside0.mk (hbox); have n2_ := Aside0.mk ((by rw [hg]; exact (below_size bl_) : w.heap.size ≤ gb197)); have n3_ := Aside0.mk ((by rw [hg]; exact (below_size bl_) : w.heap.size ≤ gb197)); clear HB; have HB := n0_; have BK197 := n1_; have GW197 := n2_; have GE197 := n3_; clear n0_ n1_ n2_ n3_; clear hb hbox hg) | ((with_reducible refine gate_callee (f := 30) rfl ?_); refine goesL_ (some 9) rfl rfl Tryd.func30 (by kernel_rfl) rfl #[.int .i64 a0, .string a1] rfl ar_ ?_; (with_reducible refine (regletref04_class.calls k a0 a1 t198 _ A3.out).mono ?_); rintro e w14 ⟨rfl, hb⟩; refine ⟨_, rfl, ?_⟩; have n0_ := Aside0.mk (blk_below (g := gb197) (o := .cells #[.int .i64 0, .string (⟨#[]⟩ : ByteArray)] 23 (0, 0)) (by (with_reducible repeat (first | refine blk_drewN ?_ _ | refine blk_drew ?_ | refine blk_alloc ?_ _)); exact BK197.out) hb); have n1_ := Aside0.mk (below_step (by repeat (first | (with_reducible first | exact HB.out | apply below_alloc | apply pw_below_drewN | apply below_drew1 | refine below_set ?_ GE197.out) | exact HB.out)) hb); clear BK197; clear HB; have BK197 := n0_; have HB := n1_; clear n0_ n1_; (try clear hb); (try clear hb2); (try clear hk); (try clear hi); have hcz15_0 : w14.cell? ⟨gb197, 0, none⟩ = some (.int .i64 0) := (blk_cell BK197.out 0).trans rfl; have hcz15_1 : w14.cell? ⟨gb197, 1, none⟩ = some (.string (⟨#[]⟩ : ByteArray)) := (blk_cell BK197.out 1).trans rfl; have hfz15_0 := blk_frozen BK197.out 0; have hfz15_1 := blk_frozen BK197.out 1))
 refine bodyPost_ret (results_ct rfl _ _ gb197 23 #[.int .i64 t198, .string a1] (0, 0) _ rfl (by (with_reducible repeat (first | refine blk_drewN ?_ _ | refine blk_drew ?_ | refine blk_alloc ?_ _)); refine blk_put (cs := #[.int .i64 t198, .string (⟨#[]⟩ : ByteArray)]) ?_ 1 _ rfl; (with_reducible repeat (first | refine blk_drewN ?_ _ | refine blk_drew ?_ | refine blk_alloc ?_ _)); refine blk_put (cs := #[.int .i64 0, .string (⟨#[]⟩ : ByteArray)]) ?_ 0 _ rfl; (with_reducible repeat (first | refine blk_drewN ?_ _ | refine blk_drew ?_ | refine blk_alloc ?_ _)); exact BK197.out) Tryd.underlying23 rfl (by kernel_rfl)) rfl ?_
 exact ⟨es_, by repeat (first | (with_reducible first | exact HB.out | apply below_alloc | apply pw_below_drewN | apply below_drew1 | refine below_set ?_ GE197.out) | exact HB.out)⟩
end Go.Proofs.YtcdleippdegibaaDoor.PR
namespace Go.Proofs.YtcdleippdegibaaDoor.Cls
open Go.RowKit Go.Proofs.YtcdleippdegibaaDoorW.PrintWords Go.Proofs.YtcdleippdegibaaDoorW.PrintLast Go.Proofs.YtcdleippdegibaaDoorW.PrintMore
open Go Go.Proofs Go.Proofs.YtcdleippdegibaaDoor Go.Proofs.YtcdleippdegibaaDoor.PB Go.Proofs.YtcdleippdegibaaDoor.PC Go.Proofs.YtcdleippdegibaaDoor.PR Go.Proofs.YtcdleippdegibaaDoor.PK Go.Proofs.YtcdleippdegibaaDoor.ClassH
open Go.Proofs.YtcdleippdegibaaDoor.LibG (SH SH.below SH.drewN SH.drew SH.alloc)
set_option maxHeartbeats 8000000 in
set_option maxRecDepth 100000 in
theorem great (k : Int) (t : ByteArray) (w : World) (hs : decide (1000 < (t.size : Int)) = true) : Calls Tryd.prog 3 #[.int .i64 k, .string t] w fun e w' => e = .returned (.bool true) ∧ Below w.heap.size w w' := by
 have hs1 : decide (1000 < t.size) = true := decide_eq_true (by have := of_decide_eq_true hs; omega)
 go_enter Tryd.func3, Tryd.ntmps3
 go_wp2
 go_ret
 exact ⟨rfl, Below.refl _ _⟩
set_option maxHeartbeats 8000000 in
set_option maxRecDepth 100000 in
theorem small (n : Nat) (k : Int) (t : ByteArray) (c1 c3 : Int) (c2 cn : ByteArray) (kw fl : Bool) (w : World) (hsh : SH w) (hs : decide (1000 < (t.size : Int)) = false)
  (h1 : ctok_Class.f n k t = some (c1, c2, c3)) (h2 : regletref04_Class.f n k t = some (c1, c2, c3)) (h3 : ctok_Keyword.f t = some kw) (h4 : regletref04_Keyword.f n t = some kw)
  (h5 : ctok_Canon.f t = some cn) (h6 : regletref04_Canon.f t = some cn) (h7 : ctok_Float.f n t = some fl) (h8 : regletref04_Float.f n t = some fl) :
  Calls Tryd.prog 3 #[.int .i64 k, .string t] w fun e w' => e = .returned (.bool true) ∧ Below w.heap.size w w' := by
 have hs1 : decide (1000 < t.size) = false := decide_eq_false (by have := of_decide_eq_false hs; omega)
 have hu := Tryd.underlying23
 have HSH := Aside0.mk hsh
 clear hsh
 have HB := Aside0.mk (Below.refl w.heap.size w)
 have A1 := Aside0.mk h1
 have A2 := Aside0.mk h2
 have A3 := Aside0.mk h3
 have A4 := Aside0.mk h4
 have A5 := Aside0.mk h5
 have A6 := Aside0.mk h6
 have A7 := Aside0.mk h7
 have A8 := Aside0.mk h8
 clear h1 h2 h3 h4 h5 h6 h7 h8
 go_enter Tryd.func3, Tryd.ntmps3
 go_upto_region 4 with (go_at_call 9; refine (ctok_Class.calls n _ _ _ _ _ _ ?side1 A1.out).mono ?_; (case side1 => first | exact SH.below HSH.out bl_ | (repeat (first | exact HSH.out | (with_reducible refine SH.drewN ?_ _) | (with_reducible refine SH.drew ?_) | (with_reducible refine SH.alloc ?_ _)))); rintro e w' ⟨rfl, hb⟩; have n0_ := Aside0.mk (below_step bl_ hb); clear HB; have HB := n0_; clear n0_; clear hb)
 obtain ⟨W0, hW0⟩ : ∃ W0, w'.alloc (.cells #[.int .i64 c1, .string c2] 23) = W0 := ⟨_, rfl⟩
 have BK0 := Aside0.mk (show W0.heap[w'.heap.size]? = some (.cells #[.int .i64 c1, .string c2] 23) by rw [← hW0]; exact blk_new _ _)
 have HB' := Aside0.mk (show Below w.heap.size w W0 by rw [← hW0]; exact bl_)
 clear HB
 have HB := HB'
 clear HB'
 obtain ⟨g0, hg0⟩ : ∃ g0, w'.heap.size = g0 := ⟨_, rfl⟩
 rw [hW0, hg0]
 rw [hg0] at BK0
 clear hW0 hg0
 go_upto_region 5 with (go_at_call 10; refine (regletref04_Class.calls n _ _ _ _ _ _ A2.out).mono ?_; skip; rintro e w' ⟨rfl, hb⟩; have n0_ := Aside0.mk (below_step bl_ hb); have m0_ := Aside0.mk (blk_below (by (with_reducible repeat (first | refine blk_drewN ?_ _ | refine blk_drew ?_ | refine blk_alloc ?_ _)); exact BK0.out) hb); clear HB; have HB := n0_; clear n0_; clear BK0; have BK0 := m0_; clear m0_; clear hb)
 obtain ⟨W1, hW1⟩ : ∃ W1, w'.alloc (.cells #[.int .i64 c1, .string c2] 23) = W1 := ⟨_, rfl⟩
 have BK1 := Aside0.mk (show W1.heap[w'.heap.size]? = some (.cells #[.int .i64 c1, .string c2] 23) by rw [← hW1]; exact blk_new _ _)
 have HB' := Aside0.mk (show Below w.heap.size w W1 by rw [← hW1]; exact bl_)
 clear HB
 have HB := HB'
 clear HB'
 have b_ := Aside0.mk (show W1.heap[g0]? = some (.cells #[.int .i64 c1, .string c2] 23) by rw [← hW1]; exact blk_alloc BK0.out _)
 clear BK0
 have BK0 := b_
 clear b_
 obtain ⟨g1, hg1⟩ : ∃ g1, w'.heap.size = g1 := ⟨_, rfl⟩
 rw [hW1, hg1]
 rw [hg1] at BK1
 clear hW1 hg1
 have q00 : W1.cell? ⟨g0, 0, none⟩ = some (.int .i64 c1) := (blk_cell BK0.out 0).trans rfl
 have q01 : W1.cell? ⟨g0, 1, none⟩ = some (.string c2) := (blk_cell BK0.out 1).trans rfl
 have q10 : W1.cell? ⟨g1, 0, none⟩ = some (.int .i64 c1) := (blk_cell BK1.out 0).trans rfl
 have q11 : W1.cell? ⟨g1, 1, none⟩ = some (.string c2) := (blk_cell BK1.out 1).trans rfl
 go_wp2_with (first | (go_at_call 11; refine (ctok_Keyword.calls _ _ _ A3.out).mono ?_; rintro e w' ⟨rfl, ⟨nd, rfl⟩⟩) | (go_at_call 12; refine (regletref04_Keyword.calls n _ _ _ A4.out).mono ?_; rintro e w' ⟨rfl, ⟨nd, rfl⟩⟩) | (go_at_call 13; refine (ctok_Canon.calls _ _ _ A5.out).mono ?_; rintro e w' ⟨rfl, ⟨nd, rfl⟩⟩) | (go_at_call 14; refine (regletref04_Canon.calls _ _ _ A6.out).mono ?_; rintro e w' ⟨rfl, ⟨nd, rfl⟩⟩) | (go_at_call 15; refine (ctok_Float.calls n _ _ _ A7.out).mono ?_; skip; rintro e w' ⟨rfl, hb⟩; have n0_ := Aside0.mk (below_step bl_ hb); clear HB; have HB := n0_; clear n0_; clear hb) | (go_at_call 16; refine (regletref04_Float.calls n _ _ _ A8.out).mono ?_; rintro e w' ⟨rfl, ⟨nd, rfl⟩⟩))
 go_ret
 exact ⟨by first | rfl | (simp; done), bl_⟩
end Go.Proofs.YtcdleippdegibaaDoor.Cls
namespace Go.Proofs.YtcdleippdegibaaDoor.Ctk
open Go Go.RowKit Go.Proofs Go.Proofs.YtcdleippdegibaaDoor Go.Proofs.YtcdleippdegibaaDoor.PB Go.Proofs.YtcdleippdegibaaDoor.Digits Go.Lib Go.Proofs.YtcdleippdegibaaDoorW.PrintWords
def low (l : List UInt8) : List UInt8 := l.map fun b => if b = 85 then 117 else b
abbrev mk (l : List UInt8) : ByteArray := ⟨⟨l⟩⟩
theorem mk_list (l : List UInt8) : (mk l).data.toList = l := rfl
theorem mk_size (l : List UInt8) : (mk l).size = l.length := rfl
theorem mk_extract (l : List UInt8) (n : Nat) : (mk l).extract n (mk l).size = mk (l.drop n) := by
 apply ByteArray.ext
 apply Array.toList_inj.1
 exact extract_to_end (mk l) n
theorem mk_toList (l : List UInt8) : (mk l).toList = l := by
 simp [ByteArray.toList_eq]
theorem mk_append (l m : List UInt8) : mk l ++ mk m = mk (l ++ m) := by
 apply ByteArray.ext
 simp
theorem bt_mk (l : List UInt8) (i : Nat) (h : i < l.length) : bt (mk l) (i : Int) = (l[i].toNat : Int) := by
 unfold bt
 rw [dif_pos (show ((i : Int)).toNat < (mk l).size from h)]
 rfl
theorem replaceK_ne (b : UInt8) (hb : b ≠ 85) (s : List UInt8) : ∀ k, replaceK [85] [117] k (b :: s) = b :: replaceK [85] [117] k s
 | 0 => rfl
 | k + 1 => by
  rw [replaceK, replaceK]
  simp only [index_one]
  have e : indexByte (b :: s) 85 = if indexByte s 85 == -1 then -1 else indexByte s 85 + 1 := by
   rw [indexByte]
   simp [hb]
  have hge := index_ge s [85]
  rw [index_one] at hge
  rw [e]
  by_cases h : indexByte s 85 = -1
  ·simp [h]
  obtain ⟨i, hi⟩ : ∃ i : Nat, indexByte s 85 = i := ⟨(indexByte s 85).toNat, by omega⟩
  rw [hi]
  have h1 : ¬ ((i : Int) == -1) = true := by simp
  have h2 : ¬ (((i : Int) + 1) == -1) = true := by simp; omega
  rw [if_neg h1, if_neg h2, if_neg h1]
  have e1 : ((i : Int) + 1).toNat = i + 1 := by omega
  have e2 : ((i : Int)).toNat = i := by omega
  rw [e1, e2]
  simp
theorem replace_low : ∀ s : List UInt8, replaceAll s [85] [117] = low s := by
 have h : ∀ s : List UInt8, replaceK [85] [117] (s.count 85) s = low s := by
  intro s
  induction s with
  | nil => rfl
  | cons b s ih =>
   by_cases hb : b = 85
   ·subst hb
    rw [List.count_cons_self, replaceK_hit _ _ _ _ 0 (by rw [index_one]; simp [indexByte])]
    simp [ih, low]
   rw [List.count_cons_of_ne (hb), replaceK_ne b hb, ih]
   simp [low, hb]
 intro s
 unfold replaceAll replace
 rw [if_neg (by decide)]
 have e : replaceNum s [85] (-1) = s.count 85 := by unfold replaceNum; rw [if_pos (.inl (by decide)), count_one]
 rw [e, h]
theorem suf_mk (l : List UInt8) (n : Nat) : sufOf (mk l) n = low (l.drop n) := by
 unfold sufOf
 rw [mk_extract, replace_low]
theorem digL_cons_no {base : Int} {b : UInt8} (h : dgI b.toNat < 0 ∨ dgI b.toNat ≥ base) (r : List UInt8) : digL base (b :: r) = [] := by
 unfold digL
 rcases h with h | h
 ·rw [if_pos h]
 split
 ·rfl
 first | rfl | (rw [if_pos h])
theorem pre_mk (l p : List UInt8) : strings_HasPrefix.f (mk l) (mk p) = some (l.take p.length == p && decide (p.length ≤ l.length)) := by
 unfold strings_HasPrefix.f stringslite_HasPrefix.f
 have h1 : ((mk l).size : Int) = l.length := rfl
 have h2 : ((mk p).size : Int) = p.length := rfl
 by_cases h : (l.length : Int) ≥ p.length
 ·rw [h1, h2, if_pos h, if_pos (by omega), if_pos (by omega)]
  have h3 : (mk l).extract 0 ((p.length : Int)).toNat = mk (l.take p.length) := by
   apply ByteArray.ext
   apply Array.toList_inj.1
   simp [ByteArray.data_extract]
  rw [h3, mk_toList, mk_toList]
  have : p.length ≤ l.length := by omega
  simp [this]
 rw [h1, h2, if_neg h]
 have : ¬ p.length ≤ l.length := by omega
 simp [this]
def hexL (l : List UInt8) : Bool := match l with
 | 48 :: 120 :: _ => true
 | 48 :: 88 :: _ => true
 | _ => false
theorem hexed_mk (l : List UInt8) : ctok_hexed.f (mk l) = some (hexL l) := by
 unfold ctok_hexed.f
 rw [show (⟨#[48, 120]⟩ : ByteArray) = mk [48, 120] from rfl, show (⟨#[48, 88]⟩ : ByteArray) = mk [48, 88] from rfl, pre_mk, pre_mk]
 match l with
 | [] => rfl
 | [a] => simp [hexL]
 | a :: b :: r =>
  by_cases ha : a = 48
  ·subst ha
   by_cases hb : b = 120
   ·subst hb; simp [hexL]
   by_cases hc : b = 88
   ·subst hc; simp [hexL]
   simp [hexL, hb, hc]
  simp [hexL, ha]
theorem zero_mk (l : List UInt8) : strings_HasPrefix.f (mk l) ⟨#[48]⟩ = some (l.head? == some 48) := by
 rw [show (⟨#[48]⟩ : ByteArray) = mk [48] from rfl, pre_mk]
 cases l with
 | nil => rfl
 | cons a r => simp
def intL (base : Int) (l : List UInt8) : Int × Bool × Int :=
 match vOf base (digL base l) with
 | none => (0, false, 40)
 | some v => if (digL base l).length = 0 then (0, false, 40) else intTail base v (low (l.drop (digL base l).length))
theorem intRes_mk (base : Int) (l : List UInt8) : intRes base (mk l) = intL base l := by
 unfold intRes intL
 rw [show digs (mk l) base = digL base l from rfl]
 simp only [suf_mk]
 rfl
theorem int_mk (l : List UInt8) (h : l.length < 4294967281) :
  ctok_Int.f (mk l) = some (if hexL l = true then intL 16 (l.drop 2) else if l.head? = some 48 then intL 8 l else intL 10 l) := by
 unfold ctok_Int.f
 rw [if_pos (show (mk l).size < 4294967281 from h), hexed_mk, Option.bind_some]
 by_cases hx : hexL l = true
 ·have h2 : 2 ≤ (mk l).size := by
   show 2 ≤ l.length
   unfold hexL at hx
   split at hx <;> simp_all
  rw [if_pos hx, if_pos hx, if_pos h2, mk_extract, intRes_mk]
 rw [if_neg hx, if_neg hx, zero_mk, Option.bind_some]
 by_cases hz : l.head? = some 48
 ·rw [if_pos (by simp [hz]), if_pos hz, intRes_mk]
 rw [if_neg (by simpa using hz), if_neg hz, intRes_mk]
theorem hexL_two {l : List UInt8} (h : hexL l = true) : ∃ b r, l = 48 :: b :: r ∧ (b = 120 ∨ b = 88) := by
 unfold hexL at h
 split at h
 ·exact ⟨_, _, rfl, .inl rfl⟩
 ·exact ⟨_, _, rfl, .inr rfl⟩
 cases h
end Go.Proofs.YtcdleippdegibaaDoor.Ctk
namespace Go.Proofs.YtcdleippdegibaaDoor.Ctk
open Go Go.RowKit Go.Proofs Go.Proofs.YtcdleippdegibaaDoor Go.Proofs.YtcdleippdegibaaDoor.PB Go.Proofs.YtcdleippdegibaaDoor.PC Go.Proofs.YtcdleippdegibaaDoor.Digits Go.Lib Go.Proofs.YtcdleippdegibaaDoorW.PrintWords
theorem run_mk (l : List UInt8) (base : Int) (h : l.length ≤ 140737488355328) : ctok_run.f (mk l) base = some ((digL base l).length : Int) := if_pos h
theorem w64 {n : Int} (h : 0 ≤ n) (h2 : n ≤ 9223372036854775807) : wrap64 n = n := by unfold wrap64; omega
def signed (r : List UInt8) : Bool := r.head? == some 43 || r.head? == some 45
def expL (sm : Int) : List UInt8 → Nat
 | [] => 0
 | b :: r => if (Go.bits .or .u8 b.toNat 32) = sm then (if signed r = true then (if (digL 10 (r.drop 1)).length = 0 then 0 else 2 + (digL 10 (r.drop 1)).length) else (if (digL 10 r).length = 0 then 0 else 1 + (digL 10 r).length)) else 0
theorem expL_cons (sm : Int) (b : UInt8) (r : List UInt8) : expL sm (b :: r) = if (Go.bits .or .u8 b.toNat 32) = sm then (if signed r = true then (if (digL 10 (r.drop 1)).length = 0 then 0 else 2 + (digL 10 (r.drop 1)).length) else (if (digL 10 r).length = 0 then 0 else 1 + (digL 10 r).length)) else 0 := rfl
theorem j1_mk (l : List UInt8) (n : Nat) (b : Bool) (h : l.length ≤ 1000000000) (hn : n + (if b then 1 else 0) ≤ l.length) (k : Nat) :
  ctok_exponent.j1 (k + 1) (mk l) (n : Int) b = some (if (digL 10 (l.drop (n + if b then 1 else 0))).length = 0 then 0 else ((n + (if b then 1 else 0) + (digL 10 (l.drop (n + if b then 1 else 0))).length : Nat) : Int)) := by
 have hd : ∀ m, (digL 10 (l.drop m)).length ≤ l.length := fun m => Nat.le_trans (digL_le _ _) (by simp)
 rw [ctok_exponent.j1]
 have hsz : ((mk l).size : Int) = l.length := rfl
 cases b with
 | true =>
  simp only [if_true] at hn ⊢
  have e : wrap64 ((n : Int) + 1) = ((n + 1 : Nat) : Int) := by rw [w64 (by omega) (by omega)]; omega
  rw [e, hsz, if_pos (by omega), if_pos (by omega), Int.toNat_natCast, mk_extract, run_mk _ _ (by simp; omega), Option.bind_some]
  have hd1 := hd (n + 1)
  by_cases h0 : (digL 10 (l.drop (n + 1))).length = 0
  ·rw [if_pos (by omega), if_pos h0]
  rw [if_neg (by omega), if_neg h0, w64 (by omega) (by omega)]
  norm_cast
 | false =>
  simp only [Bool.false_eq_true, if_false, Nat.add_zero] at hn ⊢
  rw [hsz, if_pos (by omega), if_pos (by omega), Int.toNat_natCast, mk_extract, run_mk _ _ (by simp; omega), Option.bind_some]
  have hd1 := hd n
  by_cases h0 : (digL 10 (l.drop n)).length = 0
  ·rw [if_pos (by omega), if_pos h0]
  rw [if_neg (by omega), if_neg h0, w64 (by omega) (by omega)]
  norm_cast
theorem exp_mk (l : List UInt8) (sm : Int) (h : l.length ≤ 1000000000) (k : Nat) : ctok_exponent.f (k + 2) (mk l) sm = some ((expL sm l : Nat) : Int) := by
 unfold ctok_exponent.f
 rw [mk_toList]
 have hsz : ((mk l).size : Int) = l.length := rfl
 cases l with
 | nil => rfl
 | cons b r =>
  rw [if_neg (by simp), if_pos (by rw [hsz]; simp)]
  have hb : bt (mk (b :: r)) 0 = b.toNat := bt_mk (b :: r) 0 (by simp)
  rw [hb]
  rw [ctok_exponent.j0]
  rw [expL_cons]
  by_cases hs : (Go.bits .or .u8 b.toNat 32) = sm
  ·rw [if_pos hs]
   have h1 : ¬ ((Go.bits .or .u8 b.toNat 32 != sm) = true) := by simp [hs]
   rw [if_neg h1, hsz]
   cases r with
   | nil =>
    rw [if_neg (by simp)]
    have := j1_mk [b] 1 false (by simp) (by simp) k
    rw [show ((1 : Nat) : Int) = 1 from rfl] at this
    rw [this]
    simp [signed, digL]
   | cons c r =>
    rw [if_pos (by simp; omega)]
    have hc : bt (mk (b :: c :: r)) 1 = c.toNat := bt_mk (b :: c :: r) 1 (by simp)
    rw [hc]
    have hj := fun x hx => j1_mk (b :: c :: r) 1 x h hx k
    rw [show ((1 : Nat) : Int) = 1 from rfl] at hj
    have hcc : ∀ q : UInt8, ((c.toNat : Int) = (q.toNat : Int)) ↔ c = q := fun q => by rw [← UInt8.toNat_inj]; omega
    by_cases h43 : c = 43
    ·subst h43
     rw [if_pos (by rfl), hj true (by simp)]
     simp [signed]
     split <;> simp <;> omega
    rw [if_neg (by rw [show (43 : Int) = ((43 : UInt8).toNat : Int) from rfl, hcc]; exact h43)]
    by_cases h45 : c = 45
    ·subst h45
     rw [show (((45 : UInt8).toNat : Int) == 45) = true from rfl, hj true (by simp)]
     simp [signed]
     split <;> simp <;> omega
    rw [show ((c.toNat : Int) == 45) = false from beq_eq_false_iff_ne.mpr (by rw [show (45 : Int) = ((45 : UInt8).toNat : Int) from rfl]; rw [Ne, hcc]; exact h45), hj false (by simp)]
    simp [signed, h43, h45]
    split <;> simp <;> omega
  rw [if_neg hs]
  have h1 : ((Go.bits .or .u8 b.toNat 32 != sm) = true) := by simpa using hs
  rw [if_pos h1]
  rfl
theorem expL_le (sm : Int) : ∀ l : List UInt8, expL sm l ≤ l.length
 | [] => Nat.le_refl _
 | b :: r => by
  rw [expL_cons]
  have h1 := digL_le 10 (r.drop 1)
  have h2 := digL_le 10 r
  simp only [List.length_drop] at h1
  simp only [List.length_cons]
  split
  ·split
   ·split <;> omega
   split <;> omega
  omega
def good (r : List UInt8) : Bool := r == [] || r == [102] || r == [70] || r == [108] || r == [76]
def floatTail (base sm : Int) (r : List UInt8) (n : Nat) (point : Bool) : Bool :=
 if n = 0 ∨ (expL sm r = 0 ∧ (point = false ∨ base = 16)) then false else good (r.drop (expL sm r))
def floatL (base sm : Int) (l : List UInt8) : Bool :=
 if (l.drop (digL base l).length).head? = some 46 then
  floatTail base sm ((l.drop (digL base l).length).drop (1 + (digL base ((l.drop (digL base l).length).drop 1)).length)) ((digL base l).length + (digL base ((l.drop (digL base l).length).drop 1)).length) true
 else floatTail base sm (l.drop (digL base l).length) (digL base l).length false
theorem f3_mk (k : Nat) (l : List UInt8) (x : Nat) (h : x ≤ l.length) : ctok_Float.j3 (k + 1) (mk l) (x : Int) false = some (good (l.drop x)) := by
 rw [ctok_Float.j3, if_neg (by simp), if_pos (by omega), if_pos (show (x : Int) ≤ ((mk l).size : Int) from Int.ofNat_le.2 h), Int.toNat_natCast, mk_extract, mk_toList]
 unfold good
 generalize l.drop x = r
 by_cases h1 : r = []
 ·subst h1; simp
 by_cases h2 : r = [102]
 ·subst h2; simp
 by_cases h3 : r = [70]
 ·subst h3; simp
 by_cases h4 : r = [108]
 ·subst h4; simp
 by_cases h5 : r = [76]
 ·subst h5; simp
 simp [h1, h2, h3, h4, h5]
theorem f2_mk (k : Nat) (base sm : Int) (l : List UInt8) (n : Nat) (point : Bool) (h : l.length ≤ 1000000000) :
  ctok_Float.j2 (k + 4) base sm (mk l) (n : Int) point = some (floatTail base sm l n point) := by
 rw [ctok_Float.j2, exp_mk l sm h (k + 1), Option.bind_some]
 have hx := expL_le sm l
 have bad : ctok_Float.j3 (k + 3) (mk l) ((expL sm l : Nat) : Int) true = some false := by rw [ctok_Float.j3, if_pos rfl]
 unfold floatTail
 by_cases hn : n = 0
 ·rw [if_pos (by omega), if_pos (.inl hn), bad]
 rw [if_neg (by omega)]
 by_cases h0 : expL sm l = 0
 ·rw [if_pos (by omega)]
  cases point with
  | true =>
   rw [if_pos rfl]
   by_cases hb : base = 16
   ·rw [if_pos (.inr ⟨h0, .inr hb⟩), show (base == 16) = true from by simp [hb], bad]
   rw [if_neg (by simp [hn, hb]), show (base == 16) = false from by simp [hb], f3_mk _ _ _ hx]
  | false =>
   rw [if_neg (by simp), if_pos (.inr ⟨h0, .inl rfl⟩), bad]
 rw [if_neg (by omega), if_neg (by simp [hn, h0]), f3_mk _ _ _ hx]
theorem f0_mk (k : Nat) (base sm : Int) (l : List UInt8) (h : l.length ≤ 1000000000) :
  ctok_Float.j0 (k + 6) base sm (mk l) = some (floatL base sm l) := by
 have hd := digL_le base l
 rw [ctok_Float.j0, run_mk _ _ (by omega), Option.bind_some]
 have hsz : ((mk l).size : Int) = l.length := rfl
 have hj : ∀ (b : Bool), b = ((l.drop (digL base l).length).head? == some 46) → ctok_Float.j1 (k + 5) base sm (mk l) ((digL base l).length : Int) b = some (floatL base sm l) := by
  intro b hb
  rw [ctok_Float.j1, if_pos (by omega), if_pos (by rw [hsz]; omega), Int.toNat_natCast, mk_extract]
  unfold floatL
  generalize hr : l.drop (digL base l).length = r at hb ⊢
  have hrl : r.length ≤ l.length := by rw [← hr]; simp
  cases b with
  | true =>
   have hh : r.head? = some 46 := by simpa using hb.symm
   rw [if_pos rfl, if_pos hh]
   have hr1 : 1 ≤ r.length := by cases r <;> simp_all
   have hd1 := digL_le base (r.drop 1)
   simp only [List.length_drop] at hd1
   have hr2 : ((mk r).size : Int) = r.length := rfl
   rw [hr2, if_pos (by omega), mk_extract, run_mk _ _ (by simp; omega), Option.bind_some, w64 (by omega) (by omega), if_pos (by omega), if_pos (by omega), w64 (by omega) (by omega)]
   rw [show (1 + ((digL base (r.drop 1)).length : Int)) = ((1 + (digL base (r.drop 1)).length : Nat) : Int) by omega, Int.toNat_natCast, mk_extract]
   rw [show (((digL base l).length : Int) + ((digL base (r.drop 1)).length : Int)) = (((digL base l).length + (digL base (r.drop 1)).length : Nat) : Int) by omega]
   rw [f2_mk _ _ _ _ _ _ (by simp; omega)]
  | false =>
   have hh : ¬ r.head? = some 46 := by simpa using hb.symm
   rw [if_neg (by simp), if_neg hh, f2_mk _ _ _ _ _ _ (by omega)]
 by_cases hlt : (digL base l).length < l.length
 ·rw [hsz, if_pos (by omega), if_pos (by omega)]
  apply hj
  rw [bt_mk _ _ hlt]
  have e : (l.drop (digL base l).length).head? = some l[(digL base l).length] := by rw [List.head?_drop]; exact List.getElem?_eq_getElem hlt
  rw [e]
  have hcc : ((l[(digL base l).length].toNat : Int) = 46) ↔ l[(digL base l).length] = 46 := by rw [← UInt8.toNat_inj]; show _ ↔ _ = 46; omega
  by_cases hq : l[(digL base l).length] = 46
  ·simp [hq]
  have hq' := fun h => hq (hcc.1 h)
  rw [beq_eq_false_iff_ne.mpr hq']
  simp [hq]
 rw [hsz, if_neg (by omega)]
 apply hj
 rw [List.drop_eq_nil_of_le (by omega)]
 rfl
theorem float_mk (k : Nat) (l : List UInt8) (h : l.length ≤ 1000000000) : ctok_Float.f (k + 6) (mk l) = some (if hexL l = true then floatL 16 112 (l.drop 2) else floatL 10 101 l) := by
 unfold ctok_Float.f
 rw [hexed_mk, Option.bind_some]
 by_cases hx : hexL l = true
 ·obtain ⟨b, r, e, _⟩ := hexL_two hx
  rw [if_pos hx, if_pos hx, if_pos (show (2 : Int) ≤ ((mk l).size : Int) by rw [mk_size, e]; simp; omega), mk_extract, f0_mk _ _ _ _ (by simp; omega)]
 rw [if_neg hx, if_neg hx, f0_mk _ _ _ _ h]
end Go.Proofs.YtcdleippdegibaaDoor.Ctk
namespace Go.Proofs.YtcdleippdegibaaDoor.Ctk
open Go Go.RowKit Go.Proofs Go.Proofs.YtcdleippdegibaaDoor Go.Proofs.YtcdleippdegibaaDoor.PB Go.Proofs.YtcdleippdegibaaDoor.PS Go.Proofs.YtcdleippdegibaaDoor.Digits Go.Proofs.YtcdleippdegibaaDoor.One Go.Proofs.YtcdleippdegibaaDoor.LibG Go.Lib Go.Proofs.YtcdleippdegibaaDoorW.PrintWords
theorem all8 {p : UInt8 → Bool} (h : ((List.range 256).all fun n => p (UInt8.ofNat n)) = true) (b : UInt8) : p b = true := by
 have := List.all_eq_true.1 h b.toNat (List.mem_range.2 b.toNat_lt)
 rwa [UInt8.ofNat_toNat] at this
theorem w64' {n : Int} (h : 0 ≤ n) (h2 : n ≤ 9223372036854775807) : wrap64 n = n := by unfold wrap64; omega
theorem bt_app (p r : List UInt8) (b : UInt8) : bt (mk (p ++ b :: r)) (p.length : Int) = (b.toNat : Int) := by
 rw [bt_mk _ _ (by simp)]
 simp
theorem u8ne {a b : UInt8} (h : a ≠ b) : ¬ ((a.toNat : Int) = (b.toNat : Int)) := fun q => h (by rw [← UInt8.toNat_inj]; omega)
theorem head_ends (x : ByteArray) (q : Int) (hx : x.size ≤ 1000000000) : ∀ (m i : Nat), i + m = x.size + 1 → 1 ≤ i → ∀ K, ∃ r, scan_header.l0 (K + 2 * m + 2) x q (i : Int) = some r := by
 intro m
 induction m with
 | zero =>
  intro i hi h1 K
  refine ⟨0, ?_⟩
  rw [show K + 2 * 0 + 2 = (K + 1) + 1 by omega, scan_header.l0, if_neg (by omega), scan_header.j2, if_neg (by simp)]
 | succ m ih =>
  intro i hi h1 K
  by_cases hlt : i < x.size
  ·obtain ⟨r, hr⟩ := ih (i + 1) (by omega) (by omega) K
   rw [show K + 2 * (m + 1) + 2 = (K + 2 * m + 2) + 1 + 1 by omega, scan_header.l0, if_pos (by omega), if_pos (by omega), scan_header.j2]
   by_cases hb : (bt x (i : Int) != 10) = true
   ·rw [if_pos hb, if_pos (by omega), if_pos (by omega), w64' (by omega) (by omega)]
    by_cases hq : bt x (i : Int) = q
    ·rw [if_pos hq]; exact ⟨_, rfl⟩
    rw [if_neg hq]; exact ⟨r, by simpa using hr⟩
   rw [if_neg hb]; exact ⟨_, rfl⟩
  refine ⟨0, ?_⟩
  rw [show K + 2 * (m + 1) + 2 = (K + 2 * m + 2) + 1 + 1 by omega, scan_header.l0, if_neg (by omega), scan_header.j2, if_neg (by simp)]
end Go.Proofs.YtcdleippdegibaaDoor.Ctk
