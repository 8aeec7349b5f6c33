import Derived.Test.YtcdleippdegibaaDoorXM4
import Derived.Test.YtcdleippdegibaaDoorXM6
import Derived.Test.YtcdleippdegibaaDoorXM5
set_option maxHeartbeats 8000000
set_option maxRecDepth 100000
set_option linter.unusedVariables false
set_option linter.unusedSimpArgs false
set_option linter.unusedSectionVars false
namespace Go.Proofs.YtcdleippdegibaaDoor.PR
open Go.RowKit Go.Proofs.YtcdleippdegibaaDoorW.PrintWords Go.Proofs.YtcdleippdegibaaDoorW.PrintLast Go.Proofs.YtcdleippdegibaaDoorW.PrintMore
open Go.Proofs.YtcdleippdegibaaDoor.LibG (SH SH.below SH.drewN SH.drew SH.alloc)
open Go.Proofs.YtcdleippdegibaaDoor.PK
attribute [local go_sem] max2_int min2_int max_two min_two max_three min_three max_four min_four
mutual
def b_Tokens.l0 : Nat → ByteArray → List (S44) → List ByteArray → Int → Bool → Option ((List (S44)) × Int)
 | 0, _, _, _, _, _ => none
 | k + 1, x0, x4, x5, x6, x7 => if x6 < (x0.size : Int) then (if 0 ≤ x6 then ((b_White.f (bt x0 x6)).bind fun t141 => (if t141 = true then (b_Tokens.l0 k x0 x4 x5 (wrap64 (x6 + 1)) true) else (if (x5.length : Int) = 2 then (if 0 < (x5.length : Int) then (if (rdOf ByteArray.empty x5 0).toList = ([35] : List UInt8) then (if 1 < (x5.length : Int) then (b_Tokens.j1 k x0 x4 x5 x6 x7 0 0 ((rdOf ByteArray.empty x5 1).toList == ([105, 110, 99, 108, 117, 100, 101] : List UInt8))) else (none)) else (if (rdOf ByteArray.empty x5 0).toList = ([37, 58] : List UInt8) then (if 1 < (x5.length : Int) then (b_Tokens.j1 k x0 x4 x5 x6 x7 0 0 ((rdOf ByteArray.empty x5 1).toList == ([105, 110, 99, 108, 117, 100, 101] : List UInt8))) else (none)) else (b_Tokens.j1 k x0 x4 x5 x6 x7 0 0 false))) else (none)) else (b_Tokens.j1 k x0 x4 x5 x6 x7 0 0 false)))) else (none)) else (some (x4, 0))
def b_Tokens.j1 : Nat → ByteArray → List (S44) → List ByteArray → Int → Bool → Int → Int → Bool → Option ((List (S44)) × Int)
 | 0, _, _, _, _, _, _, _, _ => none
 | k + 1, x0, x4, x5, x6, x7, x8, x9, x40 => if x40 = true then (if 0 ≤ x6 then (if x6 ≤ (x0.size : Int) then ((b_named.f k (x0.extract (x6 : Int).toNat x0.size)).bind fun t146 => (b_Tokens.j2 k x0 x4 x5 x6 x7 7 t146)) else (none)) else (none)) else (b_Tokens.j2 k x0 x4 x5 x6 x7 x8 x9)
def b_Tokens.j2 : Nat → ByteArray → List (S44) → List ByteArray → Int → Bool → Int → Int → Option ((List (S44)) × Int)
 | 0, _, _, _, _, _, _, _ => none
 | k + 1, x0, x4, x5, x6, x7, x8, x9 => if x9 = 0 then (if 0 ≤ x6 then (if x6 ≤ (x0.size : Int) then ((b_remark.f k (x0.extract (x6 : Int).toNat x0.size)).bind fun t147 => (b_Tokens.j3 k x0 x4 x5 x6 x7 8 t147)) else (none)) else (none)) else (b_Tokens.j3 k x0 x4 x5 x6 x7 x8 x9)
def b_Tokens.j3 : Nat → ByteArray → List (S44) → List ByteArray → Int → Bool → Int → Int → Option ((List (S44)) × Int)
 | 0, _, _, _, _, _, _, _ => none
 | k + 1, x0, x4, x5, x6, x7, x8, x9 => if x9 < 0 then (some (([] : List (S44)), 20)) else (if x9 = 0 then (if 0 ≤ x6 then (if x6 ≤ (x0.size : Int) then ((b_longest.f k (x0.extract (x6 : Int).toNat x0.size)).bind fun bt148 => (b_Tokens.j4 k x0 x4 x5 x6 x7 bt148.1 bt148.2)) else (none)) else (none)) else (b_Tokens.j4 k x0 x4 x5 x6 x7 x8 x9))
def b_Tokens.j4 : Nat → ByteArray → List (S44) → List ByteArray → Int → Bool → Int → Int → Option ((List (S44)) × Int)
 | 0, _, _, _, _, _, _, _ => none
 | k + 1, x0, x4, x5, x6, x7, x8, x9 => if x9 = 0 then (some (([] : List (S44)), 21)) else (if 0 ≤ x6 then (if x6 ≤ (wrap64 (x6 + x9)) then (if (wrap64 (x6 + x9)) ≤ (x0.size : Int) then (if x4.length < 2932031007402 then ((some (x4 ++ [(⟨x8, x0.extract (x6 : Int).toNat ((wrap64 (x6 + x9)) : Int).toNat, x6, wrap64 (x6 + x9), x7⟩ : S44)] : List (S44))).bind fun y150 => (if x8 = 9 then (b_Tokens.l0 k x0 y150 ([] : List ByteArray) (wrap64 (x6 + x9)) false) else (if x8 = 8 then (b_Tokens.l0 k x0 y150 x5 (wrap64 (x6 + x9)) false) else (if x5.length < 8796093022208 then (b_Tokens.l0 k x0 y150 (x5 ++ [x0.extract (x6 : Int).toNat ((wrap64 (x6 + x9)) : Int).toNat]) (wrap64 (x6 + x9)) false) else (none))))) else (none)) else (none)) else (none)) else (none))
end
def b_Tokens.f (k : Nat) (a0 : ByteArray) : Option ((List (S44)) × Int) := b_Tokens.l0 k a0 ([] : List (S44)) ([] : List ByteArray) 0 false
theorem b_Tokens.mono_l : ∀ k, (∀ y0 y1 y2 y3 y4, LeO (b_Tokens.l0 k y0 y1 y2 y3 y4) (b_Tokens.l0 (k + 1) y0 y1 y2 y3 y4)) ∧ (∀ y0 y1 y2 y3 y4 y5 y6 y7, LeO (b_Tokens.j1 k y0 y1 y2 y3 y4 y5 y6 y7) (b_Tokens.j1 (k + 1) y0 y1 y2 y3 y4 y5 y6 y7)) ∧ (∀ y0 y1 y2 y3 y4 y5 y6, LeO (b_Tokens.j2 k y0 y1 y2 y3 y4 y5 y6) (b_Tokens.j2 (k + 1) y0 y1 y2 y3 y4 y5 y6)) ∧ (∀ y0 y1 y2 y3 y4 y5 y6, LeO (b_Tokens.j3 k y0 y1 y2 y3 y4 y5 y6) (b_Tokens.j3 (k + 1) y0 y1 y2 y3 y4 y5 y6)) ∧ (∀ y0 y1 y2 y3 y4 y5 y6, LeO (b_Tokens.j4 k y0 y1 y2 y3 y4 y5 y6) (b_Tokens.j4 (k + 1) y0 y1 y2 y3 y4 y5 y6))
 | 0 => ⟨fun _ _ _ _ _ r h => by simp [b_Tokens.l0] at h, fun _ _ _ _ _ _ _ _ r h => by simp [b_Tokens.j1] at h, fun _ _ _ _ _ _ _ r h => by simp [b_Tokens.j2] at h, fun _ _ _ _ _ _ _ r h => by simp [b_Tokens.j3] at h, fun _ _ _ _ _ _ _ r h => by simp [b_Tokens.j4] at h⟩
 | k + 1 => by
  obtain ⟨ih0, ih1, ih2, ih3, ih4⟩ := b_Tokens.mono_l k
  refine ⟨?_, ?_, ?_, ?_, ?_⟩
  ·intro y0 y1 y2 y3 y4
   unfold b_Tokens.l0
   repeat' first
   | (with_reducible exact ih0 _ _ _ _ _)
   | (with_reducible exact ih1 _ _ _ _ _ _ _ _)
   | (with_reducible exact ih2 _ _ _ _ _ _ _)
   | (with_reducible exact ih3 _ _ _ _ _ _ _)
   | (with_reducible exact ih4 _ _ _ _ _ _ _)
   | (with_reducible exact b_longest.mono _ _)
   | (with_reducible exact b_named.mono _ _)
   | (with_reducible exact b_remark.mono _ _)
   | (with_reducible exact LeO.refl _)
   | (with_reducible exact LeO.none _)
   | (with_reducible refine LeO.ite ?_ ?_)
   | (with_reducible refine LeO.bind ?_ (fun _ => ?_))
  ·intro y0 y1 y2 y3 y4 y5 y6 y7
   unfold b_Tokens.j1
   repeat' first
   | (with_reducible exact ih0 _ _ _ _ _)
   | (with_reducible exact ih1 _ _ _ _ _ _ _ _)
   | (with_reducible exact ih2 _ _ _ _ _ _ _)
   | (with_reducible exact ih3 _ _ _ _ _ _ _)
   | (with_reducible exact ih4 _ _ _ _ _ _ _)
   | (with_reducible exact b_longest.mono _ _)
   | (with_reducible exact b_named.mono _ _)
   | (with_reducible exact b_remark.mono _ _)
   | (with_reducible exact LeO.refl _)
   | (with_reducible exact LeO.none _)
   | (with_reducible refine LeO.ite ?_ ?_)
   | (with_reducible refine LeO.bind ?_ (fun _ => ?_))
  ·intro y0 y1 y2 y3 y4 y5 y6
   unfold b_Tokens.j2
   repeat' first
   | (with_reducible exact ih0 _ _ _ _ _)
   | (with_reducible exact ih1 _ _ _ _ _ _ _ _)
   | (with_reducible exact ih2 _ _ _ _ _ _ _)
   | (with_reducible exact ih3 _ _ _ _ _ _ _)
   | (with_reducible exact ih4 _ _ _ _ _ _ _)
   | (with_reducible exact b_longest.mono _ _)
   | (with_reducible exact b_named.mono _ _)
   | (with_reducible exact b_remark.mono _ _)
   | (with_reducible exact LeO.refl _)
   | (with_reducible exact LeO.none _)
   | (with_reducible refine LeO.ite ?_ ?_)
   | (with_reducible refine LeO.bind ?_ (fun _ => ?_))
  ·intro y0 y1 y2 y3 y4 y5 y6
   unfold b_Tokens.j3
   repeat' first
   | (with_reducible exact ih0 _ _ _ _ _)
   | (with_reducible exact ih1 _ _ _ _ _ _ _ _)
   | (with_reducible exact ih2 _ _ _ _ _ _ _)
   | (with_reducible exact ih3 _ _ _ _ _ _ _)
   | (with_reducible exact ih4 _ _ _ _ _ _ _)
   | (with_reducible exact b_longest.mono _ _)
   | (with_reducible exact b_named.mono _ _)
   | (with_reducible exact b_remark.mono _ _)
   | (with_reducible exact LeO.refl _)
   | (with_reducible exact LeO.none _)
   | (with_reducible refine LeO.ite ?_ ?_)
   | (with_reducible refine LeO.bind ?_ (fun _ => ?_))
  intro y0 y1 y2 y3 y4 y5 y6
  unfold b_Tokens.j4
  repeat' first
  | (with_reducible exact ih0 _ _ _ _ _)
  | (with_reducible exact ih1 _ _ _ _ _ _ _ _)
  | (with_reducible exact ih2 _ _ _ _ _ _ _)
  | (with_reducible exact ih3 _ _ _ _ _ _ _)
  | (with_reducible exact ih4 _ _ _ _ _ _ _)
  | (with_reducible exact b_longest.mono _ _)
  | (with_reducible exact b_named.mono _ _)
  | (with_reducible exact b_remark.mono _ _)
  | (with_reducible exact LeO.refl _)
  | (with_reducible exact LeO.none _)
  | (with_reducible refine LeO.ite ?_ ?_)
  | (with_reducible refine LeO.bind ?_ (fun _ => ?_))
theorem b_Tokens.mono : ∀ a0 k, LeO (b_Tokens.f k a0) (b_Tokens.f (k + 1) a0) := by
 intro a0 k
 obtain ⟨ih0, ih1, ih2, ih3, ih4⟩ := b_Tokens.mono_l k
 unfold b_Tokens.f
 repeat' first
   | (with_reducible exact ih0 _ _ _ _ _)
   | (with_reducible exact ih1 _ _ _ _ _ _ _ _)
   | (with_reducible exact ih2 _ _ _ _ _ _ _)
   | (with_reducible exact ih3 _ _ _ _ _ _ _)
   | (with_reducible exact ih4 _ _ _ _ _ _ _)
   | (with_reducible exact b_longest.mono _ _)
   | (with_reducible exact b_named.mono _ _)
   | (with_reducible exact b_remark.mono _ _)
   | (with_reducible exact LeO.refl _)
   | (with_reducible exact LeO.none _)
   | (with_reducible refine LeO.ite ?_ ?_)
   | (with_reducible refine LeO.bind ?_ (fun _ => ?_))
theorem b_Tokens.calls (k : Nat) (a0 : ByteArray) (r1 : List (S44)) (r2 : Int) (w : World) (h : b_Tokens.f k a0 = some (r1, r2)) :
  Calls Tryd.prog 70 #[.string a0] w fun e w' => ∃ v0_ : Value, e = .returned (.tuple #[v0_, .int .i64 r2]) ∧ Kd.R k44 44 w' w.heap.size (fun _ => True) v0_ r1 ∧ Below w.heap.size w w' := by
 have hu44 := Tryd.underlying44
 have HB := Aside0.mk (Below.refl w.heap.size w)
 have H : (b_Tokens.l0 k a0 ([] : List (S44)) ([] : List ByteArray) 0 false) = some (r1, r2) := h
 clear h
 have H' := Aside0.mk H
 clear H
 go_enter Tryd.func70, Tryd.ntmps70
 go_wp2
 go_loopg [4, 5, 6, 7] k (fun kq v4 v5 v6 v7 w' => ∃ (x4_1 : List (S44)) (x5_1 : List ByteArray) (x6_1 : Int) (x7_1 : Bool), v6 = .int .i64 x6_1 ∧ v7 = .bool x7_1 ∧ Aside0 (b_Tokens.l0 kq a0 x4_1 x5_1 x6_1 x7_1 = some (r1, r2)) ∧ Aside0 (kq ≤ k) ∧ Aside0 (Kd.R k44 44 w' w.heap.size (fun _ => True) v4 x4_1) ∧ Aside0 (Kd.R Kd.string 9 w' w.heap.size (fun _ => True) v5 x5_1) ∧ Aside0 (Below w.heap.size w w'))
 case atStart => exact ⟨(([] : List (S44))), (([] : List ByteArray)), (0), (false), er_, er_, H', ⟨Nat.le_refl _⟩, ⟨by first | exact Kd.R_nil _ _ _ _ _ | exact Kd.N_nil _ _ _ _ _ | exact Kd.V_nil _ _ _ _ _ | exact Kd.Q_nil _ _ _ _ _ | exact Kd.S_nil _ _ _ _ _⟩, ⟨by first | exact Kd.R_nil _ _ _ _ _ | exact Kd.N_nil _ _ _ _ _ | exact Kd.V_nil _ _ _ _ _ | exact Kd.Q_nil _ _ _ _ _ | exact Kd.S_nil _ _ _ _ _⟩, ⟨bl_⟩⟩
 case round =>
  clear H'
  obtain ⟨x4_1, x5_1, x6_1, x7_1, rfl, rfl, HA, HK1, HO_4, HO_5, HB⟩ := hrel
  cases gk with
  | zero => exact absurd HA.out (by simp [b_Tokens.l0])
  | succ k1 =>
   have H := HA.out
   clear HA
   simp only [b_Tokens.l0] at H
   replace H := ib_ H
   obtain ⟨c2, H⟩ | ⟨c2, H⟩ := H
   ·have c2b0 := decide_eq_true c2
    clear c2
    replace H := ib_ H
    obtain ⟨c3, H⟩ | ⟨c3, H⟩ := H
    ·have c3b0 := decide_eq_true c3
     clear c3
     replace H := Option.bind_eq_some_iff.mp H
     obtain ⟨t141, A50, H⟩ := H
     replace H : (if t141 = true then (b_Tokens.l0 k1 a0 x4_1 x5_1 (wrap64 (x6_1 + 1)) true) else (if (x5_1.length : Int) = 2 then (if 0 < (x5_1.length : Int) then (if (rdOf ByteArray.empty x5_1 0).toList = ([35] : List UInt8) then (if 1 < (x5_1.length : Int) then (b_Tokens.j1 k1 a0 x4_1 x5_1 x6_1 x7_1 0 0 ((rdOf ByteArray.empty x5_1 1).toList == ([105, 110, 99, 108, 117, 100, 101] : List UInt8))) else (none)) else (if (rdOf ByteArray.empty x5_1 0).toList = ([37, 58] : List UInt8) then (if 1 < (x5_1.length : Int) then (b_Tokens.j1 k1 a0 x4_1 x5_1 x6_1 x7_1 0 0 ((rdOf ByteArray.empty x5_1 1).toList == ([105, 110, 99, 108, 117, 100, 101] : List UInt8))) else (none)) else (b_Tokens.j1 k1 a0 x4_1 x5_1 x6_1 x7_1 0 0 false))) else (none)) else (b_Tokens.j1 k1 a0 x4_1 x5_1 x6_1 x7_1 0 0 false))) = some (r1, r2) := H
     have A5 := Aside0.mk A50
     clear A50
     by_cases c6 : t141 = true
     ·subst c6
      have H1 : (b_Tokens.l0 k1 a0 x4_1 x5_1 (wrap64 (x6_1 + 1)) true) = some (r1, r2) := by rw [if_pos rfl] at H; exact H
      clear H
      have H := H1
      clear H1
      have H' := Aside0.mk H
      clear H
      have p4 : 0 ≤ (x6_1 : Int) := da_
      have q4 : x6_1 < (a0.size : Int) := da_
      have hx4 := bt_at a0 x6_1
      replace p4 := eq_true p4
      replace q4 := eq_true q4
      go_wp2_with (first | ((with_reducible refine gate_callee (f := 85) rfl ?_); refine goesL_ (some 17) rfl rfl Tryd.func85 (by kernel_rfl) rfl #[.int .u8 (bt a0 x6_1)] rfl ar_ ?_; (with_reducible refine (b_White.calls (bt a0 x6_1) true _ A5.out).mono ?_); rintro e w' ⟨rfl, ⟨nd, rfl⟩⟩; refine ⟨_, rfl, ?_⟩))
      go_roundg k1
      case measure => have := HK1.out; omega
      case rel => exact ⟨(x4_1), (x5_1), (wrap64 (x6_1 + 1)), (true), er_, er_, H', ⟨by have := HK1.out; omega⟩, ⟨by (with_reducible repeat (first | apply Kd.R_alloc | apply Kd.R_drewN | apply Kd.R_drew)); exact HO_4.out⟩, ⟨by (with_reducible repeat (first | apply Kd.R_alloc | apply Kd.R_drewN | apply Kd.R_drew)); exact HO_5.out⟩, ⟨bl_⟩⟩
     replace c6 := Bool.eq_false_iff.mpr c6
     subst c6
     have H1 : (if (x5_1.length : Int) = 2 then (if 0 < (x5_1.length : Int) then (if (rdOf ByteArray.empty x5_1 0).toList = ([35] : List UInt8) then (if 1 < (x5_1.length : Int) then (b_Tokens.j1 k1 a0 x4_1 x5_1 x6_1 x7_1 0 0 ((rdOf ByteArray.empty x5_1 1).toList == ([105, 110, 99, 108, 117, 100, 101] : List UInt8))) else (none)) else (if (rdOf ByteArray.empty x5_1 0).toList = ([37, 58] : List UInt8) then (if 1 < (x5_1.length : Int) then (b_Tokens.j1 k1 a0 x4_1 x5_1 x6_1 x7_1 0 0 ((rdOf ByteArray.empty x5_1 1).toList == ([105, 110, 99, 108, 117, 100, 101] : List UInt8))) else (none)) else (b_Tokens.j1 k1 a0 x4_1 x5_1 x6_1 x7_1 0 0 false))) else (none)) else (b_Tokens.j1 k1 a0 x4_1 x5_1 x6_1 x7_1 0 0 false)) = some (r1, r2) := by rw [if_neg (show ¬ (false = true) by decide)] at H; exact H
     clear H
     have H := H1
     clear H1
     have HC7 := Aside0.mk H
     clear H
     have p4 : 0 ≤ (x6_1 : Int) := da_
     have q4 : x6_1 < (a0.size : Int) := da_
     have hx4 := bt_at a0 x6_1
     replace p4 := eq_true p4
     replace q4 := eq_true q4
     go_upto_region 11 with (first | ((with_reducible refine gate_callee (f := 85) rfl ?_); refine goesL_ (some 17) rfl rfl Tryd.func85 (by kernel_rfl) rfl #[.int .u8 (bt a0 x6_1)] rfl ar_ ?_; (with_reducible refine (b_White.calls (bt a0 x6_1) false _ A5.out).mono ?_); rintro e w' ⟨rfl, ⟨nd, rfl⟩⟩; refine ⟨_, rfl, ?_⟩))
     (try simp only [Act.put, List.setIfInBounds_toArray, List.set_cons_zero, List.set_cons_succ])
     go_cut [40] (fun v40 wc => ∃ (kq : Nat) (x40_6 : Bool), v40 = .bool x40_6 ∧ Aside0 (b_Tokens.j1 kq a0 x4_1 x5_1 x6_1 x7_1 0 0 x40_6 = some (r1, r2)) ∧ Aside0 (kq ≤ k1) ∧ Aside0 (Kd.R k44 44 wc w.heap.size (fun _ => True) u4 x4_1) ∧ Aside0 (Kd.R Kd.string 9 wc w.heap.size (fun _ => True) u5 x5_1) ∧ Aside0 (Below w.heap.size w wc))
     case first =>
      have H := HC7.out
      clear HC7
      replace H := ie_ H
      obtain ⟨c8b0, c8b1, H⟩ | ⟨c8b0, c8b1, c8, H⟩ := H
      ·(first | rw [c8b0] | (simp only [i64_w, i32_w]; rw [c8b0]) | skip)
       replace H := ib_ H
       obtain ⟨c9, H⟩ | ⟨c9, H⟩ := H
       ·have c9b0 := decide_eq_true c9
        have c9b1 : decide (0 < x5_1.length) = true := decide_eq_true (by omega)
        clear c9
        replace H := ie_ H
        obtain ⟨c10b0, c10b1, H⟩ | ⟨c10b0, c10b1, c10, H⟩ := H
        ·replace H := ib_ H
         obtain ⟨c11, H⟩ | ⟨c11, H⟩ := H
         ·have c11b0 := decide_eq_true c11
          have c11b1 : decide (1 < x5_1.length) = true := decide_eq_true (by omega)
          clear c11
          have H' := Aside0.mk H
          clear H
          obtain ⟨Ao12, co12, eo12⟩ := Kd.R_slice HO_5.out
          subst eo12
          have p142 : 0 ≤ (0 : Int) := (by omega)
          have q142 : 0 < (x5_1.length : Int) := da_
          obtain ⟨ad142, e142, hx142_0⟩ := Kd.at_string (Kd.R_reads' HO_5.out).2.2 0 p142 q142
          cases e142
          have qi142 : (0 < x5_1.length) = True := eq_true (by omega)
          (try rw [show ((0 : Int)).toNat = 0 from rfl] at hx142_0)
          (try rw [Addr.add_zero'] at hx142_0)
          replace p142 := eq_true p142
          replace q142 := eq_true q142
          have p143 : 0 ≤ (1 : Int) := (by omega)
          have q143 : 1 < (x5_1.length : Int) := da_
          obtain ⟨ad143, e143, hx143_0⟩ := Kd.at_string (Kd.R_reads' HO_5.out).2.2 1 p143 q143
          obtain rfl : ad142 = ad143 := (by injection e143)
          (try simp only [show (1 : Int).toNat = 1 from rfl, Nat.reduceMul, Nat.reduceEqDiff, Go.Addr.add, ↓reduceIte] at hx143_0)
          have qi143 : (1 < x5_1.length) = True := eq_true (by omega)
          (try rw [show ((1 : Int)).toNat = 1 from rfl] at hx143_0)
          replace p143 := eq_true p143
          replace q143 := eq_true q143
          go_wp2
          go_meet
          case rel => exact ⟨_, (((rdOf ByteArray.empty x5_1 1).toList == ([105, 110, 99, 108, 117, 100, 101] : List UInt8))), er_, H', ⟨by have := HK1.out; first | omega | exact Nat.le_refl _⟩, ⟨by (with_reducible repeat (first | apply Kd.R_alloc | apply Kd.R_drewN | apply Kd.R_drew)); exact HO_4.out⟩, ⟨by (with_reducible repeat (first | apply Kd.R_alloc | apply Kd.R_drewN | apply Kd.R_drew)); exact HO_5.out⟩, ⟨bl_⟩⟩
         exact absurd H (by simp)
        replace H := ie_ H
        obtain ⟨c13b0, c13b1, H⟩ | ⟨c13b0, c13b1, c13, H⟩ := H
        ·replace H := ib_ H
         obtain ⟨c14, H⟩ | ⟨c14, H⟩ := H
         ·have c14b0 := decide_eq_true c14
          have c14b1 : decide (1 < x5_1.length) = true := decide_eq_true (by omega)
          clear c14
          have H' := Aside0.mk H
          clear H
          obtain ⟨Ao15, co15, eo15⟩ := Kd.R_slice HO_5.out
          subst eo15
          have p142 : 0 ≤ (0 : Int) := (by omega)
          have q142 : 0 < (x5_1.length : Int) := da_
          obtain ⟨ad142, e142, hx142_0⟩ := Kd.at_string (Kd.R_reads' HO_5.out).2.2 0 p142 q142
          cases e142
          have qi142 : (0 < x5_1.length) = True := eq_true (by omega)
          (try rw [show ((0 : Int)).toNat = 0 from rfl] at hx142_0)
          (try rw [Addr.add_zero'] at hx142_0)
          replace p142 := eq_true p142
          replace q142 := eq_true q142
          have p144 : 0 ≤ (0 : Int) := (by omega)
          have q144 : 0 < (x5_1.length : Int) := da_
          obtain ⟨ad144, e144, hx144_0⟩ := Kd.at_string (Kd.R_reads' HO_5.out).2.2 0 p144 q144
          obtain rfl : ad142 = ad144 := (by injection e144)
          have qi144 : (0 < x5_1.length) = True := eq_true (by omega)
          (try rw [show ((0 : Int)).toNat = 0 from rfl] at hx144_0)
          (try rw [Addr.add_zero'] at hx144_0)
          replace p144 := eq_true p144
          replace q144 := eq_true q144
          have p145 : 0 ≤ (1 : Int) := (by omega)
          have q145 : 1 < (x5_1.length : Int) := da_
          obtain ⟨ad145, e145, hx145_0⟩ := Kd.at_string (Kd.R_reads' HO_5.out).2.2 1 p145 q145
          obtain rfl : ad142 = ad145 := (by injection e145)
          (try simp only [show (1 : Int).toNat = 1 from rfl, Nat.reduceMul, Nat.reduceEqDiff, Go.Addr.add, ↓reduceIte] at hx145_0)
          have qi145 : (1 < x5_1.length) = True := eq_true (by omega)
          (try rw [show ((1 : Int)).toNat = 1 from rfl] at hx145_0)
          replace p145 := eq_true p145
          replace q145 := eq_true q145
          go_wp2
          go_meet
          case rel => exact ⟨_, (((rdOf ByteArray.empty x5_1 1).toList == ([105, 110, 99, 108, 117, 100, 101] : List UInt8))), er_, H', ⟨by have := HK1.out; first | omega | exact Nat.le_refl _⟩, ⟨by (with_reducible repeat (first | apply Kd.R_alloc | apply Kd.R_drewN | apply Kd.R_drew)); exact HO_4.out⟩, ⟨by (with_reducible repeat (first | apply Kd.R_alloc | apply Kd.R_drewN | apply Kd.R_drew)); exact HO_5.out⟩, ⟨bl_⟩⟩
         exact absurd H (by simp)
        have H' := Aside0.mk H
        clear H
        obtain ⟨Ao16, co16, eo16⟩ := Kd.R_slice HO_5.out
        subst eo16
        have p142 : 0 ≤ (0 : Int) := (by omega)
        have q142 : 0 < (x5_1.length : Int) := da_
        obtain ⟨ad142, e142, hx142_0⟩ := Kd.at_string (Kd.R_reads' HO_5.out).2.2 0 p142 q142
        cases e142
        have qi142 : (0 < x5_1.length) = True := eq_true (by omega)
        (try rw [show ((0 : Int)).toNat = 0 from rfl] at hx142_0)
        (try rw [Addr.add_zero'] at hx142_0)
        replace p142 := eq_true p142
        replace q142 := eq_true q142
        have p144 : 0 ≤ (0 : Int) := (by omega)
        have q144 : 0 < (x5_1.length : Int) := da_
        obtain ⟨ad144, e144, hx144_0⟩ := Kd.at_string (Kd.R_reads' HO_5.out).2.2 0 p144 q144
        obtain rfl : ad142 = ad144 := (by injection e144)
        have qi144 : (0 < x5_1.length) = True := eq_true (by omega)
        (try rw [show ((0 : Int)).toNat = 0 from rfl] at hx144_0)
        (try rw [Addr.add_zero'] at hx144_0)
        replace p144 := eq_true p144
        replace q144 := eq_true q144
        go_wp2
        go_meet
        case rel => exact ⟨_, (false), er_, H', ⟨by have := HK1.out; first | omega | exact Nat.le_refl _⟩, ⟨by (with_reducible repeat (first | apply Kd.R_alloc | apply Kd.R_drewN | apply Kd.R_drew)); exact HO_4.out⟩, ⟨by (with_reducible repeat (first | apply Kd.R_alloc | apply Kd.R_drewN | apply Kd.R_drew)); exact HO_5.out⟩, ⟨bl_⟩⟩
       exact absurd H (by simp)
      (first | rw [c8b0] | (simp only [i64_w, i32_w]; rw [c8b0]) | skip)
      have H' := Aside0.mk H
      clear H
      obtain ⟨Ao17, co17, eo17⟩ := Kd.R_slice HO_5.out
      subst eo17
      go_wp2
      go_meet
      case rel => exact ⟨_, (false), er_, H', ⟨by have := HK1.out; first | omega | exact Nat.le_refl _⟩, ⟨by (with_reducible repeat (first | apply Kd.R_alloc | apply Kd.R_drewN | apply Kd.R_drew)); exact HO_4.out⟩, ⟨by (with_reducible repeat (first | apply Kd.R_alloc | apply Kd.R_drewN | apply Kd.R_drew)); exact HO_5.out⟩, ⟨bl_⟩⟩
     case rest =>
      clear HC7
      try clear c2
      try clear c2b0
      try clear c3
      try clear c3b0
      try clear p4
      try clear q4
      try clear hx4
      try clear c6
      try clear c8
      try clear c8b0
      try clear c8b1
      try clear c9
      try clear c9b0
      try clear c9b1
      try clear c10
      try clear c10b0
      try clear c10b1
      try clear c11
      try clear c11b0
      try clear c11b1
      try clear c13
      try clear c13b0
      try clear c13b1
      try clear c14
      try clear c14b0
      try clear c14b1
      try clear hx142_0
      try clear hx143_0
      try clear hx144_0
      try clear hx145_0
      try clear p142
      try clear p143
      try clear p144
      try clear p145
      try clear p4
      try clear q142
      try clear q143
      try clear q144
      try clear q145
      try clear q4
      obtain ⟨kq, x40_6, rfl, HA, HJ6, HO_4, HO_5, HB⟩ := hcut
      cases kq with
      | zero => exact absurd HA.out (by simp [b_Tokens.j1])
      | succ kj6 =>
       have H := HA.out
       clear HA
       simp only [b_Tokens.j1] at H
       have HC18 := Aside0.mk H
       clear H
       go_upto_if 40 with (fail)
       go_cut [8, 9] (fun v8 v9 wc => ∃ (kq : Nat) (x8_17 : Int) (x9_17 : Int), v8 = .int .i64 x8_17 ∧ v9 = .int .i64 x9_17 ∧ Aside0 (b_Tokens.j2 kq a0 x4_1 x5_1 x6_1 x7_1 x8_17 x9_17 = some (r1, r2)) ∧ Aside0 (kq ≤ kj6) ∧ Aside0 (Kd.R k44 44 wc w.heap.size (fun _ => True) u4 x4_1) ∧ Aside0 (Kd.R Kd.string 9 wc w.heap.size (fun _ => True) u5 x5_1) ∧ Aside0 (Below w.heap.size w wc))
       case first =>
        have H := HC18.out
        clear HC18
        by_cases c19 : x40_6 = true
        ·subst c19
         have H1 : (if 0 ≤ x6_1 then (if x6_1 ≤ (a0.size : Int) then ((b_named.f kj6 (a0.extract (x6_1 : Int).toNat a0.size)).bind fun t146 => (b_Tokens.j2 kj6 a0 x4_1 x5_1 x6_1 x7_1 7 t146)) else (none)) else (none)) = some (r1, r2) := by rw [if_pos rfl] at H; exact H
         clear H
         have H := H1
         clear H1
         replace H := id_ H
         obtain ⟨c20b0, c20b1, H⟩ | ⟨-, -, H⟩ := H
         ·replace H := id_ H
          obtain ⟨c21b0, c21b1, H⟩ | ⟨-, -, H⟩ := H
          ·replace H := Option.bind_eq_some_iff.mp H
           obtain ⟨t146, A220, H⟩ := H
           replace H : (b_Tokens.j2 kj6 a0 x4_1 x5_1 x6_1 x7_1 7 t146) = some (r1, r2) := H
           have A22 := Aside0.mk A220
           clear A220
           have H' := Aside0.mk H
           clear H
           go_wp2_with (first | ((with_reducible refine gate_callee (f := 86) rfl ?_); refine goesL_ (some 44) rfl rfl Tryd.func86 (by kernel_rfl) rfl #[.string (a0.extract (x6_1 : Int).toNat a0.size)] rfl ar_ ?_; (with_reducible refine (b_named.calls kj6 (a0.extract (x6_1 : Int).toNat a0.size) t146 _ A22.out).mono ?_); rintro e w' ⟨rfl, ⟨nd, rfl⟩⟩; refine ⟨_, rfl, ?_⟩))
           go_meet
           case rel => exact ⟨_, (7), (t146), er_, er_, H', ⟨by have := HK1.out; have := HJ6.out; first | omega | exact Nat.le_refl _⟩, ⟨by (with_reducible repeat (first | apply Kd.R_alloc | apply Kd.R_drewN | apply Kd.R_drew)); exact HO_4.out⟩, ⟨by (with_reducible repeat (first | apply Kd.R_alloc | apply Kd.R_drewN | apply Kd.R_drew)); exact HO_5.out⟩, ⟨bl_⟩⟩
          exact absurd H (by simp)
         exact absurd H (by simp)
        replace c19 := Bool.eq_false_iff.mpr c19
        subst c19
        have H1 : (b_Tokens.j2 kj6 a0 x4_1 x5_1 x6_1 x7_1 0 0) = some (r1, r2) := by rw [if_neg (show ¬ (false = true) by decide)] at H; exact H
        clear H
        have H := H1
        clear H1
        have H' := Aside0.mk H
        clear H
        go_wp2
        go_meet
        case rel => exact ⟨_, (0), (0), er_, er_, H', ⟨by have := HK1.out; have := HJ6.out; first | omega | exact Nat.le_refl _⟩, ⟨by (with_reducible repeat (first | apply Kd.R_alloc | apply Kd.R_drewN | apply Kd.R_drew)); exact HO_4.out⟩, ⟨by (with_reducible repeat (first | apply Kd.R_alloc | apply Kd.R_drewN | apply Kd.R_drew)); exact HO_5.out⟩, ⟨bl_⟩⟩
       case rest =>
        clear HC18
        try clear c2
        try clear c2b0
        try clear c3
        try clear c3b0
        try clear p4
        try clear q4
        try clear hx4
        try clear c6
        try clear c8
        try clear c8b0
        try clear c8b1
        try clear c9
        try clear c9b0
        try clear c9b1
        try clear c10
        try clear c10b0
        try clear c10b1
        try clear c11
        try clear c11b0
        try clear c11b1
        try clear c13
        try clear c13b0
        try clear c13b1
        try clear c14
        try clear c14b0
        try clear c14b1
        try clear c19
        try clear c20b0
        try clear c20b1
        try clear c21b0
        try clear c21b1
        try clear hx142_0
        try clear hx143_0
        try clear hx144_0
        try clear hx145_0
        try clear p142
        try clear p143
        try clear p144
        try clear p145
        try clear p4
        try clear q142
        try clear q143
        try clear q144
        try clear q145
        try clear q4
        obtain ⟨kq, x8_17, x9_17, rfl, rfl, HA, HJ17, HO_4, HO_5, HB⟩ := hcut
        cases kq with
        | zero => exact absurd HA.out (by simp [b_Tokens.j2])
        | succ kj17 =>
         have H := HA.out
         clear HA
         simp only [b_Tokens.j2] at H
         have HC23 := Aside0.mk H
         clear H
         go_upto_if 46 with (fail)
         go_cut [8, 9] (fun v8 v9 wc => ∃ (kq : Nat) (x8_22 : Int) (x9_22 : Int), v8 = .int .i64 x8_22 ∧ v9 = .int .i64 x9_22 ∧ Aside0 (b_Tokens.j3 kq a0 x4_1 x5_1 x6_1 x7_1 x8_22 x9_22 = some (r1, r2)) ∧ Aside0 (kq ≤ kj17) ∧ Aside0 (Kd.R k44 44 wc w.heap.size (fun _ => True) u4 x4_1) ∧ Aside0 (Kd.R Kd.string 9 wc w.heap.size (fun _ => True) u5 x5_1) ∧ Aside0 (Below w.heap.size w wc))
         case first =>
          have H := HC23.out
          clear HC23
          replace H := ie_ H
          obtain ⟨c24b0, c24b1, H⟩ | ⟨c24b0, c24b1, c24, H⟩ := H
          ·(first | rw [c24b0] | (simp only [i64_w, i32_w]; rw [c24b0]) | skip)
           replace H := id_ H
           obtain ⟨c25b0, c25b1, H⟩ | ⟨-, -, H⟩ := H
           ·replace H := id_ H
            obtain ⟨c26b0, c26b1, H⟩ | ⟨-, -, H⟩ := H
            ·replace H := Option.bind_eq_some_iff.mp H
             obtain ⟨t147, A270, H⟩ := H
             replace H : (b_Tokens.j3 kj17 a0 x4_1 x5_1 x6_1 x7_1 8 t147) = some (r1, r2) := H
             have A27 := Aside0.mk A270
             clear A270
             have H' := Aside0.mk H
             clear H
             go_wp2_with (first | ((with_reducible refine gate_callee (f := 87) rfl ?_); refine goesL_ (some 50) rfl rfl Tryd.func87 (by kernel_rfl) rfl #[.string (a0.extract (x6_1 : Int).toNat a0.size)] rfl ar_ ?_; (with_reducible refine (b_remark.calls kj17 (a0.extract (x6_1 : Int).toNat a0.size) t147 _ A27.out).mono ?_); rintro e w' ⟨rfl, ⟨nd, rfl⟩⟩; refine ⟨_, rfl, ?_⟩))
             go_meet
             case rel => exact ⟨_, (8), (t147), er_, er_, H', ⟨by have := HK1.out; have := HJ6.out; have := HJ17.out; first | omega | exact Nat.le_refl _⟩, ⟨by (with_reducible repeat (first | apply Kd.R_alloc | apply Kd.R_drewN | apply Kd.R_drew)); exact HO_4.out⟩, ⟨by (with_reducible repeat (first | apply Kd.R_alloc | apply Kd.R_drewN | apply Kd.R_drew)); exact HO_5.out⟩, ⟨bl_⟩⟩
            exact absurd H (by simp)
           exact absurd H (by simp)
          (first | rw [c24b0] | (simp only [i64_w, i32_w]; rw [c24b0]) | skip)
          have H' := Aside0.mk H
          clear H
          go_wp2
          go_meet
          case rel => exact ⟨_, (x8_17), (x9_17), er_, er_, H', ⟨by have := HK1.out; have := HJ6.out; have := HJ17.out; first | omega | exact Nat.le_refl _⟩, ⟨by (with_reducible repeat (first | apply Kd.R_alloc | apply Kd.R_drewN | apply Kd.R_drew)); exact HO_4.out⟩, ⟨by (with_reducible repeat (first | apply Kd.R_alloc | apply Kd.R_drewN | apply Kd.R_drew)); exact HO_5.out⟩, ⟨bl_⟩⟩
         case rest =>
          clear HC23
          try clear c2
          try clear c2b0
          try clear c3
          try clear c3b0
          try clear p4
          try clear q4
          try clear hx4
          try clear c6
          try clear c8
          try clear c8b0
          try clear c8b1
          try clear c9
          try clear c9b0
          try clear c9b1
          try clear c10
          try clear c10b0
          try clear c10b1
          try clear c11
          try clear c11b0
          try clear c11b1
          try clear c13
          try clear c13b0
          try clear c13b1
          try clear c14
          try clear c14b0
          try clear c14b1
          try clear c19
          try clear c20b0
          try clear c20b1
          try clear c21b0
          try clear c21b1
          try clear c24
          try clear c24b0
          try clear c24b1
          try clear c25b0
          try clear c25b1
          try clear c26b0
          try clear c26b1
          try clear hx142_0
          try clear hx143_0
          try clear hx144_0
          try clear hx145_0
          try clear p142
          try clear p143
          try clear p144
          try clear p145
          try clear p4
          try clear q142
          try clear q143
          try clear q144
          try clear q145
          try clear q4
          obtain ⟨kq, x8_22, x9_22, rfl, rfl, HA, HJ22, HO_4, HO_5, HB⟩ := hcut
          cases kq with
          | zero => exact absurd HA.out (by simp [b_Tokens.j3])
          | succ kj22 =>
           have H := HA.out
           clear HA
           simp only [b_Tokens.j3] at H
           replace H := ib_ H
           obtain ⟨c28, H⟩ | ⟨c28, H⟩ := H
           ·have c28b0 := decide_eq_true c28
            clear c28
            simp only [Option.some.injEq, Prod.mk.injEq] at H
            obtain ⟨rfl, rfl⟩ := H
            go_wp2
            go_ret2
            exact ⟨_, es_, by first | exact Kd.R_nil _ _ _ _ _ | exact Kd.N_nil _ _ _ _ _ | exact Kd.V_nil _ _ _ _ _ | exact Kd.Q_nil _ _ _ _ _ | exact Kd.S_nil _ _ _ _ _, bl_⟩
           have c28b0 := decide_eq_false c28
           clear c28
           have HC29 := Aside0.mk H
           clear H
           go_upto_if 54 with (fail)
           go_cut [8, 9] (fun v8 v9 wc => ∃ (kq : Nat) (x8_28 : Int) (x9_28 : Int), v8 = .int .i64 x8_28 ∧ v9 = .int .i64 x9_28 ∧ Aside0 (b_Tokens.j4 kq a0 x4_1 x5_1 x6_1 x7_1 x8_28 x9_28 = some (r1, r2)) ∧ Aside0 (kq ≤ kj22) ∧ Aside0 (Kd.R k44 44 wc w.heap.size (fun _ => True) u4 x4_1) ∧ Aside0 (Kd.R Kd.string 9 wc w.heap.size (fun _ => True) u5 x5_1) ∧ Aside0 (Below w.heap.size w wc))
           case first =>
            have H := HC29.out
            clear HC29
            replace H := ie_ H
            obtain ⟨c30b0, c30b1, H⟩ | ⟨c30b0, c30b1, c30, H⟩ := H
            ·(first | rw [c30b0] | (simp only [i64_w, i32_w]; rw [c30b0]) | skip)
             replace H := id_ H
             obtain ⟨c31b0, c31b1, H⟩ | ⟨-, -, H⟩ := H
             ·replace H := id_ H
              obtain ⟨c32b0, c32b1, H⟩ | ⟨-, -, H⟩ := H
              ·replace H := Option.bind_eq_some_iff.mp H
               obtain ⟨⟨t148, t149⟩, A330, H⟩ := H
               replace H : (b_Tokens.j4 kj22 a0 x4_1 x5_1 x6_1 x7_1 t148 t149) = some (r1, r2) := H
               have A33 := Aside0.mk A330
               clear A330
               have H' := Aside0.mk H
               clear H
               go_wp2_with (first | ((with_reducible refine gate_callee (f := 88) rfl ?_); refine goesL_ (some 59) rfl rfl Tryd.func88 (by kernel_rfl) rfl #[.string (a0.extract (x6_1 : Int).toNat a0.size)] rfl ar_ ?_; (with_reducible refine (b_longest.calls kj22 (a0.extract (x6_1 : Int).toNat a0.size) t148 t149 _ A33.out).mono ?_); rintro e w34 ⟨rfl, hb⟩; refine ⟨_, rfl, ?_⟩; have n0_ := Aside0.mk (Kd.R_below (by (with_reducible repeat (first | apply Kd.R_alloc | apply Kd.R_drewN | apply Kd.R_drew)); exact HO_4.out) hb); have n1_ := Aside0.mk (Kd.R_below (by (with_reducible repeat (first | apply Kd.R_alloc | apply Kd.R_drewN | apply Kd.R_drew)); exact HO_5.out) hb); have n2_ := Aside0.mk (below_step bl_ hb); clear HO_4; clear HO_5; clear HB; have HO_4 := n0_; have HO_5 := n1_; have HB := n2_; clear n0_ n1_ n2_; (try clear hb); (try clear hb2); (try clear hk); (try clear hi)))
               go_meet
               case rel => exact ⟨_, (t148), (t149), er_, er_, H', ⟨by have := HK1.out; have := HJ6.out; have := HJ17.out; have := HJ22.out; first | omega | exact Nat.le_refl _⟩, ⟨by (with_reducible repeat (first | apply Kd.R_alloc | apply Kd.R_drewN | apply Kd.R_drew)); exact HO_4.out⟩, ⟨by (with_reducible repeat (first | apply Kd.R_alloc | apply Kd.R_drewN | apply Kd.R_drew)); exact HO_5.out⟩, ⟨bl_⟩⟩
              exact absurd H (by simp)
             exact absurd H (by simp)
            (first | rw [c30b0] | (simp only [i64_w, i32_w]; rw [c30b0]) | skip)
            have H' := Aside0.mk H
            clear H
            go_wp2
            go_meet
            case rel => exact ⟨_, (x8_22), (x9_22), er_, er_, H', ⟨by have := HK1.out; have := HJ6.out; have := HJ17.out; have := HJ22.out; first | omega | exact Nat.le_refl _⟩, ⟨by (with_reducible repeat (first | apply Kd.R_alloc | apply Kd.R_drewN | apply Kd.R_drew)); exact HO_4.out⟩, ⟨by (with_reducible repeat (first | apply Kd.R_alloc | apply Kd.R_drewN | apply Kd.R_drew)); exact HO_5.out⟩, ⟨bl_⟩⟩
           case rest =>
            clear HC29
            try clear c2
            try clear c2b0
            try clear c3
            try clear c3b0
            try clear p4
            try clear q4
            try clear hx4
            try clear c6
            try clear c8
            try clear c8b0
            try clear c8b1
            try clear c9
            try clear c9b0
            try clear c9b1
            try clear c10
            try clear c10b0
            try clear c10b1
            try clear c11
            try clear c11b0
            try clear c11b1
            try clear c13
            try clear c13b0
            try clear c13b1
            try clear c14
            try clear c14b0
            try clear c14b1
            try clear c19
            try clear c20b0
            try clear c20b1
            try clear c21b0
            try clear c21b1
            try clear c24
            try clear c24b0
            try clear c24b1
            try clear c25b0
            try clear c25b1
            try clear c26b0
            try clear c26b1
            try clear c28
            try clear c28b0
            try clear c30
            try clear c30b0
            try clear c30b1
            try clear c31b0
            try clear c31b1
            try clear c32b0
            try clear c32b1
            try clear hx142_0
            try clear hx143_0
            try clear hx144_0
            try clear hx145_0
            try clear p142
            try clear p143
            try clear p144
            try clear p145
            try clear p4
            try clear q142
            try clear q143
            try clear q144
            try clear q145
            try clear q4
            obtain ⟨kq, x8_28, x9_28, rfl, rfl, HA, HJ28, HO_4, HO_5, HB⟩ := hcut
            cases kq with
            | zero => exact absurd HA.out (by simp [b_Tokens.j4])
            | succ kj28 =>
             have H := HA.out
             clear HA
             simp only [b_Tokens.j4] at H
             replace H := ie_ H
             obtain ⟨c35b0, c35b1, H⟩ | ⟨c35b0, c35b1, c35, H⟩ := H
             ·simp only [Option.some.injEq, Prod.mk.injEq] at H
              obtain ⟨rfl, rfl⟩ := H
              go_wp2
              go_ret2
              exact ⟨_, es_, by first | exact Kd.R_nil _ _ _ _ _ | exact Kd.N_nil _ _ _ _ _ | exact Kd.V_nil _ _ _ _ _ | exact Kd.Q_nil _ _ _ _ _ | exact Kd.S_nil _ _ _ _ _, bl_⟩
             replace H := id_ H
             obtain ⟨c36b0, c36b1, H⟩ | ⟨-, -, H⟩ := H
             ·replace H := ib_ H
              obtain ⟨c37, H⟩ | ⟨c37, H⟩ := H
              ·have c37b0 := eq_true c37
               have c37b1 := decide_eq_true c37
               replace H := ib_ H
               obtain ⟨c38, H⟩ | ⟨c38, H⟩ := H
               ·have c38b0 := eq_true c38
                have c38b1 := decide_eq_true c38
                replace H := ib_ H
                obtain ⟨c39, H⟩ | ⟨c39, H⟩ := H
                ·have LMc39 := Aside0.mk c39
                 clear c39
                 obtain ⟨y150, hy150⟩ : ∃ y_ : List (S44), y_ = (x4_1 ++ [(⟨x8_28, a0.extract (x6_1 : Int).toNat ((wrap64 (x6_1 + x9_28)) : Int).toNat, x6_1, wrap64 (x6_1 + x9_28), x7_1⟩ : S44)]) := ⟨_, rfl⟩
                 replace H : (if x8_28 = 9 then (b_Tokens.l0 kj28 a0 y150 ([] : List ByteArray) (wrap64 (x6_1 + x9_28)) false) else (if x8_28 = 8 then (b_Tokens.l0 kj28 a0 y150 x5_1 (wrap64 (x6_1 + x9_28)) false) else (if x5_1.length < 8796093022208 then (b_Tokens.l0 kj28 a0 y150 (x5_1 ++ [a0.extract (x6_1 : Int).toNat ((wrap64 (x6_1 + x9_28)) : Int).toNat]) (wrap64 (x6_1 + x9_28)) false) else (none)))) = some (r1, r2) := by first | (rw [hy150]; with_reducible exact H) | (have H2_ := (Option.bind_some _ _).symm.trans H; rw [hy150]; with_reducible exact H2_) | (have H2_ := (Option.bind_some _ _).symm.trans H; with_reducible exact H2_) | with_reducible exact H | (rw [hy150]; exact H) | exact H
                 have Ny150 := Aside0.mk hy150
                 clear hy150
                 replace H := ie_ H
                 obtain ⟨c40b0, c40b1, H⟩ | ⟨c40b0, c40b1, c40, H⟩ := H
                 ·have H' := Aside0.mk H
                  clear H
                  go_wp2_with (first | ((with_reducible refine gate_builtin (b := .append) (xs := #[.tmp 64, .tmp 78]) rfl ?_); at_builtin; refine Kd.R_append k44 (w0 := w) w.heap.size rfl (.tmp 64) (.tmp 78) 42 44 (.agg #[(.int .i64 0), (.string ⟨#[]⟩), (.int .i64 0), (.int .i64 0), (.bool false)]) 48 rfl Tryd.underlying42 info44 rfl (by decide) (by omega) u4 x4_1 (⟨x8_28, a0.extract (x6_1 : Int).toNat ((wrap64 (x6_1 + x9_28)) : Int).toNat, x6_1, wrap64 (x6_1 + x9_28), x7_1⟩ : S44) [.int .i64 x8_28, .string (a0.extract (x6_1 : Int).toNat ((wrap64 (x6_1 + x9_28)) : Int).toNat), .int .i64 x6_1, .int .i64 (wrap64 (x6_1 + x9_28)), .bool x7_1] (fun _ => True) (fun _ => False) rfl rfl ?aP (fun _ hk => hk.elim) ?aF ?aO ?aB ?aS ?aL ?_; (case aP => exact k44_mkM _ _ _ (⟨x8_28, a0.extract (x6_1 : Int).toNat ((wrap64 (x6_1 + x9_28)) : Int).toNat, x6_1, wrap64 (x6_1 + x9_28), x7_1⟩ : S44)); (case aB => exact bl_); (case aF => exact (fun _ _ => trivial)); (case aO => exact (by (with_reducible repeat (first | apply Kd.R_alloc | apply Kd.R_drewN | apply Kd.R_drew)); exact HO_4.out)); (case aS => exact (below_size bl_)); (case aL => have := LMc39.out; omega); intro v151 w41 ho hb hg hat; rw [← Ny150.out] at ho; have n0_ := Aside0.mk (Kd.R_over' (by (with_reducible repeat (first | apply Kd.R_alloc | apply Kd.R_drewN | apply Kd.R_drew)); exact HO_5.out) (Kd.R_typed (by (with_reducible repeat (first | apply Kd.R_alloc | apply Kd.R_drewN | apply Kd.R_drew)); exact HO_4.out)) (by decide) hg); have n1_ := Aside0.mk (hb); have n2_ := Aside0.mk (ho); clear HO_5; clear HB; clear HO_4; have HO_5 := n0_; have HB := n1_; have HO152 := n2_; clear n0_ n1_ n2_; clear ho hb hg hat))
                  go_roundg kj28
                  case measure => have := HK1.out; have := HJ6.out; have := HJ17.out; have := HJ22.out; have := HJ28.out; omega
                  case rel => exact ⟨(y150), (([] : List ByteArray)), (wrap64 (x6_1 + x9_28)), (false), er_, er_, H', ⟨by have := HK1.out; have := HJ6.out; have := HJ17.out; have := HJ22.out; have := HJ28.out; omega⟩, ⟨by (with_reducible repeat (first | apply Kd.R_alloc | apply Kd.R_drewN | apply Kd.R_drew)); exact HO152.out⟩, ⟨by first | exact Kd.R_nil _ _ _ _ _ | exact Kd.N_nil _ _ _ _ _ | exact Kd.V_nil _ _ _ _ _ | exact Kd.Q_nil _ _ _ _ _ | exact Kd.S_nil _ _ _ _ _⟩, ⟨bl_⟩⟩
                 replace H := ie_ H
                 obtain ⟨c42b0, c42b1, H⟩ | ⟨c42b0, c42b1, c42, H⟩ := H
                 ·have H' := Aside0.mk H
                  clear H
                  go_wp2_with (first | ((with_reducible refine gate_builtin (b := .append) (xs := #[.tmp 64, .tmp 78]) rfl ?_); at_builtin; refine Kd.R_append k44 (w0 := w) w.heap.size rfl (.tmp 64) (.tmp 78) 42 44 (.agg #[(.int .i64 0), (.string ⟨#[]⟩), (.int .i64 0), (.int .i64 0), (.bool false)]) 48 rfl Tryd.underlying42 info44 rfl (by decide) (by omega) u4 x4_1 (⟨x8_28, a0.extract (x6_1 : Int).toNat ((wrap64 (x6_1 + x9_28)) : Int).toNat, x6_1, wrap64 (x6_1 + x9_28), x7_1⟩ : S44) [.int .i64 x8_28, .string (a0.extract (x6_1 : Int).toNat ((wrap64 (x6_1 + x9_28)) : Int).toNat), .int .i64 x6_1, .int .i64 (wrap64 (x6_1 + x9_28)), .bool x7_1] (fun _ => True) (fun _ => False) rfl rfl ?aP (fun _ hk => hk.elim) ?aF ?aO ?aB ?aS ?aL ?_; (case aP => exact k44_mkM _ _ _ (⟨x8_28, a0.extract (x6_1 : Int).toNat ((wrap64 (x6_1 + x9_28)) : Int).toNat, x6_1, wrap64 (x6_1 + x9_28), x7_1⟩ : S44)); (case aB => exact bl_); (case aF => exact (fun _ _ => trivial)); (case aO => exact (by (with_reducible repeat (first | apply Kd.R_alloc | apply Kd.R_drewN | apply Kd.R_drew)); exact HO_4.out)); (case aS => exact (below_size bl_)); (case aL => have := LMc39.out; omega); intro v151 w43 ho hb hg hat; rw [← Ny150.out] at ho; have n0_ := Aside0.mk (Kd.R_over' (by (with_reducible repeat (first | apply Kd.R_alloc | apply Kd.R_drewN | apply Kd.R_drew)); exact HO_5.out) (Kd.R_typed (by (with_reducible repeat (first | apply Kd.R_alloc | apply Kd.R_drewN | apply Kd.R_drew)); exact HO_4.out)) (by decide) hg); have n1_ := Aside0.mk (hb); have n2_ := Aside0.mk (ho); clear HO_5; clear HB; clear HO_4; have HO_5 := n0_; have HB := n1_; have HO152 := n2_; clear n0_ n1_ n2_; clear ho hb hg hat))
                  go_roundg kj28
                  case measure => have := HK1.out; have := HJ6.out; have := HJ17.out; have := HJ22.out; have := HJ28.out; omega
                  case rel => exact ⟨(y150), (x5_1), (wrap64 (x6_1 + x9_28)), (false), er_, er_, H', ⟨by have := HK1.out; have := HJ6.out; have := HJ17.out; have := HJ22.out; have := HJ28.out; omega⟩, ⟨by (with_reducible repeat (first | apply Kd.R_alloc | apply Kd.R_drewN | apply Kd.R_drew)); exact HO152.out⟩, ⟨by (with_reducible repeat (first | apply Kd.R_alloc | apply Kd.R_drewN | apply Kd.R_drew)); exact HO_5.out⟩, ⟨bl_⟩⟩
                 have c44b0 := eq_true (da_ : 0 ≤ x6_1)
                 have c45b0 := eq_true (da_ : x6_1 ≤ (wrap64 (x6_1 + x9_28)))
                 have c46b0 := eq_true (da_ : (wrap64 (x6_1 + x9_28)) ≤ (a0.size : Int))
                 replace H := ib_ H
                 obtain ⟨c47, H⟩ | ⟨c47, H⟩ := H
                 ·have LMc47 := Aside0.mk c47
                  clear c47
                  obtain ⟨y153, hy153⟩ : ∃ y_ : List ByteArray, y_ = (x5_1 ++ [a0.extract (x6_1 : Int).toNat ((wrap64 (x6_1 + x9_28)) : Int).toNat]) := ⟨_, rfl⟩
                  replace H : (b_Tokens.l0 kj28 a0 y150 y153 (wrap64 (x6_1 + x9_28)) false) = some (r1, r2) := by first | (rw [hy153]; with_reducible exact H) | (have H2_ := (Option.bind_some _ _).symm.trans H; rw [hy153]; with_reducible exact H2_) | (have H2_ := (Option.bind_some _ _).symm.trans H; with_reducible exact H2_) | with_reducible exact H | (rw [hy153]; exact H) | exact H
                  have Ny153 := Aside0.mk hy153
                  clear hy153
                  have H' := Aside0.mk H
                  clear H
                  go_wp2_with (first | ((with_reducible refine gate_builtin (b := .append) (xs := #[.tmp 64, .tmp 78]) rfl ?_); at_builtin; refine Kd.R_append k44 (w0 := w) w.heap.size rfl (.tmp 64) (.tmp 78) 42 44 (.agg #[(.int .i64 0), (.string ⟨#[]⟩), (.int .i64 0), (.int .i64 0), (.bool false)]) 48 rfl Tryd.underlying42 info44 rfl (by decide) (by omega) u4 x4_1 (⟨x8_28, a0.extract (x6_1 : Int).toNat ((wrap64 (x6_1 + x9_28)) : Int).toNat, x6_1, wrap64 (x6_1 + x9_28), x7_1⟩ : S44) [.int .i64 x8_28, .string (a0.extract (x6_1 : Int).toNat ((wrap64 (x6_1 + x9_28)) : Int).toNat), .int .i64 x6_1, .int .i64 (wrap64 (x6_1 + x9_28)), .bool x7_1] (fun _ => True) (fun _ => False) rfl rfl ?aP (fun _ hk => hk.elim) ?aF ?aO ?aB ?aS ?aL ?_; (case aP => exact k44_mkM _ _ _ (⟨x8_28, a0.extract (x6_1 : Int).toNat ((wrap64 (x6_1 + x9_28)) : Int).toNat, x6_1, wrap64 (x6_1 + x9_28), x7_1⟩ : S44)); (case aB => exact bl_); (case aF => exact (fun _ _ => trivial)); (case aO => exact (by (with_reducible repeat (first | apply Kd.R_alloc | apply Kd.R_drewN | apply Kd.R_drew)); exact HO_4.out)); (case aS => exact (below_size bl_)); (case aL => have := LMc39.out; omega); intro v151 w48 ho hb hg hat; rw [← Ny150.out] at ho; have n0_ := Aside0.mk (Kd.R_over' (by (with_reducible repeat (first | apply Kd.R_alloc | apply Kd.R_drewN | apply Kd.R_drew)); exact HO_5.out) (Kd.R_typed (by (with_reducible repeat (first | apply Kd.R_alloc | apply Kd.R_drewN | apply Kd.R_drew)); exact HO_4.out)) (by decide) hg); have n1_ := Aside0.mk (hb); have n2_ := Aside0.mk (ho); clear HO_5; clear HB; clear HO_4; have HO_5 := n0_; have HB := n1_; have HO152 := n2_; clear n0_ n1_ n2_; clear ho hb hg hat) | ((with_reducible refine gate_builtin (b := .append) (xs := #[.tmp 84, .tmp 91]) rfl ?_); at_builtin; refine Kd.R_append Kd.string (w0 := w) w.heap.size rfl (.tmp 84) (.tmp 91) 96 9 (.string ⟨#[]⟩) 16 rfl Tryd.underlying96 info9 rfl (by decide) (by omega) u5 x5_1 (a0.extract (x6_1 : Int).toNat ((wrap64 (x6_1 + x9_28)) : Int).toNat) [.string (a0.extract (x6_1 : Int).toNat ((wrap64 (x6_1 + x9_28)) : Int).toNat)] (fun _ => True) (fun _ => False) rfl rfl ?aP (fun _ hk => hk.elim) ?aF ?aO ?aB ?aS ?aL ?_; (case aP => exact rfl); (case aB => exact bl_); (case aF => exact (fun _ _ => trivial)); (case aO => exact (by (with_reducible repeat (first | apply Kd.R_alloc | apply Kd.R_drewN | apply Kd.R_drew)); exact HO_5.out)); (case aS => exact (below_size bl_)); (case aL => have := LMc47.out; omega); intro v154 w49 ho hb hg hat; rw [← Ny153.out] at ho; have n0_ := Aside0.mk (Kd.R_over' (by (with_reducible repeat (first | apply Kd.R_alloc | apply Kd.R_drewN | apply Kd.R_drew)); exact HO152.out) (Kd.R_typed (by (with_reducible repeat (first | apply Kd.R_alloc | apply Kd.R_drewN | apply Kd.R_drew)); exact HO_5.out)) (by decide) hg); have n1_ := Aside0.mk (hb); have n2_ := Aside0.mk (ho); clear HO152; clear HB; clear HO_5; have HO152 := n0_; have HB := n1_; have HO155 := n2_; clear n0_ n1_ n2_; clear ho hb hg hat))
                  go_roundg kj28
                  case measure => have := HK1.out; have := HJ6.out; have := HJ17.out; have := HJ22.out; have := HJ28.out; omega
                  case rel => exact ⟨(y150), (y153), (wrap64 (x6_1 + x9_28)), (false), er_, er_, H', ⟨by have := HK1.out; have := HJ6.out; have := HJ17.out; have := HJ22.out; have := HJ28.out; omega⟩, ⟨by (with_reducible repeat (first | apply Kd.R_alloc | apply Kd.R_drewN | apply Kd.R_drew)); exact HO152.out⟩, ⟨by (with_reducible repeat (first | apply Kd.R_alloc | apply Kd.R_drewN | apply Kd.R_drew)); exact HO155.out⟩, ⟨bl_⟩⟩
                 exact absurd H (by simp)
                exact absurd H (by simp)
               exact absurd H (by simp)
              exact absurd H (by simp)
             exact absurd H (by simp)
    exact absurd H (by simp)
   have c2b0 := decide_eq_false c2
   clear c2
   simp only [Option.some.injEq, Prod.mk.injEq] at H
   obtain ⟨rfl, rfl⟩ := H
   go_wp2
   go_ret2
   exact ⟨_, es_, by (with_reducible repeat (first | apply Kd.R_alloc | apply Kd.R_drewN | apply Kd.R_drew)); exact HO_4.out, bl_⟩
def b_One.f (k : Nat) (a0 : ByteArray) : Option (Int × Bool) := (b_Tokens.f k a0).bind fun bt156 => (if bt156.2 = 0 then (if (bt156.1.length : Int) = 1 then (if 0 < (bt156.1.length : Int) then (if ((rd_T44 bt156.1 0).f1).toList = a0.toList then (some ((rd_T44 bt156.1 0).f0, true)) else (some (0, false))) else (none)) else (some (0, false))) else (some (0, false)))
theorem b_One.mono : ∀ a0 k, LeO (b_One.f k a0) (b_One.f (k + 1) a0) := by
 intro a0 k
 unfold b_One.f
 repeat' first
   | (with_reducible exact b_Tokens.mono _ _)
   | (with_reducible exact LeO.refl _)
   | (with_reducible exact LeO.none _)
   | (with_reducible refine LeO.ite ?_ ?_)
   | (with_reducible refine LeO.bind ?_ (fun _ => ?_))
theorem b_One.calls (k : Nat) (a0 : ByteArray) (r1 : Int) (r2 : Bool) (w : World) (h : b_One.f k a0 = some (r1, r2)) :
  Calls Tryd.prog 56 #[.string a0] w fun e w' => e = .returned (.tuple #[.int .i64 r1, .bool r2]) ∧ Below w.heap.size w w' := by
 have HB := Aside0.mk (Below.refl w.heap.size w)
 have H : ((b_Tokens.f k a0).bind fun bt156 => (if bt156.2 = 0 then (if (bt156.1.length : Int) = 1 then (if 0 < (bt156.1.length : Int) then (if ((rd_T44 bt156.1 0).f1).toList = a0.toList then (some ((rd_T44 bt156.1 0).f0, true)) else (some (0, false))) else (none)) else (some (0, false))) else (some (0, false)))) = some (r1, r2) := h
 clear h
 replace H := Option.bind_eq_some_iff.mp H
 obtain ⟨⟨t156, t157⟩, A20, H⟩ := H
 replace H : (if t157 = 0 then (if (t156.length : Int) = 1 then (if 0 < (t156.length : Int) then (if ((rd_T44 t156 0).f1).toList = a0.toList then (some ((rd_T44 t156 0).f0, true)) else (some (0, false))) else (none)) else (some (0, false))) else (some (0, false))) = some (r1, r2) := H
 have A2 := Aside0.mk A20
 clear A20
 replace H := ie_ H
 obtain ⟨c3b0, c3b1, H⟩ | ⟨c3b0, c3b1, c3, H⟩ := H
 ·replace H := ie_ H
  obtain ⟨c4b0, c4b1, H⟩ | ⟨c4b0, c4b1, c4, H⟩ := H
  ·replace H := ib_ H
   obtain ⟨c5, H⟩ | ⟨c5, H⟩ := H
   ·have c5b0 := decide_eq_true c5
    have c5b1 : decide (0 < t156.length) = true := decide_eq_true (by omega)
    clear c5
    replace H := ie_ H
    obtain ⟨c6b0, c6b1, H⟩ | ⟨c6b0, c6b1, c6, H⟩ := H
    ·simp only [Option.some.injEq, Prod.mk.injEq] at H
     obtain ⟨rfl, rfl⟩ := H
     go_enter Tryd.func56, Tryd.ntmps56
     go_wp2_with (first | ((with_reducible refine gate_callee (f := 70) rfl ?_); refine goesL_ (some 8) rfl rfl Tryd.func70 (by kernel_rfl) rfl #[.string a0] rfl ar_ ?_; (with_reducible refine (b_Tokens.calls k a0 t156 t157 _ A2.out).mono ?_); rintro e w7 ⟨v158, rfl, ho0, hb⟩; refine ⟨_, rfl, ?_⟩; have n0_ := Aside0.mk (Kd.R_lower ho0 (below_size bl_)); have n1_ := Aside0.mk (below_step bl_ hb); clear HB; have HO159 := n0_; have HB := n1_; clear n0_ n1_; (try clear hb); (try clear hb2); (try clear hk); (try clear hi); (try clear ho0); obtain ⟨Ao8, co8, eo8⟩ := Kd.R_slice HO159.out; subst eo8; have p160 : 0 ≤ (0 : Int) := (by omega); have q160 : 0 < (t156.length : Int) := da_; obtain ⟨ad160, e160, hx160_0, hx160_1, hx160_2, hx160_3, hx160_4⟩ := at_T44 (Kd.R_reads' HO159.out).2.2 0 p160 q160; cases e160; have qi160 : (0 < t156.length) = True := eq_true (by omega); (try rw [show ((0 : Int)).toNat = 0 from rfl] at hx160_0); (try rw [show 0 * 5 = 0 from rfl] at hx160_0); (try rw [Addr.add_zero'] at hx160_0); (try rw [show ((0 : Int)).toNat = 0 from rfl] at hx160_1); (try rw [show 0 * 5 = 0 from rfl] at hx160_1); (try rw [Addr.add_zero'] at hx160_1); (try rw [show ((0 : Int)).toNat = 0 from rfl] at hx160_2); (try rw [show 0 * 5 = 0 from rfl] at hx160_2); (try rw [Addr.add_zero'] at hx160_2); (try rw [show ((0 : Int)).toNat = 0 from rfl] at hx160_3); (try rw [show 0 * 5 = 0 from rfl] at hx160_3); (try rw [Addr.add_zero'] at hx160_3); (try rw [show ((0 : Int)).toNat = 0 from rfl] at hx160_4); (try rw [show 0 * 5 = 0 from rfl] at hx160_4); (try rw [Addr.add_zero'] at hx160_4); replace p160 := eq_true p160; replace q160 := eq_true q160; have p161 : 0 ≤ (0 : Int) := (by omega); have q161 : 0 < (t156.length : Int) := da_; obtain ⟨ad161, e161, hx161_0, hx161_1, hx161_2, hx161_3, hx161_4⟩ := at_T44 (Kd.R_reads' HO159.out).2.2 0 p161 q161; obtain rfl : ad160 = ad161 := (by injection e161); have qi161 : (0 < t156.length) = True := eq_true (by omega); (try rw [show ((0 : Int)).toNat = 0 from rfl] at hx161_0); (try rw [show 0 * 5 = 0 from rfl] at hx161_0); (try rw [Addr.add_zero'] at hx161_0); (try rw [show ((0 : Int)).toNat = 0 from rfl] at hx161_1); (try rw [show 0 * 5 = 0 from rfl] at hx161_1); (try rw [Addr.add_zero'] at hx161_1); (try rw [show ((0 : Int)).toNat = 0 from rfl] at hx161_2); (try rw [show 0 * 5 = 0 from rfl] at hx161_2); (try rw [Addr.add_zero'] at hx161_2); (try rw [show ((0 : Int)).toNat = 0 from rfl] at hx161_3); (try rw [show 0 * 5 = 0 from rfl] at hx161_3); (try rw [Addr.add_zero'] at hx161_3); (try rw [show ((0 : Int)).toNat = 0 from rfl] at hx161_4); (try rw [show 0 * 5 = 0 from rfl] at hx161_4); (try rw [Addr.add_zero'] at hx161_4); replace p161 := eq_true p161; replace q161 := eq_true q161))
     go_ret2
     exact ⟨es_, bl_⟩
    simp only [Option.some.injEq, Prod.mk.injEq] at H
    obtain ⟨rfl, rfl⟩ := H
    go_enter Tryd.func56, Tryd.ntmps56
    go_wp2_with (first | ((with_reducible refine gate_callee (f := 70) rfl ?_); refine goesL_ (some 8) rfl rfl Tryd.func70 (by kernel_rfl) rfl #[.string a0] rfl ar_ ?_; (with_reducible refine (b_Tokens.calls k a0 t156 t157 _ A2.out).mono ?_); rintro e w9 ⟨v158, rfl, ho0, hb⟩; refine ⟨_, rfl, ?_⟩; have n0_ := Aside0.mk (Kd.R_lower ho0 (below_size bl_)); have n1_ := Aside0.mk (below_step bl_ hb); clear HB; have HO159 := n0_; have HB := n1_; clear n0_ n1_; (try clear hb); (try clear hb2); (try clear hk); (try clear hi); (try clear ho0); obtain ⟨Ao10, co10, eo10⟩ := Kd.R_slice HO159.out; subst eo10; have p160 : 0 ≤ (0 : Int) := (by omega); have q160 : 0 < (t156.length : Int) := da_; obtain ⟨ad160, e160, hx160_0, hx160_1, hx160_2, hx160_3, hx160_4⟩ := at_T44 (Kd.R_reads' HO159.out).2.2 0 p160 q160; cases e160; have qi160 : (0 < t156.length) = True := eq_true (by omega); (try rw [show ((0 : Int)).toNat = 0 from rfl] at hx160_0); (try rw [show 0 * 5 = 0 from rfl] at hx160_0); (try rw [Addr.add_zero'] at hx160_0); (try rw [show ((0 : Int)).toNat = 0 from rfl] at hx160_1); (try rw [show 0 * 5 = 0 from rfl] at hx160_1); (try rw [Addr.add_zero'] at hx160_1); (try rw [show ((0 : Int)).toNat = 0 from rfl] at hx160_2); (try rw [show 0 * 5 = 0 from rfl] at hx160_2); (try rw [Addr.add_zero'] at hx160_2); (try rw [show ((0 : Int)).toNat = 0 from rfl] at hx160_3); (try rw [show 0 * 5 = 0 from rfl] at hx160_3); (try rw [Addr.add_zero'] at hx160_3); (try rw [show ((0 : Int)).toNat = 0 from rfl] at hx160_4); (try rw [show 0 * 5 = 0 from rfl] at hx160_4); (try rw [Addr.add_zero'] at hx160_4); replace p160 := eq_true p160; replace q160 := eq_true q160))
    go_ret2
    exact ⟨es_, bl_⟩
   exact absurd H (by simp)
  simp only [Option.some.injEq, Prod.mk.injEq] at H
  obtain ⟨rfl, rfl⟩ := H
  go_enter Tryd.func56, Tryd.ntmps56
  go_wp2_with (first | ((with_reducible refine gate_callee (f := 70) rfl ?_); refine goesL_ (some 8) rfl rfl Tryd.func70 (by kernel_rfl) rfl #[.string a0] rfl ar_ ?_; (with_reducible refine (b_Tokens.calls k a0 t156 t157 _ A2.out).mono ?_); rintro e w11 ⟨v158, rfl, ho0, hb⟩; refine ⟨_, rfl, ?_⟩; have n0_ := Aside0.mk (Kd.R_lower ho0 (below_size bl_)); have n1_ := Aside0.mk (below_step bl_ hb); clear HB; have HO159 := n0_; have HB := n1_; clear n0_ n1_; (try clear hb); (try clear hb2); (try clear hk); (try clear hi); (try clear ho0); obtain ⟨Ao12, co12, eo12⟩ := Kd.R_slice HO159.out; subst eo12))
  go_ret2
  exact ⟨es_, bl_⟩
 simp only [Option.some.injEq, Prod.mk.injEq] at H
 obtain ⟨rfl, rfl⟩ := H
 go_enter Tryd.func56, Tryd.ntmps56
 go_wp2_with (first | ((with_reducible refine gate_callee (f := 70) rfl ?_); refine goesL_ (some 8) rfl rfl Tryd.func70 (by kernel_rfl) rfl #[.string a0] rfl ar_ ?_; (with_reducible refine (b_Tokens.calls k a0 t156 t157 _ A2.out).mono ?_); rintro e w13 ⟨v158, rfl, ho0, hb⟩; refine ⟨_, rfl, ?_⟩; have n0_ := Aside0.mk (Kd.R_lower ho0 (below_size bl_)); have n1_ := Aside0.mk (below_step bl_ hb); clear HB; have HO159 := n0_; have HB := n1_; clear n0_ n1_; (try clear hb); (try clear hb2); (try clear hk); (try clear hi); (try clear ho0)))
 go_ret2
 exact ⟨es_, bl_⟩
def d_prefix.l0 : Nat → ByteArray → Int → Option (Int)
 | 0, _, _ => none
 | k + 1, x0, x3 => if 0 ≤ x3 then (if x3 < (x0.size : Int) then (if (bt x0 x3) = 39 then (some x3) else (if (bt x0 x3) = 34 then (some x3) else (d_prefix.l0 k x0 (wrap64 (x3 + 1))))) else (none)) else (none)
def d_prefix.f (k : Nat) (a0 : ByteArray) : Option (Int) := d_prefix.l0 k a0 0
theorem d_prefix.mono_l : ∀ k, (∀ y0 y1, LeO (d_prefix.l0 k y0 y1) (d_prefix.l0 (k + 1) y0 y1))
 | 0 => fun _ _ r h => by simp [d_prefix.l0] at h
 | k + 1 => by
  have ih0 := d_prefix.mono_l k
  intro y0 y1
  unfold d_prefix.l0
  repeat' first
  | (with_reducible exact ih0 _ _)
  | (with_reducible exact LeO.refl _)
  | (with_reducible exact LeO.none _)
  | (with_reducible refine LeO.ite ?_ ?_)
  | (with_reducible refine LeO.bind ?_ (fun _ => ?_))
theorem d_prefix.mono : ∀ a0 k, LeO (d_prefix.f k a0) (d_prefix.f (k + 1) a0) := by
 intro a0 k
 have ih0 := d_prefix.mono_l k
 unfold d_prefix.f
 repeat' first
   | (with_reducible exact ih0 _ _)
   | (with_reducible exact LeO.refl _)
   | (with_reducible exact LeO.none _)
   | (with_reducible refine LeO.ite ?_ ?_)
   | (with_reducible refine LeO.bind ?_ (fun _ => ?_))
theorem d_prefix.calls (k : Nat) (a0 : ByteArray) (r : Int) (w : World) (h : d_prefix.f k a0 = some r) :
  Calls Tryd.prog 57 #[.string a0] w fun e w' => e = .returned (.int .i64 r) ∧ Drawn0 w w' := by
 have H : (d_prefix.l0 k a0 0) = some r := h
 clear h
 have H' := Aside0.mk H
 clear H
 go_enter Tryd.func57, Tryd.ntmps57
 go_wp2
 go_loopg [3] k (fun kq v3 w' => ∃ (x3_1 : Int), v3 = .int .i64 x3_1 ∧ Aside0 (d_prefix.l0 kq a0 x3_1 = some r) ∧ Aside0 (kq ≤ k) ∧ Drawn0 w w')
 case atStart => exact ⟨(0), er_, H', ⟨Nat.le_refl _⟩, dr_⟩
 case round =>
  clear H'
  obtain ⟨x3_1, rfl, HA, HK1, ⟨m1, rfl⟩⟩ := hrel
  cases gk with
  | zero => exact absurd HA.out (by simp [d_prefix.l0])
  | succ k1 =>
   have H := HA.out
   clear HA
   simp only [d_prefix.l0] at H
   replace H := id_ H
   obtain ⟨-, c2b0, H⟩ | ⟨-, -, H⟩ := H
   ·replace H := id_ H
    obtain ⟨-, c3b0, H⟩ | ⟨-, -, H⟩ := H
    ·replace H := ie_ H
     obtain ⟨c5b0, c5b1, H⟩ | ⟨c5b0, c5b1, c5, H⟩ := H
     ·obtain rfl := Option.some.inj H
      have p4 : 0 ≤ (x3_1 : Int) := da_
      have q4 : x3_1 < (a0.size : Int) := da_
      have hx4 := bt_at a0 x3_1
      replace p4 := eq_true p4
      replace q4 := eq_true q4
      go_wp2
      go_ret
      exact ⟨er_, dr_⟩
     replace H := ie_ H
     obtain ⟨c7b0, c7b1, H⟩ | ⟨c7b0, c7b1, c7, H⟩ := H
     ·obtain rfl := Option.some.inj H
      have p4 : 0 ≤ (x3_1 : Int) := da_
      have q4 : x3_1 < (a0.size : Int) := da_
      have hx4 := bt_at a0 x3_1
      replace p4 := eq_true p4
      replace q4 := eq_true q4
      have p6 : 0 ≤ (x3_1 : Int) := da_
      have q6 : x3_1 < (a0.size : Int) := da_
      have hx6 := bt_at a0 x3_1
      replace p6 := eq_true p6
      replace q6 := eq_true q6
      go_wp2
      go_ret
      exact ⟨er_, dr_⟩
     have H' := Aside0.mk H
     clear H
     have p4 : 0 ≤ (x3_1 : Int) := da_
     have q4 : x3_1 < (a0.size : Int) := da_
     have hx4 := bt_at a0 x3_1
     replace p4 := eq_true p4
     replace q4 := eq_true q4
     have p6 : 0 ≤ (x3_1 : Int) := da_
     have q6 : x3_1 < (a0.size : Int) := da_
     have hx6 := bt_at a0 x3_1
     replace p6 := eq_true p6
     replace q6 := eq_true q6
     go_wp2
     go_roundg k1
     case measure => have := HK1.out; omega
     case rel => exact ⟨(wrap64 (x3_1 + 1)), er_, H', ⟨by have := HK1.out; omega⟩, dr_⟩
    exact absurd H (by simp)
   exact absurd H (by simp)
def d_simple.j0 : Nat → Int → Int → Bool → Option (Int)
 | 0, _, _, _ => none
 | k + 1, x0, x3, x4 => if x4 = true then (some (wrap64 (x0))) else (if x3 = 97 then (some 7) else (if x3 = 98 then (some 8) else (if x3 = 102 then (some 12) else (if x3 = 110 then (some 10) else (if x3 = 114 then (some 13) else (if x3 = 116 then (some 9) else (if x3 = 118 then (some 11) else (some 0))))))))
def d_simple.f (k : Nat) (a0 : Int) : Option (Int) := if a0 = 39 then (d_simple.j0 k a0 a0 (a0 == 39)) else (if a0 = 34 then (d_simple.j0 k a0 a0 (a0 == 34)) else (if a0 = 63 then (d_simple.j0 k a0 a0 (a0 == 63)) else (d_simple.j0 k a0 a0 (a0 == 92))))
theorem d_simple.mono_l : ∀ k, (∀ y0 y1 y2, LeO (d_simple.j0 k y0 y1 y2) (d_simple.j0 (k + 1) y0 y1 y2))
 | 0 => fun _ _ _ r h => by simp [d_simple.j0] at h
 | k + 1 => by
  have ih0 := d_simple.mono_l k
  intro y0 y1 y2
  unfold d_simple.j0
  repeat' first
  | (with_reducible exact ih0 _ _ _)
  | (with_reducible exact LeO.refl _)
  | (with_reducible exact LeO.none _)
  | (with_reducible refine LeO.ite ?_ ?_)
  | (with_reducible refine LeO.bind ?_ (fun _ => ?_))
theorem d_simple.mono : ∀ a0 k, LeO (d_simple.f k a0) (d_simple.f (k + 1) a0) := by
 intro a0 k
 have ih0 := d_simple.mono_l k
 unfold d_simple.f
 repeat' first
   | (with_reducible exact ih0 _ _ _)
   | (with_reducible exact LeO.refl _)
   | (with_reducible exact LeO.none _)
   | (with_reducible refine LeO.ite ?_ ?_)
   | (with_reducible refine LeO.bind ?_ (fun _ => ?_))
theorem d_simple.calls (k : Nat) (a0 : Int) (r : Int) (w : World) (h : d_simple.f k a0 = some r) :
  Calls Tryd.prog 89 #[.int .u8 a0] w fun e w' => e = .returned (.int .i64 r) ∧ Drawn0 w w' := by
 have H : (if a0 = 39 then (d_simple.j0 k a0 a0 (a0 == 39)) else (if a0 = 34 then (d_simple.j0 k a0 a0 (a0 == 34)) else (if a0 = 63 then (d_simple.j0 k a0 a0 (a0 == 63)) else (d_simple.j0 k a0 a0 (a0 == 92))))) = some r := h
 clear h
 have HC2 := Aside0.mk H
 clear H
 go_enter Tryd.func89, Tryd.ntmps89
 go_upto_if 4 with (fail)
 go_cut [4] (fun v4 wc => ∃ (kq : Nat) (x4_1 : Bool), v4 = .bool x4_1 ∧ Aside0 (d_simple.j0 kq a0 a0 x4_1 = some r) ∧ Aside0 (kq ≤ k) ∧ Drawn0 w wc)
 case first =>
  have H := HC2.out
  clear HC2
  replace H := ie_ H
  obtain ⟨c3b0, c3b1, H⟩ | ⟨c3b0, c3b1, c3, H⟩ := H
  ·(first | rw [c3b0] | (simp only [i64_w, i32_w]; rw [c3b0]) | skip)
   have H' := Aside0.mk H
   clear H
   go_wp2
   go_meet
   case rel => exact ⟨_, ((a0 == 39)), er_, H', ⟨om_⟩, dr_⟩
  (first | rw [c3b0] | (simp only [i64_w, i32_w]; rw [c3b0]) | skip)
  replace H := ie_ H
  obtain ⟨c4b0, c4b1, H⟩ | ⟨c4b0, c4b1, c4, H⟩ := H
  ·have H' := Aside0.mk H
   clear H
   go_wp2
   go_meet
   case rel => exact ⟨_, ((a0 == 34)), er_, H', ⟨om_⟩, dr_⟩
  replace H := ie_ H
  obtain ⟨c5b0, c5b1, H⟩ | ⟨c5b0, c5b1, c5, H⟩ := H
  ·have H' := Aside0.mk H
   clear H
   go_wp2
   go_meet
   case rel => exact ⟨_, ((a0 == 63)), er_, H', ⟨om_⟩, dr_⟩
  have H' := Aside0.mk H
  clear H
  go_wp2
  go_meet
  case rel => exact ⟨_, ((a0 == 92)), er_, H', ⟨om_⟩, dr_⟩
 case rest =>
  clear HC2
  try clear c3
  try clear c3b0
  try clear c3b1
  try clear c4
  try clear c4b0
  try clear c4b1
  try clear c5
  try clear c5b0
  try clear c5b1
  obtain ⟨kq, x4_1, rfl, HA, HJ1, ⟨mc1, rfl⟩⟩ := hcut
  cases kq with
  | zero => exact absurd HA.out (by simp [d_simple.j0])
  | succ kj1 =>
   have H := HA.out
   clear HA
   simp only [d_simple.j0] at H
   by_cases c6 : x4_1 = true
   ·subst c6
    have H1 : (some (wrap64 (a0))) = some r := by rw [if_pos rfl] at H; exact H
    clear H
    have H := H1
    clear H1
    obtain rfl := Option.some.inj H
    go_wp2
    go_ret
    exact ⟨er_, dr_⟩
   replace c6 := Bool.eq_false_iff.mpr c6
   subst c6
   have H1 : (if a0 = 97 then (some 7) else (if a0 = 98 then (some 8) else (if a0 = 102 then (some 12) else (if a0 = 110 then (some 10) else (if a0 = 114 then (some 13) else (if a0 = 116 then (some 9) else (if a0 = 118 then (some 11) else (some 0)))))))) = some r := by rw [if_neg (show ¬ (false = true) by decide)] at H; exact H
   clear H
   have H := H1
   clear H1
   replace H := ie_ H
   obtain ⟨c7b0, c7b1, H⟩ | ⟨c7b0, c7b1, c7, H⟩ := H
   ·obtain rfl := Option.some.inj H
    go_wp2
    go_ret
    exact ⟨er_, dr_⟩
   replace H := ie_ H
   obtain ⟨c8b0, c8b1, H⟩ | ⟨c8b0, c8b1, c8, H⟩ := H
   ·obtain rfl := Option.some.inj H
    go_wp2
    go_ret
    exact ⟨er_, dr_⟩
   replace H := ie_ H
   obtain ⟨c9b0, c9b1, H⟩ | ⟨c9b0, c9b1, c9, H⟩ := H
   ·obtain rfl := Option.some.inj H
    go_wp2
    go_ret
    exact ⟨er_, dr_⟩
   replace H := ie_ H
   obtain ⟨c10b0, c10b1, H⟩ | ⟨c10b0, c10b1, c10, H⟩ := H
   ·obtain rfl := Option.some.inj H
    go_wp2
    go_ret
    exact ⟨er_, dr_⟩
   replace H := ie_ H
   obtain ⟨c11b0, c11b1, H⟩ | ⟨c11b0, c11b1, c11, H⟩ := H
   ·obtain rfl := Option.some.inj H
    go_wp2
    go_ret
    exact ⟨er_, dr_⟩
   replace H := ie_ H
   obtain ⟨c12b0, c12b1, H⟩ | ⟨c12b0, c12b1, c12, H⟩ := H
   ·obtain rfl := Option.some.inj H
    go_wp2
    go_ret
    exact ⟨er_, dr_⟩
   replace H := ie_ H
   obtain ⟨c13b0, c13b1, H⟩ | ⟨c13b0, c13b1, c13, H⟩ := H
   ·obtain rfl := Option.some.inj H
    go_wp2
    go_ret
    exact ⟨er_, dr_⟩
   obtain rfl := Option.some.inj H
   go_wp2
   go_ret
   exact ⟨er_, dr_⟩
mutual
def d_one.j0 : Nat → ByteArray → Int → Int → Int → Int → Int → Option (Int × Int)
 | 0, _, _, _, _, _, _ => none
 | k + 1, x0, x1, x6, x7, x8, x9 => if x9 = 0 then (some (0, 0)) else (d_one.l0 k x0 x1 x6 x7 x8 x9 x8)
def d_one.l0 : Nat → ByteArray → Int → Int → Int → Int → Int → Int → Option (Int × Int)
 | 0, _, _, _, _, _, _, _ => none
 | k + 1, x0, x1, x6, x7, x8, x9, x10 => if x10 < (wrap64 (x8 + x9)) then (if 0 ≤ x10 then (if x10 < (x0.size : Int) then ((d_worth.f k (bt x0 x10)).bind fun t165 => (d_one.l0 k x0 x1 (mn (wrap64 ((wrap64 (x6 * x7)) + t165)) 1099511627776) x7 x8 x9 (wrap64 (x10 + 1)))) else (none)) else (none)) else (some (x6, wrap64 ((wrap64 (x8 + x9)) - x1)))
end
def d_one.f (k : Nat) (a0 : ByteArray) (a1 : Int) : Option (Int × Int) := if 0 ≤ a1 then (if a1 < (a0.size : Int) then (if (bt a0 a1) = 92 then (if (wrap64 (a1 + 1)) = (a0.size : Int) then (some (0, 0)) else (if 0 ≤ (wrap64 (a1 + 1)) then (if (wrap64 (a1 + 1)) < (a0.size : Int) then ((d_simple.f k (bt a0 (wrap64 (a1 + 1)))).bind fun t162 => (if t162 > 0 then (some (t162, 2)) else ((d_run.f k a0 (wrap64 (a1 + 1)) 8).bind fun t163 => (if (bt a0 (wrap64 (a1 + 1))) = 120 then ((d_run.f k a0 (wrap64 (a1 + 2)) 16).bind fun t164 => (d_one.j0 k a0 a1 t162 16 (wrap64 (a1 + 2)) t164)) else (d_one.j0 k a0 a1 t162 8 (wrap64 (a1 + 1)) (mn 3 t163)))))) else (none)) else (none))) else (some (wrap64 (bt a0 a1), 1))) else (none)) else (none)
theorem d_one.mono_l : ∀ k, (∀ y0 y1 y2 y3 y4 y5, LeO (d_one.j0 k y0 y1 y2 y3 y4 y5) (d_one.j0 (k + 1) y0 y1 y2 y3 y4 y5)) ∧ (∀ y0 y1 y2 y3 y4 y5 y6, LeO (d_one.l0 k y0 y1 y2 y3 y4 y5 y6) (d_one.l0 (k + 1) y0 y1 y2 y3 y4 y5 y6))
 | 0 => ⟨fun _ _ _ _ _ _ r h => by simp [d_one.j0] at h, fun _ _ _ _ _ _ _ r h => by simp [d_one.l0] at h⟩
 | k + 1 => by
  obtain ⟨ih0, ih1⟩ := d_one.mono_l k
  refine ⟨?_, ?_⟩
  ·intro y0 y1 y2 y3 y4 y5
   unfold d_one.j0
   repeat' first
   | (with_reducible exact ih0 _ _ _ _ _ _)
   | (with_reducible exact ih1 _ _ _ _ _ _ _)
   | (with_reducible exact d_run.mono _ _ _ _)
   | (with_reducible exact d_simple.mono _ _)
   | (with_reducible exact d_worth.mono _ _)
   | (with_reducible exact LeO.refl _)
   | (with_reducible exact LeO.none _)
   | (with_reducible refine LeO.ite ?_ ?_)
   | (with_reducible refine LeO.bind ?_ (fun _ => ?_))
  intro y0 y1 y2 y3 y4 y5 y6
  unfold d_one.l0
  repeat' first
  | (with_reducible exact ih0 _ _ _ _ _ _)
  | (with_reducible exact ih1 _ _ _ _ _ _ _)
  | (with_reducible exact d_run.mono _ _ _ _)
  | (with_reducible exact d_simple.mono _ _)
  | (with_reducible exact d_worth.mono _ _)
  | (with_reducible exact LeO.refl _)
  | (with_reducible exact LeO.none _)
  | (with_reducible refine LeO.ite ?_ ?_)
  | (with_reducible refine LeO.bind ?_ (fun _ => ?_))
theorem d_one.mono : ∀ a0 a1 k, LeO (d_one.f k a0 a1) (d_one.f (k + 1) a0 a1) := by
 intro a0 a1 k
 obtain ⟨ih0, ih1⟩ := d_one.mono_l k
 unfold d_one.f
 repeat' first
   | (with_reducible exact ih0 _ _ _ _ _ _)
   | (with_reducible exact ih1 _ _ _ _ _ _ _)
   | (with_reducible exact d_run.mono _ _ _ _)
   | (with_reducible exact d_simple.mono _ _)
   | (with_reducible exact d_worth.mono _ _)
   | (with_reducible exact LeO.refl _)
   | (with_reducible exact LeO.none _)
   | (with_reducible refine LeO.ite ?_ ?_)
   | (with_reducible refine LeO.bind ?_ (fun _ => ?_))
theorem d_one.calls (k : Nat) (a0 : ByteArray) (a1 : Int) (r1 : Int) (r2 : Int) (w : World) (h : d_one.f k a0 a1 = some (r1, r2)) :
  Calls Tryd.prog 71 #[.string a0, .int .i64 a1] w fun e w' => e = .returned (.tuple #[.int .i64 r1, .int .i64 r2]) ∧ Below w.heap.size w w' := by
 have HB := Aside0.mk (Below.refl w.heap.size w)
 have H : (if 0 ≤ a1 then (if a1 < (a0.size : Int) then (if (bt a0 a1) = 92 then (if (wrap64 (a1 + 1)) = (a0.size : Int) then (some (0, 0)) else (if 0 ≤ (wrap64 (a1 + 1)) then (if (wrap64 (a1 + 1)) < (a0.size : Int) then ((d_simple.f k (bt a0 (wrap64 (a1 + 1)))).bind fun t162 => (if t162 > 0 then (some (t162, 2)) else ((d_run.f k a0 (wrap64 (a1 + 1)) 8).bind fun t163 => (if (bt a0 (wrap64 (a1 + 1))) = 120 then ((d_run.f k a0 (wrap64 (a1 + 2)) 16).bind fun t164 => (d_one.j0 k a0 a1 t162 16 (wrap64 (a1 + 2)) t164)) else (d_one.j0 k a0 a1 t162 8 (wrap64 (a1 + 1)) (mn 3 t163)))))) else (none)) else (none))) else (some (wrap64 (bt a0 a1), 1))) else (none)) else (none)) = some (r1, r2) := h
 clear h
 replace H := ib_ H
 obtain ⟨c3, H⟩ | ⟨c3, H⟩ := H
 ·have c3b0 := decide_eq_true c3
  clear c3
  replace H := ib_ H
  obtain ⟨c4, H⟩ | ⟨c4, H⟩ := H
  ·have c4b0 := decide_eq_true c4
   clear c4
   replace H := ib_ H
   obtain ⟨c6, H⟩ | ⟨c6, H⟩ := H
   ·have c6b0 := beq_iff_eq.mpr c6
    have c6b1 := bne_eq_false_iff_eq.mpr c6
    clear c6
    replace H := ie_ H
    obtain ⟨c7b0, c7b1, H⟩ | ⟨c7b0, c7b1, c7, H⟩ := H
    ·simp only [Option.some.injEq, Prod.mk.injEq] at H
     obtain ⟨rfl, rfl⟩ := H
     have p5 : 0 ≤ (a1 : Int) := da_
     have q5 : a1 < (a0.size : Int) := da_
     have hx5 := bt_at a0 a1
     replace p5 := eq_true p5
     replace q5 := eq_true q5
     go_enter Tryd.func71, Tryd.ntmps71
     go_wp2
     go_ret2
     exact ⟨es_, bl_⟩
    obtain ⟨ji8, hji8⟩ : ∃ j_ : Int, (wrap64 (a1 + 1)) = j_ := ⟨_, rfl⟩
    replace H : (if 0 ≤ (ji8) then (if (ji8) < (a0.size : Int) then ((d_simple.f k (bt a0 (ji8))).bind fun t162 => (if t162 > 0 then (some (t162, 2)) else ((d_run.f k a0 (ji8) 8).bind fun t163 => (if (bt a0 (ji8)) = 120 then ((d_run.f k a0 (wrap64 (a1 + 2)) 16).bind fun t164 => (d_one.j0 k a0 a1 t162 16 (wrap64 (a1 + 2)) t164)) else (d_one.j0 k a0 a1 t162 8 ji8 (mn 3 t163)))))) else (none)) else (none)) = some (r1, r2) := by first | (rw [hji8] at H; exact H) | (simp only [hji8] at H ⊢; exact H)
    (try rw [hji8] at c7b0)
    (try rw [hji8] at c7b1)
    have hji8w : (IntKind.i64.wrap (a1 + 1)) = ji8 := (i64_w _).trans hji8
    replace H := ib_ H
    obtain ⟨c9, H⟩ | ⟨c9, H⟩ := H
    ·have c9b0 := decide_eq_true c9
     clear c9
     replace H := ib_ H
     obtain ⟨c10, H⟩ | ⟨c10, H⟩ := H
     ·have c10b0 := decide_eq_true c10
      clear c10
      replace H := Option.bind_eq_some_iff.mp H
      obtain ⟨t162, A120, H⟩ := H
      replace H : (if t162 > 0 then (some (t162, 2)) else ((d_run.f k a0 (ji8) 8).bind fun t163 => (if (bt a0 (ji8)) = 120 then ((d_run.f k a0 (wrap64 (a1 + 2)) 16).bind fun t164 => (d_one.j0 k a0 a1 t162 16 (wrap64 (a1 + 2)) t164)) else (d_one.j0 k a0 a1 t162 8 ji8 (mn 3 t163))))) = some (r1, r2) := H
      have A12 := Aside0.mk A120
      clear A120
      replace H := ib_ H
      obtain ⟨c13, H⟩ | ⟨c13, H⟩ := H
      ·have c13b0 : decide (0 < t162) = true := decide_eq_true c13
       clear c13
       simp only [Option.some.injEq, Prod.mk.injEq] at H
       obtain ⟨rfl, rfl⟩ := H
       have p5 : 0 ≤ (a1 : Int) := da_
       have q5 : a1 < (a0.size : Int) := da_
       have hx5 := bt_at a0 a1
       replace p5 := eq_true p5
       replace q5 := eq_true q5
       have p11 : 0 ≤ ((ji8) : Int) := da_
       have q11 : (ji8) < (a0.size : Int) := da_
       have hx11 := bt_at a0 (ji8)
       replace p11 := eq_true p11
       replace q11 := eq_true q11
       go_enter Tryd.func71, Tryd.ntmps71
       go_wp2_with (first | ((with_reducible refine gate_callee (f := 89) rfl ?_); refine goesL_ (some 28) rfl rfl Tryd.func89 (by kernel_rfl) rfl #[.int .u8 (bt a0 (ji8))] rfl (by (try simp only [List.map_toArray, List.map_cons, List.map_nil]); first | done | (simp only [hji8]; rfl) | rfl | (simp only [List.length_drop, List.length_take]; rfl)) ?_; (with_reducible refine (d_simple.calls k (bt a0 (ji8)) t162 _ A12.out).mono ?_); rintro e w' ⟨rfl, ⟨nd, rfl⟩⟩; refine ⟨_, rfl, ?_⟩))
       go_ret2
       exact ⟨by first | rfl | (simp [errW_none, errW_some] <;> rfl) | (simp only [← hji8]; first | rfl | (simp [errW_none, errW_some] <;> rfl)) | (simp [*, errW_none, errW_some] <;> rfl), bl_⟩
      have c13b0 : decide (0 < t162) = false := decide_eq_false c13
      clear c13
      replace H := Option.bind_eq_some_iff.mp H
      obtain ⟨t163, A140, H⟩ := H
      replace H : (if (bt a0 (ji8)) = 120 then ((d_run.f k a0 (wrap64 (a1 + 2)) 16).bind fun t164 => (d_one.j0 k a0 a1 t162 16 (wrap64 (a1 + 2)) t164)) else (d_one.j0 k a0 a1 t162 8 ji8 (mn 3 t163))) = some (r1, r2) := H
      have A14 := Aside0.mk A140
      clear A140
      obtain ⟨ji15, hji15⟩ : ∃ j_ : Int, (mn 3 t163) = j_ := ⟨_, rfl⟩
      replace H : (if (bt a0 (ji8)) = 120 then ((d_run.f k a0 (wrap64 (a1 + 2)) 16).bind fun t164 => (d_one.j0 k a0 a1 t162 16 (wrap64 (a1 + 2)) t164)) else (d_one.j0 k a0 a1 t162 8 ji8 ji15)) = some (r1, r2) := by first | (rw [hji15] at H; exact H) | (simp only [hji15] at H ⊢; exact H)
      (try rw [hji15] at A12)
      (try rw [hji15] at A14)
      (try (have hji15h : ji15 ≤ 3 := by (rw [← hji15]; unfold mn; (repeat' split) <;> omega)))
      (try (have hji15g : ji15 ≤ 64 := by omega))
      have hji15_ : (if t163 < 3 then t163 else 3) = ji15 := hji15
      have HC17 := Aside0.mk H
      clear H
      have p5 : 0 ≤ (a1 : Int) := da_
      have q5 : a1 < (a0.size : Int) := da_
      have hx5 := bt_at a0 a1
      replace p5 := eq_true p5
      replace q5 := eq_true q5
      have p11 : 0 ≤ ((ji8) : Int) := da_
      have q11 : (ji8) < (a0.size : Int) := da_
      have hx11 := bt_at a0 (ji8)
      replace p11 := eq_true p11
      replace q11 := eq_true q11
      go_enter Tryd.func71, Tryd.ntmps71
      go_upto_if 42 with (first | ((with_reducible refine gate_callee (f := 89) rfl ?_); refine goesL_ (some 28) rfl rfl Tryd.func89 (by kernel_rfl) rfl #[.int .u8 (bt a0 (ji8))] rfl (by (try simp only [List.map_toArray, List.map_cons, List.map_nil]); first | done | (simp only [hji8]; rfl) | rfl | (simp only [List.length_drop, List.length_take]; rfl)) ?_; (with_reducible refine (d_simple.calls k (bt a0 (ji8)) t162 _ A12.out).mono ?_); rintro e w' ⟨rfl, ⟨nd, rfl⟩⟩; refine ⟨_, rfl, ?_⟩) | ((with_reducible refine gate_callee (f := 35) rfl ?_); refine goesL_ (some 36) rfl rfl Tryd.func35 (by kernel_rfl) rfl #[.string a0, .int .i64 ji8, .int .i64 8] rfl (by (try simp only [List.map_toArray, List.map_cons, List.map_nil]); first | done | (simp only [hji8]; rfl) | rfl | (simp only [List.length_drop, List.length_take]; rfl)) ?_; (with_reducible refine (d_run.calls k a0 ji8 8 t163 _ A14.out).mono ?_); rintro e w' ⟨rfl, ⟨nd, rfl⟩⟩; refine ⟨_, rfl, ?_⟩; have p16 : 0 ≤ ((ji8) : Int) := da_; have q16 : (ji8) < (a0.size : Int) := da_; have hx16 := bt_at a0 (ji8); replace p16 := eq_true p16; replace q16 := eq_true q16))
      (try simp only [Act.put, List.setIfInBounds_toArray, List.set_cons_zero, List.set_cons_succ])
      go_cut [7, 8, 9] (fun v7 v8 v9 wc => ∃ (kq : Nat) (x7_16 : Int) (x8_16 : Int) (x9_16 : Int), v7 = .int .i64 x7_16 ∧ v8 = .int .i64 x8_16 ∧ v9 = .int .i64 x9_16 ∧ Aside0 (d_one.j0 kq a0 a1 t162 x7_16 x8_16 x9_16 = some (r1, r2)) ∧ Aside0 (kq ≤ k) ∧ Aside0 (Below w.heap.size w wc))
      case first =>
       have H := HC17.out
       clear HC17
       replace H := ie_ H
       obtain ⟨c18b0, c18b1, H⟩ | ⟨c18b0, c18b1, c18, H⟩ := H
       ·(first | rw [c18b0] | (simp only [i64_w, i32_w]; rw [c18b0]) | skip)
        replace H := Option.bind_eq_some_iff.mp H
        obtain ⟨t164, A190, H⟩ := H
        replace H : (d_one.j0 k a0 a1 t162 16 (wrap64 (a1 + 2)) t164) = some (r1, r2) := H
        have A19 := Aside0.mk A190
        clear A190
        have H' := Aside0.mk H
        clear H
        go_wp2_with (first | ((with_reducible refine gate_callee (f := 35) rfl ?_); refine goesL_ (some 47) rfl rfl Tryd.func35 (by kernel_rfl) rfl #[.string a0, .int .i64 (wrap64 (a1 + 2)), .int .i64 16] rfl ar_ ?_; (with_reducible refine (d_run.calls k a0 (wrap64 (a1 + 2)) 16 t164 _ A19.out).mono ?_); rintro e w' ⟨rfl, ⟨nd, rfl⟩⟩; refine ⟨_, rfl, ?_⟩))
        go_meet
        case rel => exact ⟨_, (16), (wrap64 (a1 + 2)), (t164), er_, er_, er_, H', ⟨om_⟩, ⟨bl_⟩⟩
       (first | rw [c18b0] | (simp only [i64_w, i32_w]; rw [c18b0]) | skip)
       have H' := Aside0.mk H
       clear H
       go_wp2
       go_meet
       case rel => exact ⟨_, (8), (ji8), (ji15), er_, (by first | rfl | (simp; done) | (simp only [← hji8] <;> (first | rfl | simp)) | (simp [*]; done)), (by first | rfl | (simp; done) | (simp only [← hji15] <;> (first | rfl | simp)) | (simp [*]; done)), H', ⟨om_⟩, ⟨bl_⟩⟩
      case rest =>
       clear HC17
       try clear c3
       try clear c3b0
       try clear c4
       try clear c4b0
       try clear p5
       try clear q5
       try clear hx5
       try clear c6
       try clear c6b0
       try clear c6b1
       try clear c7
       try clear c7b0
       try clear c7b1
       try clear c9
       try clear c9b0
       try clear c10
       try clear c10b0
       try clear p11
       try clear q11
       try clear hx11
       try clear c13
       try clear c13b0
       try clear p16
       try clear q16
       try clear hx16
       try clear c18
       try clear c18b0
       try clear c18b1
       try clear p11
       try clear p16
       try clear p5
       try clear q11
       try clear q16
       try clear q5
       obtain ⟨kq, x7_16, x8_16, x9_16, rfl, rfl, rfl, HA, HJ16, HB⟩ := hcut
       cases kq with
       | zero => exact absurd HA.out (by simp [d_one.j0])
       | succ kj16 =>
        have H := HA.out
        clear HA
        simp only [d_one.j0] at H
        replace H := ie_ H
        obtain ⟨c20b0, c20b1, H⟩ | ⟨c20b0, c20b1, c20, H⟩ := H
        ·simp only [Option.some.injEq, Prod.mk.injEq] at H
         obtain ⟨rfl, rfl⟩ := H
         go_wp2
         go_ret2
         exact ⟨by first | rfl | (simp [errW_none, errW_some] <;> rfl) | (simp only [← hji8, ← hji15]; first | rfl | (simp [errW_none, errW_some] <;> rfl)) | (simp [*, errW_none, errW_some] <;> rfl), bl_⟩
        have H' := Aside0.mk H
        clear H
        go_wp2
        go_loopg [6, 10] kj16 (fun kq v6 v10 w' => ∃ (x6_2 : Int) (x10_2 : Int), v6 = .int .i64 x6_2 ∧ v10 = .int .i64 x10_2 ∧ Aside0 (d_one.l0 kq a0 a1 x6_2 x7_16 x8_16 x9_16 x10_2 = some (r1, r2)) ∧ Aside0 (kq ≤ kj16) ∧ Aside0 (Below w.heap.size w w'))
        case atStart => exact ⟨(t162), (x8_16), er_, er_, H', ⟨Nat.le_refl _⟩, ⟨bl_⟩⟩
        case round =>
         clear H'
         try clear c3
         try clear c3b0
         try clear c4
         try clear c4b0
         try clear p5
         try clear q5
         try clear hx5
         try clear c6
         try clear c6b0
         try clear c6b1
         try clear c7
         try clear c7b0
         try clear c7b1
         try clear c9
         try clear c9b0
         try clear c10
         try clear c10b0
         try clear p11
         try clear q11
         try clear hx11
         try clear c13
         try clear c13b0
         try clear p16
         try clear q16
         try clear hx16
         try clear c18
         try clear c18b0
         try clear c18b1
         try clear c20
         try clear c20b0
         try clear c20b1
         try clear p11
         try clear p16
         try clear p5
         try clear q11
         try clear q16
         try clear q5
         obtain ⟨x6_2, x10_2, rfl, rfl, HA, HK2, HB⟩ := hrel
         cases gk with
         | zero => exact absurd HA.out (by simp [d_one.l0])
         | succ k2 =>
          have H := HA.out
          clear HA
          simp only [d_one.l0] at H
          replace H := id_ H
          obtain ⟨-, c21b0, H⟩ | ⟨-, c21b0, H⟩ := H
          ·replace H := id_ H
           obtain ⟨-, c22b0, H⟩ | ⟨-, -, H⟩ := H
           ·replace H := id_ H
            obtain ⟨-, c23b0, H⟩ | ⟨-, -, H⟩ := H
            ·replace H := Option.bind_eq_some_iff.mp H
             obtain ⟨t165, A250, H⟩ := H
             replace H : (d_one.l0 k2 a0 a1 (mn (wrap64 ((wrap64 (x6_2 * x7_16)) + t165)) 1099511627776) x7_16 x8_16 x9_16 (wrap64 (x10_2 + 1))) = some (r1, r2) := H
             have A25 := Aside0.mk A250
             clear A250
             obtain ⟨ji26, hji26⟩ : ∃ j_ : Int, (mn (wrap64 ((wrap64 (x6_2 * x7_16)) + t165)) 1099511627776) = j_ := ⟨_, rfl⟩
             replace H : (d_one.l0 k2 a0 a1 ji26 x7_16 x8_16 x9_16 (wrap64 (x10_2 + 1))) = some (r1, r2) := by first | (rw [hji26] at H; exact H) | (simp only [hji26] at H ⊢; exact H)
             (try rw [hji26] at A25)
             have hji26_ : (if 1099511627776 < (wrap64 ((wrap64 (x6_2 * x7_16)) + t165)) then 1099511627776 else (wrap64 ((wrap64 (x6_2 * x7_16)) + t165))) = ji26 := hji26
             have H' := Aside0.mk H
             clear H
             have p24 : 0 ≤ (x10_2 : Int) := da_
             have q24 : x10_2 < (a0.size : Int) := da_
             have hx24 := bt_at a0 x10_2
             replace p24 := eq_true p24
             replace q24 := eq_true q24
             go_wp2_with (first | ((with_reducible refine gate_callee (f := 47) rfl ?_); refine goesL_ (some 64) rfl rfl Tryd.func47 (by kernel_rfl) rfl #[.int .u8 (bt a0 x10_2)] rfl ar_ ?_; (with_reducible refine (d_worth.calls k2 (bt a0 x10_2) t165 _ A25.out).mono ?_); rintro e w' ⟨rfl, ⟨nd, rfl⟩⟩; refine ⟨_, rfl, ?_⟩))
             go_roundg k2
             case measure => have := HJ16.out; have := HK2.out; omega
             case rel => exact ⟨(ji26), (wrap64 (x10_2 + 1)), (by first | rfl | (simp; done) | (simp only [← hji26] <;> (first | rfl | simp)) | (simp [*]; done)), er_, H', ⟨by have := HJ16.out; have := HK2.out; omega⟩, ⟨bl_⟩⟩
            exact absurd H (by simp)
           exact absurd H (by simp)
          simp only [Option.some.injEq, Prod.mk.injEq] at H
          obtain ⟨rfl, rfl⟩ := H
          go_wp2
          go_ret2
          exact ⟨by first | rfl | (simp [errW_none, errW_some] <;> rfl) | (simp only [← hji8, ← hji15]; first | rfl | (simp [errW_none, errW_some] <;> rfl)) | (simp [*, errW_none, errW_some] <;> rfl), bl_⟩
     exact absurd H (by simp)
    exact absurd H (by simp)
   have c6b0 := beq_eq_false_iff_ne.mpr c6
   have c6b1 := bne_iff_ne.mpr c6
   simp only [Option.some.injEq, Prod.mk.injEq] at H
   obtain ⟨rfl, rfl⟩ := H
   have p5 : 0 ≤ (a1 : Int) := da_
   have q5 : a1 < (a0.size : Int) := da_
   have hx5 := bt_at a0 a1
   replace p5 := eq_true p5
   replace q5 := eq_true q5
   have p27 : 0 ≤ (a1 : Int) := da_
   have q27 : a1 < (a0.size : Int) := da_
   have hx27 := bt_at a0 a1
   replace p27 := eq_true p27
   replace q27 := eq_true q27
   go_enter Tryd.func71, Tryd.ntmps71
   go_wp2
   go_ret2
   exact ⟨es_, bl_⟩
  exact absurd H (by simp)
 exact absurd H (by simp)
mutual
def d_elements.j0 : Nat → ByteArray → Int → Int → Option (List Int × Bool)
 | 0, _, _, _ => none
 | k + 1, x0, x1, x6 => if 0 ≤ x1 then (if x1 ≤ (x0.size : Int) then (if (x0.extract 0 (x1 : Int).toNat).toList = ([85] : List UInt8) then (d_elements.j1 k x0 x1 x6 true) else (d_elements.j1 k x0 x1 x6 ((x0.extract 0 (x1 : Int).toNat).toList == ([76] : List UInt8)))) else (none)) else (none)
def d_elements.j1 : Nat → ByteArray → Int → Int → Bool → Option (List Int × Bool)
 | 0, _, _, _, _ => none
 | k + 1, x0, x1, x6, x25 => if x25 = true then (d_elements.j2 k x0 x1 4294967295) else (d_elements.j2 k x0 x1 x6)
def d_elements.j2 : Nat → ByteArray → Int → Int → Option (List Int × Bool)
 | 0, _, _, _ => none
 | k + 1, x0, x1, x6 => if 0 ≤ (wrap64 (x1 + 1)) then (if (wrap64 (x1 + 1)) ≤ (wrap64 ((x0.size : Int) - 1)) then (if (wrap64 ((x0.size : Int) - 1)) ≤ (x0.size : Int) then (d_elements.l0 k x6 (x0.extract ((wrap64 (x1 + 1)) : Int).toNat ((wrap64 ((x0.size : Int) - 1)) : Int).toNat) ([] : List Int) 0) else (none)) else (none)) else (none)
def d_elements.l0 : Nat → Int → ByteArray → List Int → Int → Option (List Int × Bool)
 | 0, _, _, _, _ => none
 | k + 1, x6, x7, x8, x9 => if x9 < (x7.size : Int) then ((d_one.f k x7 x9).bind fun bt166 => (if bt166.2 = 0 then (some (([] : List Int), false)) else (if bt166.1 > x6 then (some (([] : List Int), false)) else (if x8.length < 17592186044416 then (d_elements.l0 k x6 x7 (x8 ++ [bt166.1]) (wrap64 (x9 + bt166.2))) else (none))))) else (some (x8, true))
end
def d_elements.f (k : Nat) (a0 : ByteArray) (a1 : Int) : Option (List Int × Bool) := if 0 ≤ a1 then (if a1 ≤ (a0.size : Int) then (if (a0.extract 0 (a1 : Int).toNat).toList = ([117] : List UInt8) then (d_elements.j0 k a0 a1 65535) else (d_elements.j0 k a0 a1 255)) else (none)) else (none)
theorem d_elements.mono_l : ∀ k, (∀ y0 y1 y2, LeO (d_elements.j0 k y0 y1 y2) (d_elements.j0 (k + 1) y0 y1 y2)) ∧ (∀ y0 y1 y2 y3, LeO (d_elements.j1 k y0 y1 y2 y3) (d_elements.j1 (k + 1) y0 y1 y2 y3)) ∧ (∀ y0 y1 y2, LeO (d_elements.j2 k y0 y1 y2) (d_elements.j2 (k + 1) y0 y1 y2)) ∧ (∀ y0 y1 y2 y3, LeO (d_elements.l0 k y0 y1 y2 y3) (d_elements.l0 (k + 1) y0 y1 y2 y3))
 | 0 => ⟨fun _ _ _ r h => by simp [d_elements.j0] at h, fun _ _ _ _ r h => by simp [d_elements.j1] at h, fun _ _ _ r h => by simp [d_elements.j2] at h, fun _ _ _ _ r h => by simp [d_elements.l0] at h⟩
 | k + 1 => by
  obtain ⟨ih0, ih1, ih2, ih3⟩ := d_elements.mono_l k
  refine ⟨?_, ?_, ?_, ?_⟩
  ·intro y0 y1 y2
   unfold d_elements.j0
   repeat' first
   | (with_reducible exact ih0 _ _ _)
   | (with_reducible exact ih1 _ _ _ _)
   | (with_reducible exact ih2 _ _ _)
   | (with_reducible exact ih3 _ _ _ _)
   | (with_reducible exact d_one.mono _ _ _)
   | (with_reducible exact LeO.refl _)
   | (with_reducible exact LeO.none _)
   | (with_reducible refine LeO.ite ?_ ?_)
   | (with_reducible refine LeO.bind ?_ (fun _ => ?_))
  ·intro y0 y1 y2 y3
   unfold d_elements.j1
   repeat' first
   | (with_reducible exact ih0 _ _ _)
   | (with_reducible exact ih1 _ _ _ _)
   | (with_reducible exact ih2 _ _ _)
   | (with_reducible exact ih3 _ _ _ _)
   | (with_reducible exact d_one.mono _ _ _)
   | (with_reducible exact LeO.refl _)
   | (with_reducible exact LeO.none _)
   | (with_reducible refine LeO.ite ?_ ?_)
   | (with_reducible refine LeO.bind ?_ (fun _ => ?_))
  ·intro y0 y1 y2
   unfold d_elements.j2
   repeat' first
   | (with_reducible exact ih0 _ _ _)
   | (with_reducible exact ih1 _ _ _ _)
   | (with_reducible exact ih2 _ _ _)
   | (with_reducible exact ih3 _ _ _ _)
   | (with_reducible exact d_one.mono _ _ _)
   | (with_reducible exact LeO.refl _)
   | (with_reducible exact LeO.none _)
   | (with_reducible refine LeO.ite ?_ ?_)
   | (with_reducible refine LeO.bind ?_ (fun _ => ?_))
  intro y0 y1 y2 y3
  unfold d_elements.l0
  repeat' first
  | (with_reducible exact ih0 _ _ _)
  | (with_reducible exact ih1 _ _ _ _)
  | (with_reducible exact ih2 _ _ _)
  | (with_reducible exact ih3 _ _ _ _)
  | (with_reducible exact d_one.mono _ _ _)
  | (with_reducible exact LeO.refl _)
  | (with_reducible exact LeO.none _)
  | (with_reducible refine LeO.ite ?_ ?_)
  | (with_reducible refine LeO.bind ?_ (fun _ => ?_))
theorem d_elements.mono : ∀ a0 a1 k, LeO (d_elements.f k a0 a1) (d_elements.f (k + 1) a0 a1) := by
 intro a0 a1 k
 obtain ⟨ih0, ih1, ih2, ih3⟩ := d_elements.mono_l k
 unfold d_elements.f
 repeat' first
   | (with_reducible exact ih0 _ _ _)
   | (with_reducible exact ih1 _ _ _ _)
   | (with_reducible exact ih2 _ _ _)
   | (with_reducible exact ih3 _ _ _ _)
   | (with_reducible exact d_one.mono _ _ _)
   | (with_reducible exact LeO.refl _)
   | (with_reducible exact LeO.none _)
   | (with_reducible refine LeO.ite ?_ ?_)
   | (with_reducible refine LeO.bind ?_ (fun _ => ?_))
theorem d_elements.calls (k : Nat) (a0 : ByteArray) (a1 : Int) (r1 : List Int) (r2 : Bool) (w : World) (h : d_elements.f k a0 a1 = some (r1, r2)) :
  Calls Tryd.prog 58 #[.string a0, .int .i64 a1] w fun e w' => ∃ v0_ : Value, e = .returned (.tuple #[v0_, .bool r2]) ∧ Kd.R (Kd.int .i64) 2 w' w.heap.size (fun _ => True) v0_ r1 ∧ Below w.heap.size w w' := by
 have HB := Aside0.mk (Below.refl w.heap.size w)
 have H : (if 0 ≤ a1 then (if a1 ≤ (a0.size : Int) then (if (a0.extract 0 (a1 : Int).toNat).toList = ([117] : List UInt8) then (d_elements.j0 k a0 a1 65535) else (d_elements.j0 k a0 a1 255)) else (none)) else (none)) = some (r1, r2) := h
 clear h
 replace H := ib_ H
 obtain ⟨c3, H⟩ | ⟨c3, H⟩ := H
 ·have c3b0 := eq_true c3
  have c3b1 := decide_eq_true c3
  clear c3
  replace H := ib_ H
  obtain ⟨c4, H⟩ | ⟨c4, H⟩ := H
  ·have c4b0 := eq_true c4
   have c4b1 := decide_eq_true c4
   clear c4
   have HC5 := Aside0.mk H
   clear H
   go_enter Tryd.func58, Tryd.ntmps58
   go_upto_if 15 with (fail)
   go_cut [6] (fun v6 wc => ∃ (kq : Nat) (x6_4 : Int), v6 = .int .i64 x6_4 ∧ Aside0 (d_elements.j0 kq a0 a1 x6_4 = some (r1, r2)) ∧ Aside0 (kq ≤ k) ∧ Aside0 (Below w.heap.size w wc))
   case first =>
    have H := HC5.out
    clear HC5
    replace H := ie_ H
    obtain ⟨c6b0, c6b1, H⟩ | ⟨c6b0, c6b1, c6, H⟩ := H
    ·(first | rw [c6b0] | (simp only [i64_w, i32_w]; rw [c6b0]) | skip)
     have H' := Aside0.mk H
     clear H
     go_wp2
     go_meet
     case rel => exact ⟨_, (65535), er_, H', ⟨om_⟩, ⟨bl_⟩⟩
    (first | rw [c6b0] | (simp only [i64_w, i32_w]; rw [c6b0]) | skip)
    have H' := Aside0.mk H
    clear H
    go_wp2
    go_meet
    case rel => exact ⟨_, (255), er_, H', ⟨om_⟩, ⟨bl_⟩⟩
   case rest =>
    clear HC5
    try clear c3
    try clear c3b0
    try clear c3b1
    try clear c4
    try clear c4b0
    try clear c4b1
    try clear c6
    try clear c6b0
    try clear c6b1
    obtain ⟨kq, x6_4, rfl, HA, HJ4, HB⟩ := hcut
    cases kq with
    | zero => exact absurd HA.out (by simp [d_elements.j0])
    | succ kj4 =>
     have H := HA.out
     clear HA
     simp only [d_elements.j0] at H
     have HC7 := Aside0.mk H
     clear H
     go_upto_region 4 with (fail)
     go_cut [25] (fun v25 wc => ∃ (kq : Nat) (x25_6 : Bool), v25 = .bool x25_6 ∧ Aside0 (d_elements.j1 kq a0 a1 x6_4 x25_6 = some (r1, r2)) ∧ Aside0 (kq ≤ kj4) ∧ Aside0 (Below w.heap.size w wc))
     case first =>
      have H := HC7.out
      clear HC7
      replace H := id_ H
      obtain ⟨c8b0, c8b1, H⟩ | ⟨-, -, H⟩ := H
      ·replace H := id_ H
       obtain ⟨c9b0, c9b1, H⟩ | ⟨-, -, H⟩ := H
       ·replace H := ie_ H
        obtain ⟨c10b0, c10b1, H⟩ | ⟨c10b0, c10b1, c10, H⟩ := H
        ·(first | rw [c10b0] | (simp only [i64_w, i32_w]; rw [c10b0]) | skip)
         have H' := Aside0.mk H
         clear H
         go_wp2
         go_meet
         case rel => exact ⟨_, (true), er_, H', ⟨by have := HJ4.out; first | omega | exact Nat.le_refl _⟩, ⟨bl_⟩⟩
        (first | rw [c10b0] | (simp only [i64_w, i32_w]; rw [c10b0]) | skip)
        have c11b0 := eq_true (da_ : 0 ≤ a1)
        have c12b0 := eq_true (da_ : a1 ≤ (a0.size : Int))
        have H' := Aside0.mk H
        clear H
        go_wp2
        go_meet
        case rel => exact ⟨_, (((a0.extract 0 (a1 : Int).toNat).toList == ([76] : List UInt8))), er_, H', ⟨by have := HJ4.out; first | omega | exact Nat.le_refl _⟩, ⟨bl_⟩⟩
       exact absurd H (by simp)
      exact absurd H (by simp)
     case rest =>
      clear HC7
      try clear c3
      try clear c3b0
      try clear c3b1
      try clear c4
      try clear c4b0
      try clear c4b1
      try clear c6
      try clear c6b0
      try clear c6b1
      try clear c8b0
      try clear c8b1
      try clear c9b0
      try clear c9b1
      try clear c10
      try clear c10b0
      try clear c10b1
      try clear c11b0
      try clear c12b0
      obtain ⟨kq, x25_6, rfl, HA, HJ6, HB⟩ := hcut
      cases kq with
      | zero => exact absurd HA.out (by simp [d_elements.j1])
      | succ kj6 =>
       have H := HA.out
       clear HA
       simp only [d_elements.j1] at H
       have HC13 := Aside0.mk H
       clear H
       go_upto_if 25 with (fail)
       go_cut [6] (fun v6 wc => ∃ (kq : Nat) (x6_12 : Int), v6 = .int .i64 x6_12 ∧ Aside0 (d_elements.j2 kq a0 a1 x6_12 = some (r1, r2)) ∧ Aside0 (kq ≤ kj6) ∧ Aside0 (Below w.heap.size w wc))
       case first =>
        have H := HC13.out
        clear HC13
        by_cases c14 : x25_6 = true
        ·subst c14
         have H1 : (d_elements.j2 kj6 a0 a1 4294967295) = some (r1, r2) := by rw [if_pos rfl] at H; exact H
         clear H
         have H := H1
         clear H1
         have H' := Aside0.mk H
         clear H
         go_wp2
         go_meet
         case rel => exact ⟨_, (4294967295), er_, H', ⟨by have := HJ4.out; have := HJ6.out; first | omega | exact Nat.le_refl _⟩, ⟨bl_⟩⟩
        replace c14 := Bool.eq_false_iff.mpr c14
        subst c14
        have H1 : (d_elements.j2 kj6 a0 a1 x6_4) = some (r1, r2) := by rw [if_neg (show ¬ (false = true) by decide)] at H; exact H
        clear H
        have H := H1
        clear H1
        have H' := Aside0.mk H
        clear H
        go_wp2
        go_meet
        case rel => exact ⟨_, (x6_4), er_, H', ⟨by have := HJ4.out; have := HJ6.out; first | omega | exact Nat.le_refl _⟩, ⟨bl_⟩⟩
       case rest =>
        clear HC13
        try clear c3
        try clear c3b0
        try clear c3b1
        try clear c4
        try clear c4b0
        try clear c4b1
        try clear c6
        try clear c6b0
        try clear c6b1
        try clear c8b0
        try clear c8b1
        try clear c9b0
        try clear c9b1
        try clear c10
        try clear c10b0
        try clear c10b1
        try clear c11b0
        try clear c12b0
        try clear c14
        obtain ⟨kq, x6_12, rfl, HA, HJ12, HB⟩ := hcut
        cases kq with
        | zero => exact absurd HA.out (by simp [d_elements.j2])
        | succ kj12 =>
         have H := HA.out
         clear HA
         simp only [d_elements.j2] at H
         obtain ⟨ji15, hji15⟩ : ∃ j_ : Int, (wrap64 (a1 + 1)) = j_ := ⟨_, rfl⟩
         replace H : (if 0 ≤ (ji15) then (if (ji15) ≤ (wrap64 ((a0.size : Int) - 1)) then (if (wrap64 ((a0.size : Int) - 1)) ≤ (a0.size : Int) then (d_elements.l0 kj12 x6_12 (a0.extract ((ji15) : Int).toNat ((wrap64 ((a0.size : Int) - 1)) : Int).toNat) ([] : List Int) 0) else (none)) else (none)) else (none)) = some (r1, r2) := by first | (rw [hji15] at H; exact H) | (simp only [hji15] at H ⊢; exact H)
         have hji15w : (IntKind.i64.wrap (a1 + 1)) = ji15 := (i64_w _).trans hji15
         replace H := ib_ H
         obtain ⟨c16, H⟩ | ⟨c16, H⟩ := H
         ·have c16b0 := eq_true c16
          have c16b1 := decide_eq_true c16
          clear c16
          replace H := ib_ H
          obtain ⟨c17, H⟩ | ⟨c17, H⟩ := H
          ·have c17b0 := eq_true c17
           have c17b1 := decide_eq_true c17
           clear c17
           replace H := ib_ H
           obtain ⟨c18, H⟩ | ⟨c18, H⟩ := H
           ·have c18b0 := eq_true c18
            have c18b1 := decide_eq_true c18
            clear c18
            have H' := Aside0.mk H
            clear H
            go_wp2
            obtain ⟨y3, hy3⟩ : ∃ y_ : ByteArray, (a0.extract ((ji15) : Int).toNat ((wrap64 ((a0.size : Int) - 1)) : Int).toNat) = y_ := ⟨_, rfl⟩
            have hc_ := H'.out
            clear H'
            simp only [hy3] at hc_
            simp only [i64_w, hy3]
            have H' := Aside0.mk hc_
            clear hc_
            go_loopg [8, 9] kj12 (fun kq v8 v9 w' => ∃ (x8_4 : List Int) (x9_4 : Int), v9 = .int .i64 x9_4 ∧ Aside0 (d_elements.l0 kq x6_12 y3 x8_4 x9_4 = some (r1, r2)) ∧ Aside0 (kq ≤ kj12) ∧ Aside0 (Kd.R (Kd.int .i64) 2 w' w.heap.size (fun _ => True) v8 x8_4) ∧ Aside0 (Below w.heap.size w w'))
            case atStart => exact ⟨(([] : List Int)), (0), er_, H', ⟨Nat.le_refl _⟩, ⟨by first | exact Kd.R_nil _ _ _ _ _ | exact Kd.N_nil _ _ _ _ _ | exact Kd.V_nil _ _ _ _ _ | exact Kd.Q_nil _ _ _ _ _ | exact Kd.S_nil _ _ _ _ _⟩, ⟨bl_⟩⟩
            case round =>
             clear H'
             try clear c3
             try clear c3b0
             try clear c3b1
             try clear c4
             try clear c4b0
             try clear c4b1
             try clear c6
             try clear c6b0
             try clear c6b1
             try clear c8b0
             try clear c8b1
             try clear c9b0
             try clear c9b1
             try clear c10
             try clear c10b0
             try clear c10b1
             try clear c11b0
             try clear c12b0
             try clear c14
             try clear c16
             try clear c16b0
             try clear c16b1
             try clear c17
             try clear c17b0
             try clear c17b1
             try clear c18
             try clear c18b0
             try clear c18b1
             obtain ⟨x8_4, x9_4, rfl, HA, HK4, HO_8, HB⟩ := hrel
             cases gk with
             | zero => exact absurd HA.out (by simp [d_elements.l0])
             | succ k4 =>
              have H := HA.out
              clear HA
              simp only [d_elements.l0] at H
              replace H := id_ H
              obtain ⟨-, c19b0, H⟩ | ⟨-, c19b0, H⟩ := H
              ·replace H := Option.bind_eq_some_iff.mp H
               obtain ⟨⟨t166, t167⟩, A200, H⟩ := H
               replace H : (if t167 = 0 then (some (([] : List Int), false)) else (if t166 > x6_12 then (some (([] : List Int), false)) else (if x8_4.length < 17592186044416 then (d_elements.l0 k4 x6_12 y3 (x8_4 ++ [t166]) (wrap64 (x9_4 + t167))) else (none)))) = some (r1, r2) := H
               have A20 := Aside0.mk A200
               clear A200
               replace H := ie_ H
               obtain ⟨c21b0, c21b1, H⟩ | ⟨c21b0, c21b1, c21, H⟩ := H
               ·simp only [Option.some.injEq, Prod.mk.injEq] at H
                obtain ⟨rfl, rfl⟩ := H
                go_wp2_with (first | ((with_reducible refine gate_callee (f := 71) rfl ?_); refine goesL_ (some 40) rfl rfl Tryd.func71 (by kernel_rfl) rfl #[.string y3, .int .i64 x9_4] rfl (by (try simp only [List.map_toArray, List.map_cons, List.map_nil]); first | done | (simp only [hji15]; rfl) | rfl | (simp only [List.length_drop, List.length_take]; rfl)) ?_; (with_reducible refine (d_one.calls k4 y3 x9_4 t166 t167 _ A20.out).mono ?_); rintro e w22 ⟨rfl, hb⟩; refine ⟨_, rfl, ?_⟩; have n0_ := Aside0.mk (Kd.R_below (by (with_reducible repeat (first | apply Kd.R_alloc | apply Kd.R_drewN | apply Kd.R_drew)); exact HO_8.out) hb); have n1_ := Aside0.mk (below_step bl_ hb); clear HO_8; clear HB; have HO_8 := n0_; have HB := n1_; clear n0_ n1_; (try clear hb); (try clear hb2); (try clear hk); (try clear hi)))
                go_ret2
                exact ⟨_, by first | rfl | (simp [errW_none, errW_some] <;> rfl) | (simp only [← hji15]; first | rfl | (simp [errW_none, errW_some] <;> rfl)) | (simp [*, errW_none, errW_some] <;> rfl), by first | exact Kd.R_nil _ _ _ _ _ | exact Kd.N_nil _ _ _ _ _ | exact Kd.V_nil _ _ _ _ _ | exact Kd.Q_nil _ _ _ _ _ | exact Kd.S_nil _ _ _ _ _, bl_⟩
               replace H := ib_ H
               obtain ⟨c23, H⟩ | ⟨c23, H⟩ := H
               ·have c23b0 : decide (x6_12 < t166) = true := decide_eq_true c23
                clear c23
                simp only [Option.some.injEq, Prod.mk.injEq] at H
                obtain ⟨rfl, rfl⟩ := H
                go_wp2_with (first | ((with_reducible refine gate_callee (f := 71) rfl ?_); refine goesL_ (some 40) rfl rfl Tryd.func71 (by kernel_rfl) rfl #[.string y3, .int .i64 x9_4] rfl (by (try simp only [List.map_toArray, List.map_cons, List.map_nil]); first | done | (simp only [hji15]; rfl) | rfl | (simp only [List.length_drop, List.length_take]; rfl)) ?_; (with_reducible refine (d_one.calls k4 y3 x9_4 t166 t167 _ A20.out).mono ?_); rintro e w24 ⟨rfl, hb⟩; refine ⟨_, rfl, ?_⟩; have n0_ := Aside0.mk (Kd.R_below (by (with_reducible repeat (first | apply Kd.R_alloc | apply Kd.R_drewN | apply Kd.R_drew)); exact HO_8.out) hb); have n1_ := Aside0.mk (below_step bl_ hb); clear HO_8; clear HB; have HO_8 := n0_; have HB := n1_; clear n0_ n1_; (try clear hb); (try clear hb2); (try clear hk); (try clear hi)))
                go_ret2
                exact ⟨_, by first | rfl | (simp [errW_none, errW_some] <;> rfl) | (simp only [← hji15]; first | rfl | (simp [errW_none, errW_some] <;> rfl)) | (simp [*, errW_none, errW_some] <;> rfl), by first | exact Kd.R_nil _ _ _ _ _ | exact Kd.N_nil _ _ _ _ _ | exact Kd.V_nil _ _ _ _ _ | exact Kd.Q_nil _ _ _ _ _ | exact Kd.S_nil _ _ _ _ _, bl_⟩
               have c23b0 : decide (x6_12 < t166) = false := decide_eq_false c23
               clear c23
               replace H := ib_ H
               obtain ⟨c25, H⟩ | ⟨c25, H⟩ := H
               ·have LMc25 := Aside0.mk c25
                clear c25
                obtain ⟨y168, hy168⟩ : ∃ y_ : List Int, y_ = (x8_4 ++ [t166]) := ⟨_, rfl⟩
                replace H : (d_elements.l0 k4 x6_12 y3 y168 (wrap64 (x9_4 + t167))) = some (r1, r2) := by first | (rw [hy168]; with_reducible exact H) | (have H2_ := (Option.bind_some _ _).symm.trans H; rw [hy168]; with_reducible exact H2_) | (have H2_ := (Option.bind_some _ _).symm.trans H; with_reducible exact H2_) | with_reducible exact H | (rw [hy168]; exact H) | exact H
                have Ny168 := Aside0.mk hy168
                clear hy168
                have H' := Aside0.mk H
                clear H
                go_wp2_with (first | ((with_reducible refine gate_callee (f := 71) rfl ?_); refine goesL_ (some 40) rfl rfl Tryd.func71 (by kernel_rfl) rfl #[.string y3, .int .i64 x9_4] rfl (by (try simp only [List.map_toArray, List.map_cons, List.map_nil]); first | done | (simp only [hji15]; rfl) | rfl | (simp only [List.length_drop, List.length_take]; rfl)) ?_; (with_reducible refine (d_one.calls k4 y3 x9_4 t166 t167 _ A20.out).mono ?_); rintro e w26 ⟨rfl, hb⟩; refine ⟨_, rfl, ?_⟩; have n0_ := Aside0.mk (Kd.R_below (by (with_reducible repeat (first | apply Kd.R_alloc | apply Kd.R_drewN | apply Kd.R_drew)); exact HO_8.out) hb); have n1_ := Aside0.mk (below_step bl_ hb); clear HO_8; clear HB; have HO_8 := n0_; have HB := n1_; clear n0_ n1_; (try clear hb); (try clear hb2); (try clear hk); (try clear hi)) | ((with_reducible refine gate_builtin (b := .append) (xs := #[.tmp 50, .tmp 52]) rfl ?_); at_builtin; refine Kd.R_append (Kd.int .i64) (w0 := w) w.heap.size rfl (.tmp 50) (.tmp 52) 38 2 (.int .i64 0) 8 rfl Tryd.underlying38 info2 rfl (by decide) (by omega) u8 x8_4 t166 [.int .i64 t166] (fun _ => True) (fun _ => False) rfl rfl ?aP (fun _ hk => hk.elim) ?aF ?aO ?aB ?aS ?aL ?_; (case aP => exact rfl); (case aB => exact bl_); (case aF => exact (fun _ _ => trivial)); (case aO => exact (by (with_reducible repeat (first | apply Kd.R_alloc | apply Kd.R_drewN | apply Kd.R_drew)); exact HO_8.out)); (case aS => exact (below_size bl_)); (case aL => have := LMc25.out; omega); intro v169 w27 ho hb hg hat; rw [← Ny168.out] at ho; have n0_ := Aside0.mk (hb); have n1_ := Aside0.mk (ho); clear HB; clear HO_8; have HB := n0_; have HO170 := n1_; clear n0_ n1_; clear ho hb hg hat))
                go_roundg k4
                case measure => have := HJ4.out; have := HJ6.out; have := HJ12.out; have := HK4.out; omega
                case rel => exact ⟨(y168), (wrap64 (x9_4 + t167)), er_, H', ⟨by have := HJ4.out; have := HJ6.out; have := HJ12.out; have := HK4.out; omega⟩, ⟨by (with_reducible repeat (first | apply Kd.R_alloc | apply Kd.R_drewN | apply Kd.R_drew)); exact HO170.out⟩, ⟨bl_⟩⟩
               exact absurd H (by simp)
              simp only [Option.some.injEq, Prod.mk.injEq] at H
              obtain ⟨rfl, rfl⟩ := H
              go_wp2
              go_ret2
              exact ⟨_, by first | rfl | (simp [errW_none, errW_some] <;> rfl) | (simp only [← hji15]; first | rfl | (simp [errW_none, errW_some] <;> rfl)) | (simp [*, errW_none, errW_some] <;> rfl), by (with_reducible repeat (first | apply Kd.R_alloc | apply Kd.R_drewN | apply Kd.R_drew)); exact HO_8.out, bl_⟩
           exact absurd H (by simp)
          exact absurd H (by simp)
         exact absurd H (by simp)
  exact absurd H (by simp)
 exact absurd H (by simp)
mutual
def d_Char.j0 : Nat → ByteArray → Bool → Option (Int × Int)
 | 0, _, _ => none
 | k + 1, x0, x22 => if x22 = true then (some (0, 40)) else ((d_prefix.f k x0).bind fun t173 => ((d_elements.f k x0 t173).bind fun bt174 => (if bt174.2 = true then (if (bt174.1.length : Int) > 4 then (d_Char.j1 k t173 bt174.1 true) else (if t173 > 0 then (d_Char.j1 k t173 bt174.1 (decide ((bt174.1.length : Int) > 1))) else (d_Char.j1 k t173 bt174.1 false))) else (d_Char.j1 k t173 bt174.1 true))))
def d_Char.j1 : Nat → Int → List Int → Bool → Option (Int × Int)
 | 0, _, _, _ => none
 | k + 1, x6, x7, x46 => if x46 = true then (some (0, 40)) else (d_Char.l0 k x6 x7 0 1 0)
def d_Char.l0 : Nat → Int → List Int → Int → Int → Int → Option (Int × Int)
 | 0, _, _, _, _, _ => none
 | k + 1, x6, x7, x9, x10, x11 => if x11 < (x7.length : Int) then (if 0 ≤ x11 then (d_Char.l0 k x6 x7 (wrap64 ((wrap64 (256 * x9)) + (rd x7 x11))) (wrap64 (256 * x10)) (wrap64 (x11 + 1))) else (none)) else (if x6 = 0 then (if x9 ≥ (wrap64 (Int.tdiv x10 2)) then (some (wrap64 (x9 - x10), 0)) else (some (x9, 0))) else (some (x9, 0)))
end
def d_Char.f (k : Nat) (a0 : ByteArray) : Option (Int × Int) := (b_One.f k a0).bind fun bt171 => (if bt171.2 = true then (d_Char.j0 k a0 (bt171.1 != 3)) else (d_Char.j0 k a0 true))
theorem d_Char.mono_l : ∀ k, (∀ y0 y1, LeO (d_Char.j0 k y0 y1) (d_Char.j0 (k + 1) y0 y1)) ∧ (∀ y0 y1 y2, LeO (d_Char.j1 k y0 y1 y2) (d_Char.j1 (k + 1) y0 y1 y2)) ∧ (∀ y0 y1 y2 y3 y4, LeO (d_Char.l0 k y0 y1 y2 y3 y4) (d_Char.l0 (k + 1) y0 y1 y2 y3 y4))
 | 0 => ⟨fun _ _ r h => by simp [d_Char.j0] at h, fun _ _ _ r h => by simp [d_Char.j1] at h, fun _ _ _ _ _ r h => by simp [d_Char.l0] at h⟩
 | k + 1 => by
  obtain ⟨ih0, ih1, ih2⟩ := d_Char.mono_l k
  refine ⟨?_, ?_, ?_⟩
  ·intro y0 y1
   unfold d_Char.j0
   repeat' first
   | (with_reducible exact ih0 _ _)
   | (with_reducible exact ih1 _ _ _)
   | (with_reducible exact ih2 _ _ _ _ _)
   | (with_reducible exact b_One.mono _ _)
   | (with_reducible exact d_elements.mono _ _ _)
   | (with_reducible exact d_prefix.mono _ _)
   | (with_reducible exact LeO.refl _)
   | (with_reducible exact LeO.none _)
   | (with_reducible refine LeO.ite ?_ ?_)
   | (with_reducible refine LeO.bind ?_ (fun _ => ?_))
  ·intro y0 y1 y2
   unfold d_Char.j1
   repeat' first
   | (with_reducible exact ih0 _ _)
   | (with_reducible exact ih1 _ _ _)
   | (with_reducible exact ih2 _ _ _ _ _)
   | (with_reducible exact b_One.mono _ _)
   | (with_reducible exact d_elements.mono _ _ _)
   | (with_reducible exact d_prefix.mono _ _)
   | (with_reducible exact LeO.refl _)
   | (with_reducible exact LeO.none _)
   | (with_reducible refine LeO.ite ?_ ?_)
   | (with_reducible refine LeO.bind ?_ (fun _ => ?_))
  intro y0 y1 y2 y3 y4
  unfold d_Char.l0
  repeat' first
  | (with_reducible exact ih0 _ _)
  | (with_reducible exact ih1 _ _ _)
  | (with_reducible exact ih2 _ _ _ _ _)
  | (with_reducible exact b_One.mono _ _)
  | (with_reducible exact d_elements.mono _ _ _)
  | (with_reducible exact d_prefix.mono _ _)
  | (with_reducible exact LeO.refl _)
  | (with_reducible exact LeO.none _)
  | (with_reducible refine LeO.ite ?_ ?_)
  | (with_reducible refine LeO.bind ?_ (fun _ => ?_))
theorem d_Char.mono : ∀ a0 k, LeO (d_Char.f k a0) (d_Char.f (k + 1) a0) := by
 intro a0 k
 obtain ⟨ih0, ih1, ih2⟩ := d_Char.mono_l k
 unfold d_Char.f
 repeat' first
   | (with_reducible exact ih0 _ _)
   | (with_reducible exact ih1 _ _ _)
   | (with_reducible exact ih2 _ _ _ _ _)
   | (with_reducible exact b_One.mono _ _)
   | (with_reducible exact d_elements.mono _ _ _)
   | (with_reducible exact d_prefix.mono _ _)
   | (with_reducible exact LeO.refl _)
   | (with_reducible exact LeO.none _)
   | (with_reducible refine LeO.ite ?_ ?_)
   | (with_reducible refine LeO.bind ?_ (fun _ => ?_))
theorem d_Char.calls (k : Nat) (a0 : ByteArray) (r1 : Int) (r2 : Int) (w : World) (h : d_Char.f k a0 = some (r1, r2)) :
  Calls Tryd.prog 45 #[.string a0] w fun e w' => e = .returned (.tuple #[.int .i64 r1, .int .i64 r2]) ∧ Below w.heap.size w w' := by
 have HB := Aside0.mk (Below.refl w.heap.size w)
 have H : ((b_One.f k a0).bind fun bt171 => (if bt171.2 = true then (d_Char.j0 k a0 (bt171.1 != 3)) else (d_Char.j0 k a0 true))) = some (r1, r2) := h
 clear h
 replace H := Option.bind_eq_some_iff.mp H
 obtain ⟨⟨t171, t172⟩, A20, H⟩ := H
 replace H : (if t172 = true then (d_Char.j0 k a0 (t171 != 3)) else (d_Char.j0 k a0 true)) = some (r1, r2) := H
 have A2 := Aside0.mk A20
 clear A20
 have HC3 := Aside0.mk H
 clear H
 go_enter Tryd.func45, Tryd.ntmps45
 go_upto_region 2 with (first | ((with_reducible refine gate_callee (f := 56) rfl ?_); refine goesL_ (some 14) rfl rfl Tryd.func56 (by kernel_rfl) rfl #[.string a0] rfl ar_ ?_; (with_reducible refine (b_One.calls k a0 t171 t172 _ A2.out).mono ?_); rintro e w4 ⟨rfl, hb⟩; refine ⟨_, rfl, ?_⟩; have n0_ := Aside0.mk (below_step bl_ hb); clear HB; have HB := n0_; clear n0_; (try clear hb); (try clear hb2); (try clear hk); (try clear hi)))
 (try simp only [Act.put, List.setIfInBounds_toArray, List.set_cons_zero, List.set_cons_succ])
 go_cut [22] (fun v22 wc => ∃ (kq : Nat) (x22_2 : Bool), v22 = .bool x22_2 ∧ Aside0 (d_Char.j0 kq a0 x22_2 = some (r1, r2)) ∧ Aside0 (kq ≤ k) ∧ Aside0 (Below w.heap.size w wc))
 case first =>
  have H := HC3.out
  clear HC3
  by_cases c5 : t172 = true
  ·subst c5
   have H1 : (d_Char.j0 k a0 (t171 != 3)) = some (r1, r2) := by rw [if_pos rfl] at H; exact H
   clear H
   have H := H1
   clear H1
   have H' := Aside0.mk H
   clear H
   go_wp2
   go_meet
   case rel => exact ⟨_, ((t171 != 3)), er_, H', ⟨om_⟩, ⟨bl_⟩⟩
  replace c5 := Bool.eq_false_iff.mpr c5
  subst c5
  have H1 : (d_Char.j0 k a0 true) = some (r1, r2) := by rw [if_neg (show ¬ (false = true) by decide)] at H; exact H
  clear H
  have H := H1
  clear H1
  have H' := Aside0.mk H
  clear H
  go_wp2
  go_meet
  case rel => exact ⟨_, (true), er_, H', ⟨om_⟩, ⟨bl_⟩⟩
 case rest =>
  clear HC3
  try clear c5
  obtain ⟨kq, x22_2, rfl, HA, HJ2, HB⟩ := hcut
  cases kq with
  | zero => exact absurd HA.out (by simp [d_Char.j0])
  | succ kj2 =>
   have H := HA.out
   clear HA
   simp only [d_Char.j0] at H
   by_cases c6 : x22_2 = true
   ·subst c6
    have H1 : (some (0, 40)) = some (r1, r2) := by rw [if_pos rfl] at H; exact H
    clear H
    have H := H1
    clear H1
    simp only [Option.some.injEq, Prod.mk.injEq] at H
    obtain ⟨rfl, rfl⟩ := H
    go_wp2
    go_ret2
    exact ⟨es_, bl_⟩
   replace c6 := Bool.eq_false_iff.mpr c6
   subst c6
   have H1 : ((d_prefix.f kj2 a0).bind fun t173 => ((d_elements.f kj2 a0 t173).bind fun bt174 => (if bt174.2 = true then (if (bt174.1.length : Int) > 4 then (d_Char.j1 kj2 t173 bt174.1 true) else (if t173 > 0 then (d_Char.j1 kj2 t173 bt174.1 (decide ((bt174.1.length : Int) > 1))) else (d_Char.j1 kj2 t173 bt174.1 false))) else (d_Char.j1 kj2 t173 bt174.1 true)))) = some (r1, r2) := by rw [if_neg (show ¬ (false = true) by decide)] at H; exact H
   clear H
   have H := H1
   clear H1
   replace H := Option.bind_eq_some_iff.mp H
   obtain ⟨t173, A70, H⟩ := H
   replace H : ((d_elements.f kj2 a0 t173).bind fun bt174 => (if bt174.2 = true then (if (bt174.1.length : Int) > 4 then (d_Char.j1 kj2 t173 bt174.1 true) else (if t173 > 0 then (d_Char.j1 kj2 t173 bt174.1 (decide ((bt174.1.length : Int) > 1))) else (d_Char.j1 kj2 t173 bt174.1 false))) else (d_Char.j1 kj2 t173 bt174.1 true))) = some (r1, r2) := H
   have A7 := Aside0.mk A70
   clear A70
   replace H := Option.bind_eq_some_iff.mp H
   obtain ⟨⟨t174, t175⟩, A80, H⟩ := H
   replace H : (if t175 = true then (if (t174.length : Int) > 4 then (d_Char.j1 kj2 t173 t174 true) else (if t173 > 0 then (d_Char.j1 kj2 t173 t174 (decide ((t174.length : Int) > 1))) else (d_Char.j1 kj2 t173 t174 false))) else (d_Char.j1 kj2 t173 t174 true)) = some (r1, r2) := H
   have A8 := Aside0.mk A80
   clear A80
   have HC9 := Aside0.mk H
   clear H
   go_upto_region 6 with (first | ((with_reducible refine gate_callee (f := 57) rfl ?_); refine goesL_ (some 24) rfl rfl Tryd.func57 (by kernel_rfl) rfl #[.string a0] rfl ar_ ?_; (with_reducible refine (d_prefix.calls kj2 a0 t173 _ A7.out).mono ?_); rintro e w' ⟨rfl, ⟨nd, rfl⟩⟩; refine ⟨_, rfl, ?_⟩) | ((with_reducible refine gate_callee (f := 58) rfl ?_); refine goesL_ (some 28) rfl rfl Tryd.func58 (by kernel_rfl) rfl #[.string a0, .int .i64 t173] rfl ar_ ?_; (with_reducible refine (d_elements.calls kj2 a0 t173 t174 t175 _ A8.out).mono ?_); rintro e w10 ⟨v176, rfl, ho0, hb⟩; refine ⟨_, rfl, ?_⟩; have n0_ := Aside0.mk (Kd.R_lower ho0 (below_size bl_)); have n1_ := Aside0.mk (below_step bl_ hb); clear HB; have HO177 := n0_; have HB := n1_; clear n0_ n1_; (try clear hb); (try clear hb2); (try clear hk); (try clear hi); (try clear ho0)))
   (try simp only [Act.put, List.setIfInBounds_toArray, List.set_cons_zero, List.set_cons_succ])
   go_cut [46] (fun v46 wc => ∃ (kq : Nat) (x46_8 : Bool), v46 = .bool x46_8 ∧ Aside0 (d_Char.j1 kq t173 t174 x46_8 = some (r1, r2)) ∧ Aside0 (kq ≤ kj2) ∧ Aside0 (Kd.R (Kd.int .i64) 2 wc w.heap.size (fun _ => True) v176 t174) ∧ Aside0 (Below w.heap.size w wc))
   case first =>
    have H := HC9.out
    clear HC9
    by_cases c11 : t175 = true
    ·subst c11
     have H1 : (if (t174.length : Int) > 4 then (d_Char.j1 kj2 t173 t174 true) else (if t173 > 0 then (d_Char.j1 kj2 t173 t174 (decide ((t174.length : Int) > 1))) else (d_Char.j1 kj2 t173 t174 false))) = some (r1, r2) := by rw [if_pos rfl] at H; exact H
     clear H
     have H := H1
     clear H1
     replace H := ib_ H
     obtain ⟨c12, H⟩ | ⟨c12, H⟩ := H
     ·have c12b0 : decide (4 < (t174.length : Int)) = true := decide_eq_true c12
      have c12b1 : decide (4 < t174.length) = true := decide_eq_true (by omega)
      clear c12
      (first | rw [c12b0] | (simp only [i64_w, i32_w]; rw [c12b0]) | skip)
      have H' := Aside0.mk H
      clear H
      obtain ⟨Ao13, co13, eo13⟩ := Kd.R_slice HO177.out
      subst eo13
      go_wp2
      go_meet
      case rel => exact ⟨_, (true), er_, H', ⟨by have := HJ2.out; first | omega | exact Nat.le_refl _⟩, ⟨by (with_reducible repeat (first | apply Kd.R_alloc | apply Kd.R_drewN | apply Kd.R_drew)); exact HO177.out⟩, ⟨bl_⟩⟩
     have c12b0 : decide (4 < (t174.length : Int)) = false := decide_eq_false c12
     have c12b1 : decide (4 < t174.length) = false := decide_eq_false (by omega)
     clear c12
     (first | rw [c12b0] | (simp only [i64_w, i32_w]; rw [c12b0]) | skip)
     replace H := ib_ H
     obtain ⟨c14, H⟩ | ⟨c14, H⟩ := H
     ·have c14b0 : decide (0 < t173) = true := decide_eq_true c14
      clear c14
      have H' := Aside0.mk H
      clear H
      obtain ⟨Ao15, co15, eo15⟩ := Kd.R_slice HO177.out
      subst eo15
      go_wp2
      go_meet
      case rel => exact ⟨_, (decide ((t174.length : Int) > 1)), er_, H', ⟨by have := HJ2.out; first | omega | exact Nat.le_refl _⟩, ⟨by (with_reducible repeat (first | apply Kd.R_alloc | apply Kd.R_drewN | apply Kd.R_drew)); exact HO177.out⟩, ⟨bl_⟩⟩
     have c14b0 : decide (0 < t173) = false := decide_eq_false c14
     clear c14
     have H' := Aside0.mk H
     clear H
     obtain ⟨Ao16, co16, eo16⟩ := Kd.R_slice HO177.out
     subst eo16
     go_wp2
     go_meet
     case rel => exact ⟨_, (false), er_, H', ⟨by have := HJ2.out; first | omega | exact Nat.le_refl _⟩, ⟨by (with_reducible repeat (first | apply Kd.R_alloc | apply Kd.R_drewN | apply Kd.R_drew)); exact HO177.out⟩, ⟨bl_⟩⟩
    replace c11 := Bool.eq_false_iff.mpr c11
    subst c11
    have H1 : (d_Char.j1 kj2 t173 t174 true) = some (r1, r2) := by rw [if_neg (show ¬ (false = true) by decide)] at H; exact H
    clear H
    have H := H1
    clear H1
    have H' := Aside0.mk H
    clear H
    go_wp2
    go_meet
    case rel => exact ⟨_, (true), er_, H', ⟨by have := HJ2.out; first | omega | exact Nat.le_refl _⟩, ⟨by (with_reducible repeat (first | apply Kd.R_alloc | apply Kd.R_drewN | apply Kd.R_drew)); exact HO177.out⟩, ⟨bl_⟩⟩
   case rest =>
    clear HC9
    try clear c5
    try clear c6
    try clear c11
    try clear c12
    try clear c12b0
    try clear c12b1
    try clear c14
    try clear c14b0
    obtain ⟨kq, x46_8, rfl, HA, HJ8, HO_7, HB⟩ := hcut
    cases kq with
    | zero => exact absurd HA.out (by simp [d_Char.j1])
    | succ kj8 =>
     have H := HA.out
     clear HA
     simp only [d_Char.j1] at H
     by_cases c17 : x46_8 = true
     ·subst c17
      have H1 : (some (0, 40)) = some (r1, r2) := by rw [if_pos rfl] at H; exact H
      clear H
      have H := H1
      clear H1
      simp only [Option.some.injEq, Prod.mk.injEq] at H
      obtain ⟨rfl, rfl⟩ := H
      go_wp2
      go_ret2
      exact ⟨es_, bl_⟩
     replace c17 := Bool.eq_false_iff.mpr c17
     subst c17
     have H1 : (d_Char.l0 kj8 t173 t174 0 1 0) = some (r1, r2) := by rw [if_neg (show ¬ (false = true) by decide)] at H; exact H
     clear H
     have H := H1
     clear H1
     have H' := Aside0.mk H
     clear H
     go_wp2
     go_loopg [9, 10, 11] kj8 (fun kq v9 v10 v11 w' => ∃ (x9_3 : Int) (x10_3 : Int) (x11_3 : Int), v9 = .int .i64 x9_3 ∧ v10 = .int .i64 x10_3 ∧ v11 = .int .i64 x11_3 ∧ Aside0 (d_Char.l0 kq t173 t174 x9_3 x10_3 x11_3 = some (r1, r2)) ∧ Aside0 (kq ≤ kj8) ∧ Aside0 (Kd.R (Kd.int .i64) 2 w' w.heap.size (fun _ => True) v176 t174) ∧ Aside0 (Below w.heap.size w w'))
     case atStart => exact ⟨(0), (1), (0), er_, er_, er_, H', ⟨Nat.le_refl _⟩, ⟨by (with_reducible repeat (first | apply Kd.R_alloc | apply Kd.R_drewN | apply Kd.R_drew)); exact HO_7.out⟩, ⟨bl_⟩⟩
     case round =>
      clear H'
      try clear c5
      try clear c6
      try clear c11
      try clear c12
      try clear c12b0
      try clear c12b1
      try clear c14
      try clear c14b0
      try clear c17
      obtain ⟨x9_3, x10_3, x11_3, rfl, rfl, rfl, HA, HK3, HO_7, HB⟩ := hrel
      cases gk with
      | zero => exact absurd HA.out (by simp [d_Char.l0])
      | succ k3 =>
       have H := HA.out
       clear HA
       simp only [d_Char.l0] at H
       replace H := id_ H
       obtain ⟨-, c18b0, H⟩ | ⟨-, c18b0, H⟩ := H
       ·replace H := id_ H
        obtain ⟨-, c19b0, H⟩ | ⟨-, -, H⟩ := H
        ·have H' := Aside0.mk H
         clear H
         obtain ⟨Ao20, co20, eo20⟩ := Kd.R_slice HO_7.out
         subst eo20
         have p178 : 0 ≤ (x11_3 : Int) := da_
         have q178 : x11_3 < (t174.length : Int) := da_
         obtain ⟨ad178, e178, hx178_0⟩ := Kd.at_int (Kd.R_reads' HO_7.out).2.2 x11_3 p178 q178
         cases e178
         replace p178 := eq_true p178
         replace q178 := eq_true q178
         go_wp2
         go_roundg k3
         case measure => have := HJ2.out; have := HJ8.out; have := HK3.out; omega
         case rel => exact ⟨(wrap64 ((wrap64 (256 * x9_3)) + (rd t174 x11_3))), (wrap64 (256 * x10_3)), (wrap64 (x11_3 + 1)), er_, er_, er_, H', ⟨by have := HJ2.out; have := HJ8.out; have := HK3.out; omega⟩, ⟨by (with_reducible repeat (first | apply Kd.R_alloc | apply Kd.R_drewN | apply Kd.R_drew)); exact HO_7.out⟩, ⟨bl_⟩⟩
        exact absurd H (by simp)
       replace H := ie_ H
       obtain ⟨c21b0, c21b1, H⟩ | ⟨c21b0, c21b1, c21, H⟩ := H
       ·replace H := ib_ H
        obtain ⟨c22, H⟩ | ⟨c22, H⟩ := H
        ·have c22b0 : decide ((wrap64 (Int.tdiv x10_3 2)) ≤ x9_3) = true := decide_eq_true c22
         clear c22
         simp only [Option.some.injEq, Prod.mk.injEq] at H
         obtain ⟨rfl, rfl⟩ := H
         obtain ⟨Ao23, co23, eo23⟩ := Kd.R_slice HO_7.out
         subst eo23
         go_wp2
         go_ret2
         exact ⟨es_, bl_⟩
        have c22b0 : decide ((wrap64 (Int.tdiv x10_3 2)) ≤ x9_3) = false := decide_eq_false c22
        clear c22
        simp only [Option.some.injEq, Prod.mk.injEq] at H
        obtain ⟨rfl, rfl⟩ := H
        obtain ⟨Ao24, co24, eo24⟩ := Kd.R_slice HO_7.out
        subst eo24
        go_wp2
        go_ret2
        exact ⟨es_, bl_⟩
       simp only [Option.some.injEq, Prod.mk.injEq] at H
       obtain ⟨rfl, rfl⟩ := H
       obtain ⟨Ao25, co25, eo25⟩ := Kd.R_slice HO_7.out
       subst eo25
       go_wp2
       go_ret2
       exact ⟨es_, bl_⟩
def d_Str.j0 : Nat → ByteArray → Bool → Option (List Int × Int)
 | 0, _, _ => none
 | k + 1, x0, x18 => if x18 = true then (some (([] : List Int), 40)) else ((d_prefix.f k x0).bind fun t181 => ((d_elements.f k x0 t181).bind fun bt182 => (if bt182.2 = true then (some (bt182.1, 0)) else (some (([] : List Int), 40)))))
def d_Str.f (k : Nat) (a0 : ByteArray) : Option (List Int × Int) := (b_One.f k a0).bind fun bt179 => (if bt179.2 = true then (d_Str.j0 k a0 (bt179.1 != 4)) else (d_Str.j0 k a0 true))
theorem d_Str.mono_l : ∀ k, (∀ y0 y1, LeO (d_Str.j0 k y0 y1) (d_Str.j0 (k + 1) y0 y1))
 | 0 => fun _ _ r h => by simp [d_Str.j0] at h
 | k + 1 => by
  have ih0 := d_Str.mono_l k
  intro y0 y1
  unfold d_Str.j0
  repeat' first
  | (with_reducible exact ih0 _ _)
  | (with_reducible exact b_One.mono _ _)
  | (with_reducible exact d_elements.mono _ _ _)
  | (with_reducible exact d_prefix.mono _ _)
  | (with_reducible exact LeO.refl _)
  | (with_reducible exact LeO.none _)
  | (with_reducible refine LeO.ite ?_ ?_)
  | (with_reducible refine LeO.bind ?_ (fun _ => ?_))
theorem d_Str.mono : ∀ a0 k, LeO (d_Str.f k a0) (d_Str.f (k + 1) a0) := by
 intro a0 k
 have ih0 := d_Str.mono_l k
 unfold d_Str.f
 repeat' first
   | (with_reducible exact ih0 _ _)
   | (with_reducible exact b_One.mono _ _)
   | (with_reducible exact d_elements.mono _ _ _)
   | (with_reducible exact d_prefix.mono _ _)
   | (with_reducible exact LeO.refl _)
   | (with_reducible exact LeO.none _)
   | (with_reducible refine LeO.ite ?_ ?_)
   | (with_reducible refine LeO.bind ?_ (fun _ => ?_))
theorem d_Str.calls (k : Nat) (a0 : ByteArray) (r1 : List Int) (r2 : Int) (w : World) (h : d_Str.f k a0 = some (r1, r2)) :
  Calls Tryd.prog 46 #[.string a0] w fun e w' => ∃ v0_ : Value, e = .returned (.tuple #[v0_, .int .i64 r2]) ∧ Kd.R (Kd.int .i64) 2 w' w.heap.size (fun _ => True) v0_ r1 ∧ Below w.heap.size w w' := by
 have HB := Aside0.mk (Below.refl w.heap.size w)
 have H : ((b_One.f k a0).bind fun bt179 => (if bt179.2 = true then (d_Str.j0 k a0 (bt179.1 != 4)) else (d_Str.j0 k a0 true))) = some (r1, r2) := h
 clear h
 replace H := Option.bind_eq_some_iff.mp H
 obtain ⟨⟨t179, t180⟩, A20, H⟩ := H
 replace H : (if t180 = true then (d_Str.j0 k a0 (t179 != 4)) else (d_Str.j0 k a0 true)) = some (r1, r2) := H
 have A2 := Aside0.mk A20
 clear A20
 have HC3 := Aside0.mk H
 clear H
 go_enter Tryd.func46, Tryd.ntmps46
 go_upto_region 2 with (first | ((with_reducible refine gate_callee (f := 56) rfl ?_); refine goesL_ (some 10) rfl rfl Tryd.func56 (by kernel_rfl) rfl #[.string a0] rfl ar_ ?_; (with_reducible refine (b_One.calls k a0 t179 t180 _ A2.out).mono ?_); rintro e w4 ⟨rfl, hb⟩; refine ⟨_, rfl, ?_⟩; have n0_ := Aside0.mk (below_step bl_ hb); clear HB; have HB := n0_; clear n0_; (try clear hb); (try clear hb2); (try clear hk); (try clear hi)))
 (try simp only [Act.put, List.setIfInBounds_toArray, List.set_cons_zero, List.set_cons_succ])
 go_cut [18] (fun v18 wc => ∃ (kq : Nat) (x18_2 : Bool), v18 = .bool x18_2 ∧ Aside0 (d_Str.j0 kq a0 x18_2 = some (r1, r2)) ∧ Aside0 (kq ≤ k) ∧ Aside0 (Below w.heap.size w wc))
 case first =>
  have H := HC3.out
  clear HC3
  by_cases c5 : t180 = true
  ·subst c5
   have H1 : (d_Str.j0 k a0 (t179 != 4)) = some (r1, r2) := by rw [if_pos rfl] at H; exact H
   clear H
   have H := H1
   clear H1
   have H' := Aside0.mk H
   clear H
   go_wp2
   go_meet
   case rel => exact ⟨_, ((t179 != 4)), er_, H', ⟨om_⟩, ⟨bl_⟩⟩
  replace c5 := Bool.eq_false_iff.mpr c5
  subst c5
  have H1 : (d_Str.j0 k a0 true) = some (r1, r2) := by rw [if_neg (show ¬ (false = true) by decide)] at H; exact H
  clear H
  have H := H1
  clear H1
  have H' := Aside0.mk H
  clear H
  go_wp2
  go_meet
  case rel => exact ⟨_, (true), er_, H', ⟨om_⟩, ⟨bl_⟩⟩
 case rest =>
  clear HC3
  try clear c5
  obtain ⟨kq, x18_2, rfl, HA, HJ2, HB⟩ := hcut
  cases kq with
  | zero => exact absurd HA.out (by simp [d_Str.j0])
  | succ kj2 =>
   have H := HA.out
   clear HA
   simp only [d_Str.j0] at H
   by_cases c6 : x18_2 = true
   ·subst c6
    have H1 : (some (([] : List Int), 40)) = some (r1, r2) := by rw [if_pos rfl] at H; exact H
    clear H
    have H := H1
    clear H1
    simp only [Option.some.injEq, Prod.mk.injEq] at H
    obtain ⟨rfl, rfl⟩ := H
    go_wp2
    go_ret2
    exact ⟨_, es_, by first | exact Kd.R_nil _ _ _ _ _ | exact Kd.N_nil _ _ _ _ _ | exact Kd.V_nil _ _ _ _ _ | exact Kd.Q_nil _ _ _ _ _ | exact Kd.S_nil _ _ _ _ _, bl_⟩
   replace c6 := Bool.eq_false_iff.mpr c6
   subst c6
   have H1 : ((d_prefix.f kj2 a0).bind fun t181 => ((d_elements.f kj2 a0 t181).bind fun bt182 => (if bt182.2 = true then (some (bt182.1, 0)) else (some (([] : List Int), 40))))) = some (r1, r2) := by rw [if_neg (show ¬ (false = true) by decide)] at H; exact H
   clear H
   have H := H1
   clear H1
   replace H := Option.bind_eq_some_iff.mp H
   obtain ⟨t181, A70, H⟩ := H
   replace H : ((d_elements.f kj2 a0 t181).bind fun bt182 => (if bt182.2 = true then (some (bt182.1, 0)) else (some (([] : List Int), 40)))) = some (r1, r2) := H
   have A7 := Aside0.mk A70
   clear A70
   replace H := Option.bind_eq_some_iff.mp H
   obtain ⟨⟨t182, t183⟩, A80, H⟩ := H
   replace H : (if t183 = true then (some (t182, 0)) else (some (([] : List Int), 40))) = some (r1, r2) := H
   have A8 := Aside0.mk A80
   clear A80
   by_cases c9 : t183 = true
   ·subst c9
    have H1 : (some (t182, 0)) = some (r1, r2) := by rw [if_pos rfl] at H; exact H
    clear H
    have H := H1
    clear H1
    simp only [Option.some.injEq, Prod.mk.injEq] at H
    obtain ⟨rfl, rfl⟩ := H
    go_wp2_with (first | ((with_reducible refine gate_callee (f := 57) rfl ?_); refine goesL_ (some 22) rfl rfl Tryd.func57 (by kernel_rfl) rfl #[.string a0] rfl ar_ ?_; (with_reducible refine (d_prefix.calls kj2 a0 t181 _ A7.out).mono ?_); rintro e w' ⟨rfl, ⟨nd, rfl⟩⟩; refine ⟨_, rfl, ?_⟩) | ((with_reducible refine gate_callee (f := 58) rfl ?_); refine goesL_ (some 23) rfl rfl Tryd.func58 (by kernel_rfl) rfl #[.string a0, .int .i64 t181] rfl ar_ ?_; (with_reducible refine (d_elements.calls kj2 a0 t181 t182 true _ A8.out).mono ?_); rintro e w10 ⟨v184, rfl, ho0, hb⟩; refine ⟨_, rfl, ?_⟩; have n0_ := Aside0.mk (Kd.R_lower ho0 (below_size bl_)); have n1_ := Aside0.mk (below_step bl_ hb); clear HB; have HO185 := n0_; have HB := n1_; clear n0_ n1_; (try clear hb); (try clear hb2); (try clear hk); (try clear hi); (try clear ho0)))
    go_ret2
    exact ⟨_, es_, by (with_reducible repeat (first | apply Kd.R_alloc | apply Kd.R_drewN | apply Kd.R_drew)); exact HO185.out, bl_⟩
   replace c9 := Bool.eq_false_iff.mpr c9
   subst c9
   have H1 : (some (([] : List Int), 40)) = some (r1, r2) := by rw [if_neg (show ¬ (false = true) by decide)] at H; exact H
   clear H
   have H := H1
   clear H1
   simp only [Option.some.injEq, Prod.mk.injEq] at H
   obtain ⟨rfl, rfl⟩ := H
   go_wp2_with (first | ((with_reducible refine gate_callee (f := 57) rfl ?_); refine goesL_ (some 22) rfl rfl Tryd.func57 (by kernel_rfl) rfl #[.string a0] rfl ar_ ?_; (with_reducible refine (d_prefix.calls kj2 a0 t181 _ A7.out).mono ?_); rintro e w' ⟨rfl, ⟨nd, rfl⟩⟩; refine ⟨_, rfl, ?_⟩) | ((with_reducible refine gate_callee (f := 58) rfl ?_); refine goesL_ (some 23) rfl rfl Tryd.func58 (by kernel_rfl) rfl #[.string a0, .int .i64 t181] rfl ar_ ?_; (with_reducible refine (d_elements.calls kj2 a0 t181 t182 false _ A8.out).mono ?_); rintro e w11 ⟨v184, rfl, ho0, hb⟩; refine ⟨_, rfl, ?_⟩; have n0_ := Aside0.mk (Kd.R_lower ho0 (below_size bl_)); have n1_ := Aside0.mk (below_step bl_ hb); clear HB; have HO185 := n0_; have HB := n1_; clear n0_ n1_; (try clear hb); (try clear hb2); (try clear hk); (try clear hi); (try clear ho0)))
   go_ret2
   exact ⟨_, es_, by first | exact Kd.R_nil _ _ _ _ _ | exact Kd.N_nil _ _ _ _ _ | exact Kd.V_nil _ _ _ _ _ | exact Kd.Q_nil _ _ _ _ _ | exact Kd.S_nil _ _ _ _ _, bl_⟩
def d_class.f (k : Nat) (a0 : Int) (a1 : ByteArray) : Option (Int) := if a0 = 1 then ((d_Keyword.f k a1).bind fun t186 => (if t186 = true then (some 1) else (some 2))) else (if a0 = 2 then ((d_Int.f k a1).bind fun bt187 => (if bt187.2.2 = 0 then (some 3) else ((d_Float.f k a1).bind fun t190 => (if t190 = true then (some 4) else (some 0))))) else (if a0 = 3 then ((d_Char.f k a1).bind fun bt191 => (if bt191.2 = 0 then (some 5) else (some 0))) else (if a0 = 4 then ((d_Str.f k a1).bind fun bt193 => (if bt193.2 = 0 then (some 6) else (some 0))) else (if a0 = 5 then (some 7) else (some 0)))))
theorem d_class.calls (k : Nat) (a0 : Int) (a1 : ByteArray) (r : Int) (w : World) (h : d_class.f k a0 a1 = some r) :
  Calls Tryd.prog 30 #[.int .i64 a0, .string a1] w fun e w' => e = .returned (.int .i64 r) ∧ Below w.heap.size w w' := by
 have HB := Aside0.mk (Below.refl w.heap.size w)
 have H : (if a0 = 1 then ((d_Keyword.f k a1).bind fun t186 => (if t186 = true then (some 1) else (some 2))) else (if a0 = 2 then ((d_Int.f k a1).bind fun bt187 => (if bt187.2.2 = 0 then (some 3) else ((d_Float.f k a1).bind fun t190 => (if t190 = true then (some 4) else (some 0))))) else (if a0 = 3 then ((d_Char.f k a1).bind fun bt191 => (if bt191.2 = 0 then (some 5) else (some 0))) else (if a0 = 4 then ((d_Str.f k a1).bind fun bt193 => (if bt193.2 = 0 then (some 6) else (some 0))) else (if a0 = 5 then (some 7) else (some 0)))))) = some r := h
 clear h
 replace H := ie_ H
 obtain ⟨c3b0, c3b1, H⟩ | ⟨c3b0, c3b1, c3, H⟩ := H
 ·replace H := Option.bind_eq_some_iff.mp H
  obtain ⟨t186, A40, H⟩ := H
  replace H : (if t186 = true then (some 1) else (some 2)) = some r := H
  have A4 := Aside0.mk A40
  clear A40
  by_cases c5 : t186 = true
  ·subst c5
   have H1 : (some 1) = some r := by rw [if_pos rfl] at H; exact H
   clear H
   have H := H1
   clear H1
   obtain rfl := Option.some.inj H
   go_enter Tryd.func30, Tryd.ntmps30
   go_wp2_with (first | ((with_reducible refine gate_callee (f := 12) rfl ?_); refine goesL_ (some 16) rfl rfl Tryd.func12 (by kernel_rfl) rfl #[.string a1] rfl ar_ ?_; (with_reducible refine (d_Keyword.calls k a1 true _ A4.out).mono ?_); rintro e w' ⟨rfl, ⟨nd, rfl⟩⟩; refine ⟨_, rfl, ?_⟩))
   go_ret
   exact ⟨es_, bl_⟩
  replace c5 := Bool.eq_false_iff.mpr c5
  subst c5
  have H1 : (some 2) = some r := by rw [if_neg (show ¬ (false = true) by decide)] at H; exact H
  clear H
  have H := H1
  clear H1
  obtain rfl := Option.some.inj H
  go_enter Tryd.func30, Tryd.ntmps30
  go_wp2_with (first | ((with_reducible refine gate_callee (f := 12) rfl ?_); refine goesL_ (some 16) rfl rfl Tryd.func12 (by kernel_rfl) rfl #[.string a1] rfl ar_ ?_; (with_reducible refine (d_Keyword.calls k a1 false _ A4.out).mono ?_); rintro e w' ⟨rfl, ⟨nd, rfl⟩⟩; refine ⟨_, rfl, ?_⟩))
  go_ret
  exact ⟨es_, bl_⟩
 replace H := ie_ H
 obtain ⟨c6b0, c6b1, H⟩ | ⟨c6b0, c6b1, c6, H⟩ := H
 ·replace H := Option.bind_eq_some_iff.mp H
  obtain ⟨⟨t187, t188, t189⟩, A70, H⟩ := H
  replace H : (if t189 = 0 then (some 3) else ((d_Float.f k a1).bind fun t190 => (if t190 = true then (some 4) else (some 0)))) = some r := H
  have A7 := Aside0.mk A70
  clear A70
  replace H := ie_ H
  obtain ⟨c8b0, c8b1, H⟩ | ⟨c8b0, c8b1, c8, H⟩ := H
  ·obtain rfl := Option.some.inj H
   go_enter Tryd.func30, Tryd.ntmps30
   go_wp2_with (first | ((with_reducible refine gate_callee (f := 44) rfl ?_); refine goesL_ (some 21) rfl rfl Tryd.func44 (by kernel_rfl) rfl #[.string a1] rfl ar_ ?_; (with_reducible refine (d_Int.calls k a1 t187 t188 t189 _ A7.out).mono ?_); rintro e w9 ⟨rfl, hb⟩; refine ⟨_, rfl, ?_⟩; have n0_ := Aside0.mk (below_step bl_ hb); clear HB; have HB := n0_; clear n0_; (try clear hb); (try clear hb2); (try clear hk); (try clear hi)))
   go_ret
   exact ⟨es_, bl_⟩
  replace H := Option.bind_eq_some_iff.mp H
  obtain ⟨t190, A100, H⟩ := H
  replace H : (if t190 = true then (some 4) else (some 0)) = some r := H
  have A10 := Aside0.mk A100
  clear A100
  by_cases c11 : t190 = true
  ·subst c11
   have H1 : (some 4) = some r := by rw [if_pos rfl] at H; exact H
   clear H
   have H := H1
   clear H1
   obtain rfl := Option.some.inj H
   go_enter Tryd.func30, Tryd.ntmps30
   go_wp2_with (first | ((with_reducible refine gate_callee (f := 44) rfl ?_); refine goesL_ (some 21) rfl rfl Tryd.func44 (by kernel_rfl) rfl #[.string a1] rfl ar_ ?_; (with_reducible refine (d_Int.calls k a1 t187 t188 t189 _ A7.out).mono ?_); rintro e w12 ⟨rfl, hb⟩; refine ⟨_, rfl, ?_⟩; have n0_ := Aside0.mk (below_step bl_ hb); clear HB; have HB := n0_; clear n0_; (try clear hb); (try clear hb2); (try clear hk); (try clear hi)) | ((with_reducible refine gate_callee (f := 16) rfl ?_); refine goesL_ (some 28) rfl rfl Tryd.func16 (by kernel_rfl) rfl #[.string a1] rfl ar_ ?_; (with_reducible refine (d_Float.calls k a1 true _ A10.out).mono ?_); rintro e w' ⟨rfl, ⟨nd, rfl⟩⟩; refine ⟨_, rfl, ?_⟩))
   go_ret
   exact ⟨es_, bl_⟩
  replace c11 := Bool.eq_false_iff.mpr c11
  subst c11
  have H1 : (some 0) = some r := by rw [if_neg (show ¬ (false = true) by decide)] at H; exact H
  clear H
  have H := H1
  clear H1
  obtain rfl := Option.some.inj H
  go_enter Tryd.func30, Tryd.ntmps30
  go_wp2_with (first | ((with_reducible refine gate_callee (f := 44) rfl ?_); refine goesL_ (some 21) rfl rfl Tryd.func44 (by kernel_rfl) rfl #[.string a1] rfl ar_ ?_; (with_reducible refine (d_Int.calls k a1 t187 t188 t189 _ A7.out).mono ?_); rintro e w13 ⟨rfl, hb⟩; refine ⟨_, rfl, ?_⟩; have n0_ := Aside0.mk (below_step bl_ hb); clear HB; have HB := n0_; clear n0_; (try clear hb); (try clear hb2); (try clear hk); (try clear hi)) | ((with_reducible refine gate_callee (f := 16) rfl ?_); refine goesL_ (some 28) rfl rfl Tryd.func16 (by kernel_rfl) rfl #[.string a1] rfl ar_ ?_; (with_reducible refine (d_Float.calls k a1 false _ A10.out).mono ?_); rintro e w' ⟨rfl, ⟨nd, rfl⟩⟩; refine ⟨_, rfl, ?_⟩))
  go_ret
  exact ⟨es_, bl_⟩
 replace H := ie_ H
 obtain ⟨c14b0, c14b1, H⟩ | ⟨c14b0, c14b1, c14, H⟩ := H
 ·replace H := Option.bind_eq_some_iff.mp H
  obtain ⟨⟨t191, t192⟩, A150, H⟩ := H
  replace H : (if t192 = 0 then (some 5) else (some 0)) = some r := H
  have A15 := Aside0.mk A150
  clear A150
  replace H := ie_ H
  obtain ⟨c16b0, c16b1, H⟩ | ⟨c16b0, c16b1, c16, H⟩ := H
  ·obtain rfl := Option.some.inj H
   go_enter Tryd.func30, Tryd.ntmps30
   go_wp2_with (first | ((with_reducible refine gate_callee (f := 45) rfl ?_); refine goesL_ (some 33) rfl rfl Tryd.func45 (by kernel_rfl) rfl #[.string a1] rfl ar_ ?_; (with_reducible refine (d_Char.calls k a1 t191 t192 _ A15.out).mono ?_); rintro e w17 ⟨rfl, hb⟩; refine ⟨_, rfl, ?_⟩; have n0_ := Aside0.mk (below_step bl_ hb); clear HB; have HB := n0_; clear n0_; (try clear hb); (try clear hb2); (try clear hk); (try clear hi)))
   go_ret
   exact ⟨es_, bl_⟩
  obtain rfl := Option.some.inj H
  go_enter Tryd.func30, Tryd.ntmps30
  go_wp2_with (first | ((with_reducible refine gate_callee (f := 45) rfl ?_); refine goesL_ (some 33) rfl rfl Tryd.func45 (by kernel_rfl) rfl #[.string a1] rfl ar_ ?_; (with_reducible refine (d_Char.calls k a1 t191 t192 _ A15.out).mono ?_); rintro e w18 ⟨rfl, hb⟩; refine ⟨_, rfl, ?_⟩; have n0_ := Aside0.mk (below_step bl_ hb); clear HB; have HB := n0_; clear n0_; (try clear hb); (try clear hb2); (try clear hk); (try clear hi)))
  go_ret
  exact ⟨es_, bl_⟩
 replace H := ie_ H
 obtain ⟨c19b0, c19b1, H⟩ | ⟨c19b0, c19b1, c19, H⟩ := H
 ·replace H := Option.bind_eq_some_iff.mp H
  obtain ⟨⟨t193, t194⟩, A200, H⟩ := H
  replace H : (if t194 = 0 then (some 6) else (some 0)) = some r := H
  have A20 := Aside0.mk A200
  clear A200
  replace H := ie_ H
  obtain ⟨c21b0, c21b1, H⟩ | ⟨c21b0, c21b1, c21, H⟩ := H
  ·obtain rfl := Option.some.inj H
   go_enter Tryd.func30, Tryd.ntmps30
   go_wp2_with (first | ((with_reducible refine gate_callee (f := 46) rfl ?_); refine goesL_ (some 42) rfl rfl Tryd.func46 (by kernel_rfl) rfl #[.string a1] rfl ar_ ?_; (with_reducible refine (d_Str.calls k a1 t193 t194 _ A20.out).mono ?_); rintro e w22 ⟨v195, rfl, ho0, hb⟩; refine ⟨_, rfl, ?_⟩; have n0_ := Aside0.mk (Kd.R_lower ho0 (below_size bl_)); have n1_ := Aside0.mk (below_step bl_ hb); clear HB; have HO196 := n0_; have HB := n1_; clear n0_ n1_; (try clear hb); (try clear hb2); (try clear hk); (try clear hi); (try clear ho0)))
   go_ret
   exact ⟨es_, bl_⟩
  obtain rfl := Option.some.inj H
  go_enter Tryd.func30, Tryd.ntmps30
  go_wp2_with (first | ((with_reducible refine gate_callee (f := 46) rfl ?_); refine goesL_ (some 42) rfl rfl Tryd.func46 (by kernel_rfl) rfl #[.string a1] rfl ar_ ?_; (with_reducible refine (d_Str.calls k a1 t193 t194 _ A20.out).mono ?_); rintro e w23 ⟨v195, rfl, ho0, hb⟩; refine ⟨_, rfl, ?_⟩; have n0_ := Aside0.mk (Kd.R_lower ho0 (below_size bl_)); have n1_ := Aside0.mk (below_step bl_ hb); clear HB; have HO196 := n0_; have HB := n1_; clear n0_ n1_; (try clear hb); (try clear hb2); (try clear hk); (try clear hi); (try clear ho0)))
  go_ret
  exact ⟨es_, bl_⟩
 replace H := ie_ H
 obtain ⟨c24b0, c24b1, H⟩ | ⟨c24b0, c24b1, c24, H⟩ := H
 ·obtain rfl := Option.some.inj H
  go_enter Tryd.func30, Tryd.ntmps30
  go_wp2
  go_ret
  exact ⟨es_, bl_⟩
 obtain rfl := Option.some.inj H
 go_enter Tryd.func30, Tryd.ntmps30
 go_wp2
 go_ret
 exact ⟨es_, bl_⟩
end Go.Proofs.YtcdleippdegibaaDoor.PR
