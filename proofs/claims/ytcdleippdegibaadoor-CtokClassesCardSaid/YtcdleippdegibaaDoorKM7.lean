import Derived.Test.YtcdleippdegibaaDoorKM4
import Derived.Test.YtcdleippdegibaaDoorKM6
import Derived.Test.YtcdleippdegibaaDoorKM5
set_option linter.unusedVariables false
set_option linter.unusedSimpArgs false
set_option linter.unusedSectionVars false
namespace Go.Proofs.YtcdleippdegibaaDoor.PR
open Go.RowKit Go.Proofs.YtcdleippdegibaaDoorW.PrintWords Go.Proofs.YtcdleippdegibaaDoorW.PrintLast Go.Proofs.YtcdleippdegibaaDoorW.PrintMore
open Go.Proofs.YtcdleippdegibaaDoor.LibG (SH SH.below SH.drewN SH.drew SH.alloc)
open Go.Proofs.YtcdleippdegibaaDoor.PK
attribute [local go_sem] max2_int min2_int max_two min_two max_three min_three max_four min_four
mutual
def regletref02_Tokens.l0 : Nat → ByteArray → List (S44) → List ByteArray → Int → Bool → Option ((List (S44)) × Int)
 | 0, _, _, _, _, _ => none
 | k + 1, x0, x4, x5, x6, x7 => if x6 < (x0.size : Int) then (if 0 ≤ x6 then ((regletref02_White.f (bt x0 x6)).bind fun t141 => (if t141 = true then (regletref02_Tokens.l0 k x0 x4 x5 (wrap64 (x6 + 1)) true) else (if (x5.length : Int) = 2 then (if 0 < (x5.length : Int) then (if (rdOf ByteArray.empty x5 0).toList = ([35] : List UInt8) then (if 1 < (x5.length : Int) then (regletref02_Tokens.j1 k x0 x4 x5 x6 x7 0 0 ((rdOf ByteArray.empty x5 1).toList == ([105, 110, 99, 108, 117, 100, 101] : List UInt8))) else (none)) else (if (rdOf ByteArray.empty x5 0).toList = ([37, 58] : List UInt8) then (if 1 < (x5.length : Int) then (regletref02_Tokens.j1 k x0 x4 x5 x6 x7 0 0 ((rdOf ByteArray.empty x5 1).toList == ([105, 110, 99, 108, 117, 100, 101] : List UInt8))) else (none)) else (regletref02_Tokens.j1 k x0 x4 x5 x6 x7 0 0 false))) else (none)) else (regletref02_Tokens.j1 k x0 x4 x5 x6 x7 0 0 false)))) else (none)) else (some (x4, 0))
def regletref02_Tokens.j1 : Nat → ByteArray → List (S44) → List ByteArray → Int → Bool → Int → Int → Bool → Option ((List (S44)) × Int)
 | 0, _, _, _, _, _, _, _, _ => none
 | k + 1, x0, x4, x5, x6, x7, x8, x9, x40 => if x40 = true then (if 0 ≤ x6 then (if x6 ≤ (x0.size : Int) then ((regletref02_named.f k (x0.extract (x6 : Int).toNat x0.size)).bind fun t146 => (regletref02_Tokens.j2 k x0 x4 x5 x6 x7 7 t146)) else (none)) else (none)) else (regletref02_Tokens.j2 k x0 x4 x5 x6 x7 x8 x9)
def regletref02_Tokens.j2 : Nat → ByteArray → List (S44) → List ByteArray → Int → Bool → Int → Int → Option ((List (S44)) × Int)
 | 0, _, _, _, _, _, _, _ => none
 | k + 1, x0, x4, x5, x6, x7, x8, x9 => if x9 = 0 then (if 0 ≤ x6 then (if x6 ≤ (x0.size : Int) then ((regletref02_remark.f k (x0.extract (x6 : Int).toNat x0.size)).bind fun t147 => (regletref02_Tokens.j3 k x0 x4 x5 x6 x7 8 t147)) else (none)) else (none)) else (regletref02_Tokens.j3 k x0 x4 x5 x6 x7 x8 x9)
def regletref02_Tokens.j3 : Nat → ByteArray → List (S44) → List ByteArray → Int → Bool → Int → Int → Option ((List (S44)) × Int)
 | 0, _, _, _, _, _, _, _ => none
 | k + 1, x0, x4, x5, x6, x7, x8, x9 => if x9 < 0 then (some (([] : List (S44)), 20)) else (if x9 = 0 then (if 0 ≤ x6 then (if x6 ≤ (x0.size : Int) then ((regletref02_longest.f k (x0.extract (x6 : Int).toNat x0.size)).bind fun bt148 => (regletref02_Tokens.j4 k x0 x4 x5 x6 x7 bt148.1 bt148.2)) else (none)) else (none)) else (regletref02_Tokens.j4 k x0 x4 x5 x6 x7 x8 x9))
def regletref02_Tokens.j4 : Nat → ByteArray → List (S44) → List ByteArray → Int → Bool → Int → Int → Option ((List (S44)) × Int)
 | 0, _, _, _, _, _, _, _ => none
 | k + 1, x0, x4, x5, x6, x7, x8, x9 => if x9 = 0 then (some (([] : List (S44)), 21)) else (if 0 ≤ x6 then (if x6 ≤ (wrap64 (x6 + x9)) then (if (wrap64 (x6 + x9)) ≤ (x0.size : Int) then (if x4.length < 2932031007402 then ((some (x4 ++ [(⟨x8, x0.extract (x6 : Int).toNat ((wrap64 (x6 + x9)) : Int).toNat, x6, wrap64 (x6 + x9), x7⟩ : S44)] : List (S44))).bind fun y150 => (if x8 = 9 then (regletref02_Tokens.l0 k x0 y150 ([] : List ByteArray) (wrap64 (x6 + x9)) false) else (if x8 = 8 then (regletref02_Tokens.l0 k x0 y150 x5 (wrap64 (x6 + x9)) false) else (if x5.length < 8796093022208 then (regletref02_Tokens.l0 k x0 y150 (x5 ++ [x0.extract (x6 : Int).toNat ((wrap64 (x6 + x9)) : Int).toNat]) (wrap64 (x6 + x9)) false) else (none))))) else (none)) else (none)) else (none)) else (none))
end
def regletref02_Tokens.f (k : Nat) (a0 : ByteArray) : Option ((List (S44)) × Int) := regletref02_Tokens.l0 k a0 ([] : List (S44)) ([] : List ByteArray) 0 false
theorem regletref02_Tokens.mono_l : ∀ k, (∀ y0 y1 y2 y3 y4, LeO (regletref02_Tokens.l0 k y0 y1 y2 y3 y4) (regletref02_Tokens.l0 (k + 1) y0 y1 y2 y3 y4)) ∧ (∀ y0 y1 y2 y3 y4 y5 y6 y7, LeO (regletref02_Tokens.j1 k y0 y1 y2 y3 y4 y5 y6 y7) (regletref02_Tokens.j1 (k + 1) y0 y1 y2 y3 y4 y5 y6 y7)) ∧ (∀ y0 y1 y2 y3 y4 y5 y6, LeO (regletref02_Tokens.j2 k y0 y1 y2 y3 y4 y5 y6) (regletref02_Tokens.j2 (k + 1) y0 y1 y2 y3 y4 y5 y6)) ∧ (∀ y0 y1 y2 y3 y4 y5 y6, LeO (regletref02_Tokens.j3 k y0 y1 y2 y3 y4 y5 y6) (regletref02_Tokens.j3 (k + 1) y0 y1 y2 y3 y4 y5 y6)) ∧ (∀ y0 y1 y2 y3 y4 y5 y6, LeO (regletref02_Tokens.j4 k y0 y1 y2 y3 y4 y5 y6) (regletref02_Tokens.j4 (k + 1) y0 y1 y2 y3 y4 y5 y6))
 | 0 => ⟨fun _ _ _ _ _ r h => by simp [regletref02_Tokens.l0] at h, fun _ _ _ _ _ _ _ _ r h => by simp [regletref02_Tokens.j1] at h, fun _ _ _ _ _ _ _ r h => by simp [regletref02_Tokens.j2] at h, fun _ _ _ _ _ _ _ r h => by simp [regletref02_Tokens.j3] at h, fun _ _ _ _ _ _ _ r h => by simp [regletref02_Tokens.j4] at h⟩
 | k + 1 => by
  obtain ⟨ih0, ih1, ih2, ih3, ih4⟩ := regletref02_Tokens.mono_l k
  refine ⟨?_, ?_, ?_, ?_, ?_⟩
  ·intro y0 y1 y2 y3 y4
   unfold regletref02_Tokens.l0
   repeat' first
   | (with_reducible exact ih0 _ _ _ _ _)
   | (with_reducible exact ih1 _ _ _ _ _ _ _ _)
   | (with_reducible exact ih2 _ _ _ _ _ _ _)
   | (with_reducible exact ih3 _ _ _ _ _ _ _)
   | (with_reducible exact ih4 _ _ _ _ _ _ _)
   | (with_reducible exact regletref02_longest.mono _ _)
   | (with_reducible exact regletref02_named.mono _ _)
   | (with_reducible exact regletref02_remark.mono _ _)
   | (with_reducible exact LeO.refl _)
   | (with_reducible exact LeO.none _)
   | (with_reducible refine LeO.ite ?_ ?_)
   | (with_reducible refine LeO.bind ?_ (fun _ => ?_))
   | exact ih0 _ _ _ _ _
   | exact ih1 _ _ _ _ _ _ _ _
   | exact ih2 _ _ _ _ _ _ _
   | exact ih3 _ _ _ _ _ _ _
   | exact ih4 _ _ _ _ _ _ _
   | exact regletref02_longest.mono _ _
   | exact regletref02_named.mono _ _
   | exact regletref02_remark.mono _ _
   | exact LeO.none _
   | refine LeO.ite ?_ ?_
   | refine LeO.bind ?_ (fun _ => ?_)
  ·intro y0 y1 y2 y3 y4 y5 y6 y7
   unfold regletref02_Tokens.j1
   repeat' first
   | (with_reducible exact ih0 _ _ _ _ _)
   | (with_reducible exact ih1 _ _ _ _ _ _ _ _)
   | (with_reducible exact ih2 _ _ _ _ _ _ _)
   | (with_reducible exact ih3 _ _ _ _ _ _ _)
   | (with_reducible exact ih4 _ _ _ _ _ _ _)
   | (with_reducible exact regletref02_longest.mono _ _)
   | (with_reducible exact regletref02_named.mono _ _)
   | (with_reducible exact regletref02_remark.mono _ _)
   | (with_reducible exact LeO.refl _)
   | (with_reducible exact LeO.none _)
   | (with_reducible refine LeO.ite ?_ ?_)
   | (with_reducible refine LeO.bind ?_ (fun _ => ?_))
   | exact ih0 _ _ _ _ _
   | exact ih1 _ _ _ _ _ _ _ _
   | exact ih2 _ _ _ _ _ _ _
   | exact ih3 _ _ _ _ _ _ _
   | exact ih4 _ _ _ _ _ _ _
   | exact regletref02_longest.mono _ _
   | exact regletref02_named.mono _ _
   | exact regletref02_remark.mono _ _
   | exact LeO.none _
   | refine LeO.ite ?_ ?_
   | refine LeO.bind ?_ (fun _ => ?_)
  ·intro y0 y1 y2 y3 y4 y5 y6
   unfold regletref02_Tokens.j2
   repeat' first
   | (with_reducible exact ih0 _ _ _ _ _)
   | (with_reducible exact ih1 _ _ _ _ _ _ _ _)
   | (with_reducible exact ih2 _ _ _ _ _ _ _)
   | (with_reducible exact ih3 _ _ _ _ _ _ _)
   | (with_reducible exact ih4 _ _ _ _ _ _ _)
   | (with_reducible exact regletref02_longest.mono _ _)
   | (with_reducible exact regletref02_named.mono _ _)
   | (with_reducible exact regletref02_remark.mono _ _)
   | (with_reducible exact LeO.refl _)
   | (with_reducible exact LeO.none _)
   | (with_reducible refine LeO.ite ?_ ?_)
   | (with_reducible refine LeO.bind ?_ (fun _ => ?_))
   | exact ih0 _ _ _ _ _
   | exact ih1 _ _ _ _ _ _ _ _
   | exact ih2 _ _ _ _ _ _ _
   | exact ih3 _ _ _ _ _ _ _
   | exact ih4 _ _ _ _ _ _ _
   | exact regletref02_longest.mono _ _
   | exact regletref02_named.mono _ _
   | exact regletref02_remark.mono _ _
   | exact LeO.none _
   | refine LeO.ite ?_ ?_
   | refine LeO.bind ?_ (fun _ => ?_)
  ·intro y0 y1 y2 y3 y4 y5 y6
   unfold regletref02_Tokens.j3
   repeat' first
   | (with_reducible exact ih0 _ _ _ _ _)
   | (with_reducible exact ih1 _ _ _ _ _ _ _ _)
   | (with_reducible exact ih2 _ _ _ _ _ _ _)
   | (with_reducible exact ih3 _ _ _ _ _ _ _)
   | (with_reducible exact ih4 _ _ _ _ _ _ _)
   | (with_reducible exact regletref02_longest.mono _ _)
   | (with_reducible exact regletref02_named.mono _ _)
   | (with_reducible exact regletref02_remark.mono _ _)
   | (with_reducible exact LeO.refl _)
   | (with_reducible exact LeO.none _)
   | (with_reducible refine LeO.ite ?_ ?_)
   | (with_reducible refine LeO.bind ?_ (fun _ => ?_))
   | exact ih0 _ _ _ _ _
   | exact ih1 _ _ _ _ _ _ _ _
   | exact ih2 _ _ _ _ _ _ _
   | exact ih3 _ _ _ _ _ _ _
   | exact ih4 _ _ _ _ _ _ _
   | exact regletref02_longest.mono _ _
   | exact regletref02_named.mono _ _
   | exact regletref02_remark.mono _ _
   | exact LeO.none _
   | refine LeO.ite ?_ ?_
   | refine LeO.bind ?_ (fun _ => ?_)
  intro y0 y1 y2 y3 y4 y5 y6
  unfold regletref02_Tokens.j4
  repeat' first
  | (with_reducible exact ih0 _ _ _ _ _)
  | (with_reducible exact ih1 _ _ _ _ _ _ _ _)
  | (with_reducible exact ih2 _ _ _ _ _ _ _)
  | (with_reducible exact ih3 _ _ _ _ _ _ _)
  | (with_reducible exact ih4 _ _ _ _ _ _ _)
  | (with_reducible exact regletref02_longest.mono _ _)
  | (with_reducible exact regletref02_named.mono _ _)
  | (with_reducible exact regletref02_remark.mono _ _)
  | (with_reducible exact LeO.refl _)
  | (with_reducible exact LeO.none _)
  | (with_reducible refine LeO.ite ?_ ?_)
  | (with_reducible refine LeO.bind ?_ (fun _ => ?_))
  | exact ih0 _ _ _ _ _
  | exact ih1 _ _ _ _ _ _ _ _
  | exact ih2 _ _ _ _ _ _ _
  | exact ih3 _ _ _ _ _ _ _
  | exact ih4 _ _ _ _ _ _ _
  | exact regletref02_longest.mono _ _
  | exact regletref02_named.mono _ _
  | exact regletref02_remark.mono _ _
  | exact LeO.none _
  | refine LeO.ite ?_ ?_
  | refine LeO.bind ?_ (fun _ => ?_)
theorem regletref02_Tokens.mono : ∀ a0 k, LeO (regletref02_Tokens.f k a0) (regletref02_Tokens.f (k + 1) a0) := by
 intro a0 k
 obtain ⟨ih0, ih1, ih2, ih3, ih4⟩ := regletref02_Tokens.mono_l k
 unfold regletref02_Tokens.f
 repeat' first
   | (with_reducible exact ih0 _ _ _ _ _)
   | (with_reducible exact ih1 _ _ _ _ _ _ _ _)
   | (with_reducible exact ih2 _ _ _ _ _ _ _)
   | (with_reducible exact ih3 _ _ _ _ _ _ _)
   | (with_reducible exact ih4 _ _ _ _ _ _ _)
   | (with_reducible exact regletref02_longest.mono _ _)
   | (with_reducible exact regletref02_named.mono _ _)
   | (with_reducible exact regletref02_remark.mono _ _)
   | (with_reducible exact LeO.refl _)
   | (with_reducible exact LeO.none _)
   | (with_reducible refine LeO.ite ?_ ?_)
   | (with_reducible refine LeO.bind ?_ (fun _ => ?_))
   | exact ih0 _ _ _ _ _
   | exact ih1 _ _ _ _ _ _ _ _
   | exact ih2 _ _ _ _ _ _ _
   | exact ih3 _ _ _ _ _ _ _
   | exact ih4 _ _ _ _ _ _ _
   | exact regletref02_longest.mono _ _
   | exact regletref02_named.mono _ _
   | exact regletref02_remark.mono _ _
   | exact LeO.none _
   | refine LeO.ite ?_ ?_
   | refine LeO.bind ?_ (fun _ => ?_)
set_option maxHeartbeats 8000000 in
set_option maxRecDepth 100000 in
theorem regletref02_Tokens.calls (k : Nat) (a0 : ByteArray) (r1 : List (S44)) (r2 : Int) (w : World) (h : regletref02_Tokens.f k a0 = some (r1, r2)) :
  Calls Tryd.prog 70 #[.string a0] w fun e w' => ∃ v0_ : Value, e = .returned (.tuple #[v0_, .int .i64 r2]) ∧ Kd.R k44 44 w' w.heap.size (fun _ => True) v0_ r1 ∧ Below w.heap.size w w' := by
 have hu44 := Tryd.underlying44
 have HB := Aside0.mk (Below.refl w.heap.size w)
 have H : (regletref02_Tokens.l0 k a0 ([] : List (S44)) ([] : List ByteArray) 0 false) = some (r1, r2) := h
 clear h
 have H' := Aside0.mk H
 clear H
 go_enter Tryd.func70, Tryd.ntmps70
 go_wp2
 go_loopg [4, 5, 6, 7] k (fun kq v4 v5 v6 v7 w' => ∃ (x4_1 : List (S44)) (x5_1 : List ByteArray) (x6_1 : Int) (x7_1 : Bool), v6 = .int .i64 x6_1 ∧ v7 = .bool x7_1 ∧ Aside0 (regletref02_Tokens.l0 kq a0 x4_1 x5_1 x6_1 x7_1 = some (r1, r2)) ∧ Aside0 (kq ≤ k) ∧ Aside0 (Kd.R k44 44 w' w.heap.size (fun _ => True) v4 x4_1) ∧ Aside0 (Kd.R Kd.string 9 w' w.heap.size (fun _ => True) v5 x5_1) ∧ Aside0 (Below w.heap.size w w'))
 case atStart => exact ⟨(([] : List (S44))), (([] : List ByteArray)), (0), (false), er_, er_, H', ⟨Nat.le_refl _⟩, ⟨by first | exact Kd.R_nil _ _ _ _ _ | exact Kd.N_nil _ _ _ _ _ | exact Kd.V_nil _ _ _ _ _ | exact Kd.Q_nil _ _ _ _ _ | exact Kd.S_nil _ _ _ _ _⟩, ⟨by first | exact Kd.R_nil _ _ _ _ _ | exact Kd.N_nil _ _ _ _ _ | exact Kd.V_nil _ _ _ _ _ | exact Kd.Q_nil _ _ _ _ _ | exact Kd.S_nil _ _ _ _ _⟩, ⟨bl_⟩⟩
 case round =>
  clear H'
  obtain ⟨x4_1, x5_1, x6_1, x7_1, rfl, rfl, HA, HK1, HO_4, HO_5, HB⟩ := hrel
  cases gk with
  | zero => exact absurd HA.out (by simp [regletref02_Tokens.l0])
  | succ k1 =>
   have H := HA.out
   clear HA
   simp only [regletref02_Tokens.l0] at H
   by_cases c2 : x6_1 < (a0.size : Int)
   ·rw [if_pos c2] at H
    have c2b0 := decide_eq_true c2
    clear c2
    by_cases c3 : 0 ≤ x6_1
    ·rw [if_pos c3] at H
     have c3b0 := decide_eq_true c3
     clear c3
     replace H := Option.bind_eq_some_iff.mp H
     obtain ⟨t141, A50, H⟩ := H
     replace H : (if t141 = true then (regletref02_Tokens.l0 k1 a0 x4_1 x5_1 (wrap64 (x6_1 + 1)) true) else (if (x5_1.length : Int) = 2 then (if 0 < (x5_1.length : Int) then (if (rdOf ByteArray.empty x5_1 0).toList = ([35] : List UInt8) then (if 1 < (x5_1.length : Int) then (regletref02_Tokens.j1 k1 a0 x4_1 x5_1 x6_1 x7_1 0 0 ((rdOf ByteArray.empty x5_1 1).toList == ([105, 110, 99, 108, 117, 100, 101] : List UInt8))) else (none)) else (if (rdOf ByteArray.empty x5_1 0).toList = ([37, 58] : List UInt8) then (if 1 < (x5_1.length : Int) then (regletref02_Tokens.j1 k1 a0 x4_1 x5_1 x6_1 x7_1 0 0 ((rdOf ByteArray.empty x5_1 1).toList == ([105, 110, 99, 108, 117, 100, 101] : List UInt8))) else (none)) else (regletref02_Tokens.j1 k1 a0 x4_1 x5_1 x6_1 x7_1 0 0 false))) else (none)) else (regletref02_Tokens.j1 k1 a0 x4_1 x5_1 x6_1 x7_1 0 0 false))) = some (r1, r2) := H
     have A5 := Aside0.mk A50
     clear A50
     by_cases c6 : t141 = true
     ·subst c6
      have H1 : (regletref02_Tokens.l0 k1 a0 x4_1 x5_1 (wrap64 (x6_1 + 1)) true) = some (r1, r2) := by rw [if_pos rfl] at H; exact H
      clear H
      have H := H1
      clear H1
      have H' := Aside0.mk H
      clear H
      have p4 : 0 ≤ (x6_1 : Int) := da_
      have q4 : x6_1 < (a0.size : Int) := da_
      have hx4 := bt_at a0 x6_1
      replace p4 := eq_true p4
      replace q4 := eq_true q4
      go_wp2_with (first | ((with_reducible refine gate_callee (f := 85) rfl ?_); refine goesL_ (some 17) rfl rfl Tryd.func85 (by kernel_rfl) rfl #[.int .u8 (bt a0 x6_1)] rfl ar_ ?_; (with_reducible refine (regletref02_White.calls (bt a0 x6_1) true _ A5.out).mono ?_); rintro e w' ⟨rfl, ⟨nd, rfl⟩⟩; refine ⟨_, rfl, ?_⟩))
      go_roundg k1
      case measure => have := HK1.out; omega
      case rel => exact ⟨(x4_1), (x5_1), (wrap64 (x6_1 + 1)), (true), er_, er_, H', ⟨by have := HK1.out; omega⟩, ⟨by (with_reducible repeat (first | apply Kd.R_alloc | apply Kd.R_drewN | apply Kd.R_drew)); exact HO_4.out⟩, ⟨by (with_reducible repeat (first | apply Kd.R_alloc | apply Kd.R_drewN | apply Kd.R_drew)); exact HO_5.out⟩, ⟨bl_⟩⟩
     replace c6 := Bool.eq_false_iff.mpr c6
     subst c6
     have H1 : (if (x5_1.length : Int) = 2 then (if 0 < (x5_1.length : Int) then (if (rdOf ByteArray.empty x5_1 0).toList = ([35] : List UInt8) then (if 1 < (x5_1.length : Int) then (regletref02_Tokens.j1 k1 a0 x4_1 x5_1 x6_1 x7_1 0 0 ((rdOf ByteArray.empty x5_1 1).toList == ([105, 110, 99, 108, 117, 100, 101] : List UInt8))) else (none)) else (if (rdOf ByteArray.empty x5_1 0).toList = ([37, 58] : List UInt8) then (if 1 < (x5_1.length : Int) then (regletref02_Tokens.j1 k1 a0 x4_1 x5_1 x6_1 x7_1 0 0 ((rdOf ByteArray.empty x5_1 1).toList == ([105, 110, 99, 108, 117, 100, 101] : List UInt8))) else (none)) else (regletref02_Tokens.j1 k1 a0 x4_1 x5_1 x6_1 x7_1 0 0 false))) else (none)) else (regletref02_Tokens.j1 k1 a0 x4_1 x5_1 x6_1 x7_1 0 0 false)) = some (r1, r2) := by rw [if_neg (show ¬ (false = true) by decide)] at H; exact H
     clear H
     have H := H1
     clear H1
     have HC7 := Aside0.mk H
     clear H
     have p4 : 0 ≤ (x6_1 : Int) := da_
     have q4 : x6_1 < (a0.size : Int) := da_
     have hx4 := bt_at a0 x6_1
     replace p4 := eq_true p4
     replace q4 := eq_true q4
     go_upto_region 11 with (first | ((with_reducible refine gate_callee (f := 85) rfl ?_); refine goesL_ (some 17) rfl rfl Tryd.func85 (by kernel_rfl) rfl #[.int .u8 (bt a0 x6_1)] rfl ar_ ?_; (with_reducible refine (regletref02_White.calls (bt a0 x6_1) false _ A5.out).mono ?_); rintro e w' ⟨rfl, ⟨nd, rfl⟩⟩; refine ⟨_, rfl, ?_⟩))
     (try simp only [Act.put, List.setIfInBounds_toArray, List.set_cons_zero, List.set_cons_succ])
     go_cut [40] (fun v40 wc => ∃ (kq : Nat) (x40_6 : Bool), v40 = .bool x40_6 ∧ Aside0 (regletref02_Tokens.j1 kq a0 x4_1 x5_1 x6_1 x7_1 0 0 x40_6 = some (r1, r2)) ∧ Aside0 (kq ≤ k1) ∧ Aside0 (Kd.R k44 44 wc w.heap.size (fun _ => True) u4 x4_1) ∧ Aside0 (Kd.R Kd.string 9 wc w.heap.size (fun _ => True) u5 x5_1) ∧ Aside0 (Below w.heap.size w wc))
     case first =>
      have H := HC7.out
      clear HC7
      by_cases c8 : (x5_1.length : Int) = 2
      ·rw [if_pos c8] at H
       have c8b0 := beq_iff_eq.mpr c8
       have c8b1 := bne_eq_false_iff_eq.mpr c8
       clear c8
       (first | rw [c8b0] | (simp only [i64_w, i32_w]; rw [c8b0]) | skip)
       by_cases c9 : 0 < (x5_1.length : Int)
       ·rw [if_pos c9] at H
        have c9b0 := decide_eq_true c9
        have c9b1 : decide (0 < x5_1.length) = true := decide_eq_true (by omega)
        clear c9
        by_cases c10 : (rdOf ByteArray.empty x5_1 0).toList = ([35] : List UInt8)
        ·rw [if_pos c10] at H
         have c10b0 := beq_iff_eq.mpr c10
         have c10b1 := bne_eq_false_iff_eq.mpr c10
         clear c10
         by_cases c11 : 1 < (x5_1.length : Int)
         ·rw [if_pos c11] at H
          have c11b0 := decide_eq_true c11
          have c11b1 : decide (1 < x5_1.length) = true := decide_eq_true (by omega)
          clear c11
          have H' := Aside0.mk H
          clear H
          obtain ⟨Ao12, co12, eo12⟩ := Kd.R_slice HO_5.out
          subst eo12
          have p142 : 0 ≤ (0 : Int) := (by omega)
          have q142 : 0 < (x5_1.length : Int) := da_
          obtain ⟨ad142, e142, hx142_0⟩ := Kd.at_string (Kd.R_reads' HO_5.out).2.2 0 p142 q142
          cases e142
          have qi142 : (0 < x5_1.length) = True := eq_true (by omega)
          (try rw [show ((0 : Int)).toNat = 0 from rfl] at hx142_0)
          (try rw [Addr.add_zero'] at hx142_0)
          replace p142 := eq_true p142
          replace q142 := eq_true q142
          have p143 : 0 ≤ (1 : Int) := (by omega)
          have q143 : 1 < (x5_1.length : Int) := da_
          obtain ⟨ad143, e143, hx143_0⟩ := Kd.at_string (Kd.R_reads' HO_5.out).2.2 1 p143 q143
          obtain rfl : ad142 = ad143 := (by injection e143)
          (try simp only [show (1 : Int).toNat = 1 from rfl, Nat.reduceMul, Nat.reduceEqDiff, Go.Addr.add, ↓reduceIte] at hx143_0)
          have qi143 : (1 < x5_1.length) = True := eq_true (by omega)
          (try rw [show ((1 : Int)).toNat = 1 from rfl] at hx143_0)
          replace p143 := eq_true p143
          replace q143 := eq_true q143
          go_wp2
          go_meet
          case rel => exact ⟨_, (((rdOf ByteArray.empty x5_1 1).toList == ([105, 110, 99, 108, 117, 100, 101] : List UInt8))), er_, H', ⟨by have := HK1.out; first | omega | exact Nat.le_refl _⟩, ⟨by (with_reducible repeat (first | apply Kd.R_alloc | apply Kd.R_drewN | apply Kd.R_drew)); exact HO_4.out⟩, ⟨by (with_reducible repeat (first | apply Kd.R_alloc | apply Kd.R_drewN | apply Kd.R_drew)); exact HO_5.out⟩, ⟨bl_⟩⟩
         rw [if_neg c11] at H
         exact absurd H (by simp)
        rw [if_neg c10] at H
        have c10b0 := beq_eq_false_iff_ne.mpr c10
        have c10b1 := bne_iff_ne.mpr c10
        by_cases c13 : (rdOf ByteArray.empty x5_1 0).toList = ([37, 58] : List UInt8)
        ·rw [if_pos c13] at H
         have c13b0 := beq_iff_eq.mpr c13
         have c13b1 := bne_eq_false_iff_eq.mpr c13
         clear c13
         by_cases c14 : 1 < (x5_1.length : Int)
         ·rw [if_pos c14] at H
          have c14b0 := decide_eq_true c14
          have c14b1 : decide (1 < x5_1.length) = true := decide_eq_true (by omega)
          clear c14
          have H' := Aside0.mk H
          clear H
          obtain ⟨Ao15, co15, eo15⟩ := Kd.R_slice HO_5.out
          subst eo15
          have p142 : 0 ≤ (0 : Int) := (by omega)
          have q142 : 0 < (x5_1.length : Int) := da_
          obtain ⟨ad142, e142, hx142_0⟩ := Kd.at_string (Kd.R_reads' HO_5.out).2.2 0 p142 q142
          cases e142
          have qi142 : (0 < x5_1.length) = True := eq_true (by omega)
          (try rw [show ((0 : Int)).toNat = 0 from rfl] at hx142_0)
          (try rw [Addr.add_zero'] at hx142_0)
          replace p142 := eq_true p142
          replace q142 := eq_true q142
          have p144 : 0 ≤ (0 : Int) := (by omega)
          have q144 : 0 < (x5_1.length : Int) := da_
          obtain ⟨ad144, e144, hx144_0⟩ := Kd.at_string (Kd.R_reads' HO_5.out).2.2 0 p144 q144
          obtain rfl : ad142 = ad144 := (by injection e144)
          have qi144 : (0 < x5_1.length) = True := eq_true (by omega)
          (try rw [show ((0 : Int)).toNat = 0 from rfl] at hx144_0)
          (try rw [Addr.add_zero'] at hx144_0)
          replace p144 := eq_true p144
          replace q144 := eq_true q144
          have p145 : 0 ≤ (1 : Int) := (by omega)
          have q145 : 1 < (x5_1.length : Int) := da_
          obtain ⟨ad145, e145, hx145_0⟩ := Kd.at_string (Kd.R_reads' HO_5.out).2.2 1 p145 q145
          obtain rfl : ad142 = ad145 := (by injection e145)
          (try simp only [show (1 : Int).toNat = 1 from rfl, Nat.reduceMul, Nat.reduceEqDiff, Go.Addr.add, ↓reduceIte] at hx145_0)
          have qi145 : (1 < x5_1.length) = True := eq_true (by omega)
          (try rw [show ((1 : Int)).toNat = 1 from rfl] at hx145_0)
          replace p145 := eq_true p145
          replace q145 := eq_true q145
          go_wp2
          go_meet
          case rel => exact ⟨_, (((rdOf ByteArray.empty x5_1 1).toList == ([105, 110, 99, 108, 117, 100, 101] : List UInt8))), er_, H', ⟨by have := HK1.out; first | omega | exact Nat.le_refl _⟩, ⟨by (with_reducible repeat (first | apply Kd.R_alloc | apply Kd.R_drewN | apply Kd.R_drew)); exact HO_4.out⟩, ⟨by (with_reducible repeat (first | apply Kd.R_alloc | apply Kd.R_drewN | apply Kd.R_drew)); exact HO_5.out⟩, ⟨bl_⟩⟩
         rw [if_neg c14] at H
         exact absurd H (by simp)
        rw [if_neg c13] at H
        have c13b0 := beq_eq_false_iff_ne.mpr c13
        have c13b1 := bne_iff_ne.mpr c13
        have H' := Aside0.mk H
        clear H
        obtain ⟨Ao16, co16, eo16⟩ := Kd.R_slice HO_5.out
        subst eo16
        have p142 : 0 ≤ (0 : Int) := (by omega)
        have q142 : 0 < (x5_1.length : Int) := da_
        obtain ⟨ad142, e142, hx142_0⟩ := Kd.at_string (Kd.R_reads' HO_5.out).2.2 0 p142 q142
        cases e142
        have qi142 : (0 < x5_1.length) = True := eq_true (by omega)
        (try rw [show ((0 : Int)).toNat = 0 from rfl] at hx142_0)
        (try rw [Addr.add_zero'] at hx142_0)
        replace p142 := eq_true p142
        replace q142 := eq_true q142
        have p144 : 0 ≤ (0 : Int) := (by omega)
        have q144 : 0 < (x5_1.length : Int) := da_
        obtain ⟨ad144, e144, hx144_0⟩ := Kd.at_string (Kd.R_reads' HO_5.out).2.2 0 p144 q144
        obtain rfl : ad142 = ad144 := (by injection e144)
        have qi144 : (0 < x5_1.length) = True := eq_true (by omega)
        (try rw [show ((0 : Int)).toNat = 0 from rfl] at hx144_0)
        (try rw [Addr.add_zero'] at hx144_0)
        replace p144 := eq_true p144
        replace q144 := eq_true q144
        go_wp2
        go_meet
        case rel => exact ⟨_, (false), er_, H', ⟨by have := HK1.out; first | omega | exact Nat.le_refl _⟩, ⟨by (with_reducible repeat (first | apply Kd.R_alloc | apply Kd.R_drewN | apply Kd.R_drew)); exact HO_4.out⟩, ⟨by (with_reducible repeat (first | apply Kd.R_alloc | apply Kd.R_drewN | apply Kd.R_drew)); exact HO_5.out⟩, ⟨bl_⟩⟩
       rw [if_neg c9] at H
       exact absurd H (by simp)
      rw [if_neg c8] at H
      have c8b0 := beq_eq_false_iff_ne.mpr c8
      have c8b1 := bne_iff_ne.mpr c8
      (first | rw [c8b0] | (simp only [i64_w, i32_w]; rw [c8b0]) | skip)
      have H' := Aside0.mk H
      clear H
      obtain ⟨Ao17, co17, eo17⟩ := Kd.R_slice HO_5.out
      subst eo17
      go_wp2
      go_meet
      case rel => exact ⟨_, (false), er_, H', ⟨by have := HK1.out; first | omega | exact Nat.le_refl _⟩, ⟨by (with_reducible repeat (first | apply Kd.R_alloc | apply Kd.R_drewN | apply Kd.R_drew)); exact HO_4.out⟩, ⟨by (with_reducible repeat (first | apply Kd.R_alloc | apply Kd.R_drewN | apply Kd.R_drew)); exact HO_5.out⟩, ⟨bl_⟩⟩
     case rest =>
      clear HC7
      try clear c1
      try clear p1
      try clear q1
      try clear hx1
      try clear qi1
      try clear c2
      try clear c2b0
      try clear p2
      try clear c3
      try clear c3b0
      try clear p4
      try clear q4
      try clear hx4
      try clear c6
      try clear p6
      try clear c7
      try clear c8
      try clear c8b0
      try clear c8b1
      try clear c9
      try clear c9b0
      try clear c9b1
      try clear c10
      try clear c10b0
      try clear c10b1
      try clear c11
      try clear c11b0
      try clear c11b1
      try clear c13
      try clear c13b0
      try clear c13b1
      try clear c14
      try clear c14b0
      try clear c14b1
      try clear p14
      try clear q14
      try clear hx14
      try clear qi14
      try clear hx142_0
      try clear hx143_0
      try clear hx144_0
      try clear hx145_0
      try clear p142
      try clear p143
      try clear p144
      try clear p145
      try clear p4
      try clear q142
      try clear q143
      try clear q144
      try clear q145
      try clear q4
      obtain ⟨kq, x40_6, rfl, HA, HJ6, HO_4, HO_5, HB⟩ := hcut
      cases kq with
      | zero => exact absurd HA.out (by simp [regletref02_Tokens.j1])
      | succ kj6 =>
       have H := HA.out
       clear HA
       simp only [regletref02_Tokens.j1] at H
       have HC18 := Aside0.mk H
       clear H
       go_upto_if 40 with (fail)
       go_cut [8, 9] (fun v8 v9 wc => ∃ (kq : Nat) (x8_17 : Int) (x9_17 : Int), v8 = .int .i64 x8_17 ∧ v9 = .int .i64 x9_17 ∧ Aside0 (regletref02_Tokens.j2 kq a0 x4_1 x5_1 x6_1 x7_1 x8_17 x9_17 = some (r1, r2)) ∧ Aside0 (kq ≤ kj6) ∧ Aside0 (Kd.R k44 44 wc w.heap.size (fun _ => True) u4 x4_1) ∧ Aside0 (Kd.R Kd.string 9 wc w.heap.size (fun _ => True) u5 x5_1) ∧ Aside0 (Below w.heap.size w wc))
       case first =>
        have H := HC18.out
        clear HC18
        by_cases c19 : x40_6 = true
        ·subst c19
         have H1 : (if 0 ≤ x6_1 then (if x6_1 ≤ (a0.size : Int) then ((regletref02_named.f kj6 (a0.extract (x6_1 : Int).toNat a0.size)).bind fun t146 => (regletref02_Tokens.j2 kj6 a0 x4_1 x5_1 x6_1 x7_1 7 t146)) else (none)) else (none)) = some (r1, r2) := by rw [if_pos rfl] at H; exact H
         clear H
         have H := H1
         clear H1
         by_cases c20 : 0 ≤ x6_1
         ·rw [if_pos c20] at H
          have c20b0 := eq_true c20
          have c20b1 := decide_eq_true c20
          clear c20
          by_cases c21 : x6_1 ≤ (a0.size : Int)
          ·rw [if_pos c21] at H
           have c21b0 := eq_true c21
           have c21b1 := decide_eq_true c21
           clear c21
           replace H := Option.bind_eq_some_iff.mp H
           obtain ⟨t146, A220, H⟩ := H
           replace H : (regletref02_Tokens.j2 kj6 a0 x4_1 x5_1 x6_1 x7_1 7 t146) = some (r1, r2) := H
           have A22 := Aside0.mk A220
           clear A220
           have H' := Aside0.mk H
           clear H
           go_wp2_with (first | ((with_reducible refine gate_callee (f := 86) rfl ?_); refine goesL_ (some 44) rfl rfl Tryd.func86 (by kernel_rfl) rfl #[.string (a0.extract (x6_1 : Int).toNat a0.size)] rfl ar_ ?_; (with_reducible refine (regletref02_named.calls kj6 (a0.extract (x6_1 : Int).toNat a0.size) t146 _ A22.out).mono ?_); rintro e w' ⟨rfl, ⟨nd, rfl⟩⟩; refine ⟨_, rfl, ?_⟩))
           go_meet
           case rel => exact ⟨_, (7), (t146), er_, er_, H', ⟨by have := HK1.out; have := HJ6.out; first | omega | exact Nat.le_refl _⟩, ⟨by (with_reducible repeat (first | apply Kd.R_alloc | apply Kd.R_drewN | apply Kd.R_drew)); exact HO_4.out⟩, ⟨by (with_reducible repeat (first | apply Kd.R_alloc | apply Kd.R_drewN | apply Kd.R_drew)); exact HO_5.out⟩, ⟨bl_⟩⟩
          rw [if_neg c21] at H
          exact absurd H (by simp)
         rw [if_neg c20] at H
         exact absurd H (by simp)
        replace c19 := Bool.eq_false_iff.mpr c19
        subst c19
        have H1 : (regletref02_Tokens.j2 kj6 a0 x4_1 x5_1 x6_1 x7_1 0 0) = some (r1, r2) := by rw [if_neg (show ¬ (false = true) by decide)] at H; exact H
        clear H
        have H := H1
        clear H1
        have H' := Aside0.mk H
        clear H
        go_wp2
        go_meet
        case rel => exact ⟨_, (0), (0), er_, er_, H', ⟨by have := HK1.out; have := HJ6.out; first | omega | exact Nat.le_refl _⟩, ⟨by (with_reducible repeat (first | apply Kd.R_alloc | apply Kd.R_drewN | apply Kd.R_drew)); exact HO_4.out⟩, ⟨by (with_reducible repeat (first | apply Kd.R_alloc | apply Kd.R_drewN | apply Kd.R_drew)); exact HO_5.out⟩, ⟨bl_⟩⟩
       case rest =>
        clear HC18
        try clear c1
        try clear p1
        try clear q1
        try clear hx1
        try clear qi1
        try clear c2
        try clear c2b0
        try clear p2
        try clear c3
        try clear c3b0
        try clear p4
        try clear q4
        try clear hx4
        try clear c6
        try clear p6
        try clear c7
        try clear c8
        try clear c8b0
        try clear c8b1
        try clear c9
        try clear c9b0
        try clear c9b1
        try clear c10
        try clear c10b0
        try clear c10b1
        try clear c11
        try clear c11b0
        try clear c11b1
        try clear c13
        try clear c13b0
        try clear c13b1
        try clear c14
        try clear c14b0
        try clear c14b1
        try clear p14
        try clear q14
        try clear hx14
        try clear qi14
        try clear c19
        try clear c20
        try clear c20b0
        try clear c20b1
        try clear c21
        try clear c21b0
        try clear c21b1
        try clear hx142_0
        try clear hx143_0
        try clear hx144_0
        try clear hx145_0
        try clear p1
        try clear p14
        try clear p142
        try clear p143
        try clear p144
        try clear p145
        try clear p2
        try clear p4
        try clear p6
        try clear q1
        try clear q14
        try clear q142
        try clear q143
        try clear q144
        try clear q145
        try clear q4
        obtain ⟨kq, x8_17, x9_17, rfl, rfl, HA, HJ17, HO_4, HO_5, HB⟩ := hcut
        cases kq with
        | zero => exact absurd HA.out (by simp [regletref02_Tokens.j2])
        | succ kj17 =>
         have H := HA.out
         clear HA
         simp only [regletref02_Tokens.j2] at H
         have HC23 := Aside0.mk H
         clear H
         go_upto_if 46 with (fail)
         go_cut [8, 9] (fun v8 v9 wc => ∃ (kq : Nat) (x8_22 : Int) (x9_22 : Int), v8 = .int .i64 x8_22 ∧ v9 = .int .i64 x9_22 ∧ Aside0 (regletref02_Tokens.j3 kq a0 x4_1 x5_1 x6_1 x7_1 x8_22 x9_22 = some (r1, r2)) ∧ Aside0 (kq ≤ kj17) ∧ Aside0 (Kd.R k44 44 wc w.heap.size (fun _ => True) u4 x4_1) ∧ Aside0 (Kd.R Kd.string 9 wc w.heap.size (fun _ => True) u5 x5_1) ∧ Aside0 (Below w.heap.size w wc))
         case first =>
          have H := HC23.out
          clear HC23
          by_cases c24 : x9_17 = 0
          ·rw [if_pos c24] at H
           have c24b0 := beq_iff_eq.mpr c24
           have c24b1 := bne_eq_false_iff_eq.mpr c24
           clear c24
           (first | rw [c24b0] | (simp only [i64_w, i32_w]; rw [c24b0]) | skip)
           by_cases c25 : 0 ≤ x6_1
           ·rw [if_pos c25] at H
            have c25b0 := eq_true c25
            have c25b1 := decide_eq_true c25
            clear c25
            by_cases c26 : x6_1 ≤ (a0.size : Int)
            ·rw [if_pos c26] at H
             have c26b0 := eq_true c26
             have c26b1 := decide_eq_true c26
             clear c26
             replace H := Option.bind_eq_some_iff.mp H
             obtain ⟨t147, A270, H⟩ := H
             replace H : (regletref02_Tokens.j3 kj17 a0 x4_1 x5_1 x6_1 x7_1 8 t147) = some (r1, r2) := H
             have A27 := Aside0.mk A270
             clear A270
             have H' := Aside0.mk H
             clear H
             go_wp2_with (first | ((with_reducible refine gate_callee (f := 87) rfl ?_); refine goesL_ (some 50) rfl rfl Tryd.func87 (by kernel_rfl) rfl #[.string (a0.extract (x6_1 : Int).toNat a0.size)] rfl ar_ ?_; (with_reducible refine (regletref02_remark.calls kj17 (a0.extract (x6_1 : Int).toNat a0.size) t147 _ A27.out).mono ?_); rintro e w' ⟨rfl, ⟨nd, rfl⟩⟩; refine ⟨_, rfl, ?_⟩))
             go_meet
             case rel => exact ⟨_, (8), (t147), er_, er_, H', ⟨by have := HK1.out; have := HJ6.out; have := HJ17.out; first | omega | exact Nat.le_refl _⟩, ⟨by (with_reducible repeat (first | apply Kd.R_alloc | apply Kd.R_drewN | apply Kd.R_drew)); exact HO_4.out⟩, ⟨by (with_reducible repeat (first | apply Kd.R_alloc | apply Kd.R_drewN | apply Kd.R_drew)); exact HO_5.out⟩, ⟨bl_⟩⟩
            rw [if_neg c26] at H
            exact absurd H (by simp)
           rw [if_neg c25] at H
           exact absurd H (by simp)
          rw [if_neg c24] at H
          have c24b0 := beq_eq_false_iff_ne.mpr c24
          have c24b1 := bne_iff_ne.mpr c24
          (first | rw [c24b0] | (simp only [i64_w, i32_w]; rw [c24b0]) | skip)
          have H' := Aside0.mk H
          clear H
          go_wp2
          go_meet
          case rel => exact ⟨_, (x8_17), (x9_17), er_, er_, H', ⟨by have := HK1.out; have := HJ6.out; have := HJ17.out; first | omega | exact Nat.le_refl _⟩, ⟨by (with_reducible repeat (first | apply Kd.R_alloc | apply Kd.R_drewN | apply Kd.R_drew)); exact HO_4.out⟩, ⟨by (with_reducible repeat (first | apply Kd.R_alloc | apply Kd.R_drewN | apply Kd.R_drew)); exact HO_5.out⟩, ⟨bl_⟩⟩
         case rest =>
          clear HC23
          try clear c1
          try clear p1
          try clear q1
          try clear hx1
          try clear qi1
          try clear c2
          try clear c2b0
          try clear p2
          try clear c3
          try clear c3b0
          try clear p4
          try clear q4
          try clear hx4
          try clear c6
          try clear p6
          try clear c7
          try clear c8
          try clear c8b0
          try clear c8b1
          try clear c9
          try clear c9b0
          try clear c9b1
          try clear c10
          try clear c10b0
          try clear c10b1
          try clear c11
          try clear c11b0
          try clear c11b1
          try clear c13
          try clear c13b0
          try clear c13b1
          try clear c14
          try clear c14b0
          try clear c14b1
          try clear p14
          try clear q14
          try clear hx14
          try clear qi14
          try clear c19
          try clear c20
          try clear c20b0
          try clear c20b1
          try clear c21
          try clear c21b0
          try clear c21b1
          try clear c24
          try clear c24b0
          try clear c24b1
          try clear c25
          try clear c25b0
          try clear c25b1
          try clear c26
          try clear c26b0
          try clear c26b1
          try clear hx142_0
          try clear hx143_0
          try clear hx144_0
          try clear hx145_0
          try clear p1
          try clear p14
          try clear p142
          try clear p143
          try clear p144
          try clear p145
          try clear p2
          try clear p4
          try clear p6
          try clear q1
          try clear q14
          try clear q142
          try clear q143
          try clear q144
          try clear q145
          try clear q4
          obtain ⟨kq, x8_22, x9_22, rfl, rfl, HA, HJ22, HO_4, HO_5, HB⟩ := hcut
          cases kq with
          | zero => exact absurd HA.out (by simp [regletref02_Tokens.j3])
          | succ kj22 =>
           have H := HA.out
           clear HA
           simp only [regletref02_Tokens.j3] at H
           by_cases c28 : x9_22 < 0
           ·rw [if_pos c28] at H
            have c28b0 := decide_eq_true c28
            clear c28
            simp only [Option.some.injEq, Prod.mk.injEq] at H
            obtain ⟨rfl, rfl⟩ := H
            go_wp2
            go_ret2
            exact ⟨_, es_, by first | exact Kd.R_nil _ _ _ _ _ | exact Kd.N_nil _ _ _ _ _ | exact Kd.V_nil _ _ _ _ _ | exact Kd.Q_nil _ _ _ _ _ | exact Kd.S_nil _ _ _ _ _, bl_⟩
           rw [if_neg c28] at H
           have c28b0 := decide_eq_false c28
           clear c28
           have HC29 := Aside0.mk H
           clear H
           go_upto_if 54 with (fail)
           go_cut [8, 9] (fun v8 v9 wc => ∃ (kq : Nat) (x8_28 : Int) (x9_28 : Int), v8 = .int .i64 x8_28 ∧ v9 = .int .i64 x9_28 ∧ Aside0 (regletref02_Tokens.j4 kq a0 x4_1 x5_1 x6_1 x7_1 x8_28 x9_28 = some (r1, r2)) ∧ Aside0 (kq ≤ kj22) ∧ Aside0 (Kd.R k44 44 wc w.heap.size (fun _ => True) u4 x4_1) ∧ Aside0 (Kd.R Kd.string 9 wc w.heap.size (fun _ => True) u5 x5_1) ∧ Aside0 (Below w.heap.size w wc))
           case first =>
            have H := HC29.out
            clear HC29
            by_cases c30 : x9_22 = 0
            ·rw [if_pos c30] at H
             have c30b0 := beq_iff_eq.mpr c30
             have c30b1 := bne_eq_false_iff_eq.mpr c30
             clear c30
             (first | rw [c30b0] | (simp only [i64_w, i32_w]; rw [c30b0]) | skip)
             by_cases c31 : 0 ≤ x6_1
             ·rw [if_pos c31] at H
              have c31b0 := eq_true c31
              have c31b1 := decide_eq_true c31
              clear c31
              by_cases c32 : x6_1 ≤ (a0.size : Int)
              ·rw [if_pos c32] at H
               have c32b0 := eq_true c32
               have c32b1 := decide_eq_true c32
               clear c32
               replace H := Option.bind_eq_some_iff.mp H
               obtain ⟨⟨t148, t149⟩, A330, H⟩ := H
               replace H : (regletref02_Tokens.j4 kj22 a0 x4_1 x5_1 x6_1 x7_1 t148 t149) = some (r1, r2) := H
               have A33 := Aside0.mk A330
               clear A330
               have H' := Aside0.mk H
               clear H
               go_wp2_with (first | ((with_reducible refine gate_callee (f := 88) rfl ?_); refine goesL_ (some 59) rfl rfl Tryd.func88 (by kernel_rfl) rfl #[.string (a0.extract (x6_1 : Int).toNat a0.size)] rfl ar_ ?_; (with_reducible refine (regletref02_longest.calls kj22 (a0.extract (x6_1 : Int).toNat a0.size) t148 t149 _ A33.out).mono ?_); rintro e w34 ⟨rfl, hb⟩; refine ⟨_, rfl, ?_⟩; have n0_ := Aside0.mk (Kd.R_below (by (with_reducible repeat (first | apply Kd.R_alloc | apply Kd.R_drewN | apply Kd.R_drew)); exact HO_4.out) hb); have n1_ := Aside0.mk (Kd.R_below (by (with_reducible repeat (first | apply Kd.R_alloc | apply Kd.R_drewN | apply Kd.R_drew)); exact HO_5.out) hb); have n2_ := Aside0.mk (below_step bl_ hb); clear HO_4; clear HO_5; clear HB; have HO_4 := n0_; have HO_5 := n1_; have HB := n2_; clear n0_ n1_ n2_; (try clear hb); (try clear hb2); (try clear hk); (try clear hi)))
               go_meet
               case rel => exact ⟨_, (t148), (t149), er_, er_, H', ⟨by have := HK1.out; have := HJ6.out; have := HJ17.out; have := HJ22.out; first | omega | exact Nat.le_refl _⟩, ⟨by (with_reducible repeat (first | apply Kd.R_alloc | apply Kd.R_drewN | apply Kd.R_drew)); exact HO_4.out⟩, ⟨by (with_reducible repeat (first | apply Kd.R_alloc | apply Kd.R_drewN | apply Kd.R_drew)); exact HO_5.out⟩, ⟨bl_⟩⟩
              rw [if_neg c32] at H
              exact absurd H (by simp)
             rw [if_neg c31] at H
             exact absurd H (by simp)
            rw [if_neg c30] at H
            have c30b0 := beq_eq_false_iff_ne.mpr c30
            have c30b1 := bne_iff_ne.mpr c30
            (first | rw [c30b0] | (simp only [i64_w, i32_w]; rw [c30b0]) | skip)
            have H' := Aside0.mk H
            clear H
            go_wp2
            go_meet
            case rel => exact ⟨_, (x8_22), (x9_22), er_, er_, H', ⟨by have := HK1.out; have := HJ6.out; have := HJ17.out; have := HJ22.out; first | omega | exact Nat.le_refl _⟩, ⟨by (with_reducible repeat (first | apply Kd.R_alloc | apply Kd.R_drewN | apply Kd.R_drew)); exact HO_4.out⟩, ⟨by (with_reducible repeat (first | apply Kd.R_alloc | apply Kd.R_drewN | apply Kd.R_drew)); exact HO_5.out⟩, ⟨bl_⟩⟩
           case rest =>
            clear HC29
            try clear c1
            try clear p1
            try clear q1
            try clear hx1
            try clear qi1
            try clear c2
            try clear c2b0
            try clear p2
            try clear c3
            try clear c3b0
            try clear p4
            try clear q4
            try clear hx4
            try clear c6
            try clear p6
            try clear c7
            try clear c8
            try clear c8b0
            try clear c8b1
            try clear c9
            try clear c9b0
            try clear c9b1
            try clear c10
            try clear c10b0
            try clear c10b1
            try clear c11
            try clear c11b0
            try clear c11b1
            try clear c13
            try clear c13b0
            try clear c13b1
            try clear c14
            try clear c14b0
            try clear c14b1
            try clear p14
            try clear q14
            try clear hx14
            try clear qi14
            try clear c19
            try clear c20
            try clear c20b0
            try clear c20b1
            try clear c21
            try clear c21b0
            try clear c21b1
            try clear c24
            try clear c24b0
            try clear c24b1
            try clear c25
            try clear c25b0
            try clear c25b1
            try clear c26
            try clear c26b0
            try clear c26b1
            try clear c28
            try clear c28b0
            try clear c30
            try clear c30b0
            try clear c30b1
            try clear c31
            try clear c31b0
            try clear c31b1
            try clear c32
            try clear c32b0
            try clear c32b1
            try clear hx142_0
            try clear hx143_0
            try clear hx144_0
            try clear hx145_0
            try clear p1
            try clear p14
            try clear p142
            try clear p143
            try clear p144
            try clear p145
            try clear p2
            try clear p4
            try clear p6
            try clear q1
            try clear q14
            try clear q142
            try clear q143
            try clear q144
            try clear q145
            try clear q4
            obtain ⟨kq, x8_28, x9_28, rfl, rfl, HA, HJ28, HO_4, HO_5, HB⟩ := hcut
            cases kq with
            | zero => exact absurd HA.out (by simp [regletref02_Tokens.j4])
            | succ kj28 =>
             have H := HA.out
             clear HA
             simp only [regletref02_Tokens.j4] at H
             by_cases c35 : x9_28 = 0
             ·rw [if_pos c35] at H
              have c35b0 := beq_iff_eq.mpr c35
              have c35b1 := bne_eq_false_iff_eq.mpr c35
              clear c35
              simp only [Option.some.injEq, Prod.mk.injEq] at H
              obtain ⟨rfl, rfl⟩ := H
              go_wp2
              go_ret2
              exact ⟨_, es_, by first | exact Kd.R_nil _ _ _ _ _ | exact Kd.N_nil _ _ _ _ _ | exact Kd.V_nil _ _ _ _ _ | exact Kd.Q_nil _ _ _ _ _ | exact Kd.S_nil _ _ _ _ _, bl_⟩
             rw [if_neg c35] at H
             have c35b0 := beq_eq_false_iff_ne.mpr c35
             have c35b1 := bne_iff_ne.mpr c35
             by_cases c36 : 0 ≤ x6_1
             ·rw [if_pos c36] at H
              have c36b0 := eq_true c36
              have c36b1 := decide_eq_true c36
              clear c36
              by_cases c37 : x6_1 ≤ (wrap64 (x6_1 + x9_28))
              ·rw [if_pos c37] at H
               have c37b0 := eq_true c37
               have c37b1 := decide_eq_true c37
               by_cases c38 : (wrap64 (x6_1 + x9_28)) ≤ (a0.size : Int)
               ·rw [if_pos c38] at H
                have c38b0 := eq_true c38
                have c38b1 := decide_eq_true c38
                by_cases c39 : x4_1.length < 2932031007402
                ·rw [if_pos c39] at H
                 have LMc39 := Aside0.mk c39
                 clear c39
                 obtain ⟨y150, hy150⟩ : ∃ y_ : List (S44), y_ = (x4_1 ++ [(⟨x8_28, a0.extract (x6_1 : Int).toNat ((wrap64 (x6_1 + x9_28)) : Int).toNat, x6_1, wrap64 (x6_1 + x9_28), x7_1⟩ : S44)]) := ⟨_, rfl⟩
                 replace H : (if x8_28 = 9 then (regletref02_Tokens.l0 kj28 a0 y150 ([] : List ByteArray) (wrap64 (x6_1 + x9_28)) false) else (if x8_28 = 8 then (regletref02_Tokens.l0 kj28 a0 y150 x5_1 (wrap64 (x6_1 + x9_28)) false) else (if x5_1.length < 8796093022208 then (regletref02_Tokens.l0 kj28 a0 y150 (x5_1 ++ [a0.extract (x6_1 : Int).toNat ((wrap64 (x6_1 + x9_28)) : Int).toNat]) (wrap64 (x6_1 + x9_28)) false) else (none)))) = some (r1, r2) := by first | (rw [hy150]; with_reducible exact H) | (have H2_ := (Option.bind_some _ _).symm.trans H; rw [hy150]; with_reducible exact H2_) | (have H2_ := (Option.bind_some _ _).symm.trans H; with_reducible exact H2_) | with_reducible exact H | (rw [hy150]; exact H) | exact H
                 have Ny150 := Aside0.mk hy150
                 clear hy150
                 by_cases c40 : x8_28 = 9
                 ·rw [if_pos c40] at H
                  have c40b0 := beq_iff_eq.mpr c40
                  have c40b1 := bne_eq_false_iff_eq.mpr c40
                  clear c40
                  have H' := Aside0.mk H
                  clear H
                  go_wp2_with (first | ((with_reducible refine gate_builtin (b := .append) (xs := #[.tmp 64, .tmp 78]) rfl ?_); at_builtin; refine Kd.R_append k44 (w0 := w) w.heap.size rfl (.tmp 64) (.tmp 78) 42 44 (.agg #[(.int .i64 0), (.string ⟨#[]⟩), (.int .i64 0), (.int .i64 0), (.bool false)]) 48 rfl Tryd.underlying42 info44 rfl (by decide) (by omega) u4 x4_1 (⟨x8_28, a0.extract (x6_1 : Int).toNat ((wrap64 (x6_1 + x9_28)) : Int).toNat, x6_1, wrap64 (x6_1 + x9_28), x7_1⟩ : S44) [.int .i64 x8_28, .string (a0.extract (x6_1 : Int).toNat ((wrap64 (x6_1 + x9_28)) : Int).toNat), .int .i64 x6_1, .int .i64 (wrap64 (x6_1 + x9_28)), .bool x7_1] (fun _ => True) (fun _ => False) rfl rfl ?aP (fun _ hk => hk.elim) ?aF ?aO ?aB ?aS ?aL ?_; (case aP => exact k44_mkM _ _ _ (⟨x8_28, a0.extract (x6_1 : Int).toNat ((wrap64 (x6_1 + x9_28)) : Int).toNat, x6_1, wrap64 (x6_1 + x9_28), x7_1⟩ : S44)); (case aB => exact bl_); (case aF => exact (fun _ _ => trivial)); (case aO => exact (by (with_reducible repeat (first | apply Kd.R_alloc | apply Kd.R_drewN | apply Kd.R_drew)); exact HO_4.out)); (case aS => exact (below_size bl_)); (case aL => have := LMc39.out; omega); intro v151 w41 ho hb hg hat; rw [← Ny150.out] at ho; have n0_ := Aside0.mk (Kd.R_over' (by (with_reducible repeat (first | apply Kd.R_alloc | apply Kd.R_drewN | apply Kd.R_drew)); exact HO_5.out) (Kd.R_typed (by (with_reducible repeat (first | apply Kd.R_alloc | apply Kd.R_drewN | apply Kd.R_drew)); exact HO_4.out)) (by decide) hg); have n1_ := Aside0.mk (hb); have n2_ := Aside0.mk (ho); clear HO_5; clear HB; clear HO_4; have HO_5 := n0_; have HB := n1_; have HO152 := n2_; clear n0_ n1_ n2_; clear ho hb hg hat))
                  go_roundg kj28
                  case measure => have := HK1.out; have := HJ6.out; have := HJ17.out; have := HJ22.out; have := HJ28.out; omega
                  case rel => exact ⟨(y150), (([] : List ByteArray)), (wrap64 (x6_1 + x9_28)), (false), er_, er_, H', ⟨by have := HK1.out; have := HJ6.out; have := HJ17.out; have := HJ22.out; have := HJ28.out; omega⟩, ⟨by (with_reducible repeat (first | apply Kd.R_alloc | apply Kd.R_drewN | apply Kd.R_drew)); exact HO152.out⟩, ⟨by first | exact Kd.R_nil _ _ _ _ _ | exact Kd.N_nil _ _ _ _ _ | exact Kd.V_nil _ _ _ _ _ | exact Kd.Q_nil _ _ _ _ _ | exact Kd.S_nil _ _ _ _ _⟩, ⟨bl_⟩⟩
                 rw [if_neg c40] at H
                 have c40b0 := beq_eq_false_iff_ne.mpr c40
                 have c40b1 := bne_iff_ne.mpr c40
                 by_cases c42 : x8_28 = 8
                 ·rw [if_pos c42] at H
                  have c42b0 := beq_iff_eq.mpr c42
                  have c42b1 := bne_eq_false_iff_eq.mpr c42
                  clear c42
                  have H' := Aside0.mk H
                  clear H
                  go_wp2_with (first | ((with_reducible refine gate_builtin (b := .append) (xs := #[.tmp 64, .tmp 78]) rfl ?_); at_builtin; refine Kd.R_append k44 (w0 := w) w.heap.size rfl (.tmp 64) (.tmp 78) 42 44 (.agg #[(.int .i64 0), (.string ⟨#[]⟩), (.int .i64 0), (.int .i64 0), (.bool false)]) 48 rfl Tryd.underlying42 info44 rfl (by decide) (by omega) u4 x4_1 (⟨x8_28, a0.extract (x6_1 : Int).toNat ((wrap64 (x6_1 + x9_28)) : Int).toNat, x6_1, wrap64 (x6_1 + x9_28), x7_1⟩ : S44) [.int .i64 x8_28, .string (a0.extract (x6_1 : Int).toNat ((wrap64 (x6_1 + x9_28)) : Int).toNat), .int .i64 x6_1, .int .i64 (wrap64 (x6_1 + x9_28)), .bool x7_1] (fun _ => True) (fun _ => False) rfl rfl ?aP (fun _ hk => hk.elim) ?aF ?aO ?aB ?aS ?aL ?_; (case aP => exact k44_mkM _ _ _ (⟨x8_28, a0.extract (x6_1 : Int).toNat ((wrap64 (x6_1 + x9_28)) : Int).toNat, x6_1, wrap64 (x6_1 + x9_28), x7_1⟩ : S44)); (case aB => exact bl_); (case aF => exact (fun _ _ => trivial)); (case aO => exact (by (with_reducible repeat (first | apply Kd.R_alloc | apply Kd.R_drewN | apply Kd.R_drew)); exact HO_4.out)); (case aS => exact (below_size bl_)); (case aL => have := LMc39.out; omega); intro v151 w43 ho hb hg hat; rw [← Ny150.out] at ho; have n0_ := Aside0.mk (Kd.R_over' (by (with_reducible repeat (first | apply Kd.R_alloc | apply Kd.R_drewN | apply Kd.R_drew)); exact HO_5.out) (Kd.R_typed (by (with_reducible repeat (first | apply Kd.R_alloc | apply Kd.R_drewN | apply Kd.R_drew)); exact HO_4.out)) (by decide) hg); have n1_ := Aside0.mk (hb); have n2_ := Aside0.mk (ho); clear HO_5; clear HB; clear HO_4; have HO_5 := n0_; have HB := n1_; have HO152 := n2_; clear n0_ n1_ n2_; clear ho hb hg hat))
                  go_roundg kj28
                  case measure => have := HK1.out; have := HJ6.out; have := HJ17.out; have := HJ22.out; have := HJ28.out; omega
                  case rel => exact ⟨(y150), (x5_1), (wrap64 (x6_1 + x9_28)), (false), er_, er_, H', ⟨by have := HK1.out; have := HJ6.out; have := HJ17.out; have := HJ22.out; have := HJ28.out; omega⟩, ⟨by (with_reducible repeat (first | apply Kd.R_alloc | apply Kd.R_drewN | apply Kd.R_drew)); exact HO152.out⟩, ⟨by (with_reducible repeat (first | apply Kd.R_alloc | apply Kd.R_drewN | apply Kd.R_drew)); exact HO_5.out⟩, ⟨bl_⟩⟩
                 rw [if_neg c42] at H
                 have c42b0 := beq_eq_false_iff_ne.mpr c42
                 have c42b1 := bne_iff_ne.mpr c42
                 have c44b0 := eq_true (of_decide_eq_true (by first | (with_reducible assumption) | assumption) : 0 ≤ x6_1)
                 have c45b0 := eq_true (of_decide_eq_true (by first | (with_reducible assumption) | assumption) : x6_1 ≤ (wrap64 (x6_1 + x9_28)))
                 have c46b0 := eq_true (of_decide_eq_true (by first | (with_reducible assumption) | assumption) : (wrap64 (x6_1 + x9_28)) ≤ (a0.size : Int))
                 by_cases c47 : x5_1.length < 8796093022208
                 ·rw [if_pos c47] at H
                  have LMc47 := Aside0.mk c47
                  clear c47
                  obtain ⟨y153, hy153⟩ : ∃ y_ : List ByteArray, y_ = (x5_1 ++ [a0.extract (x6_1 : Int).toNat ((wrap64 (x6_1 + x9_28)) : Int).toNat]) := ⟨_, rfl⟩
                  replace H : (regletref02_Tokens.l0 kj28 a0 y150 y153 (wrap64 (x6_1 + x9_28)) false) = some (r1, r2) := by first | (rw [hy153]; with_reducible exact H) | (have H2_ := (Option.bind_some _ _).symm.trans H; rw [hy153]; with_reducible exact H2_) | (have H2_ := (Option.bind_some _ _).symm.trans H; with_reducible exact H2_) | with_reducible exact H | (rw [hy153]; exact H) | exact H
                  have Ny153 := Aside0.mk hy153
                  clear hy153
                  have H' := Aside0.mk H
                  clear H
                  go_wp2_with (first | ((with_reducible refine gate_builtin (b := .append) (xs := #[.tmp 64, .tmp 78]) rfl ?_); at_builtin; refine Kd.R_append k44 (w0 := w) w.heap.size rfl (.tmp 64) (.tmp 78) 42 44 (.agg #[(.int .i64 0), (.string ⟨#[]⟩), (.int .i64 0), (.int .i64 0), (.bool false)]) 48 rfl Tryd.underlying42 info44 rfl (by decide) (by omega) u4 x4_1 (⟨x8_28, a0.extract (x6_1 : Int).toNat ((wrap64 (x6_1 + x9_28)) : Int).toNat, x6_1, wrap64 (x6_1 + x9_28), x7_1⟩ : S44) [.int .i64 x8_28, .string (a0.extract (x6_1 : Int).toNat ((wrap64 (x6_1 + x9_28)) : Int).toNat), .int .i64 x6_1, .int .i64 (wrap64 (x6_1 + x9_28)), .bool x7_1] (fun _ => True) (fun _ => False) rfl rfl ?aP (fun _ hk => hk.elim) ?aF ?aO ?aB ?aS ?aL ?_; (case aP => exact k44_mkM _ _ _ (⟨x8_28, a0.extract (x6_1 : Int).toNat ((wrap64 (x6_1 + x9_28)) : Int).toNat, x6_1, wrap64 (x6_1 + x9_28), x7_1⟩ : S44)); (case aB => exact bl_); (case aF => exact (fun _ _ => trivial)); (case aO => exact (by (with_reducible repeat (first | apply Kd.R_alloc | apply Kd.R_drewN | apply Kd.R_drew)); exact HO_4.out)); (case aS => exact (below_size bl_)); (case aL => have := LMc39.out; omega); intro v151 w48 ho hb hg hat; rw [← Ny150.out] at ho; have n0_ := Aside0.mk (Kd.R_over' (by (with_reducible repeat (first | apply Kd.R_alloc | apply Kd.R_drewN | apply Kd.R_drew)); exact HO_5.out) (Kd.R_typed (by (with_reducible repeat (first | apply Kd.R_alloc | apply Kd.R_drewN | apply Kd.R_drew)); exact HO_4.out)) (by decide) hg); have n1_ := Aside0.mk (hb); have n2_ := Aside0.mk (ho); clear HO_5; clear HB; clear HO_4; have HO_5 := n0_; have HB := n1_; have HO152 := n2_; clear n0_ n1_ n2_; clear ho hb hg hat) | ((with_reducible refine gate_builtin (b := .append) (xs := #[.tmp 84, .tmp 91]) rfl ?_); at_builtin; refine Kd.R_append Kd.string (w0 := w) w.heap.size rfl (.tmp 84) (.tmp 91) 96 9 (.string ⟨#[]⟩) 16 rfl Tryd.underlying96 info9 rfl (by decide) (by omega) u5 x5_1 (a0.extract (x6_1 : Int).toNat ((wrap64 (x6_1 + x9_28)) : Int).toNat) [.string (a0.extract (x6_1 : Int).toNat ((wrap64 (x6_1 + x9_28)) : Int).toNat)] (fun _ => True) (fun _ => False) rfl rfl ?aP (fun _ hk => hk.elim) ?aF ?aO ?aB ?aS ?aL ?_; (case aP => exact rfl); (case aB => exact bl_); (case aF => exact (fun _ _ => trivial)); (case aO => exact (by (with_reducible repeat (first | apply Kd.R_alloc | apply Kd.R_drewN | apply Kd.R_drew)); exact HO_5.out)); (case aS => exact (below_size bl_)); (case aL => have := LMc47.out; omega); intro v154 w49 ho hb hg hat; rw [← Ny153.out] at ho; have n0_ := Aside0.mk (Kd.R_over' (by (with_reducible repeat (first | apply Kd.R_alloc | apply Kd.R_drewN | apply Kd.R_drew)); exact HO152.out) (Kd.R_typed (by (with_reducible repeat (first | apply Kd.R_alloc | apply Kd.R_drewN | apply Kd.R_drew)); exact HO_5.out)) (by decide) hg); have n1_ := Aside0.mk (hb); have n2_ := Aside0.mk (ho); clear HO152; clear HB; clear HO_5; have HO152 := n0_; have HB := n1_; have HO155 := n2_; clear n0_ n1_ n2_; clear ho hb hg hat))
                  go_roundg kj28
                  case measure => have := HK1.out; have := HJ6.out; have := HJ17.out; have := HJ22.out; have := HJ28.out; omega
                  case rel => exact ⟨(y150), (y153), (wrap64 (x6_1 + x9_28)), (false), er_, er_, H', ⟨by have := HK1.out; have := HJ6.out; have := HJ17.out; have := HJ22.out; have := HJ28.out; omega⟩, ⟨by (with_reducible repeat (first | apply Kd.R_alloc | apply Kd.R_drewN | apply Kd.R_drew)); exact HO152.out⟩, ⟨by (with_reducible repeat (first | apply Kd.R_alloc | apply Kd.R_drewN | apply Kd.R_drew)); exact HO155.out⟩, ⟨bl_⟩⟩
                 rw [if_neg c47] at H
                 exact absurd H (by simp)
                rw [if_neg c39] at H
                exact absurd H (by simp)
               rw [if_neg c38] at H
               exact absurd H (by simp)
              rw [if_neg c37] at H
              exact absurd H (by simp)
             rw [if_neg c36] at H
             exact absurd H (by simp)
    rw [if_neg c3] at H
    exact absurd H (by simp)
   rw [if_neg c2] at H
   have c2b0 := decide_eq_false c2
   clear c2
   simp only [Option.some.injEq, Prod.mk.injEq] at H
   obtain ⟨rfl, rfl⟩ := H
   go_wp2
   go_ret2
   exact ⟨_, es_, by (with_reducible repeat (first | apply Kd.R_alloc | apply Kd.R_drewN | apply Kd.R_drew)); exact HO_4.out, bl_⟩
def regletref02_One.f (k : Nat) (a0 : ByteArray) : Option (Int × Bool) := (regletref02_Tokens.f k a0).bind fun bt156 => (if bt156.2 = 0 then (if (bt156.1.length : Int) = 1 then (if 0 < (bt156.1.length : Int) then (if ((rd_T44 bt156.1 0).f1).toList = a0.toList then (some ((rd_T44 bt156.1 0).f0, true)) else (some (0, false))) else (none)) else (some (0, false))) else (some (0, false)))
theorem regletref02_One.mono : ∀ a0 k, LeO (regletref02_One.f k a0) (regletref02_One.f (k + 1) a0) := by
 intro a0 k
 unfold regletref02_One.f
 repeat' first
   | (with_reducible exact regletref02_Tokens.mono _ _)
   | (with_reducible exact LeO.refl _)
   | (with_reducible exact LeO.none _)
   | (with_reducible refine LeO.ite ?_ ?_)
   | (with_reducible refine LeO.bind ?_ (fun _ => ?_))
   | exact regletref02_Tokens.mono _ _
   | exact LeO.none _
   | refine LeO.ite ?_ ?_
   | refine LeO.bind ?_ (fun _ => ?_)
set_option maxHeartbeats 8000000 in
set_option maxRecDepth 100000 in
theorem regletref02_One.calls (k : Nat) (a0 : ByteArray) (r1 : Int) (r2 : Bool) (w : World) (h : regletref02_One.f k a0 = some (r1, r2)) :
  Calls Tryd.prog 56 #[.string a0] w fun e w' => e = .returned (.tuple #[.int .i64 r1, .bool r2]) ∧ Below w.heap.size w w' := by
 have HB := Aside0.mk (Below.refl w.heap.size w)
 have H : ((regletref02_Tokens.f k a0).bind fun bt156 => (if bt156.2 = 0 then (if (bt156.1.length : Int) = 1 then (if 0 < (bt156.1.length : Int) then (if ((rd_T44 bt156.1 0).f1).toList = a0.toList then (some ((rd_T44 bt156.1 0).f0, true)) else (some (0, false))) else (none)) else (some (0, false))) else (some (0, false)))) = some (r1, r2) := h
 clear h
 replace H := Option.bind_eq_some_iff.mp H
 obtain ⟨⟨t156, t157⟩, A20, H⟩ := H
 replace H : (if t157 = 0 then (if (t156.length : Int) = 1 then (if 0 < (t156.length : Int) then (if ((rd_T44 t156 0).f1).toList = a0.toList then (some ((rd_T44 t156 0).f0, true)) else (some (0, false))) else (none)) else (some (0, false))) else (some (0, false))) = some (r1, r2) := H
 have A2 := Aside0.mk A20
 clear A20
 by_cases c3 : t157 = 0
 ·rw [if_pos c3] at H
  have c3b0 := beq_iff_eq.mpr c3
  have c3b1 := bne_eq_false_iff_eq.mpr c3
  clear c3
  by_cases c4 : (t156.length : Int) = 1
  ·rw [if_pos c4] at H
   have c4b0 := beq_iff_eq.mpr c4
   have c4b1 := bne_eq_false_iff_eq.mpr c4
   clear c4
   by_cases c5 : 0 < (t156.length : Int)
   ·rw [if_pos c5] at H
    have c5b0 := decide_eq_true c5
    have c5b1 : decide (0 < t156.length) = true := decide_eq_true (by omega)
    clear c5
    by_cases c6 : ((rd_T44 t156 0).f1).toList = a0.toList
    ·rw [if_pos c6] at H
     have c6b0 := beq_iff_eq.mpr c6
     have c6b1 := bne_eq_false_iff_eq.mpr c6
     clear c6
     simp only [Option.some.injEq, Prod.mk.injEq] at H
     obtain ⟨rfl, rfl⟩ := H
     go_enter Tryd.func56, Tryd.ntmps56
     go_wp2_with (first | ((with_reducible refine gate_callee (f := 70) rfl ?_); refine goesL_ (some 8) rfl rfl Tryd.func70 (by kernel_rfl) rfl #[.string a0] rfl ar_ ?_; (with_reducible refine (regletref02_Tokens.calls k a0 t156 t157 _ A2.out).mono ?_); rintro e w7 ⟨v158, rfl, ho0, hb⟩; refine ⟨_, rfl, ?_⟩; have n0_ := Aside0.mk (Kd.R_lower ho0 (below_size bl_)); have n1_ := Aside0.mk (below_step bl_ hb); clear HB; have HO159 := n0_; have HB := n1_; clear n0_ n1_; (try clear hb); (try clear hb2); (try clear hk); (try clear hi); (try clear ho0); obtain ⟨Ao8, co8, eo8⟩ := Kd.R_slice HO159.out; subst eo8; have p160 : 0 ≤ (0 : Int) := (by omega); have q160 : 0 < (t156.length : Int) := of_decide_eq_true (by first | (with_reducible assumption) | assumption); obtain ⟨ad160, e160, hx160_0, hx160_1, hx160_2, hx160_3, hx160_4⟩ := at_T44 (Kd.R_reads' HO159.out).2.2 0 p160 q160; cases e160; have qi160 : (0 < t156.length) = True := eq_true (by omega); (try rw [show ((0 : Int)).toNat = 0 from rfl] at hx160_0); (try rw [show 0 * 5 = 0 from rfl] at hx160_0); (try rw [Addr.add_zero'] at hx160_0); (try rw [show ((0 : Int)).toNat = 0 from rfl] at hx160_1); (try rw [show 0 * 5 = 0 from rfl] at hx160_1); (try rw [Addr.add_zero'] at hx160_1); (try rw [show ((0 : Int)).toNat = 0 from rfl] at hx160_2); (try rw [show 0 * 5 = 0 from rfl] at hx160_2); (try rw [Addr.add_zero'] at hx160_2); (try rw [show ((0 : Int)).toNat = 0 from rfl] at hx160_3); (try rw [show 0 * 5 = 0 from rfl] at hx160_3); (try rw [Addr.add_zero'] at hx160_3); (try rw [show ((0 : Int)).toNat = 0 from rfl] at hx160_4); (try rw [show 0 * 5 = 0 from rfl] at hx160_4); (try rw [Addr.add_zero'] at hx160_4); replace p160 := eq_true p160; replace q160 := eq_true q160; have p161 : 0 ≤ (0 : Int) := (by omega); have q161 : 0 < (t156.length : Int) := of_decide_eq_true (by first | (with_reducible assumption) | assumption); obtain ⟨ad161, e161, hx161_0, hx161_1, hx161_2, hx161_3, hx161_4⟩ := at_T44 (Kd.R_reads' HO159.out).2.2 0 p161 q161; obtain rfl : ad160 = ad161 := (by injection e161); have qi161 : (0 < t156.length) = True := eq_true (by omega); (try rw [show ((0 : Int)).toNat = 0 from rfl] at hx161_0); (try rw [show 0 * 5 = 0 from rfl] at hx161_0); (try rw [Addr.add_zero'] at hx161_0); (try rw [show ((0 : Int)).toNat = 0 from rfl] at hx161_1); (try rw [show 0 * 5 = 0 from rfl] at hx161_1); (try rw [Addr.add_zero'] at hx161_1); (try rw [show ((0 : Int)).toNat = 0 from rfl] at hx161_2); (try rw [show 0 * 5 = 0 from rfl] at hx161_2); (try rw [Addr.add_zero'] at hx161_2); (try rw [show ((0 : Int)).toNat = 0 from rfl] at hx161_3); (try rw [show 0 * 5 = 0 from rfl] at hx161_3); (try rw [Addr.add_zero'] at hx161_3); (try rw [show ((0 : Int)).toNat = 0 from rfl] at hx161_4); (try rw [show 0 * 5 = 0 from rfl] at hx161_4); (try rw [Addr.add_zero'] at hx161_4); replace p161 := eq_true p161; replace q161 := eq_true q161))
     go_ret2
     exact ⟨es_, bl_⟩
    rw [if_neg c6] at H
    have c6b0 := beq_eq_false_iff_ne.mpr c6
    have c6b1 := bne_iff_ne.mpr c6
    simp only [Option.some.injEq, Prod.mk.injEq] at H
    obtain ⟨rfl, rfl⟩ := H
    go_enter Tryd.func56, Tryd.ntmps56
    go_wp2_with (first | ((with_reducible refine gate_callee (f := 70) rfl ?_); refine goesL_ (some 8) rfl rfl Tryd.func70 (by kernel_rfl) rfl #[.string a0] rfl ar_ ?_; (with_reducible refine (regletref02_Tokens.calls k a0 t156 t157 _ A2.out).mono ?_); rintro e w9 ⟨v158, rfl, ho0, hb⟩; refine ⟨_, rfl, ?_⟩; have n0_ := Aside0.mk (Kd.R_lower ho0 (below_size bl_)); have n1_ := Aside0.mk (below_step bl_ hb); clear HB; have HO159 := n0_; have HB := n1_; clear n0_ n1_; (try clear hb); (try clear hb2); (try clear hk); (try clear hi); (try clear ho0); obtain ⟨Ao10, co10, eo10⟩ := Kd.R_slice HO159.out; subst eo10; have p160 : 0 ≤ (0 : Int) := (by omega); have q160 : 0 < (t156.length : Int) := of_decide_eq_true (by first | (with_reducible assumption) | assumption); obtain ⟨ad160, e160, hx160_0, hx160_1, hx160_2, hx160_3, hx160_4⟩ := at_T44 (Kd.R_reads' HO159.out).2.2 0 p160 q160; cases e160; have qi160 : (0 < t156.length) = True := eq_true (by omega); (try rw [show ((0 : Int)).toNat = 0 from rfl] at hx160_0); (try rw [show 0 * 5 = 0 from rfl] at hx160_0); (try rw [Addr.add_zero'] at hx160_0); (try rw [show ((0 : Int)).toNat = 0 from rfl] at hx160_1); (try rw [show 0 * 5 = 0 from rfl] at hx160_1); (try rw [Addr.add_zero'] at hx160_1); (try rw [show ((0 : Int)).toNat = 0 from rfl] at hx160_2); (try rw [show 0 * 5 = 0 from rfl] at hx160_2); (try rw [Addr.add_zero'] at hx160_2); (try rw [show ((0 : Int)).toNat = 0 from rfl] at hx160_3); (try rw [show 0 * 5 = 0 from rfl] at hx160_3); (try rw [Addr.add_zero'] at hx160_3); (try rw [show ((0 : Int)).toNat = 0 from rfl] at hx160_4); (try rw [show 0 * 5 = 0 from rfl] at hx160_4); (try rw [Addr.add_zero'] at hx160_4); replace p160 := eq_true p160; replace q160 := eq_true q160))
    go_ret2
    exact ⟨es_, bl_⟩
   rw [if_neg c5] at H
   exact absurd H (by simp)
  rw [if_neg c4] at H
  have c4b0 := beq_eq_false_iff_ne.mpr c4
  have c4b1 := bne_iff_ne.mpr c4
  simp only [Option.some.injEq, Prod.mk.injEq] at H
  obtain ⟨rfl, rfl⟩ := H
  go_enter Tryd.func56, Tryd.ntmps56
  go_wp2_with (first | ((with_reducible refine gate_callee (f := 70) rfl ?_); refine goesL_ (some 8) rfl rfl Tryd.func70 (by kernel_rfl) rfl #[.string a0] rfl ar_ ?_; (with_reducible refine (regletref02_Tokens.calls k a0 t156 t157 _ A2.out).mono ?_); rintro e w11 ⟨v158, rfl, ho0, hb⟩; refine ⟨_, rfl, ?_⟩; have n0_ := Aside0.mk (Kd.R_lower ho0 (below_size bl_)); have n1_ := Aside0.mk (below_step bl_ hb); clear HB; have HO159 := n0_; have HB := n1_; clear n0_ n1_; (try clear hb); (try clear hb2); (try clear hk); (try clear hi); (try clear ho0); obtain ⟨Ao12, co12, eo12⟩ := Kd.R_slice HO159.out; subst eo12))
  go_ret2
  exact ⟨es_, bl_⟩
 rw [if_neg c3] at H
 have c3b0 := beq_eq_false_iff_ne.mpr c3
 have c3b1 := bne_iff_ne.mpr c3
 simp only [Option.some.injEq, Prod.mk.injEq] at H
 obtain ⟨rfl, rfl⟩ := H
 go_enter Tryd.func56, Tryd.ntmps56
 go_wp2_with (first | ((with_reducible refine gate_callee (f := 70) rfl ?_); refine goesL_ (some 8) rfl rfl Tryd.func70 (by kernel_rfl) rfl #[.string a0] rfl ar_ ?_; (with_reducible refine (regletref02_Tokens.calls k a0 t156 t157 _ A2.out).mono ?_); rintro e w13 ⟨v158, rfl, ho0, hb⟩; refine ⟨_, rfl, ?_⟩; have n0_ := Aside0.mk (Kd.R_lower ho0 (below_size bl_)); have n1_ := Aside0.mk (below_step bl_ hb); clear HB; have HO159 := n0_; have HB := n1_; clear n0_ n1_; (try clear hb); (try clear hb2); (try clear hk); (try clear hi); (try clear ho0)))
 go_ret2
 exact ⟨es_, bl_⟩
def regletref04_prefix.l0 : Nat → ByteArray → Int → Option (Int)
 | 0, _, _ => none
 | k + 1, x0, x3 => if 0 ≤ x3 then (if x3 < (x0.size : Int) then (if (bt x0 x3) = 39 then (some x3) else (if (bt x0 x3) = 34 then (some x3) else (regletref04_prefix.l0 k x0 (wrap64 (x3 + 1))))) else (none)) else (none)
def regletref04_prefix.f (k : Nat) (a0 : ByteArray) : Option (Int) := regletref04_prefix.l0 k a0 0
theorem regletref04_prefix.mono_l : ∀ k, (∀ y0 y1, LeO (regletref04_prefix.l0 k y0 y1) (regletref04_prefix.l0 (k + 1) y0 y1))
 | 0 => fun _ _ r h => by simp [regletref04_prefix.l0] at h
 | k + 1 => by
  have ih0 := regletref04_prefix.mono_l k
  intro y0 y1
  unfold regletref04_prefix.l0
  repeat' first
  | (with_reducible exact ih0 _ _)
  | (with_reducible exact LeO.refl _)
  | (with_reducible exact LeO.none _)
  | (with_reducible refine LeO.ite ?_ ?_)
  | (with_reducible refine LeO.bind ?_ (fun _ => ?_))
  | exact ih0 _ _
  | exact LeO.none _
  | refine LeO.ite ?_ ?_
  | refine LeO.bind ?_ (fun _ => ?_)
theorem regletref04_prefix.mono : ∀ a0 k, LeO (regletref04_prefix.f k a0) (regletref04_prefix.f (k + 1) a0) := by
 intro a0 k
 have ih0 := regletref04_prefix.mono_l k
 unfold regletref04_prefix.f
 repeat' first
   | (with_reducible exact ih0 _ _)
   | (with_reducible exact LeO.refl _)
   | (with_reducible exact LeO.none _)
   | (with_reducible refine LeO.ite ?_ ?_)
   | (with_reducible refine LeO.bind ?_ (fun _ => ?_))
   | exact ih0 _ _
   | exact LeO.none _
   | refine LeO.ite ?_ ?_
   | refine LeO.bind ?_ (fun _ => ?_)
set_option maxHeartbeats 8000000 in
set_option maxRecDepth 100000 in
theorem regletref04_prefix.calls (k : Nat) (a0 : ByteArray) (r : Int) (w : World) (h : regletref04_prefix.f k a0 = some r) :
  Calls Tryd.prog 57 #[.string a0] w fun e w' => e = .returned (.int .i64 r) ∧ Drawn0 w w' := by
 have H : (regletref04_prefix.l0 k a0 0) = some r := h
 clear h
 have H' := Aside0.mk H
 clear H
 go_enter Tryd.func57, Tryd.ntmps57
 go_wp2
 go_loopg [3] k (fun kq v3 w' => ∃ (x3_1 : Int), v3 = .int .i64 x3_1 ∧ Aside0 (regletref04_prefix.l0 kq a0 x3_1 = some r) ∧ Aside0 (kq ≤ k) ∧ Drawn0 w w')
 case atStart => exact ⟨(0), er_, H', ⟨Nat.le_refl _⟩, dr_⟩
 case round =>
  clear H'
  obtain ⟨x3_1, rfl, HA, HK1, ⟨m1, rfl⟩⟩ := hrel
  cases gk with
  | zero => exact absurd HA.out (by simp [regletref04_prefix.l0])
  | succ k1 =>
   have H := HA.out
   clear HA
   simp only [regletref04_prefix.l0] at H
   by_cases c2 : 0 ≤ x3_1
   ·rw [if_pos c2] at H
    have c2b0 := decide_eq_true c2
    clear c2
    by_cases c3 : x3_1 < (a0.size : Int)
    ·rw [if_pos c3] at H
     have c3b0 := decide_eq_true c3
     clear c3
     by_cases c5 : (bt a0 x3_1) = 39
     ·rw [if_pos c5] at H
      have c5b0 := beq_iff_eq.mpr c5
      have c5b1 := bne_eq_false_iff_eq.mpr c5
      clear c5
      obtain rfl := Option.some.inj H
      have p4 : 0 ≤ (x3_1 : Int) := da_
      have q4 : x3_1 < (a0.size : Int) := da_
      have hx4 := bt_at a0 x3_1
      replace p4 := eq_true p4
      replace q4 := eq_true q4
      go_wp2
      go_ret
      exact ⟨er_, dr_⟩
     rw [if_neg c5] at H
     have c5b0 := beq_eq_false_iff_ne.mpr c5
     have c5b1 := bne_iff_ne.mpr c5
     by_cases c7 : (bt a0 x3_1) = 34
     ·rw [if_pos c7] at H
      have c7b0 := beq_iff_eq.mpr c7
      have c7b1 := bne_eq_false_iff_eq.mpr c7
      clear c7
      obtain rfl := Option.some.inj H
      have p4 : 0 ≤ (x3_1 : Int) := da_
      have q4 : x3_1 < (a0.size : Int) := da_
      have hx4 := bt_at a0 x3_1
      replace p4 := eq_true p4
      replace q4 := eq_true q4
      have p6 : 0 ≤ (x3_1 : Int) := da_
      have q6 : x3_1 < (a0.size : Int) := da_
      have hx6 := bt_at a0 x3_1
      replace p6 := eq_true p6
      replace q6 := eq_true q6
      go_wp2
      go_ret
      exact ⟨er_, dr_⟩
     rw [if_neg c7] at H
     have c7b0 := beq_eq_false_iff_ne.mpr c7
     have c7b1 := bne_iff_ne.mpr c7
     have H' := Aside0.mk H
     clear H
     have p4 : 0 ≤ (x3_1 : Int) := da_
     have q4 : x3_1 < (a0.size : Int) := da_
     have hx4 := bt_at a0 x3_1
     replace p4 := eq_true p4
     replace q4 := eq_true q4
     have p6 : 0 ≤ (x3_1 : Int) := da_
     have q6 : x3_1 < (a0.size : Int) := da_
     have hx6 := bt_at a0 x3_1
     replace p6 := eq_true p6
     replace q6 := eq_true q6
     go_wp2
     go_roundg k1
     case measure => have := HK1.out; omega
     case rel => exact ⟨(wrap64 (x3_1 + 1)), er_, H', ⟨by have := HK1.out; omega⟩, dr_⟩
    rw [if_neg c3] at H
    exact absurd H (by simp)
   rw [if_neg c2] at H
   exact absurd H (by simp)
def regletref04_Str.j0 : Nat → ByteArray → Bool → Option (List Int × Int)
 | 0, _, _ => none
 | k + 1, x0, x18 => if x18 = true then (some (([] : List Int), 40)) else ((regletref04_prefix.f k x0).bind fun t181 => ((regletref04_elements.f k x0 t181).bind fun bt182 => (if bt182.2 = true then (some (bt182.1, 0)) else (some (([] : List Int), 40)))))
def regletref04_Str.f (k : Nat) (a0 : ByteArray) : Option (List Int × Int) := (regletref02_One.f k a0).bind fun bt179 => (if bt179.2 = true then (regletref04_Str.j0 k a0 (bt179.1 != 4)) else (regletref04_Str.j0 k a0 true))
theorem regletref04_Str.mono_l : ∀ k, (∀ y0 y1, LeO (regletref04_Str.j0 k y0 y1) (regletref04_Str.j0 (k + 1) y0 y1))
 | 0 => fun _ _ r h => by simp [regletref04_Str.j0] at h
 | k + 1 => by
  have ih0 := regletref04_Str.mono_l k
  intro y0 y1
  unfold regletref04_Str.j0
  repeat' first
  | (with_reducible exact ih0 _ _)
  | (with_reducible exact regletref02_One.mono _ _)
  | (with_reducible exact regletref04_elements.mono _ _ _)
  | (with_reducible exact regletref04_prefix.mono _ _)
  | (with_reducible exact LeO.refl _)
  | (with_reducible exact LeO.none _)
  | (with_reducible refine LeO.ite ?_ ?_)
  | (with_reducible refine LeO.bind ?_ (fun _ => ?_))
  | exact ih0 _ _
  | exact regletref02_One.mono _ _
  | exact regletref04_elements.mono _ _ _
  | exact regletref04_prefix.mono _ _
  | exact LeO.none _
  | refine LeO.ite ?_ ?_
  | refine LeO.bind ?_ (fun _ => ?_)
theorem regletref04_Str.mono : ∀ a0 k, LeO (regletref04_Str.f k a0) (regletref04_Str.f (k + 1) a0) := by
 intro a0 k
 have ih0 := regletref04_Str.mono_l k
 unfold regletref04_Str.f
 repeat' first
   | (with_reducible exact ih0 _ _)
   | (with_reducible exact regletref02_One.mono _ _)
   | (with_reducible exact regletref04_elements.mono _ _ _)
   | (with_reducible exact regletref04_prefix.mono _ _)
   | (with_reducible exact LeO.refl _)
   | (with_reducible exact LeO.none _)
   | (with_reducible refine LeO.ite ?_ ?_)
   | (with_reducible refine LeO.bind ?_ (fun _ => ?_))
   | exact ih0 _ _
   | exact regletref02_One.mono _ _
   | exact regletref04_elements.mono _ _ _
   | exact regletref04_prefix.mono _ _
   | exact LeO.none _
   | refine LeO.ite ?_ ?_
   | refine LeO.bind ?_ (fun _ => ?_)
set_option maxHeartbeats 8000000 in
set_option maxRecDepth 100000 in
theorem regletref04_Str.calls (k : Nat) (a0 : ByteArray) (r1 : List Int) (r2 : Int) (w : World) (h : regletref04_Str.f k a0 = some (r1, r2)) :
  Calls Tryd.prog 46 #[.string a0] w fun e w' => ∃ v0_ : Value, e = .returned (.tuple #[v0_, .int .i64 r2]) ∧ Kd.R (Kd.int .i64) 2 w' w.heap.size (fun _ => True) v0_ r1 ∧ Below w.heap.size w w' := by
 have HB := Aside0.mk (Below.refl w.heap.size w)
 have H : ((regletref02_One.f k a0).bind fun bt179 => (if bt179.2 = true then (regletref04_Str.j0 k a0 (bt179.1 != 4)) else (regletref04_Str.j0 k a0 true))) = some (r1, r2) := h
 clear h
 replace H := Option.bind_eq_some_iff.mp H
 obtain ⟨⟨t179, t180⟩, A20, H⟩ := H
 replace H : (if t180 = true then (regletref04_Str.j0 k a0 (t179 != 4)) else (regletref04_Str.j0 k a0 true)) = some (r1, r2) := H
 have A2 := Aside0.mk A20
 clear A20
 have HC3 := Aside0.mk H
 clear H
 go_enter Tryd.func46, Tryd.ntmps46
 go_upto_region 2 with (first | ((with_reducible refine gate_callee (f := 56) rfl ?_); refine goesL_ (some 10) rfl rfl Tryd.func56 (by kernel_rfl) rfl #[.string a0] rfl ar_ ?_; (with_reducible refine (regletref02_One.calls k a0 t179 t180 _ A2.out).mono ?_); rintro e w4 ⟨rfl, hb⟩; refine ⟨_, rfl, ?_⟩; have n0_ := Aside0.mk (below_step bl_ hb); clear HB; have HB := n0_; clear n0_; (try clear hb); (try clear hb2); (try clear hk); (try clear hi)))
 (try simp only [Act.put, List.setIfInBounds_toArray, List.set_cons_zero, List.set_cons_succ])
 go_cut [18] (fun v18 wc => ∃ (kq : Nat) (x18_2 : Bool), v18 = .bool x18_2 ∧ Aside0 (regletref04_Str.j0 kq a0 x18_2 = some (r1, r2)) ∧ Aside0 (kq ≤ k) ∧ Aside0 (Below w.heap.size w wc))
 case first =>
  have H := HC3.out
  clear HC3
  by_cases c5 : t180 = true
  ·subst c5
   have H1 : (regletref04_Str.j0 k a0 (t179 != 4)) = some (r1, r2) := by rw [if_pos rfl] at H; exact H
   clear H
   have H := H1
   clear H1
   have H' := Aside0.mk H
   clear H
   go_wp2
   go_meet
   case rel => exact ⟨_, ((t179 != 4)), er_, H', ⟨om_⟩, ⟨bl_⟩⟩
  replace c5 := Bool.eq_false_iff.mpr c5
  subst c5
  have H1 : (regletref04_Str.j0 k a0 true) = some (r1, r2) := by rw [if_neg (show ¬ (false = true) by decide)] at H; exact H
  clear H
  have H := H1
  clear H1
  have H' := Aside0.mk H
  clear H
  go_wp2
  go_meet
  case rel => exact ⟨_, (true), er_, H', ⟨om_⟩, ⟨bl_⟩⟩
 case rest =>
  clear HC3
  try clear p2
  try clear c4
  try clear c5
  obtain ⟨kq, x18_2, rfl, HA, HJ2, HB⟩ := hcut
  cases kq with
  | zero => exact absurd HA.out (by simp [regletref04_Str.j0])
  | succ kj2 =>
   have H := HA.out
   clear HA
   simp only [regletref04_Str.j0] at H
   by_cases c6 : x18_2 = true
   ·subst c6
    have H1 : (some (([] : List Int), 40)) = some (r1, r2) := by rw [if_pos rfl] at H; exact H
    clear H
    have H := H1
    clear H1
    simp only [Option.some.injEq, Prod.mk.injEq] at H
    obtain ⟨rfl, rfl⟩ := H
    go_wp2
    go_ret2
    exact ⟨_, es_, by first | exact Kd.R_nil _ _ _ _ _ | exact Kd.N_nil _ _ _ _ _ | exact Kd.V_nil _ _ _ _ _ | exact Kd.Q_nil _ _ _ _ _ | exact Kd.S_nil _ _ _ _ _, bl_⟩
   replace c6 := Bool.eq_false_iff.mpr c6
   subst c6
   have H1 : ((regletref04_prefix.f kj2 a0).bind fun t181 => ((regletref04_elements.f kj2 a0 t181).bind fun bt182 => (if bt182.2 = true then (some (bt182.1, 0)) else (some (([] : List Int), 40))))) = some (r1, r2) := by rw [if_neg (show ¬ (false = true) by decide)] at H; exact H
   clear H
   have H := H1
   clear H1
   replace H := Option.bind_eq_some_iff.mp H
   obtain ⟨t181, A70, H⟩ := H
   replace H : ((regletref04_elements.f kj2 a0 t181).bind fun bt182 => (if bt182.2 = true then (some (bt182.1, 0)) else (some (([] : List Int), 40)))) = some (r1, r2) := H
   have A7 := Aside0.mk A70
   clear A70
   replace H := Option.bind_eq_some_iff.mp H
   obtain ⟨⟨t182, t183⟩, A80, H⟩ := H
   replace H : (if t183 = true then (some (t182, 0)) else (some (([] : List Int), 40))) = some (r1, r2) := H
   have A8 := Aside0.mk A80
   clear A80
   by_cases c9 : t183 = true
   ·subst c9
    have H1 : (some (t182, 0)) = some (r1, r2) := by rw [if_pos rfl] at H; exact H
    clear H
    have H := H1
    clear H1
    simp only [Option.some.injEq, Prod.mk.injEq] at H
    obtain ⟨rfl, rfl⟩ := H
    go_wp2_with (first | ((with_reducible refine gate_callee (f := 57) rfl ?_); refine goesL_ (some 22) rfl rfl Tryd.func57 (by kernel_rfl) rfl #[.string a0] rfl ar_ ?_; (with_reducible refine (regletref04_prefix.calls kj2 a0 t181 _ A7.out).mono ?_); rintro e w' ⟨rfl, ⟨nd, rfl⟩⟩; refine ⟨_, rfl, ?_⟩) | ((with_reducible refine gate_callee (f := 58) rfl ?_); refine goesL_ (some 23) rfl rfl Tryd.func58 (by kernel_rfl) rfl #[.string a0, .int .i64 t181] rfl ar_ ?_; (with_reducible refine (regletref04_elements.calls kj2 a0 t181 t182 true _ A8.out).mono ?_); rintro e w10 ⟨v184, rfl, ho0, hb⟩; refine ⟨_, rfl, ?_⟩; have n0_ := Aside0.mk (Kd.R_lower ho0 (below_size bl_)); have n1_ := Aside0.mk (below_step bl_ hb); clear HB; have HO185 := n0_; have HB := n1_; clear n0_ n1_; (try clear hb); (try clear hb2); (try clear hk); (try clear hi); (try clear ho0)))
    go_ret2
    exact ⟨_, es_, by (with_reducible repeat (first | apply Kd.R_alloc | apply Kd.R_drewN | apply Kd.R_drew)); exact HO185.out, bl_⟩
   replace c9 := Bool.eq_false_iff.mpr c9
   subst c9
   have H1 : (some (([] : List Int), 40)) = some (r1, r2) := by rw [if_neg (show ¬ (false = true) by decide)] at H; exact H
   clear H
   have H := H1
   clear H1
   simp only [Option.some.injEq, Prod.mk.injEq] at H
   obtain ⟨rfl, rfl⟩ := H
   go_wp2_with (first | ((with_reducible refine gate_callee (f := 57) rfl ?_); refine goesL_ (some 22) rfl rfl Tryd.func57 (by kernel_rfl) rfl #[.string a0] rfl ar_ ?_; (with_reducible refine (regletref04_prefix.calls kj2 a0 t181 _ A7.out).mono ?_); rintro e w' ⟨rfl, ⟨nd, rfl⟩⟩; refine ⟨_, rfl, ?_⟩) | ((with_reducible refine gate_callee (f := 58) rfl ?_); refine goesL_ (some 23) rfl rfl Tryd.func58 (by kernel_rfl) rfl #[.string a0, .int .i64 t181] rfl ar_ ?_; (with_reducible refine (regletref04_elements.calls kj2 a0 t181 t182 false _ A8.out).mono ?_); rintro e w11 ⟨v184, rfl, ho0, hb⟩; refine ⟨_, rfl, ?_⟩; have n0_ := Aside0.mk (Kd.R_lower ho0 (below_size bl_)); have n1_ := Aside0.mk (below_step bl_ hb); clear HB; have HO185 := n0_; have HB := n1_; clear n0_ n1_; (try clear hb); (try clear hb2); (try clear hk); (try clear hi); (try clear ho0)))
   go_ret2
   exact ⟨_, es_, by first | exact Kd.R_nil _ _ _ _ _ | exact Kd.N_nil _ _ _ _ _ | exact Kd.V_nil _ _ _ _ _ | exact Kd.Q_nil _ _ _ _ _ | exact Kd.S_nil _ _ _ _ _, bl_⟩
set_option maxRecDepth 100000
mutual
def regletref04_Keyword.l0 : Nat → ByteArray → ByteArray → Int → Option (Bool)
 | 0, _, _, _ => none
 | k + 1, x0, x3, x4 => if x4 < (x0.size : Int) then (if 0 ≤ x4 then (if (bt x0 x4) = 32 then (some false) else (regletref04_Keyword.l0 k x0 x3 (wrap64 (x4 + 1)))) else (none)) else (regletref04_Keyword.l1 k x0 x3 0)
def regletref04_Keyword.l1 : Nat → ByteArray → ByteArray → Int → Option (Bool)
 | 0, _, _, _ => none
 | k + 1, x0, x3, x5 => if (wrap64 (x5 + (x3.size : Int))) ≤ 315 then (regletref04_Keyword.j2 k x0 x3 x5 (decide ((x0.size : Int) > 0))) else (regletref04_Keyword.j2 k x0 x3 x5 false)
def regletref04_Keyword.j2 : Nat → ByteArray → ByteArray → Int → Bool → Option (Bool)
 | 0, _, _, _, _ => none
 | k + 1, x0, x3, x5, x28 => if x28 = true then (if 0 ≤ x5 then (if x5 ≤ (wrap64 (x5 + (x3.size : Int))) then (if (wrap64 (x5 + (x3.size : Int))) ≤ 315 then (if ((⟨#[32, 97, 117, 116, 111, 32, 98, 114, 101, 97, 107, 32, 99, 97, 115, 101, 32, 99, 104, 97, 114, 32, 99, 111, 110, 115, 116, 32, 99, 111, 110, 116, 105, 110, 117, 101, 32, 100, 101, 102, 97, 117, 108, 116, 32, 100, 111, 32, 100, 111, 117, 98, 108, 101, 32, 101, 108, 115, 101, 32, 101, 110, 117, 109, 32, 101, 120, 116, 101, 114, 110, 32, 102, 108, 111, 97, 116, 32, 102, 111, 114, 32, 103, 111, 116, 111, 32, 105, 102, 32, 105, 110, 108, 105, 110, 101, 32, 105, 110, 116, 32, 108, 111, 110, 103, 32, 114, 101, 103, 105, 115, 116, 101, 114, 32, 114, 101, 115, 116, 114, 105, 99, 116, 32, 114, 101, 116, 117, 114, 110, 32, 115, 104, 111, 114, 116, 32, 115, 105, 103, 110, 101, 100, 32, 115, 105, 122, 101, 111, 102, 32, 115, 116, 97, 116, 105, 99, 32, 115, 116, 114, 117, 99, 116, 32, 115, 119, 105, 116, 99, 104, 32, 116, 121, 112, 101, 100, 101, 102, 32, 117, 110, 105, 111, 110, 32, 117, 110, 115, 105, 103, 110, 101, 100, 32, 118, 111, 105, 100, 32, 118, 111, 108, 97, 116, 105, 108, 101, 32, 119, 104, 105, 108, 101, 32, 95, 65, 108, 105, 103, 110, 97, 115, 32, 95, 65, 108, 105, 103, 110, 111, 102, 32, 95, 65, 116, 111, 109, 105, 99, 32, 95, 66, 111, 111, 108, 32, 95, 67, 111, 109, 112, 108, 101, 120, 32, 95, 71, 101, 110, 101, 114, 105, 99, 32, 95, 73, 109, 97, 103, 105, 110, 97, 114, 121, 32, 95, 78, 111, 114, 101, 116, 117, 114, 110, 32, 95, 83, 116, 97, 116, 105, 99, 95, 97, 115, 115, 101, 114, 116, 32, 95, 84, 104, 114, 101, 97, 100, 95, 108, 111, 99, 97, 108, 32]⟩ : ByteArray).extract (x5 : Int).toNat ((wrap64 (x5 + (x3.size : Int))) : Int).toNat).toList = x3.toList then (some true) else (regletref04_Keyword.l1 k x0 x3 (wrap64 (x5 + 1)))) else (none)) else (none)) else (none)) else (some false)
end
def regletref04_Keyword.f (k : Nat) (a0 : ByteArray) : Option (Bool) := if 1 + a0.size ≤ 9223372036854775807 then (if ((⟨#[32]⟩ : ByteArray) ++ a0).size + 1 ≤ 9223372036854775807 then (regletref04_Keyword.l0 k a0 (((⟨#[32]⟩ : ByteArray) ++ a0) ++ (⟨#[32]⟩ : ByteArray)) 0) else (none)) else (none)
theorem regletref04_Keyword.mono_l : ∀ k, (∀ y0 y1 y2, LeO (regletref04_Keyword.l0 k y0 y1 y2) (regletref04_Keyword.l0 (k + 1) y0 y1 y2)) ∧ (∀ y0 y1 y2, LeO (regletref04_Keyword.l1 k y0 y1 y2) (regletref04_Keyword.l1 (k + 1) y0 y1 y2)) ∧ (∀ y0 y1 y2 y3, LeO (regletref04_Keyword.j2 k y0 y1 y2 y3) (regletref04_Keyword.j2 (k + 1) y0 y1 y2 y3))
 | 0 => ⟨fun _ _ _ r h => by simp [regletref04_Keyword.l0] at h, fun _ _ _ r h => by simp [regletref04_Keyword.l1] at h, fun _ _ _ _ r h => by simp [regletref04_Keyword.j2] at h⟩
 | k + 1 => by
  obtain ⟨ih0, ih1, ih2⟩ := regletref04_Keyword.mono_l k
  refine ⟨?_, ?_, ?_⟩
  ·intro y0 y1 y2
   unfold regletref04_Keyword.l0
   repeat' first
   | (with_reducible exact ih0 _ _ _)
   | (with_reducible exact ih1 _ _ _)
   | (with_reducible exact ih2 _ _ _ _)
   | (with_reducible exact LeO.refl _)
   | (with_reducible exact LeO.none _)
   | (with_reducible refine LeO.ite ?_ ?_)
   | (with_reducible refine LeO.bind ?_ (fun _ => ?_))
   | exact ih0 _ _ _
   | exact ih1 _ _ _
   | exact ih2 _ _ _ _
   | exact LeO.none _
   | refine LeO.ite ?_ ?_
   | refine LeO.bind ?_ (fun _ => ?_)
  ·intro y0 y1 y2
   unfold regletref04_Keyword.l1
   repeat' first
   | (with_reducible exact ih0 _ _ _)
   | (with_reducible exact ih1 _ _ _)
   | (with_reducible exact ih2 _ _ _ _)
   | (with_reducible exact LeO.refl _)
   | (with_reducible exact LeO.none _)
   | (with_reducible refine LeO.ite ?_ ?_)
   | (with_reducible refine LeO.bind ?_ (fun _ => ?_))
   | exact ih0 _ _ _
   | exact ih1 _ _ _
   | exact ih2 _ _ _ _
   | exact LeO.none _
   | refine LeO.ite ?_ ?_
   | refine LeO.bind ?_ (fun _ => ?_)
  intro y0 y1 y2 y3
  unfold regletref04_Keyword.j2
  repeat' first
  | (with_reducible exact ih0 _ _ _)
  | (with_reducible exact ih1 _ _ _)
  | (with_reducible exact ih2 _ _ _ _)
  | (with_reducible exact LeO.refl _)
  | (with_reducible exact LeO.none _)
  | (with_reducible refine LeO.ite ?_ ?_)
  | (with_reducible refine LeO.bind ?_ (fun _ => ?_))
  | exact ih0 _ _ _
  | exact ih1 _ _ _
  | exact ih2 _ _ _ _
  | exact LeO.none _
  | refine LeO.ite ?_ ?_
  | refine LeO.bind ?_ (fun _ => ?_)
theorem regletref04_Keyword.mono : ∀ a0 k, LeO (regletref04_Keyword.f k a0) (regletref04_Keyword.f (k + 1) a0) := by
 intro a0 k
 obtain ⟨ih0, ih1, ih2⟩ := regletref04_Keyword.mono_l k
 unfold regletref04_Keyword.f
 repeat' first
   | (with_reducible exact ih0 _ _ _)
   | (with_reducible exact ih1 _ _ _)
   | (with_reducible exact ih2 _ _ _ _)
   | (with_reducible exact LeO.refl _)
   | (with_reducible exact LeO.none _)
   | (with_reducible refine LeO.ite ?_ ?_)
   | (with_reducible refine LeO.bind ?_ (fun _ => ?_))
   | exact ih0 _ _ _
   | exact ih1 _ _ _
   | exact ih2 _ _ _ _
   | exact LeO.none _
   | refine LeO.ite ?_ ?_
   | refine LeO.bind ?_ (fun _ => ?_)
set_option maxHeartbeats 8000000 in
set_option maxRecDepth 100000 in
theorem regletref04_Keyword.calls (k : Nat) (a0 : ByteArray) (r : Bool) (w : World) (h : regletref04_Keyword.f k a0 = some r) :
  Calls Tryd.prog 12 #[.string a0] w fun e w' => e = .returned (.bool r) ∧ Drawn0 w w' := by
 have H : (if 1 + a0.size ≤ 9223372036854775807 then (if ((⟨#[32]⟩ : ByteArray) ++ a0).size + 1 ≤ 9223372036854775807 then (regletref04_Keyword.l0 k a0 (((⟨#[32]⟩ : ByteArray) ++ a0) ++ (⟨#[32]⟩ : ByteArray)) 0) else (none)) else (none)) = some r := h
 clear h
 by_cases c2 : 1 + a0.size ≤ 9223372036854775807
 ·rw [if_pos c2] at H
  have c2b0 := eq_true c2
  have c2b1 := decide_eq_true c2
  try have c2b2 : (9223372036854775807 < 1 + a0.size) = False := eq_false (Nat.not_lt.2 c2)
  by_cases c3 : ((⟨#[32]⟩ : ByteArray) ++ a0).size + 1 ≤ 9223372036854775807
  ·rw [if_pos c3] at H
   have c3b0 := eq_true c3
   have c3b1 := decide_eq_true c3
   try have c3b2 : (9223372036854775807 < ((⟨#[32]⟩ : ByteArray) ++ a0).size + 1) = False := eq_false (Nat.not_lt.2 c3)
   have c3h : 1 + a0.size + 1 ≤ 9223372036854775807 := by (have h0_ := c3; rw [ByteArray.size_append] at h0_; exact h0_)
   have c3b3 : (9223372036854775807 < 1 + a0.size + 1) = False := eq_false (Nat.not_lt.2 c3h)
   have H' := Aside0.mk H
   clear H
   go_enter Tryd.func12, Tryd.ntmps12
   go_wp2
   obtain ⟨y3, hy3⟩ : ∃ y_ : ByteArray, (((⟨#[32]⟩ : ByteArray) ++ a0) ++ (⟨#[32]⟩ : ByteArray)) = y_ := ⟨_, rfl⟩
   have hc_ := H'.out
   clear H'
   simp only [hy3] at hc_ ⊢
   have H' := Aside0.mk hc_
   clear hc_
   go_loopg [4] k (fun kq v4 w' => ∃ (x4_1 : Int), v4 = .int .i64 x4_1 ∧ Aside0 (regletref04_Keyword.l0 kq a0 y3 x4_1 = some r) ∧ Aside0 (kq ≤ k) ∧ Drawn0 w w')
   case atStart => exact ⟨(0), er_, H', ⟨Nat.le_refl _⟩, dr_⟩
   case round =>
    clear H'
    try clear c1
    try clear c2
    try clear c2b0
    try clear c2b1
    try clear c2b2
    try clear p2
    try clear c3
    try clear c3b0
    try clear c3b1
    try clear c3b2
    obtain ⟨x4_1, rfl, HA, HK1, ⟨m1, rfl⟩⟩ := hrel
    cases gk with
    | zero => exact absurd HA.out (by simp [regletref04_Keyword.l0])
    | succ k1 =>
     have H := HA.out
     clear HA
     simp only [regletref04_Keyword.l0] at H
     by_cases c4 : x4_1 < (a0.size : Int)
     ·rw [if_pos c4] at H
      have c4b0 := decide_eq_true c4
      clear c4
      by_cases c5 : 0 ≤ x4_1
      ·rw [if_pos c5] at H
       have c5b0 := decide_eq_true c5
       clear c5
       by_cases c7 : (bt a0 x4_1) = 32
       ·rw [if_pos c7] at H
        have c7b0 := beq_iff_eq.mpr c7
        have c7b1 := bne_eq_false_iff_eq.mpr c7
        clear c7
        obtain rfl := Option.some.inj H
        have p6 : 0 ≤ (x4_1 : Int) := da_
        have q6 : x4_1 < (a0.size : Int) := da_
        have hx6 := bt_at a0 x4_1
        replace p6 := eq_true p6
        replace q6 := eq_true q6
        go_wp2
        go_ret
        exact ⟨er_, dr_⟩
       rw [if_neg c7] at H
       have c7b0 := beq_eq_false_iff_ne.mpr c7
       have c7b1 := bne_iff_ne.mpr c7
       have H' := Aside0.mk H
       clear H
       have p6 : 0 ≤ (x4_1 : Int) := da_
       have q6 : x4_1 < (a0.size : Int) := da_
       have hx6 := bt_at a0 x4_1
       replace p6 := eq_true p6
       replace q6 := eq_true q6
       go_wp2
       go_roundg k1
       case measure => have := HK1.out; omega
       case rel => exact ⟨(wrap64 (x4_1 + 1)), er_, H', ⟨by have := HK1.out; omega⟩, dr_⟩
      rw [if_neg c5] at H
      exact absurd H (by simp)
     rw [if_neg c4] at H
     have c4b0 := decide_eq_false c4
     clear c4
     have H' := Aside0.mk H
     clear H
     go_wp2
     go_loopg [5] k1 (fun kq v5 w' => ∃ (x5_2 : Int), v5 = .int .i64 x5_2 ∧ Aside0 (regletref04_Keyword.l1 kq a0 y3 x5_2 = some r) ∧ Aside0 (kq ≤ k1) ∧ Drawn0 w w')
     case atStart => exact ⟨(0), er_, H', ⟨Nat.le_refl _⟩, dr_⟩
     case round =>
      clear H'
      try clear c1
      try clear c2
      try clear c2b0
      try clear c2b1
      try clear c2b2
      try clear p2
      try clear c3
      try clear c3b0
      try clear c3b1
      try clear c3b2
      try clear c4
      try clear c4b0
      try clear c5
      try clear c5b0
      try clear p6
      try clear q6
      try clear hx6
      try clear c7
      try clear c7b0
      try clear c7b1
      try clear p2
      try clear p6
      try clear q6
      obtain ⟨x5_2, rfl, HA, HK2, ⟨m2, rfl⟩⟩ := hrel
      cases gk with
      | zero => exact absurd HA.out (by simp [regletref04_Keyword.l1])
      | succ k2 =>
       have H := HA.out
       clear HA
       simp only [regletref04_Keyword.l1] at H
       have HC8 := Aside0.mk H
       clear H
       go_upto_region 8 with (fail)
       go_cut [28] (fun v28 wc => ∃ (kq : Nat) (x28_7 : Bool), v28 = .bool x28_7 ∧ Aside0 (regletref04_Keyword.j2 kq a0 y3 x5_2 x28_7 = some r) ∧ Aside0 (kq ≤ k2) ∧ Drawn0 w wc)
       case first =>
        have H := HC8.out
        clear HC8
        by_cases c9 : (wrap64 (x5_2 + (y3.size : Int))) ≤ 315
        ·rw [if_pos c9] at H
         have c9b0 := decide_eq_true c9
         clear c9
         (first | rw [c9b0] | (simp only [i64_w, i32_w]; rw [c9b0]) | skip)
         have H' := Aside0.mk H
         clear H
         go_wp2
         go_meet
         case rel => exact ⟨_, (decide ((a0.size : Int) > 0)), er_, H', ⟨by have := HK1.out; have := HK2.out; first | omega | exact Nat.le_refl _⟩, dr_⟩
        rw [if_neg c9] at H
        have c9b0 := decide_eq_false c9
        clear c9
        (first | rw [c9b0] | (simp only [i64_w, i32_w]; rw [c9b0]) | skip)
        have H' := Aside0.mk H
        clear H
        go_wp2
        go_meet
        case rel => exact ⟨_, (false), er_, H', ⟨by have := HK1.out; have := HK2.out; first | omega | exact Nat.le_refl _⟩, dr_⟩
       case rest =>
        clear HC8
        try clear c1
        try clear c2
        try clear c2b0
        try clear c2b1
        try clear c2b2
        try clear p2
        try clear c3
        try clear c3b0
        try clear c3b1
        try clear c3b2
        try clear c4
        try clear c4b0
        try clear c5
        try clear c5b0
        try clear p6
        try clear q6
        try clear hx6
        try clear c7
        try clear c7b0
        try clear c7b1
        try clear c9
        try clear c9b0
        try clear p2
        try clear p6
        try clear q6
        obtain ⟨kq, x28_7, rfl, HA, HJ7, ⟨mc7, rfl⟩⟩ := hcut
        cases kq with
        | zero => exact absurd HA.out (by simp [regletref04_Keyword.j2])
        | succ kj7 =>
         have H := HA.out
         clear HA
         simp only [regletref04_Keyword.j2] at H
         by_cases c10 : x28_7 = true
         ·subst c10
          have H1 : (if 0 ≤ x5_2 then (if x5_2 ≤ (wrap64 (x5_2 + (y3.size : Int))) then (if (wrap64 (x5_2 + (y3.size : Int))) ≤ 315 then (if ((⟨#[32, 97, 117, 116, 111, 32, 98, 114, 101, 97, 107, 32, 99, 97, 115, 101, 32, 99, 104, 97, 114, 32, 99, 111, 110, 115, 116, 32, 99, 111, 110, 116, 105, 110, 117, 101, 32, 100, 101, 102, 97, 117, 108, 116, 32, 100, 111, 32, 100, 111, 117, 98, 108, 101, 32, 101, 108, 115, 101, 32, 101, 110, 117, 109, 32, 101, 120, 116, 101, 114, 110, 32, 102, 108, 111, 97, 116, 32, 102, 111, 114, 32, 103, 111, 116, 111, 32, 105, 102, 32, 105, 110, 108, 105, 110, 101, 32, 105, 110, 116, 32, 108, 111, 110, 103, 32, 114, 101, 103, 105, 115, 116, 101, 114, 32, 114, 101, 115, 116, 114, 105, 99, 116, 32, 114, 101, 116, 117, 114, 110, 32, 115, 104, 111, 114, 116, 32, 115, 105, 103, 110, 101, 100, 32, 115, 105, 122, 101, 111, 102, 32, 115, 116, 97, 116, 105, 99, 32, 115, 116, 114, 117, 99, 116, 32, 115, 119, 105, 116, 99, 104, 32, 116, 121, 112, 101, 100, 101, 102, 32, 117, 110, 105, 111, 110, 32, 117, 110, 115, 105, 103, 110, 101, 100, 32, 118, 111, 105, 100, 32, 118, 111, 108, 97, 116, 105, 108, 101, 32, 119, 104, 105, 108, 101, 32, 95, 65, 108, 105, 103, 110, 97, 115, 32, 95, 65, 108, 105, 103, 110, 111, 102, 32, 95, 65, 116, 111, 109, 105, 99, 32, 95, 66, 111, 111, 108, 32, 95, 67, 111, 109, 112, 108, 101, 120, 32, 95, 71, 101, 110, 101, 114, 105, 99, 32, 95, 73, 109, 97, 103, 105, 110, 97, 114, 121, 32, 95, 78, 111, 114, 101, 116, 117, 114, 110, 32, 95, 83, 116, 97, 116, 105, 99, 95, 97, 115, 115, 101, 114, 116, 32, 95, 84, 104, 114, 101, 97, 100, 95, 108, 111, 99, 97, 108, 32]⟩ : ByteArray).extract (x5_2 : Int).toNat ((wrap64 (x5_2 + (y3.size : Int))) : Int).toNat).toList = y3.toList then (some true) else (regletref04_Keyword.l1 kj7 a0 y3 (wrap64 (x5_2 + 1)))) else (none)) else (none)) else (none)) = some r := by rw [if_pos rfl] at H; exact H
          clear H
          have H := H1
          clear H1
          by_cases c11 : 0 ≤ x5_2
          ·rw [if_pos c11] at H
           have c11b0 := eq_true c11
           have c11b1 := decide_eq_true c11
           clear c11
           by_cases c12 : x5_2 ≤ (wrap64 (x5_2 + (y3.size : Int)))
           ·rw [if_pos c12] at H
            have c12b0 := eq_true c12
            have c12b1 := decide_eq_true c12
            by_cases c13 : (wrap64 (x5_2 + (y3.size : Int))) ≤ 315
            ·rw [if_pos c13] at H
             have c13b0 := eq_true c13
             have c13b1 := decide_eq_true c13
             by_cases c14 : ((⟨#[32, 97, 117, 116, 111, 32, 98, 114, 101, 97, 107, 32, 99, 97, 115, 101, 32, 99, 104, 97, 114, 32, 99, 111, 110, 115, 116, 32, 99, 111, 110, 116, 105, 110, 117, 101, 32, 100, 101, 102, 97, 117, 108, 116, 32, 100, 111, 32, 100, 111, 117, 98, 108, 101, 32, 101, 108, 115, 101, 32, 101, 110, 117, 109, 32, 101, 120, 116, 101, 114, 110, 32, 102, 108, 111, 97, 116, 32, 102, 111, 114, 32, 103, 111, 116, 111, 32, 105, 102, 32, 105, 110, 108, 105, 110, 101, 32, 105, 110, 116, 32, 108, 111, 110, 103, 32, 114, 101, 103, 105, 115, 116, 101, 114, 32, 114, 101, 115, 116, 114, 105, 99, 116, 32, 114, 101, 116, 117, 114, 110, 32, 115, 104, 111, 114, 116, 32, 115, 105, 103, 110, 101, 100, 32, 115, 105, 122, 101, 111, 102, 32, 115, 116, 97, 116, 105, 99, 32, 115, 116, 114, 117, 99, 116, 32, 115, 119, 105, 116, 99, 104, 32, 116, 121, 112, 101, 100, 101, 102, 32, 117, 110, 105, 111, 110, 32, 117, 110, 115, 105, 103, 110, 101, 100, 32, 118, 111, 105, 100, 32, 118, 111, 108, 97, 116, 105, 108, 101, 32, 119, 104, 105, 108, 101, 32, 95, 65, 108, 105, 103, 110, 97, 115, 32, 95, 65, 108, 105, 103, 110, 111, 102, 32, 95, 65, 116, 111, 109, 105, 99, 32, 95, 66, 111, 111, 108, 32, 95, 67, 111, 109, 112, 108, 101, 120, 32, 95, 71, 101, 110, 101, 114, 105, 99, 32, 95, 73, 109, 97, 103, 105, 110, 97, 114, 121, 32, 95, 78, 111, 114, 101, 116, 117, 114, 110, 32, 95, 83, 116, 97, 116, 105, 99, 95, 97, 115, 115, 101, 114, 116, 32, 95, 84, 104, 114, 101, 97, 100, 95, 108, 111, 99, 97, 108, 32]⟩ : ByteArray).extract (x5_2 : Int).toNat ((wrap64 (x5_2 + (y3.size : Int))) : Int).toNat).toList = y3.toList
             ·rw [if_pos c14] at H
              have c14b0 := beq_iff_eq.mpr c14
              have c14b1 := bne_eq_false_iff_eq.mpr c14
              clear c14
              obtain rfl := Option.some.inj H
              go_wp2
              go_ret
              exact ⟨er_, dr_⟩
             rw [if_neg c14] at H
             have c14b0 := beq_eq_false_iff_ne.mpr c14
             have c14b1 := bne_iff_ne.mpr c14
             have H' := Aside0.mk H
             clear H
             go_wp2
             go_roundg kj7
             case measure => have := HK1.out; have := HK2.out; have := HJ7.out; omega
             case rel => exact ⟨(wrap64 (x5_2 + 1)), er_, H', ⟨by have := HK1.out; have := HK2.out; have := HJ7.out; omega⟩, dr_⟩
            rw [if_neg c13] at H
            exact absurd H (by simp)
           rw [if_neg c12] at H
           exact absurd H (by simp)
          rw [if_neg c11] at H
          exact absurd H (by simp)
         replace c10 := Bool.eq_false_iff.mpr c10
         subst c10
         have H1 : (some false) = some r := by rw [if_neg (show ¬ (false = true) by decide)] at H; exact H
         clear H
         have H := H1
         clear H1
         obtain rfl := Option.some.inj H
         go_wp2
         go_ret
         exact ⟨er_, dr_⟩
  rw [if_neg c3] at H
  exact absurd H (by simp)
 rw [if_neg c2] at H
 exact absurd H (by simp)
def regletref04_suffix.j0 : Nat → ByteArray → Int → ByteArray → Bool → Option (Bool × Bool)
 | 0, _, _, _, _ => none
 | k + 1, x0, x4, x5, x19 => if x19 = true then (if 1 ≤ (x0.size : Int) then (if (x0.extract 1 x0.size).toList = ([] : List UInt8) then (some (true, (1 == 1))) else (if (x0.extract 1 x0.size).toList = ([108] : List UInt8) then (some (true, (1 == 1))) else (if (x0.extract 1 x0.size).toList = ([76] : List UInt8) then (some (true, (1 == 1))) else (if (x0.extract 1 x0.size).toList = ([108, 108] : List UInt8) then (some (true, (1 == 1))) else (some (((x0.extract 1 x0.size).toList == ([76, 76] : List UInt8)), (1 == 1))))))) else (none)) else (if (x0.size : Int) > 0 then (if 0 ≤ (wrap64 ((x0.size : Int) - 1)) then (if (wrap64 ((x0.size : Int) - 1)) < (x0.size : Int) then (if (bt x0 (wrap64 ((x0.size : Int) - 1))) = 117 then (if (wrap64 ((x0.size : Int) - 1)) ≤ (x0.size : Int) then (if (x0.extract 0 ((wrap64 ((x0.size : Int) - 1)) : Int).toNat).toList = ([] : List UInt8) then (some (true, (1 == 1))) else (if (x0.extract 0 ((wrap64 ((x0.size : Int) - 1)) : Int).toNat).toList = ([108] : List UInt8) then (some (true, (1 == 1))) else (if (x0.extract 0 ((wrap64 ((x0.size : Int) - 1)) : Int).toNat).toList = ([76] : List UInt8) then (some (true, (1 == 1))) else (if (x0.extract 0 ((wrap64 ((x0.size : Int) - 1)) : Int).toNat).toList = ([108, 108] : List UInt8) then (some (true, (1 == 1))) else (some (((x0.extract 0 ((wrap64 ((x0.size : Int) - 1)) : Int).toNat).toList == ([76, 76] : List UInt8)), (1 == 1))))))) else (none)) else (if (bt x0 (wrap64 ((x0.size : Int) - 1))) = 85 then (if (wrap64 ((x0.size : Int) - 1)) ≤ (x0.size : Int) then (if (x0.extract 0 ((wrap64 ((x0.size : Int) - 1)) : Int).toNat).toList = ([] : List UInt8) then (some (true, (1 == 1))) else (if (x0.extract 0 ((wrap64 ((x0.size : Int) - 1)) : Int).toNat).toList = ([108] : List UInt8) then (some (true, (1 == 1))) else (if (x0.extract 0 ((wrap64 ((x0.size : Int) - 1)) : Int).toNat).toList = ([76] : List UInt8) then (some (true, (1 == 1))) else (if (x0.extract 0 ((wrap64 ((x0.size : Int) - 1)) : Int).toNat).toList = ([108, 108] : List UInt8) then (some (true, (1 == 1))) else (some (((x0.extract 0 ((wrap64 ((x0.size : Int) - 1)) : Int).toNat).toList == ([76, 76] : List UInt8)), (1 == 1))))))) else (none)) else (if x5.toList = ([] : List UInt8) then (some (true, (x4 == 1))) else (if x5.toList = ([108] : List UInt8) then (some (true, (x4 == 1))) else (if x5.toList = ([76] : List UInt8) then (some (true, (x4 == 1))) else (if x5.toList = ([108, 108] : List UInt8) then (some (true, (x4 == 1))) else (some ((x5.toList == ([76, 76] : List UInt8)), (x4 == 1))))))))) else (none)) else (none)) else (if x5.toList = ([] : List UInt8) then (some (true, (x4 == 1))) else (if x5.toList = ([108] : List UInt8) then (some (true, (x4 == 1))) else (if x5.toList = ([76] : List UInt8) then (some (true, (x4 == 1))) else (if x5.toList = ([108, 108] : List UInt8) then (some (true, (x4 == 1))) else (some ((x5.toList == ([76, 76] : List UInt8)), (x4 == 1))))))))
def regletref04_suffix.f (k : Nat) (a0 : ByteArray) : Option (Bool × Bool) := if (a0.size : Int) > 0 then (if 0 < (a0.size : Int) then (if (bt a0 0) = 117 then (regletref04_suffix.j0 k a0 0 a0 true) else (regletref04_suffix.j0 k a0 0 a0 ((bt a0 0) == 85))) else (none)) else (regletref04_suffix.j0 k a0 0 a0 false)
theorem regletref04_suffix.mono_l : ∀ k, (∀ y0 y1 y2 y3, LeO (regletref04_suffix.j0 k y0 y1 y2 y3) (regletref04_suffix.j0 (k + 1) y0 y1 y2 y3))
 | 0 => fun _ _ _ _ r h => by simp [regletref04_suffix.j0] at h
 | k + 1 => by
  have ih0 := regletref04_suffix.mono_l k
  intro y0 y1 y2 y3
  unfold regletref04_suffix.j0
  repeat' first
  | (with_reducible exact ih0 _ _ _ _)
  | (with_reducible exact LeO.refl _)
  | (with_reducible exact LeO.none _)
  | (with_reducible refine LeO.ite ?_ ?_)
  | (with_reducible refine LeO.bind ?_ (fun _ => ?_))
  | exact ih0 _ _ _ _
  | exact LeO.none _
  | refine LeO.ite ?_ ?_
  | refine LeO.bind ?_ (fun _ => ?_)
theorem regletref04_suffix.mono : ∀ a0 k, LeO (regletref04_suffix.f k a0) (regletref04_suffix.f (k + 1) a0) := by
 intro a0 k
 have ih0 := regletref04_suffix.mono_l k
 unfold regletref04_suffix.f
 repeat' first
   | (with_reducible exact ih0 _ _ _ _)
   | (with_reducible exact LeO.refl _)
   | (with_reducible exact LeO.none _)
   | (with_reducible refine LeO.ite ?_ ?_)
   | (with_reducible refine LeO.bind ?_ (fun _ => ?_))
   | exact ih0 _ _ _ _
   | exact LeO.none _
   | refine LeO.ite ?_ ?_
   | refine LeO.bind ?_ (fun _ => ?_)
set_option maxHeartbeats 8000000 in
set_option maxRecDepth 100000 in
theorem regletref04_suffix.calls (k : Nat) (a0 : ByteArray) (r1 : Bool) (r2 : Bool) (w : World) (h : regletref04_suffix.f k a0 = some (r1, r2)) :
  Calls Tryd.prog 55 #[.string a0] w fun e w' => e = .returned (.tuple #[.bool r1, .bool r2]) ∧ Drawn0 w w' := by
 have H : (if (a0.size : Int) > 0 then (if 0 < (a0.size : Int) then (if (bt a0 0) = 117 then (regletref04_suffix.j0 k a0 0 a0 true) else (regletref04_suffix.j0 k a0 0 a0 ((bt a0 0) == 85))) else (none)) else (regletref04_suffix.j0 k a0 0 a0 false)) = some (r1, r2) := h
 clear h
 have HC2 := Aside0.mk H
 clear H
 go_enter Tryd.func55, Tryd.ntmps55
 go_upto_region 3 with (fail)
 go_cut [19] (fun v19 wc => ∃ (kq : Nat) (x19_1 : Bool), v19 = .bool x19_1 ∧ Aside0 (regletref04_suffix.j0 kq a0 0 a0 x19_1 = some (r1, r2)) ∧ Aside0 (kq ≤ k) ∧ Drawn0 w wc)
 case first =>
  have H := HC2.out
  clear HC2
  by_cases c3 : (a0.size : Int) > 0
  ·rw [if_pos c3] at H
   have c3b0 : decide (0 < (a0.size : Int)) = true := decide_eq_true c3
   have c3b1 : decide (0 < a0.size) = true := decide_eq_true (by omega)
   clear c3
   (first | rw [c3b0] | (simp only [i64_w, i32_w]; rw [c3b0]) | skip)
   by_cases c4 : 0 < (a0.size : Int)
   ·rw [if_pos c4] at H
    have c4b0 := decide_eq_true c4
    have c4b1 : decide (0 < a0.size) = true := decide_eq_true (by omega)
    clear c4
    by_cases c6 : (bt a0 0) = 117
    ·rw [if_pos c6] at H
     have c6b0 := beq_iff_eq.mpr c6
     have c6b1 := bne_eq_false_iff_eq.mpr c6
     clear c6
     have H' := Aside0.mk H
     clear H
     have p5 : 0 ≤ (0 : Int) := (by omega)
     have q5 : 0 < a0.size := (by have : (0 : Int) < (a0.size : Int) := of_decide_eq_true (by first | (with_reducible assumption) | assumption); omega)
     have hx5 : ∀ h : 0 < a0.size, ((a0[0]'h).toNat : Int) = bt a0 0 := bt_at a0 0
     clear p5
     have qi5 : (0 < (a0.size : Int)) = True := eq_true da_
     replace q5 := eq_true q5
     go_wp2
     go_meet
     case rel => exact ⟨_, (true), er_, H', ⟨om_⟩, dr_⟩
    rw [if_neg c6] at H
    have c6b0 := beq_eq_false_iff_ne.mpr c6
    have c6b1 := bne_iff_ne.mpr c6
    have H' := Aside0.mk H
    clear H
    have p5 : 0 ≤ (0 : Int) := (by omega)
    have q5 : 0 < a0.size := (by have : (0 : Int) < (a0.size : Int) := of_decide_eq_true (by first | (with_reducible assumption) | assumption); omega)
    have hx5 : ∀ h : 0 < a0.size, ((a0[0]'h).toNat : Int) = bt a0 0 := bt_at a0 0
    clear p5
    have qi5 : (0 < (a0.size : Int)) = True := eq_true da_
    replace q5 := eq_true q5
    have p7 : 0 ≤ (0 : Int) := (by omega)
    have q7 : 0 < a0.size := (by have : (0 : Int) < (a0.size : Int) := of_decide_eq_true (by first | (with_reducible assumption) | assumption); omega)
    have hx7 : ∀ h : 0 < a0.size, ((a0[0]'h).toNat : Int) = bt a0 0 := bt_at a0 0
    clear p7
    have qi7 : (0 < (a0.size : Int)) = True := eq_true da_
    replace q7 := eq_true q7
    go_wp2
    go_meet
    case rel => exact ⟨_, (((bt a0 0) == 85)), er_, H', ⟨om_⟩, dr_⟩
   rw [if_neg c4] at H
   exact absurd H (by simp)
  rw [if_neg c3] at H
  have c3b0 : decide (0 < (a0.size : Int)) = false := decide_eq_false c3
  have c3b1 : decide (0 < a0.size) = false := decide_eq_false (by omega)
  clear c3
  (first | rw [c3b0] | (simp only [i64_w, i32_w]; rw [c3b0]) | skip)
  have H' := Aside0.mk H
  clear H
  go_wp2
  go_meet
  case rel => exact ⟨_, (false), er_, H', ⟨om_⟩, dr_⟩
 case rest =>
  clear HC2
  try clear p2
  try clear c3
  try clear c3b0
  try clear c3b1
  try clear c4
  try clear c4b0
  try clear c4b1
  try clear c5
  try clear p5
  try clear q5
  try clear hx5
  try clear qi5
  try clear c6
  try clear c6b0
  try clear c6b1
  try clear p7
  try clear q7
  try clear hx7
  try clear qi7
  try clear p5
  try clear p7
  try clear q5
  try clear q7
  obtain ⟨kq, x19_1, rfl, HA, HJ1, ⟨mc1, rfl⟩⟩ := hcut
  cases kq with
  | zero => exact absurd HA.out (by simp [regletref04_suffix.j0])
  | succ kj1 =>
   have H := HA.out
   clear HA
   simp only [regletref04_suffix.j0] at H
   by_cases c8 : x19_1 = true
   ·subst c8
    have H1 : (if 1 ≤ (a0.size : Int) then (if (a0.extract 1 a0.size).toList = ([] : List UInt8) then (some (true, (1 == 1))) else (if (a0.extract 1 a0.size).toList = ([108] : List UInt8) then (some (true, (1 == 1))) else (if (a0.extract 1 a0.size).toList = ([76] : List UInt8) then (some (true, (1 == 1))) else (if (a0.extract 1 a0.size).toList = ([108, 108] : List UInt8) then (some (true, (1 == 1))) else (some (((a0.extract 1 a0.size).toList == ([76, 76] : List UInt8)), (1 == 1))))))) else (none)) = some (r1, r2) := by rw [if_pos rfl] at H; exact H
    clear H
    have H := H1
    clear H1
    by_cases c9 : 1 ≤ (a0.size : Int)
    ·rw [if_pos c9] at H
     have c9b0 := eq_true c9
     have c9b1 := decide_eq_true c9
     clear c9
     by_cases c10 : (a0.extract 1 a0.size).toList = ([] : List UInt8)
     ·rw [if_pos c10] at H
      have c10b0 := beq_iff_eq.mpr c10
      have c10b1 := bne_eq_false_iff_eq.mpr c10
      clear c10
      simp only [Option.some.injEq, Prod.mk.injEq] at H
      obtain ⟨rfl, rfl⟩ := H
      go_wp2
      go_ret2
      exact ⟨er_, dr_⟩
     rw [if_neg c10] at H
     have c10b0 := beq_eq_false_iff_ne.mpr c10
     have c10b1 := bne_iff_ne.mpr c10
     by_cases c11 : (a0.extract 1 a0.size).toList = ([108] : List UInt8)
     ·rw [if_pos c11] at H
      have c11b0 := beq_iff_eq.mpr c11
      have c11b1 := bne_eq_false_iff_eq.mpr c11
      clear c11
      simp only [Option.some.injEq, Prod.mk.injEq] at H
      obtain ⟨rfl, rfl⟩ := H
      go_wp2
      go_ret2
      exact ⟨er_, dr_⟩
     rw [if_neg c11] at H
     have c11b0 := beq_eq_false_iff_ne.mpr c11
     have c11b1 := bne_iff_ne.mpr c11
     by_cases c12 : (a0.extract 1 a0.size).toList = ([76] : List UInt8)
     ·rw [if_pos c12] at H
      have c12b0 := beq_iff_eq.mpr c12
      have c12b1 := bne_eq_false_iff_eq.mpr c12
      clear c12
      simp only [Option.some.injEq, Prod.mk.injEq] at H
      obtain ⟨rfl, rfl⟩ := H
      go_wp2
      go_ret2
      exact ⟨er_, dr_⟩
     rw [if_neg c12] at H
     have c12b0 := beq_eq_false_iff_ne.mpr c12
     have c12b1 := bne_iff_ne.mpr c12
     by_cases c13 : (a0.extract 1 a0.size).toList = ([108, 108] : List UInt8)
     ·rw [if_pos c13] at H
      have c13b0 := beq_iff_eq.mpr c13
      have c13b1 := bne_eq_false_iff_eq.mpr c13
      clear c13
      simp only [Option.some.injEq, Prod.mk.injEq] at H
      obtain ⟨rfl, rfl⟩ := H
      go_wp2
      go_ret2
      exact ⟨er_, dr_⟩
     rw [if_neg c13] at H
     have c13b0 := beq_eq_false_iff_ne.mpr c13
     have c13b1 := bne_iff_ne.mpr c13
     simp only [Option.some.injEq, Prod.mk.injEq] at H
     obtain ⟨rfl, rfl⟩ := H
     go_wp2
     go_ret2
     exact ⟨er_, dr_⟩
    rw [if_neg c9] at H
    exact absurd H (by simp)
   replace c8 := Bool.eq_false_iff.mpr c8
   subst c8
   have H1 : (if (a0.size : Int) > 0 then (if 0 ≤ (wrap64 ((a0.size : Int) - 1)) then (if (wrap64 ((a0.size : Int) - 1)) < (a0.size : Int) then (if (bt a0 (wrap64 ((a0.size : Int) - 1))) = 117 then (if (wrap64 ((a0.size : Int) - 1)) ≤ (a0.size : Int) then (if (a0.extract 0 ((wrap64 ((a0.size : Int) - 1)) : Int).toNat).toList = ([] : List UInt8) then (some (true, (1 == 1))) else (if (a0.extract 0 ((wrap64 ((a0.size : Int) - 1)) : Int).toNat).toList = ([108] : List UInt8) then (some (true, (1 == 1))) else (if (a0.extract 0 ((wrap64 ((a0.size : Int) - 1)) : Int).toNat).toList = ([76] : List UInt8) then (some (true, (1 == 1))) else (if (a0.extract 0 ((wrap64 ((a0.size : Int) - 1)) : Int).toNat).toList = ([108, 108] : List UInt8) then (some (true, (1 == 1))) else (some (((a0.extract 0 ((wrap64 ((a0.size : Int) - 1)) : Int).toNat).toList == ([76, 76] : List UInt8)), (1 == 1))))))) else (none)) else (if (bt a0 (wrap64 ((a0.size : Int) - 1))) = 85 then (if (wrap64 ((a0.size : Int) - 1)) ≤ (a0.size : Int) then (if (a0.extract 0 ((wrap64 ((a0.size : Int) - 1)) : Int).toNat).toList = ([] : List UInt8) then (some (true, (1 == 1))) else (if (a0.extract 0 ((wrap64 ((a0.size : Int) - 1)) : Int).toNat).toList = ([108] : List UInt8) then (some (true, (1 == 1))) else (if (a0.extract 0 ((wrap64 ((a0.size : Int) - 1)) : Int).toNat).toList = ([76] : List UInt8) then (some (true, (1 == 1))) else (if (a0.extract 0 ((wrap64 ((a0.size : Int) - 1)) : Int).toNat).toList = ([108, 108] : List UInt8) then (some (true, (1 == 1))) else (some (((a0.extract 0 ((wrap64 ((a0.size : Int) - 1)) : Int).toNat).toList == ([76, 76] : List UInt8)), (1 == 1))))))) else (none)) else (if a0.toList = ([] : List UInt8) then (some (true, (0 == 1))) else (if a0.toList = ([108] : List UInt8) then (some (true, (0 == 1))) else (if a0.toList = ([76] : List UInt8) then (some (true, (0 == 1))) else (if a0.toList = ([108, 108] : List UInt8) then (some (true, (0 == 1))) else (some ((a0.toList == ([76, 76] : List UInt8)), (0 == 1))))))))) else (none)) else (none)) else (if a0.toList = ([] : List UInt8) then (some (true, (0 == 1))) else (if a0.toList = ([108] : List UInt8) then (some (true, (0 == 1))) else (if a0.toList = ([76] : List UInt8) then (some (true, (0 == 1))) else (if a0.toList = ([108, 108] : List UInt8) then (some (true, (0 == 1))) else (some ((a0.toList == ([76, 76] : List UInt8)), (0 == 1)))))))) = some (r1, r2) := by rw [if_neg (show ¬ (false = true) by decide)] at H; exact H
   clear H
   have H := H1
   clear H1
   by_cases c14 : (a0.size : Int) > 0
   ·rw [if_pos c14] at H
    have c14b0 : decide (0 < (a0.size : Int)) = true := decide_eq_true c14
    have c14b1 : decide (0 < a0.size) = true := decide_eq_true (by omega)
    clear c14
    obtain ⟨ji15, hji15⟩ : ∃ j_ : Int, (wrap64 ((a0.size : Int) - 1)) = j_ := ⟨_, rfl⟩
    replace H : (if 0 ≤ (ji15) then (if (ji15) < (a0.size : Int) then (if (bt a0 (ji15)) = 117 then (if (ji15) ≤ (a0.size : Int) then (if (a0.extract 0 ((ji15) : Int).toNat).toList = ([] : List UInt8) then (some (true, (1 == 1))) else (if (a0.extract 0 ((ji15) : Int).toNat).toList = ([108] : List UInt8) then (some (true, (1 == 1))) else (if (a0.extract 0 ((ji15) : Int).toNat).toList = ([76] : List UInt8) then (some (true, (1 == 1))) else (if (a0.extract 0 ((ji15) : Int).toNat).toList = ([108, 108] : List UInt8) then (some (true, (1 == 1))) else (some (((a0.extract 0 ((ji15) : Int).toNat).toList == ([76, 76] : List UInt8)), (1 == 1))))))) else (none)) else (if (bt a0 (ji15)) = 85 then (if (ji15) ≤ (a0.size : Int) then (if (a0.extract 0 ((ji15) : Int).toNat).toList = ([] : List UInt8) then (some (true, (1 == 1))) else (if (a0.extract 0 ((ji15) : Int).toNat).toList = ([108] : List UInt8) then (some (true, (1 == 1))) else (if (a0.extract 0 ((ji15) : Int).toNat).toList = ([76] : List UInt8) then (some (true, (1 == 1))) else (if (a0.extract 0 ((ji15) : Int).toNat).toList = ([108, 108] : List UInt8) then (some (true, (1 == 1))) else (some (((a0.extract 0 ((ji15) : Int).toNat).toList == ([76, 76] : List UInt8)), (1 == 1))))))) else (none)) else (if a0.toList = ([] : List UInt8) then (some (true, (0 == 1))) else (if a0.toList = ([108] : List UInt8) then (some (true, (0 == 1))) else (if a0.toList = ([76] : List UInt8) then (some (true, (0 == 1))) else (if a0.toList = ([108, 108] : List UInt8) then (some (true, (0 == 1))) else (some ((a0.toList == ([76, 76] : List UInt8)), (0 == 1))))))))) else (none)) else (none)) = some (r1, r2) := by first | (rw [hji15] at H; exact H) | (simp only [hji15] at H ⊢; exact H)
    have hji15w : (IntKind.i64.wrap ((a0.size : Int) - 1)) = ji15 := (i64_w _).trans hji15
    by_cases c16 : 0 ≤ (ji15)
    ·rw [if_pos c16] at H
     have c16b0 := decide_eq_true c16
     clear c16
     by_cases c17 : (ji15) < (a0.size : Int)
     ·rw [if_pos c17] at H
      have c17b0 := decide_eq_true c17
      clear c17
      by_cases c19 : (bt a0 (ji15)) = 117
      ·rw [if_pos c19] at H
       have c19b0 := beq_iff_eq.mpr c19
       have c19b1 := bne_eq_false_iff_eq.mpr c19
       clear c19
       have c20b0 := eq_true (of_decide_eq_true (by first | (with_reducible assumption) | assumption) : 0 ≤ (ji15))
       by_cases c21 : (ji15) ≤ (a0.size : Int)
       ·rw [if_pos c21] at H
        have c21b0 := eq_true c21
        have c21b1 := decide_eq_true c21
        clear c21
        by_cases c22 : (a0.extract 0 ((ji15) : Int).toNat).toList = ([] : List UInt8)
        ·rw [if_pos c22] at H
         have c22b0 := beq_iff_eq.mpr c22
         have c22b1 := bne_eq_false_iff_eq.mpr c22
         clear c22
         simp only [Option.some.injEq, Prod.mk.injEq] at H
         obtain ⟨rfl, rfl⟩ := H
         have p18 : 0 ≤ ((ji15) : Int) := da_
         have q18 : (ji15) < (a0.size : Int) := da_
         have hx18 := bt_at a0 (ji15)
         replace p18 := eq_true p18
         replace q18 := eq_true q18
         go_wp2
         go_ret2
         exact ⟨by first | rfl | (simp; done) | (simp only [← hji15] <;> (first | rfl | simp)) | (simp [*]; done), dr_⟩
        rw [if_neg c22] at H
        have c22b0 := beq_eq_false_iff_ne.mpr c22
        have c22b1 := bne_iff_ne.mpr c22
        by_cases c23 : (a0.extract 0 ((ji15) : Int).toNat).toList = ([108] : List UInt8)
        ·rw [if_pos c23] at H
         have c23b0 := beq_iff_eq.mpr c23
         have c23b1 := bne_eq_false_iff_eq.mpr c23
         clear c23
         simp only [Option.some.injEq, Prod.mk.injEq] at H
         obtain ⟨rfl, rfl⟩ := H
         have p18 : 0 ≤ ((ji15) : Int) := da_
         have q18 : (ji15) < (a0.size : Int) := da_
         have hx18 := bt_at a0 (ji15)
         replace p18 := eq_true p18
         replace q18 := eq_true q18
         go_wp2
         go_ret2
         exact ⟨by first | rfl | (simp; done) | (simp only [← hji15] <;> (first | rfl | simp)) | (simp [*]; done), dr_⟩
        rw [if_neg c23] at H
        have c23b0 := beq_eq_false_iff_ne.mpr c23
        have c23b1 := bne_iff_ne.mpr c23
        by_cases c24 : (a0.extract 0 ((ji15) : Int).toNat).toList = ([76] : List UInt8)
        ·rw [if_pos c24] at H
         have c24b0 := beq_iff_eq.mpr c24
         have c24b1 := bne_eq_false_iff_eq.mpr c24
         clear c24
         simp only [Option.some.injEq, Prod.mk.injEq] at H
         obtain ⟨rfl, rfl⟩ := H
         have p18 : 0 ≤ ((ji15) : Int) := da_
         have q18 : (ji15) < (a0.size : Int) := da_
         have hx18 := bt_at a0 (ji15)
         replace p18 := eq_true p18
         replace q18 := eq_true q18
         go_wp2
         go_ret2
         exact ⟨by first | rfl | (simp; done) | (simp only [← hji15] <;> (first | rfl | simp)) | (simp [*]; done), dr_⟩
        rw [if_neg c24] at H
        have c24b0 := beq_eq_false_iff_ne.mpr c24
        have c24b1 := bne_iff_ne.mpr c24
        by_cases c25 : (a0.extract 0 ((ji15) : Int).toNat).toList = ([108, 108] : List UInt8)
        ·rw [if_pos c25] at H
         have c25b0 := beq_iff_eq.mpr c25
         have c25b1 := bne_eq_false_iff_eq.mpr c25
         clear c25
         simp only [Option.some.injEq, Prod.mk.injEq] at H
         obtain ⟨rfl, rfl⟩ := H
         have p18 : 0 ≤ ((ji15) : Int) := da_
         have q18 : (ji15) < (a0.size : Int) := da_
         have hx18 := bt_at a0 (ji15)
         replace p18 := eq_true p18
         replace q18 := eq_true q18
         go_wp2
         go_ret2
         exact ⟨by first | rfl | (simp; done) | (simp only [← hji15] <;> (first | rfl | simp)) | (simp [*]; done), dr_⟩
        rw [if_neg c25] at H
        have c25b0 := beq_eq_false_iff_ne.mpr c25
        have c25b1 := bne_iff_ne.mpr c25
        simp only [Option.some.injEq, Prod.mk.injEq] at H
        obtain ⟨rfl, rfl⟩ := H
        have p18 : 0 ≤ ((ji15) : Int) := da_
        have q18 : (ji15) < (a0.size : Int) := da_
        have hx18 := bt_at a0 (ji15)
        replace p18 := eq_true p18
        replace q18 := eq_true q18
        go_wp2
        go_ret2
        exact ⟨by first | rfl | (simp; done) | (simp only [← hji15] <;> (first | rfl | simp)) | (simp [*]; done), dr_⟩
       rw [if_neg c21] at H
       exact absurd H (by simp)
      rw [if_neg c19] at H
      have c19b0 := beq_eq_false_iff_ne.mpr c19
      have c19b1 := bne_iff_ne.mpr c19
      by_cases c27 : (bt a0 (ji15)) = 85
      ·rw [if_pos c27] at H
       have c27b0 := beq_iff_eq.mpr c27
       have c27b1 := bne_eq_false_iff_eq.mpr c27
       clear c27
       have c28b0 := eq_true (of_decide_eq_true (by first | (with_reducible assumption) | assumption) : 0 ≤ (ji15))
       by_cases c29 : (ji15) ≤ (a0.size : Int)
       ·rw [if_pos c29] at H
        have c29b0 := eq_true c29
        have c29b1 := decide_eq_true c29
        clear c29
        by_cases c30 : (a0.extract 0 ((ji15) : Int).toNat).toList = ([] : List UInt8)
        ·rw [if_pos c30] at H
         have c30b0 := beq_iff_eq.mpr c30
         have c30b1 := bne_eq_false_iff_eq.mpr c30
         clear c30
         simp only [Option.some.injEq, Prod.mk.injEq] at H
         obtain ⟨rfl, rfl⟩ := H
         have p18 : 0 ≤ ((ji15) : Int) := da_
         have q18 : (ji15) < (a0.size : Int) := da_
         have hx18 := bt_at a0 (ji15)
         replace p18 := eq_true p18
         replace q18 := eq_true q18
         have p26 : 0 ≤ ((ji15) : Int) := da_
         have q26 : (ji15) < (a0.size : Int) := da_
         have hx26 := bt_at a0 (ji15)
         replace p26 := eq_true p26
         replace q26 := eq_true q26
         go_wp2
         go_ret2
         exact ⟨by first | rfl | (simp; done) | (simp only [← hji15] <;> (first | rfl | simp)) | (simp [*]; done), dr_⟩
        rw [if_neg c30] at H
        have c30b0 := beq_eq_false_iff_ne.mpr c30
        have c30b1 := bne_iff_ne.mpr c30
        by_cases c31 : (a0.extract 0 ((ji15) : Int).toNat).toList = ([108] : List UInt8)
        ·rw [if_pos c31] at H
         have c31b0 := beq_iff_eq.mpr c31
         have c31b1 := bne_eq_false_iff_eq.mpr c31
         clear c31
         simp only [Option.some.injEq, Prod.mk.injEq] at H
         obtain ⟨rfl, rfl⟩ := H
         have p18 : 0 ≤ ((ji15) : Int) := da_
         have q18 : (ji15) < (a0.size : Int) := da_
         have hx18 := bt_at a0 (ji15)
         replace p18 := eq_true p18
         replace q18 := eq_true q18
         have p26 : 0 ≤ ((ji15) : Int) := da_
         have q26 : (ji15) < (a0.size : Int) := da_
         have hx26 := bt_at a0 (ji15)
         replace p26 := eq_true p26
         replace q26 := eq_true q26
         go_wp2
         go_ret2
         exact ⟨by first | rfl | (simp; done) | (simp only [← hji15] <;> (first | rfl | simp)) | (simp [*]; done), dr_⟩
        rw [if_neg c31] at H
        have c31b0 := beq_eq_false_iff_ne.mpr c31
        have c31b1 := bne_iff_ne.mpr c31
        by_cases c32 : (a0.extract 0 ((ji15) : Int).toNat).toList = ([76] : List UInt8)
        ·rw [if_pos c32] at H
         have c32b0 := beq_iff_eq.mpr c32
         have c32b1 := bne_eq_false_iff_eq.mpr c32
         clear c32
         simp only [Option.some.injEq, Prod.mk.injEq] at H
         obtain ⟨rfl, rfl⟩ := H
         have p18 : 0 ≤ ((ji15) : Int) := da_
         have q18 : (ji15) < (a0.size : Int) := da_
         have hx18 := bt_at a0 (ji15)
         replace p18 := eq_true p18
         replace q18 := eq_true q18
         have p26 : 0 ≤ ((ji15) : Int) := da_
         have q26 : (ji15) < (a0.size : Int) := da_
         have hx26 := bt_at a0 (ji15)
         replace p26 := eq_true p26
         replace q26 := eq_true q26
         go_wp2
         go_ret2
         exact ⟨by first | rfl | (simp; done) | (simp only [← hji15] <;> (first | rfl | simp)) | (simp [*]; done), dr_⟩
        rw [if_neg c32] at H
        have c32b0 := beq_eq_false_iff_ne.mpr c32
        have c32b1 := bne_iff_ne.mpr c32
        by_cases c33 : (a0.extract 0 ((ji15) : Int).toNat).toList = ([108, 108] : List UInt8)
        ·rw [if_pos c33] at H
         have c33b0 := beq_iff_eq.mpr c33
         have c33b1 := bne_eq_false_iff_eq.mpr c33
         clear c33
         simp only [Option.some.injEq, Prod.mk.injEq] at H
         obtain ⟨rfl, rfl⟩ := H
         have p18 : 0 ≤ ((ji15) : Int) := da_
         have q18 : (ji15) < (a0.size : Int) := da_
         have hx18 := bt_at a0 (ji15)
         replace p18 := eq_true p18
         replace q18 := eq_true q18
         have p26 : 0 ≤ ((ji15) : Int) := da_
         have q26 : (ji15) < (a0.size : Int) := da_
         have hx26 := bt_at a0 (ji15)
         replace p26 := eq_true p26
         replace q26 := eq_true q26
         go_wp2
         go_ret2
         exact ⟨by first | rfl | (simp; done) | (simp only [← hji15] <;> (first | rfl | simp)) | (simp [*]; done), dr_⟩
        rw [if_neg c33] at H
        have c33b0 := beq_eq_false_iff_ne.mpr c33
        have c33b1 := bne_iff_ne.mpr c33
        simp only [Option.some.injEq, Prod.mk.injEq] at H
        obtain ⟨rfl, rfl⟩ := H
        have p18 : 0 ≤ ((ji15) : Int) := da_
        have q18 : (ji15) < (a0.size : Int) := da_
        have hx18 := bt_at a0 (ji15)
        replace p18 := eq_true p18
        replace q18 := eq_true q18
        have p26 : 0 ≤ ((ji15) : Int) := da_
        have q26 : (ji15) < (a0.size : Int) := da_
        have hx26 := bt_at a0 (ji15)
        replace p26 := eq_true p26
        replace q26 := eq_true q26
        go_wp2
        go_ret2
        exact ⟨by first | rfl | (simp; done) | (simp only [← hji15] <;> (first | rfl | simp)) | (simp [*]; done), dr_⟩
       rw [if_neg c29] at H
       exact absurd H (by simp)
      rw [if_neg c27] at H
      have c27b0 := beq_eq_false_iff_ne.mpr c27
      have c27b1 := bne_iff_ne.mpr c27
      by_cases c34 : a0.toList = ([] : List UInt8)
      ·rw [if_pos c34] at H
       have c34b0 := beq_iff_eq.mpr c34
       have c34b1 := bne_eq_false_iff_eq.mpr c34
       clear c34
       simp only [Option.some.injEq, Prod.mk.injEq] at H
       obtain ⟨rfl, rfl⟩ := H
       have p18 : 0 ≤ ((ji15) : Int) := da_
       have q18 : (ji15) < (a0.size : Int) := da_
       have hx18 := bt_at a0 (ji15)
       replace p18 := eq_true p18
       replace q18 := eq_true q18
       have p26 : 0 ≤ ((ji15) : Int) := da_
       have q26 : (ji15) < (a0.size : Int) := da_
       have hx26 := bt_at a0 (ji15)
       replace p26 := eq_true p26
       replace q26 := eq_true q26
       go_wp2
       go_ret2
       exact ⟨by first | rfl | (simp; done) | (simp only [← hji15] <;> (first | rfl | simp)) | (simp [*]; done), dr_⟩
      rw [if_neg c34] at H
      have c34b0 := beq_eq_false_iff_ne.mpr c34
      have c34b1 := bne_iff_ne.mpr c34
      by_cases c35 : a0.toList = ([108] : List UInt8)
      ·rw [if_pos c35] at H
       have c35b0 := beq_iff_eq.mpr c35
       have c35b1 := bne_eq_false_iff_eq.mpr c35
       clear c35
       simp only [Option.some.injEq, Prod.mk.injEq] at H
       obtain ⟨rfl, rfl⟩ := H
       have p18 : 0 ≤ ((ji15) : Int) := da_
       have q18 : (ji15) < (a0.size : Int) := da_
       have hx18 := bt_at a0 (ji15)
       replace p18 := eq_true p18
       replace q18 := eq_true q18
       have p26 : 0 ≤ ((ji15) : Int) := da_
       have q26 : (ji15) < (a0.size : Int) := da_
       have hx26 := bt_at a0 (ji15)
       replace p26 := eq_true p26
       replace q26 := eq_true q26
       go_wp2
       go_ret2
       exact ⟨by first | rfl | (simp; done) | (simp only [← hji15] <;> (first | rfl | simp)) | (simp [*]; done), dr_⟩
      rw [if_neg c35] at H
      have c35b0 := beq_eq_false_iff_ne.mpr c35
      have c35b1 := bne_iff_ne.mpr c35
      by_cases c36 : a0.toList = ([76] : List UInt8)
      ·rw [if_pos c36] at H
       have c36b0 := beq_iff_eq.mpr c36
       have c36b1 := bne_eq_false_iff_eq.mpr c36
       clear c36
       simp only [Option.some.injEq, Prod.mk.injEq] at H
       obtain ⟨rfl, rfl⟩ := H
       have p18 : 0 ≤ ((ji15) : Int) := da_
       have q18 : (ji15) < (a0.size : Int) := da_
       have hx18 := bt_at a0 (ji15)
       replace p18 := eq_true p18
       replace q18 := eq_true q18
       have p26 : 0 ≤ ((ji15) : Int) := da_
       have q26 : (ji15) < (a0.size : Int) := da_
       have hx26 := bt_at a0 (ji15)
       replace p26 := eq_true p26
       replace q26 := eq_true q26
       go_wp2
       go_ret2
       exact ⟨by first | rfl | (simp; done) | (simp only [← hji15] <;> (first | rfl | simp)) | (simp [*]; done), dr_⟩
      rw [if_neg c36] at H
      have c36b0 := beq_eq_false_iff_ne.mpr c36
      have c36b1 := bne_iff_ne.mpr c36
      by_cases c37 : a0.toList = ([108, 108] : List UInt8)
      ·rw [if_pos c37] at H
       have c37b0 := beq_iff_eq.mpr c37
       have c37b1 := bne_eq_false_iff_eq.mpr c37
       clear c37
       simp only [Option.some.injEq, Prod.mk.injEq] at H
       obtain ⟨rfl, rfl⟩ := H
       have p18 : 0 ≤ ((ji15) : Int) := da_
       have q18 : (ji15) < (a0.size : Int) := da_
       have hx18 := bt_at a0 (ji15)
       replace p18 := eq_true p18
       replace q18 := eq_true q18
       have p26 : 0 ≤ ((ji15) : Int) := da_
       have q26 : (ji15) < (a0.size : Int) := da_
       have hx26 := bt_at a0 (ji15)
       replace p26 := eq_true p26
       replace q26 := eq_true q26
       go_wp2
       go_ret2
       exact ⟨by first | rfl | (simp; done) | (simp only [← hji15] <;> (first | rfl | simp)) | (simp [*]; done), dr_⟩
      rw [if_neg c37] at H
      have c37b0 := beq_eq_false_iff_ne.mpr c37
      have c37b1 := bne_iff_ne.mpr c37
      simp only [Option.some.injEq, Prod.mk.injEq] at H
      obtain ⟨rfl, rfl⟩ := H
      have p18 : 0 ≤ ((ji15) : Int) := da_
      have q18 : (ji15) < (a0.size : Int) := da_
      have hx18 := bt_at a0 (ji15)
      replace p18 := eq_true p18
      replace q18 := eq_true q18
      have p26 : 0 ≤ ((ji15) : Int) := da_
      have q26 : (ji15) < (a0.size : Int) := da_
      have hx26 := bt_at a0 (ji15)
      replace p26 := eq_true p26
      replace q26 := eq_true q26
      go_wp2
      go_ret2
      exact ⟨by first | rfl | (simp; done) | (simp only [← hji15] <;> (first | rfl | simp)) | (simp [*]; done), dr_⟩
     rw [if_neg c17] at H
     exact absurd H (by simp)
    rw [if_neg c16] at H
    exact absurd H (by simp)
   rw [if_neg c14] at H
   have c14b0 : decide (0 < (a0.size : Int)) = false := decide_eq_false c14
   have c14b1 : decide (0 < a0.size) = false := decide_eq_false (by omega)
   clear c14
   by_cases c38 : a0.toList = ([] : List UInt8)
   ·rw [if_pos c38] at H
    have c38b0 := beq_iff_eq.mpr c38
    have c38b1 := bne_eq_false_iff_eq.mpr c38
    clear c38
    simp only [Option.some.injEq, Prod.mk.injEq] at H
    obtain ⟨rfl, rfl⟩ := H
    go_wp2
    go_ret2
    exact ⟨er_, dr_⟩
   rw [if_neg c38] at H
   have c38b0 := beq_eq_false_iff_ne.mpr c38
   have c38b1 := bne_iff_ne.mpr c38
   by_cases c39 : a0.toList = ([108] : List UInt8)
   ·rw [if_pos c39] at H
    have c39b0 := beq_iff_eq.mpr c39
    have c39b1 := bne_eq_false_iff_eq.mpr c39
    clear c39
    simp only [Option.some.injEq, Prod.mk.injEq] at H
    obtain ⟨rfl, rfl⟩ := H
    go_wp2
    go_ret2
    exact ⟨er_, dr_⟩
   rw [if_neg c39] at H
   have c39b0 := beq_eq_false_iff_ne.mpr c39
   have c39b1 := bne_iff_ne.mpr c39
   by_cases c40 : a0.toList = ([76] : List UInt8)
   ·rw [if_pos c40] at H
    have c40b0 := beq_iff_eq.mpr c40
    have c40b1 := bne_eq_false_iff_eq.mpr c40
    clear c40
    simp only [Option.some.injEq, Prod.mk.injEq] at H
    obtain ⟨rfl, rfl⟩ := H
    go_wp2
    go_ret2
    exact ⟨er_, dr_⟩
   rw [if_neg c40] at H
   have c40b0 := beq_eq_false_iff_ne.mpr c40
   have c40b1 := bne_iff_ne.mpr c40
   by_cases c41 : a0.toList = ([108, 108] : List UInt8)
   ·rw [if_pos c41] at H
    have c41b0 := beq_iff_eq.mpr c41
    have c41b1 := bne_eq_false_iff_eq.mpr c41
    clear c41
    simp only [Option.some.injEq, Prod.mk.injEq] at H
    obtain ⟨rfl, rfl⟩ := H
    go_wp2
    go_ret2
    exact ⟨er_, dr_⟩
   rw [if_neg c41] at H
   have c41b0 := beq_eq_false_iff_ne.mpr c41
   have c41b1 := bne_iff_ne.mpr c41
   simp only [Option.some.injEq, Prod.mk.injEq] at H
   obtain ⟨rfl, rfl⟩ := H
   go_wp2
   go_ret2
   exact ⟨er_, dr_⟩
def regletref04_hex.f (a0 : ByteArray) : Option (Bool) := if (a0.size : Int) > 1 then (if 0 < (a0.size : Int) then (if (bt a0 0) = 48 then (if 1 < (a0.size : Int) then (if (bt a0 1) = 120 then (some true) else (some ((bt a0 1) == 88))) else (none)) else (some false)) else (none)) else (some false)
set_option maxHeartbeats 8000000 in
set_option maxRecDepth 100000 in
theorem regletref04_hex.calls (a0 : ByteArray) (r : Bool) (w : World) (h : regletref04_hex.f a0 = some r) :
  Calls Tryd.prog 34 #[.string a0] w fun e w' => e = .returned (.bool r) ∧ Drawn0 w w' := by
 have H : (if (a0.size : Int) > 1 then (if 0 < (a0.size : Int) then (if (bt a0 0) = 48 then (if 1 < (a0.size : Int) then (if (bt a0 1) = 120 then (some true) else (some ((bt a0 1) == 88))) else (none)) else (some false)) else (none)) else (some false)) = some r := h
 clear h
 by_cases c2 : (a0.size : Int) > 1
 ·rw [if_pos c2] at H
  have c2b0 : decide (1 < (a0.size : Int)) = true := decide_eq_true c2
  have c2b1 : decide (1 < a0.size) = true := decide_eq_true (by omega)
  clear c2
  by_cases c3 : 0 < (a0.size : Int)
  ·rw [if_pos c3] at H
   have c3b0 := decide_eq_true c3
   have c3b1 : decide (0 < a0.size) = true := decide_eq_true (by omega)
   clear c3
   by_cases c5 : (bt a0 0) = 48
   ·rw [if_pos c5] at H
    have c5b0 := beq_iff_eq.mpr c5
    have c5b1 := bne_eq_false_iff_eq.mpr c5
    clear c5
    by_cases c6 : 1 < (a0.size : Int)
    ·rw [if_pos c6] at H
     have c6b0 := decide_eq_true c6
     have c6b1 : decide (1 < a0.size) = true := decide_eq_true (by omega)
     clear c6
     by_cases c8 : (bt a0 1) = 120
     ·rw [if_pos c8] at H
      have c8b0 := beq_iff_eq.mpr c8
      have c8b1 := bne_eq_false_iff_eq.mpr c8
      clear c8
      obtain rfl := Option.some.inj H
      have p4 : 0 ≤ (0 : Int) := (by omega)
      have q4 : 0 < a0.size := (by have : (0 : Int) < (a0.size : Int) := of_decide_eq_true (by first | (with_reducible assumption) | assumption); omega)
      have hx4 : ∀ h : 0 < a0.size, ((a0[0]'h).toNat : Int) = bt a0 0 := bt_at a0 0
      clear p4
      have qi4 : (0 < (a0.size : Int)) = True := eq_true da_
      replace q4 := eq_true q4
      have p7 : 0 ≤ (1 : Int) := (by omega)
      have q7 : 1 < a0.size := (by have : (1 : Int) < (a0.size : Int) := of_decide_eq_true (by first | (with_reducible assumption) | assumption); omega)
      have hx7 : ∀ h : 1 < a0.size, ((a0[1]'h).toNat : Int) = bt a0 1 := bt_at a0 1
      clear p7
      have qi7 : (1 < (a0.size : Int)) = True := eq_true da_
      replace q7 := eq_true q7
      go_enter Tryd.func34, Tryd.ntmps34
      go_wp2
      go_ret
      exact ⟨er_, dr_⟩
     rw [if_neg c8] at H
     have c8b0 := beq_eq_false_iff_ne.mpr c8
     have c8b1 := bne_iff_ne.mpr c8
     obtain rfl := Option.some.inj H
     have p4 : 0 ≤ (0 : Int) := (by omega)
     have q4 : 0 < a0.size := (by have : (0 : Int) < (a0.size : Int) := of_decide_eq_true (by first | (with_reducible assumption) | assumption); omega)
     have hx4 : ∀ h : 0 < a0.size, ((a0[0]'h).toNat : Int) = bt a0 0 := bt_at a0 0
     clear p4
     have qi4 : (0 < (a0.size : Int)) = True := eq_true da_
     replace q4 := eq_true q4
     have p7 : 0 ≤ (1 : Int) := (by omega)
     have q7 : 1 < a0.size := (by have : (1 : Int) < (a0.size : Int) := of_decide_eq_true (by first | (with_reducible assumption) | assumption); omega)
     have hx7 : ∀ h : 1 < a0.size, ((a0[1]'h).toNat : Int) = bt a0 1 := bt_at a0 1
     clear p7
     have qi7 : (1 < (a0.size : Int)) = True := eq_true da_
     replace q7 := eq_true q7
     have p9 : 0 ≤ (1 : Int) := (by omega)
     have q9 : 1 < a0.size := (by have : (1 : Int) < (a0.size : Int) := of_decide_eq_true (by first | (with_reducible assumption) | assumption); omega)
     have hx9 : ∀ h : 1 < a0.size, ((a0[1]'h).toNat : Int) = bt a0 1 := bt_at a0 1
     clear p9
     have qi9 : (1 < (a0.size : Int)) = True := eq_true da_
     replace q9 := eq_true q9
     go_enter Tryd.func34, Tryd.ntmps34
     go_wp2
     go_ret
     exact ⟨er_, dr_⟩
    rw [if_neg c6] at H
    exact absurd H (by simp)
   rw [if_neg c5] at H
   have c5b0 := beq_eq_false_iff_ne.mpr c5
   have c5b1 := bne_iff_ne.mpr c5
   obtain rfl := Option.some.inj H
   have p4 : 0 ≤ (0 : Int) := (by omega)
   have q4 : 0 < a0.size := (by have : (0 : Int) < (a0.size : Int) := of_decide_eq_true (by first | (with_reducible assumption) | assumption); omega)
   have hx4 : ∀ h : 0 < a0.size, ((a0[0]'h).toNat : Int) = bt a0 0 := bt_at a0 0
   clear p4
   have qi4 : (0 < (a0.size : Int)) = True := eq_true da_
   replace q4 := eq_true q4
   go_enter Tryd.func34, Tryd.ntmps34
   go_wp2
   go_ret
   exact ⟨er_, dr_⟩
  rw [if_neg c3] at H
  exact absurd H (by simp)
 rw [if_neg c2] at H
 have c2b0 : decide (1 < (a0.size : Int)) = false := decide_eq_false c2
 have c2b1 : decide (1 < a0.size) = false := decide_eq_false (by omega)
 clear c2
 obtain rfl := Option.some.inj H
 go_enter Tryd.func34, Tryd.ntmps34
 go_wp2
 go_ret
 exact ⟨er_, dr_⟩
end Go.Proofs.YtcdleippdegibaaDoor.PR
