import Derived.Test.YtcdleippdegibaaDoorKM4
import Derived.StillTailTactics
set_option linter.unusedVariables false
set_option linter.unusedSimpArgs false
set_option linter.unusedSectionVars false
namespace Go.Proofs.YtcdleippdegibaaDoor.PR
open Go.RowKit Go.Proofs.YtcdleippdegibaaDoorW.PrintWords Go.Proofs.YtcdleippdegibaaDoorW.PrintLast Go.Proofs.YtcdleippdegibaaDoorW.PrintMore
open Go.Proofs.YtcdleippdegibaaDoor.LibG (SH SH.below SH.drewN SH.drew SH.alloc)
open Go.Proofs.YtcdleippdegibaaDoor.PK
attribute [local go_sem] max2_int min2_int max_two min_two max_three min_three max_four min_four
mutual
def regletref04_elements.j0 : Nat → ByteArray → Int → Int → Option (List Int × Bool)
 | 0, _, _, _ => none
 | k + 1, x0, x1, x6 => if 0 ≤ x1 then (if x1 ≤ (x0.size : Int) then (if (x0.extract 0 (x1 : Int).toNat).toList = ([85] : List UInt8) then (regletref04_elements.j1 k x0 x1 x6 true) else (regletref04_elements.j1 k x0 x1 x6 ((x0.extract 0 (x1 : Int).toNat).toList == ([76] : List UInt8)))) else (none)) else (none)
def regletref04_elements.j1 : Nat → ByteArray → Int → Int → Bool → Option (List Int × Bool)
 | 0, _, _, _, _ => none
 | k + 1, x0, x1, x6, x25 => if x25 = true then (regletref04_elements.j2 k x0 x1 4294967295) else (regletref04_elements.j2 k x0 x1 x6)
def regletref04_elements.j2 : Nat → ByteArray → Int → Int → Option (List Int × Bool)
 | 0, _, _, _ => none
 | k + 1, x0, x1, x6 => if 0 ≤ (wrap64 (x1 + 1)) then (if (wrap64 (x1 + 1)) ≤ (wrap64 ((x0.size : Int) - 1)) then (if (wrap64 ((x0.size : Int) - 1)) ≤ (x0.size : Int) then (regletref04_elements.l0 k x6 (x0.extract ((wrap64 (x1 + 1)) : Int).toNat ((wrap64 ((x0.size : Int) - 1)) : Int).toNat) ([] : List Int) 0) else (none)) else (none)) else (none)
def regletref04_elements.l0 : Nat → Int → ByteArray → List Int → Int → Option (List Int × Bool)
 | 0, _, _, _, _ => none
 | k + 1, x6, x7, x8, x9 => if x9 < (x7.size : Int) then ((regletref04_one.f k x7 x9).bind fun bt166 => (if bt166.2 = 0 then (some (([] : List Int), false)) else (if bt166.1 > x6 then (some (([] : List Int), false)) else (if x8.length < 17592186044416 then (regletref04_elements.l0 k x6 x7 (x8 ++ [bt166.1]) (wrap64 (x9 + bt166.2))) else (none))))) else (some (x8, true))
end
def regletref04_elements.f (k : Nat) (a0 : ByteArray) (a1 : Int) : Option (List Int × Bool) := if 0 ≤ a1 then (if a1 ≤ (a0.size : Int) then (if (a0.extract 0 (a1 : Int).toNat).toList = ([117] : List UInt8) then (regletref04_elements.j0 k a0 a1 65535) else (regletref04_elements.j0 k a0 a1 255)) else (none)) else (none)
theorem regletref04_elements.mono_l : ∀ k, (∀ y0 y1 y2, LeO (regletref04_elements.j0 k y0 y1 y2) (regletref04_elements.j0 (k + 1) y0 y1 y2)) ∧ (∀ y0 y1 y2 y3, LeO (regletref04_elements.j1 k y0 y1 y2 y3) (regletref04_elements.j1 (k + 1) y0 y1 y2 y3)) ∧ (∀ y0 y1 y2, LeO (regletref04_elements.j2 k y0 y1 y2) (regletref04_elements.j2 (k + 1) y0 y1 y2)) ∧ (∀ y0 y1 y2 y3, LeO (regletref04_elements.l0 k y0 y1 y2 y3) (regletref04_elements.l0 (k + 1) y0 y1 y2 y3))
 | 0 => ⟨fun _ _ _ r h => by simp [regletref04_elements.j0] at h, fun _ _ _ _ r h => by simp [regletref04_elements.j1] at h, fun _ _ _ r h => by simp [regletref04_elements.j2] at h, fun _ _ _ _ r h => by simp [regletref04_elements.l0] at h⟩
 | k + 1 => by
  obtain ⟨ih0, ih1, ih2, ih3⟩ := regletref04_elements.mono_l k
  refine ⟨?_, ?_, ?_, ?_⟩
  ·intro y0 y1 y2
   unfold regletref04_elements.j0
   repeat' first
   | (with_reducible exact ih0 _ _ _)
   | (with_reducible exact ih1 _ _ _ _)
   | (with_reducible exact ih2 _ _ _)
   | (with_reducible exact ih3 _ _ _ _)
   | (with_reducible exact regletref04_one.mono _ _ _)
   | (with_reducible exact LeO.refl _)
   | (with_reducible exact LeO.none _)
   | (with_reducible refine LeO.ite ?_ ?_)
   | (with_reducible refine LeO.bind ?_ (fun _ => ?_))
   | exact ih0 _ _ _
   | exact ih1 _ _ _ _
   | exact ih2 _ _ _
   | exact ih3 _ _ _ _
   | exact regletref04_one.mono _ _ _
   | exact LeO.none _
   | refine LeO.ite ?_ ?_
   | refine LeO.bind ?_ (fun _ => ?_)
  ·intro y0 y1 y2 y3
   unfold regletref04_elements.j1
   repeat' first
   | (with_reducible exact ih0 _ _ _)
   | (with_reducible exact ih1 _ _ _ _)
   | (with_reducible exact ih2 _ _ _)
   | (with_reducible exact ih3 _ _ _ _)
   | (with_reducible exact regletref04_one.mono _ _ _)
   | (with_reducible exact LeO.refl _)
   | (with_reducible exact LeO.none _)
   | (with_reducible refine LeO.ite ?_ ?_)
   | (with_reducible refine LeO.bind ?_ (fun _ => ?_))
   | exact ih0 _ _ _
   | exact ih1 _ _ _ _
   | exact ih2 _ _ _
   | exact ih3 _ _ _ _
   | exact regletref04_one.mono _ _ _
   | exact LeO.none _
   | refine LeO.ite ?_ ?_
   | refine LeO.bind ?_ (fun _ => ?_)
  ·intro y0 y1 y2
   unfold regletref04_elements.j2
   repeat' first
   | (with_reducible exact ih0 _ _ _)
   | (with_reducible exact ih1 _ _ _ _)
   | (with_reducible exact ih2 _ _ _)
   | (with_reducible exact ih3 _ _ _ _)
   | (with_reducible exact regletref04_one.mono _ _ _)
   | (with_reducible exact LeO.refl _)
   | (with_reducible exact LeO.none _)
   | (with_reducible refine LeO.ite ?_ ?_)
   | (with_reducible refine LeO.bind ?_ (fun _ => ?_))
   | exact ih0 _ _ _
   | exact ih1 _ _ _ _
   | exact ih2 _ _ _
   | exact ih3 _ _ _ _
   | exact regletref04_one.mono _ _ _
   | exact LeO.none _
   | refine LeO.ite ?_ ?_
   | refine LeO.bind ?_ (fun _ => ?_)
  intro y0 y1 y2 y3
  unfold regletref04_elements.l0
  repeat' first
  | (with_reducible exact ih0 _ _ _)
  | (with_reducible exact ih1 _ _ _ _)
  | (with_reducible exact ih2 _ _ _)
  | (with_reducible exact ih3 _ _ _ _)
  | (with_reducible exact regletref04_one.mono _ _ _)
  | (with_reducible exact LeO.refl _)
  | (with_reducible exact LeO.none _)
  | (with_reducible refine LeO.ite ?_ ?_)
  | (with_reducible refine LeO.bind ?_ (fun _ => ?_))
  | exact ih0 _ _ _
  | exact ih1 _ _ _ _
  | exact ih2 _ _ _
  | exact ih3 _ _ _ _
  | exact regletref04_one.mono _ _ _
  | exact LeO.none _
  | refine LeO.ite ?_ ?_
  | refine LeO.bind ?_ (fun _ => ?_)
theorem regletref04_elements.mono : ∀ a0 a1 k, LeO (regletref04_elements.f k a0 a1) (regletref04_elements.f (k + 1) a0 a1) := by
 intro a0 a1 k
 obtain ⟨ih0, ih1, ih2, ih3⟩ := regletref04_elements.mono_l k
 unfold regletref04_elements.f
 repeat' first
   | (with_reducible exact ih0 _ _ _)
   | (with_reducible exact ih1 _ _ _ _)
   | (with_reducible exact ih2 _ _ _)
   | (with_reducible exact ih3 _ _ _ _)
   | (with_reducible exact regletref04_one.mono _ _ _)
   | (with_reducible exact LeO.refl _)
   | (with_reducible exact LeO.none _)
   | (with_reducible refine LeO.ite ?_ ?_)
   | (with_reducible refine LeO.bind ?_ (fun _ => ?_))
   | exact ih0 _ _ _
   | exact ih1 _ _ _ _
   | exact ih2 _ _ _
   | exact ih3 _ _ _ _
   | exact regletref04_one.mono _ _ _
   | exact LeO.none _
   | refine LeO.ite ?_ ?_
   | refine LeO.bind ?_ (fun _ => ?_)
set_option maxHeartbeats 8000000 in
set_option maxRecDepth 100000 in
theorem regletref04_elements.calls (k : Nat) (a0 : ByteArray) (a1 : Int) (r1 : List Int) (r2 : Bool) (w : World) (h : regletref04_elements.f k a0 a1 = some (r1, r2)) :
  Calls Tryd.prog 58 #[.string a0, .int .i64 a1] w fun e w' => ∃ v0_ : Value, e = .returned (.tuple #[v0_, .bool r2]) ∧ Kd.R (Kd.int .i64) 2 w' w.heap.size (fun _ => True) v0_ r1 ∧ Below w.heap.size w w' := by
 have HB := Aside0.mk (Below.refl w.heap.size w)
 have H : (if 0 ≤ a1 then (if a1 ≤ (a0.size : Int) then (if (a0.extract 0 (a1 : Int).toNat).toList = ([117] : List UInt8) then (regletref04_elements.j0 k a0 a1 65535) else (regletref04_elements.j0 k a0 a1 255)) else (none)) else (none)) = some (r1, r2) := h
 clear h
 by_cases c3 : 0 ≤ a1
 ·rw [if_pos c3] at H
  have c3b0 := eq_true c3
  have c3b1 := decide_eq_true c3
  clear c3
  by_cases c4 : a1 ≤ (a0.size : Int)
  ·rw [if_pos c4] at H
   have c4b0 := eq_true c4
   have c4b1 := decide_eq_true c4
   clear c4
   have HC5 := Aside0.mk H
   clear H
   go_enter Tryd.func58, Tryd.ntmps58
   go_upto_if 15 with (fail)
   go_cut [6] (fun v6 wc => ∃ (kq : Nat) (x6_4 : Int), v6 = .int .i64 x6_4 ∧ Aside0 (regletref04_elements.j0 kq a0 a1 x6_4 = some (r1, r2)) ∧ Aside0 (kq ≤ k) ∧ Aside0 (Below w.heap.size w wc))
   case first =>
    have H := HC5.out
    clear HC5
    by_cases c6 : (a0.extract 0 (a1 : Int).toNat).toList = ([117] : List UInt8)
    ·rw [if_pos c6] at H
     have c6b0 := beq_iff_eq.mpr c6
     have c6b1 := bne_eq_false_iff_eq.mpr c6
     clear c6
     (first | rw [c6b0] | (simp only [i64_w, i32_w]; rw [c6b0]) | skip)
     have H' := Aside0.mk H
     clear H
     go_wp2
     go_meet
     case rel => exact ⟨_, (65535), er_, H', ⟨om_⟩, ⟨bl_⟩⟩
    rw [if_neg c6] at H
    have c6b0 := beq_eq_false_iff_ne.mpr c6
    have c6b1 := bne_iff_ne.mpr c6
    (first | rw [c6b0] | (simp only [i64_w, i32_w]; rw [c6b0]) | skip)
    have H' := Aside0.mk H
    clear H
    go_wp2
    go_meet
    case rel => exact ⟨_, (255), er_, H', ⟨om_⟩, ⟨bl_⟩⟩
   case rest =>
    clear HC5
    try clear p2
    try clear c3
    try clear c3b0
    try clear c3b1
    try clear c4
    try clear c4b0
    try clear c4b1
    try clear c5
    try clear c6
    try clear c6b0
    try clear c6b1
    obtain ⟨kq, x6_4, rfl, HA, HJ4, HB⟩ := hcut
    cases kq with
    | zero => exact absurd HA.out (by simp [regletref04_elements.j0])
    | succ kj4 =>
     have H := HA.out
     clear HA
     simp only [regletref04_elements.j0] at H
     have HC7 := Aside0.mk H
     clear H
     go_upto_region 4 with (fail)
     go_cut [25] (fun v25 wc => ∃ (kq : Nat) (x25_6 : Bool), v25 = .bool x25_6 ∧ Aside0 (regletref04_elements.j1 kq a0 a1 x6_4 x25_6 = some (r1, r2)) ∧ Aside0 (kq ≤ kj4) ∧ Aside0 (Below w.heap.size w wc))
     case first =>
      have H := HC7.out
      clear HC7
      by_cases c8 : 0 ≤ a1
      ·rw [if_pos c8] at H
       have c8b0 := eq_true c8
       have c8b1 := decide_eq_true c8
       clear c8
       by_cases c9 : a1 ≤ (a0.size : Int)
       ·rw [if_pos c9] at H
        have c9b0 := eq_true c9
        have c9b1 := decide_eq_true c9
        clear c9
        by_cases c10 : (a0.extract 0 (a1 : Int).toNat).toList = ([85] : List UInt8)
        ·rw [if_pos c10] at H
         have c10b0 := beq_iff_eq.mpr c10
         have c10b1 := bne_eq_false_iff_eq.mpr c10
         clear c10
         (first | rw [c10b0] | (simp only [i64_w, i32_w]; rw [c10b0]) | skip)
         have H' := Aside0.mk H
         clear H
         go_wp2
         go_meet
         case rel => exact ⟨_, (true), er_, H', ⟨by have := HJ4.out; first | omega | exact Nat.le_refl _⟩, ⟨bl_⟩⟩
        rw [if_neg c10] at H
        have c10b0 := beq_eq_false_iff_ne.mpr c10
        have c10b1 := bne_iff_ne.mpr c10
        (first | rw [c10b0] | (simp only [i64_w, i32_w]; rw [c10b0]) | skip)
        have c11b0 := eq_true (of_decide_eq_true (by first | (with_reducible assumption) | assumption) : 0 ≤ a1)
        have c12b0 := eq_true (of_decide_eq_true (by first | (with_reducible assumption) | assumption) : a1 ≤ (a0.size : Int))
        have H' := Aside0.mk H
        clear H
        go_wp2
        go_meet
        case rel => exact ⟨_, (((a0.extract 0 (a1 : Int).toNat).toList == ([76] : List UInt8))), er_, H', ⟨by have := HJ4.out; first | omega | exact Nat.le_refl _⟩, ⟨bl_⟩⟩
       rw [if_neg c9] at H
       exact absurd H (by simp)
      rw [if_neg c8] at H
      exact absurd H (by simp)
     case rest =>
      clear HC7
      try clear c1
      try clear p2
      try clear c3
      try clear c3b0
      try clear c3b1
      try clear c4
      try clear c4b0
      try clear c4b1
      try clear c5
      try clear c6
      try clear c6b0
      try clear c6b1
      try clear c8
      try clear c8b0
      try clear c8b1
      try clear c9
      try clear c9b0
      try clear c9b1
      try clear c10
      try clear c10b0
      try clear c10b1
      try clear c11
      try clear c11b0
      try clear c12
      try clear c12b0
      try clear p2
      obtain ⟨kq, x25_6, rfl, HA, HJ6, HB⟩ := hcut
      cases kq with
      | zero => exact absurd HA.out (by simp [regletref04_elements.j1])
      | succ kj6 =>
       have H := HA.out
       clear HA
       simp only [regletref04_elements.j1] at H
       have HC13 := Aside0.mk H
       clear H
       go_upto_if 25 with (fail)
       go_cut [6] (fun v6 wc => ∃ (kq : Nat) (x6_12 : Int), v6 = .int .i64 x6_12 ∧ Aside0 (regletref04_elements.j2 kq a0 a1 x6_12 = some (r1, r2)) ∧ Aside0 (kq ≤ kj6) ∧ Aside0 (Below w.heap.size w wc))
       case first =>
        have H := HC13.out
        clear HC13
        by_cases c14 : x25_6 = true
        ·subst c14
         have H1 : (regletref04_elements.j2 kj6 a0 a1 4294967295) = some (r1, r2) := by rw [if_pos rfl] at H; exact H
         clear H
         have H := H1
         clear H1
         have H' := Aside0.mk H
         clear H
         go_wp2
         go_meet
         case rel => exact ⟨_, (4294967295), er_, H', ⟨by have := HJ4.out; have := HJ6.out; first | omega | exact Nat.le_refl _⟩, ⟨bl_⟩⟩
        replace c14 := Bool.eq_false_iff.mpr c14
        subst c14
        have H1 : (regletref04_elements.j2 kj6 a0 a1 x6_4) = some (r1, r2) := by rw [if_neg (show ¬ (false = true) by decide)] at H; exact H
        clear H
        have H := H1
        clear H1
        have H' := Aside0.mk H
        clear H
        go_wp2
        go_meet
        case rel => exact ⟨_, (x6_4), er_, H', ⟨by have := HJ4.out; have := HJ6.out; first | omega | exact Nat.le_refl _⟩, ⟨bl_⟩⟩
       case rest =>
        clear HC13
        try clear c1
        try clear p2
        try clear c3
        try clear c3b0
        try clear c3b1
        try clear c4
        try clear c4b0
        try clear c4b1
        try clear c5
        try clear c6
        try clear c6b0
        try clear c6b1
        try clear c8
        try clear c8b0
        try clear c8b1
        try clear c9
        try clear c9b0
        try clear c9b1
        try clear c10
        try clear c10b0
        try clear c10b1
        try clear c11
        try clear c11b0
        try clear c12
        try clear c12b0
        try clear c14
        try clear p2
        obtain ⟨kq, x6_12, rfl, HA, HJ12, HB⟩ := hcut
        cases kq with
        | zero => exact absurd HA.out (by simp [regletref04_elements.j2])
        | succ kj12 =>
         have H := HA.out
         clear HA
         simp only [regletref04_elements.j2] at H
         obtain ⟨ji15, hji15⟩ : ∃ j_ : Int, (wrap64 (a1 + 1)) = j_ := ⟨_, rfl⟩
         replace H : (if 0 ≤ (ji15) then (if (ji15) ≤ (wrap64 ((a0.size : Int) - 1)) then (if (wrap64 ((a0.size : Int) - 1)) ≤ (a0.size : Int) then (regletref04_elements.l0 kj12 x6_12 (a0.extract ((ji15) : Int).toNat ((wrap64 ((a0.size : Int) - 1)) : Int).toNat) ([] : List Int) 0) else (none)) else (none)) else (none)) = some (r1, r2) := by first | (rw [hji15] at H; exact H) | (simp only [hji15] at H ⊢; exact H)
         have hji15w : (IntKind.i64.wrap (a1 + 1)) = ji15 := (i64_w _).trans hji15
         by_cases c16 : 0 ≤ (ji15)
         ·rw [if_pos c16] at H
          have c16b0 := eq_true c16
          have c16b1 := decide_eq_true c16
          clear c16
          by_cases c17 : (ji15) ≤ (wrap64 ((a0.size : Int) - 1))
          ·rw [if_pos c17] at H
           have c17b0 := eq_true c17
           have c17b1 := decide_eq_true c17
           clear c17
           by_cases c18 : (wrap64 ((a0.size : Int) - 1)) ≤ (a0.size : Int)
           ·rw [if_pos c18] at H
            have c18b0 := eq_true c18
            have c18b1 := decide_eq_true c18
            clear c18
            have H' := Aside0.mk H
            clear H
            go_wp2
            obtain ⟨y3, hy3⟩ : ∃ y_ : ByteArray, (a0.extract ((ji15) : Int).toNat ((wrap64 ((a0.size : Int) - 1)) : Int).toNat) = y_ := ⟨_, rfl⟩
            have hc_ := H'.out
            clear H'
            simp only [hy3] at hc_
            simp only [i64_w, hy3]
            have H' := Aside0.mk hc_
            clear hc_
            go_loopg [8, 9] kj12 (fun kq v8 v9 w' => ∃ (x8_4 : List Int) (x9_4 : Int), v9 = .int .i64 x9_4 ∧ Aside0 (regletref04_elements.l0 kq x6_12 y3 x8_4 x9_4 = some (r1, r2)) ∧ Aside0 (kq ≤ kj12) ∧ Aside0 (Kd.R (Kd.int .i64) 2 w' w.heap.size (fun _ => True) v8 x8_4) ∧ Aside0 (Below w.heap.size w w'))
            case atStart => exact ⟨(([] : List Int)), (0), er_, H', ⟨Nat.le_refl _⟩, ⟨by first | exact Kd.R_nil _ _ _ _ _ | exact Kd.N_nil _ _ _ _ _ | exact Kd.V_nil _ _ _ _ _ | exact Kd.Q_nil _ _ _ _ _ | exact Kd.S_nil _ _ _ _ _⟩, ⟨bl_⟩⟩
            case round =>
             clear H'
             try clear c1
             try clear p2
             try clear c3
             try clear c3b0
             try clear c3b1
             try clear c4
             try clear c4b0
             try clear c4b1
             try clear c5
             try clear c6
             try clear c6b0
             try clear c6b1
             try clear p6
             try clear c8
             try clear c8b0
             try clear c8b1
             try clear c9
             try clear c9b0
             try clear c9b1
             try clear c10
             try clear c10b0
             try clear c10b1
             try clear c11
             try clear c11b0
             try clear c12
             try clear c12b0
             try clear c14
             try clear c16
             try clear c16b0
             try clear c16b1
             try clear c17
             try clear c17b0
             try clear c17b1
             try clear c18
             try clear c18b0
             try clear c18b1
             try clear p2
             obtain ⟨x8_4, x9_4, rfl, HA, HK4, HO_8, HB⟩ := hrel
             cases gk with
             | zero => exact absurd HA.out (by simp [regletref04_elements.l0])
             | succ k4 =>
              have H := HA.out
              clear HA
              simp only [regletref04_elements.l0] at H
              by_cases c19 : x9_4 < (y3.size : Int)
              ·rw [if_pos c19] at H
               have c19b0 := decide_eq_true c19
               clear c19
               replace H := Option.bind_eq_some_iff.mp H
               obtain ⟨⟨t166, t167⟩, A200, H⟩ := H
               replace H : (if t167 = 0 then (some (([] : List Int), false)) else (if t166 > x6_12 then (some (([] : List Int), false)) else (if x8_4.length < 17592186044416 then (regletref04_elements.l0 k4 x6_12 y3 (x8_4 ++ [t166]) (wrap64 (x9_4 + t167))) else (none)))) = some (r1, r2) := H
               have A20 := Aside0.mk A200
               clear A200
               by_cases c21 : t167 = 0
               ·rw [if_pos c21] at H
                have c21b0 := beq_iff_eq.mpr c21
                have c21b1 := bne_eq_false_iff_eq.mpr c21
                clear c21
                simp only [Option.some.injEq, Prod.mk.injEq] at H
                obtain ⟨rfl, rfl⟩ := H
                go_wp2_with (first | ((with_reducible refine gate_callee (f := 71) rfl ?_); refine goesL_ (some 40) rfl rfl Tryd.func71 (by kernel_rfl) rfl #[.string y3, .int .i64 x9_4] rfl (by (try simp only [List.map_toArray, List.map_cons, List.map_nil]); first | done | (simp only [hji15]; rfl) | rfl | (simp only [List.length_drop, List.length_take]; rfl)) ?_; (with_reducible refine (regletref04_one.calls k4 y3 x9_4 t166 t167 _ A20.out).mono ?_); rintro e w22 ⟨rfl, hb⟩; refine ⟨_, rfl, ?_⟩; have n0_ := Aside0.mk (Kd.R_below (by (with_reducible repeat (first | apply Kd.R_alloc | apply Kd.R_drewN | apply Kd.R_drew)); exact HO_8.out) hb); have n1_ := Aside0.mk (below_step bl_ hb); clear HO_8; clear HB; have HO_8 := n0_; have HB := n1_; clear n0_ n1_; (try clear hb); (try clear hb2); (try clear hk); (try clear hi)))
                go_ret2
                exact ⟨_, by first | rfl | (simp [errW_none, errW_some] <;> rfl) | (simp only [← hji15]; first | rfl | (simp [errW_none, errW_some] <;> rfl)) | (simp [*, errW_none, errW_some] <;> rfl), by first | exact Kd.R_nil _ _ _ _ _ | exact Kd.N_nil _ _ _ _ _ | exact Kd.V_nil _ _ _ _ _ | exact Kd.Q_nil _ _ _ _ _ | exact Kd.S_nil _ _ _ _ _, bl_⟩
               rw [if_neg c21] at H
               have c21b0 := beq_eq_false_iff_ne.mpr c21
               have c21b1 := bne_iff_ne.mpr c21
               by_cases c23 : t166 > x6_12
               ·rw [if_pos c23] at H
                have c23b0 : decide (x6_12 < t166) = true := decide_eq_true c23
                clear c23
                simp only [Option.some.injEq, Prod.mk.injEq] at H
                obtain ⟨rfl, rfl⟩ := H
                go_wp2_with (first | ((with_reducible refine gate_callee (f := 71) rfl ?_); refine goesL_ (some 40) rfl rfl Tryd.func71 (by kernel_rfl) rfl #[.string y3, .int .i64 x9_4] rfl (by (try simp only [List.map_toArray, List.map_cons, List.map_nil]); first | done | (simp only [hji15]; rfl) | rfl | (simp only [List.length_drop, List.length_take]; rfl)) ?_; (with_reducible refine (regletref04_one.calls k4 y3 x9_4 t166 t167 _ A20.out).mono ?_); rintro e w24 ⟨rfl, hb⟩; refine ⟨_, rfl, ?_⟩; have n0_ := Aside0.mk (Kd.R_below (by (with_reducible repeat (first | apply Kd.R_alloc | apply Kd.R_drewN | apply Kd.R_drew)); exact HO_8.out) hb); have n1_ := Aside0.mk (below_step bl_ hb); clear HO_8; clear HB; have HO_8 := n0_; have HB := n1_; clear n0_ n1_; (try clear hb); (try clear hb2); (try clear hk); (try clear hi)))
                go_ret2
                exact ⟨_, by first | rfl | (simp [errW_none, errW_some] <;> rfl) | (simp only [← hji15]; first | rfl | (simp [errW_none, errW_some] <;> rfl)) | (simp [*, errW_none, errW_some] <;> rfl), by first | exact Kd.R_nil _ _ _ _ _ | exact Kd.N_nil _ _ _ _ _ | exact Kd.V_nil _ _ _ _ _ | exact Kd.Q_nil _ _ _ _ _ | exact Kd.S_nil _ _ _ _ _, bl_⟩
               rw [if_neg c23] at H
               have c23b0 : decide (x6_12 < t166) = false := decide_eq_false c23
               clear c23
               by_cases c25 : x8_4.length < 17592186044416
               ·rw [if_pos c25] at H
                have LMc25 := Aside0.mk c25
                clear c25
                obtain ⟨y168, hy168⟩ : ∃ y_ : List Int, y_ = (x8_4 ++ [t166]) := ⟨_, rfl⟩
                replace H : (regletref04_elements.l0 k4 x6_12 y3 y168 (wrap64 (x9_4 + t167))) = some (r1, r2) := by first | (rw [hy168]; with_reducible exact H) | (have H2_ := (Option.bind_some _ _).symm.trans H; rw [hy168]; with_reducible exact H2_) | (have H2_ := (Option.bind_some _ _).symm.trans H; with_reducible exact H2_) | with_reducible exact H | (rw [hy168]; exact H) | exact H
                have Ny168 := Aside0.mk hy168
                clear hy168
                have H' := Aside0.mk H
                clear H
                go_wp2_with (first | ((with_reducible refine gate_callee (f := 71) rfl ?_); refine goesL_ (some 40) rfl rfl Tryd.func71 (by kernel_rfl) rfl #[.string y3, .int .i64 x9_4] rfl (by (try simp only [List.map_toArray, List.map_cons, List.map_nil]); first | done | (simp only [hji15]; rfl) | rfl | (simp only [List.length_drop, List.length_take]; rfl)) ?_; (with_reducible refine (regletref04_one.calls k4 y3 x9_4 t166 t167 _ A20.out).mono ?_); rintro e w26 ⟨rfl, hb⟩; refine ⟨_, rfl, ?_⟩; have n0_ := Aside0.mk (Kd.R_below (by (with_reducible repeat (first | apply Kd.R_alloc | apply Kd.R_drewN | apply Kd.R_drew)); exact HO_8.out) hb); have n1_ := Aside0.mk (below_step bl_ hb); clear HO_8; clear HB; have HO_8 := n0_; have HB := n1_; clear n0_ n1_; (try clear hb); (try clear hb2); (try clear hk); (try clear hi)) | ((with_reducible refine gate_builtin (b := .append) (xs := #[.tmp 50, .tmp 52]) rfl ?_); at_builtin; refine Kd.R_append (Kd.int .i64) (w0 := w) w.heap.size rfl (.tmp 50) (.tmp 52) 38 2 (.int .i64 0) 8 rfl Tryd.underlying38 info2 rfl (by decide) (by omega) u8 x8_4 t166 [.int .i64 t166] (fun _ => True) (fun _ => False) rfl rfl ?aP (fun _ hk => hk.elim) ?aF ?aO ?aB ?aS ?aL ?_; (case aP => exact rfl); (case aB => exact bl_); (case aF => exact (fun _ _ => trivial)); (case aO => exact (by (with_reducible repeat (first | apply Kd.R_alloc | apply Kd.R_drewN | apply Kd.R_drew)); exact HO_8.out)); (case aS => exact (below_size bl_)); (case aL => have := LMc25.out; omega); intro v169 w27 ho hb hg hat; rw [← Ny168.out] at ho; have n0_ := Aside0.mk (hb); have n1_ := Aside0.mk (ho); clear HB; clear HO_8; have HB := n0_; have HO170 := n1_; clear n0_ n1_; clear ho hb hg hat))
                go_roundg k4
                case measure => have := HJ4.out; have := HJ6.out; have := HJ12.out; have := HK4.out; omega
                case rel => exact ⟨(y168), (wrap64 (x9_4 + t167)), er_, H', ⟨by have := HJ4.out; have := HJ6.out; have := HJ12.out; have := HK4.out; omega⟩, ⟨by (with_reducible repeat (first | apply Kd.R_alloc | apply Kd.R_drewN | apply Kd.R_drew)); exact HO170.out⟩, ⟨bl_⟩⟩
               rw [if_neg c25] at H
               exact absurd H (by simp)
              rw [if_neg c19] at H
              have c19b0 := decide_eq_false c19
              clear c19
              simp only [Option.some.injEq, Prod.mk.injEq] at H
              obtain ⟨rfl, rfl⟩ := H
              go_wp2
              go_ret2
              exact ⟨_, by first | rfl | (simp [errW_none, errW_some] <;> rfl) | (simp only [← hji15]; first | rfl | (simp [errW_none, errW_some] <;> rfl)) | (simp [*, errW_none, errW_some] <;> rfl), by (with_reducible repeat (first | apply Kd.R_alloc | apply Kd.R_drewN | apply Kd.R_drew)); exact HO_8.out, bl_⟩
           rw [if_neg c18] at H
           exact absurd H (by simp)
          rw [if_neg c17] at H
          exact absurd H (by simp)
         rw [if_neg c16] at H
         exact absurd H (by simp)
  rw [if_neg c4] at H
  exact absurd H (by simp)
 rw [if_neg c3] at H
 exact absurd H (by simp)
def regletref02_letter.f (a0 : Int) : Option (Bool) := if a0 = 95 then (some true) else (if a0 ≥ 97 then (if a0 ≤ 122 then (some true) else (if a0 ≥ 65 then (some (decide (a0 ≤ 90))) else (some false))) else (if a0 ≥ 65 then (some (decide (a0 ≤ 90))) else (some false)))
set_option maxHeartbeats 8000000 in
set_option maxRecDepth 100000 in
theorem regletref02_letter.calls (a0 : Int) (r : Bool) (w : World) (h : regletref02_letter.f a0 = some r) :
  Calls Tryd.prog 104 #[.int .u8 a0] w fun e w' => e = .returned (.bool r) ∧ Drawn0 w w' := by
 have H : (if a0 = 95 then (some true) else (if a0 ≥ 97 then (if a0 ≤ 122 then (some true) else (if a0 ≥ 65 then (some (decide (a0 ≤ 90))) else (some false))) else (if a0 ≥ 65 then (some (decide (a0 ≤ 90))) else (some false)))) = some r := h
 clear h
 by_cases c2 : a0 = 95
 ·rw [if_pos c2] at H
  have c2b0 := beq_iff_eq.mpr c2
  have c2b1 := bne_eq_false_iff_eq.mpr c2
  clear c2
  obtain rfl := Option.some.inj H
  go_enter Tryd.func104, Tryd.ntmps104
  go_wp2
  go_ret
  exact ⟨er_, dr_⟩
 rw [if_neg c2] at H
 have c2b0 := beq_eq_false_iff_ne.mpr c2
 have c2b1 := bne_iff_ne.mpr c2
 by_cases c3 : a0 ≥ 97
 ·rw [if_pos c3] at H
  have c3b0 : decide (97 ≤ a0) = true := decide_eq_true c3
  clear c3
  by_cases c4 : a0 ≤ 122
  ·rw [if_pos c4] at H
   have c4b0 := decide_eq_true c4
   clear c4
   obtain rfl := Option.some.inj H
   go_enter Tryd.func104, Tryd.ntmps104
   go_wp2
   go_ret
   exact ⟨er_, dr_⟩
  rw [if_neg c4] at H
  have c4b0 := decide_eq_false c4
  clear c4
  by_cases c5 : a0 ≥ 65
  ·rw [if_pos c5] at H
   have c5b0 : decide (65 ≤ a0) = true := decide_eq_true c5
   clear c5
   obtain rfl := Option.some.inj H
   go_enter Tryd.func104, Tryd.ntmps104
   go_wp2
   go_ret
   exact ⟨er_, dr_⟩
  rw [if_neg c5] at H
  have c5b0 : decide (65 ≤ a0) = false := decide_eq_false c5
  clear c5
  obtain rfl := Option.some.inj H
  go_enter Tryd.func104, Tryd.ntmps104
  go_wp2
  go_ret
  exact ⟨er_, dr_⟩
 rw [if_neg c3] at H
 have c3b0 : decide (97 ≤ a0) = false := decide_eq_false c3
 clear c3
 by_cases c6 : a0 ≥ 65
 ·rw [if_pos c6] at H
  have c6b0 : decide (65 ≤ a0) = true := decide_eq_true c6
  clear c6
  obtain rfl := Option.some.inj H
  go_enter Tryd.func104, Tryd.ntmps104
  go_wp2
  go_ret
  exact ⟨er_, dr_⟩
 rw [if_neg c6] at H
 have c6b0 : decide (65 ≤ a0) = false := decide_eq_false c6
 clear c6
 obtain rfl := Option.some.inj H
 go_enter Tryd.func104, Tryd.ntmps104
 go_wp2
 go_ret
 exact ⟨er_, dr_⟩
def regletref02_digit.f (a0 : Int) : Option (Bool) := if a0 ≥ 48 then (some (decide (a0 ≤ 57))) else (some false)
set_option maxHeartbeats 8000000 in
set_option maxRecDepth 100000 in
theorem regletref02_digit.calls (a0 : Int) (r : Bool) (w : World) (h : regletref02_digit.f a0 = some r) :
  Calls Tryd.prog 105 #[.int .u8 a0] w fun e w' => e = .returned (.bool r) ∧ Drawn0 w w' := by
 have H : (if a0 ≥ 48 then (some (decide (a0 ≤ 57))) else (some false)) = some r := h
 clear h
 by_cases c2 : a0 ≥ 48
 ·rw [if_pos c2] at H
  have c2b0 : decide (48 ≤ a0) = true := decide_eq_true c2
  clear c2
  obtain rfl := Option.some.inj H
  go_enter Tryd.func105, Tryd.ntmps105
  go_wp2
  go_ret
  exact ⟨er_, dr_⟩
 rw [if_neg c2] at H
 have c2b0 : decide (48 ≤ a0) = false := decide_eq_false c2
 clear c2
 obtain rfl := Option.some.inj H
 go_enter Tryd.func105, Tryd.ntmps105
 go_wp2
 go_ret
 exact ⟨er_, dr_⟩
def regletref02_IsWord.l0 : Nat → ByteArray → Int → Option (Bool)
 | 0, _, _ => none
 | k + 1, x0, x3 => if x3 < (x0.size : Int) then (if 0 ≤ x3 then ((regletref02_letter.f (bt x0 x3)).bind fun t114 => (if t114 = true then (regletref02_IsWord.l0 k x0 (wrap64 (x3 + 1))) else (if x3 = 0 then (some false) else ((regletref02_digit.f (bt x0 x3)).bind fun t115 => (if t115 = true then (regletref02_IsWord.l0 k x0 (wrap64 (x3 + 1))) else (some false)))))) else (none)) else (some (decide ((x0.size : Int) > 0)))
def regletref02_IsWord.f (k : Nat) (a0 : ByteArray) : Option (Bool) := regletref02_IsWord.l0 k a0 0
theorem regletref02_IsWord.mono_l : ∀ k, (∀ y0 y1, LeO (regletref02_IsWord.l0 k y0 y1) (regletref02_IsWord.l0 (k + 1) y0 y1))
 | 0 => fun _ _ r h => by simp [regletref02_IsWord.l0] at h
 | k + 1 => by
  have ih0 := regletref02_IsWord.mono_l k
  intro y0 y1
  unfold regletref02_IsWord.l0
  repeat' first
  | (with_reducible exact ih0 _ _)
  | (with_reducible exact LeO.refl _)
  | (with_reducible exact LeO.none _)
  | (with_reducible refine LeO.ite ?_ ?_)
  | (with_reducible refine LeO.bind ?_ (fun _ => ?_))
  | exact ih0 _ _
  | exact LeO.none _
  | refine LeO.ite ?_ ?_
  | refine LeO.bind ?_ (fun _ => ?_)
theorem regletref02_IsWord.mono : ∀ a0 k, LeO (regletref02_IsWord.f k a0) (regletref02_IsWord.f (k + 1) a0) := by
 intro a0 k
 have ih0 := regletref02_IsWord.mono_l k
 unfold regletref02_IsWord.f
 repeat' first
   | (with_reducible exact ih0 _ _)
   | (with_reducible exact LeO.refl _)
   | (with_reducible exact LeO.none _)
   | (with_reducible refine LeO.ite ?_ ?_)
   | (with_reducible refine LeO.bind ?_ (fun _ => ?_))
   | exact ih0 _ _
   | exact LeO.none _
   | refine LeO.ite ?_ ?_
   | refine LeO.bind ?_ (fun _ => ?_)
set_option maxHeartbeats 8000000 in
set_option maxRecDepth 100000 in
theorem regletref02_IsWord.calls (k : Nat) (a0 : ByteArray) (r : Bool) (w : World) (h : regletref02_IsWord.f k a0 = some r) :
  Calls Tryd.prog 100 #[.string a0] w fun e w' => e = .returned (.bool r) ∧ Drawn0 w w' := by
 have H : (regletref02_IsWord.l0 k a0 0) = some r := h
 clear h
 have H' := Aside0.mk H
 clear H
 go_enter Tryd.func100, Tryd.ntmps100
 go_wp2
 go_loopg [3] k (fun kq v3 w' => ∃ (x3_1 : Int), v3 = .int .i64 x3_1 ∧ Aside0 (regletref02_IsWord.l0 kq a0 x3_1 = some r) ∧ Aside0 (kq ≤ k) ∧ Drawn0 w w')
 case atStart => exact ⟨(0), er_, H', ⟨Nat.le_refl _⟩, dr_⟩
 case round =>
  clear H'
  try clear c1
  obtain ⟨x3_1, rfl, HA, HK1, ⟨m1, rfl⟩⟩ := hrel
  cases gk with
  | zero => exact absurd HA.out (by simp [regletref02_IsWord.l0])
  | succ k1 =>
   have H := HA.out
   clear HA
   simp only [regletref02_IsWord.l0] at H
   by_cases c2 : x3_1 < (a0.size : Int)
   ·rw [if_pos c2] at H
    have c2b0 := decide_eq_true c2
    clear c2
    by_cases c3 : 0 ≤ x3_1
    ·rw [if_pos c3] at H
     have c3b0 := decide_eq_true c3
     clear c3
     replace H := Option.bind_eq_some_iff.mp H
     obtain ⟨t114, A50, H⟩ := H
     replace H : (if t114 = true then (regletref02_IsWord.l0 k1 a0 (wrap64 (x3_1 + 1))) else (if x3_1 = 0 then (some false) else ((regletref02_digit.f (bt a0 x3_1)).bind fun t115 => (if t115 = true then (regletref02_IsWord.l0 k1 a0 (wrap64 (x3_1 + 1))) else (some false))))) = some r := H
     have A5 := Aside0.mk A50
     clear A50
     by_cases c6 : t114 = true
     ·subst c6
      have H1 : (regletref02_IsWord.l0 k1 a0 (wrap64 (x3_1 + 1))) = some r := by rw [if_pos rfl] at H; exact H
      clear H
      have H := H1
      clear H1
      have H' := Aside0.mk H
      clear H
      have p4 : 0 ≤ (x3_1 : Int) := da_
      have q4 : x3_1 < (a0.size : Int) := da_
      have hx4 := bt_at a0 x3_1
      replace p4 := eq_true p4
      replace q4 := eq_true q4
      go_wp2_with (first | ((with_reducible refine gate_callee (f := 104) rfl ?_); refine goesL_ (some 13) rfl rfl Tryd.func104 (by kernel_rfl) rfl #[.int .u8 (bt a0 x3_1)] rfl ar_ ?_; (with_reducible refine (regletref02_letter.calls (bt a0 x3_1) true _ A5.out).mono ?_); rintro e w' ⟨rfl, ⟨nd, rfl⟩⟩; refine ⟨_, rfl, ?_⟩))
      go_roundg k1
      case measure => have := HK1.out; omega
      case rel => exact ⟨(wrap64 (x3_1 + 1)), er_, H', ⟨by have := HK1.out; omega⟩, dr_⟩
     replace c6 := Bool.eq_false_iff.mpr c6
     subst c6
     have H1 : (if x3_1 = 0 then (some false) else ((regletref02_digit.f (bt a0 x3_1)).bind fun t115 => (if t115 = true then (regletref02_IsWord.l0 k1 a0 (wrap64 (x3_1 + 1))) else (some false)))) = some r := by rw [if_neg (show ¬ (false = true) by decide)] at H; exact H
     clear H
     have H := H1
     clear H1
     by_cases c7 : x3_1 = 0
     ·rw [if_pos c7] at H
      have c7b0 := beq_iff_eq.mpr c7
      have c7b1 := bne_eq_false_iff_eq.mpr c7
      clear c7
      obtain rfl := Option.some.inj H
      have p4 : 0 ≤ (x3_1 : Int) := da_
      have q4 : x3_1 < (a0.size : Int) := da_
      have hx4 := bt_at a0 x3_1
      replace p4 := eq_true p4
      replace q4 := eq_true q4
      go_wp2_with (first | ((with_reducible refine gate_callee (f := 104) rfl ?_); refine goesL_ (some 13) rfl rfl Tryd.func104 (by kernel_rfl) rfl #[.int .u8 (bt a0 x3_1)] rfl ar_ ?_; (with_reducible refine (regletref02_letter.calls (bt a0 x3_1) false _ A5.out).mono ?_); rintro e w' ⟨rfl, ⟨nd, rfl⟩⟩; refine ⟨_, rfl, ?_⟩))
      go_ret
      exact ⟨er_, dr_⟩
     rw [if_neg c7] at H
     have c7b0 := beq_eq_false_iff_ne.mpr c7
     have c7b1 := bne_iff_ne.mpr c7
     replace H := Option.bind_eq_some_iff.mp H
     obtain ⟨t115, A90, H⟩ := H
     replace H : (if t115 = true then (regletref02_IsWord.l0 k1 a0 (wrap64 (x3_1 + 1))) else (some false)) = some r := H
     have A9 := Aside0.mk A90
     clear A90
     by_cases c10 : t115 = true
     ·subst c10
      have H1 : (regletref02_IsWord.l0 k1 a0 (wrap64 (x3_1 + 1))) = some r := by rw [if_pos rfl] at H; exact H
      clear H
      have H := H1
      clear H1
      have H' := Aside0.mk H
      clear H
      have p4 : 0 ≤ (x3_1 : Int) := da_
      have q4 : x3_1 < (a0.size : Int) := da_
      have hx4 := bt_at a0 x3_1
      replace p4 := eq_true p4
      replace q4 := eq_true q4
      go_wp2_with (first | ((with_reducible refine gate_callee (f := 104) rfl ?_); refine goesL_ (some 13) rfl rfl Tryd.func104 (by kernel_rfl) rfl #[.int .u8 (bt a0 x3_1)] rfl ar_ ?_; (with_reducible refine (regletref02_letter.calls (bt a0 x3_1) false _ A5.out).mono ?_); rintro e w' ⟨rfl, ⟨nd, rfl⟩⟩; refine ⟨_, rfl, ?_⟩; have p8 : 0 ≤ (x3_1 : Int) := of_decide_eq_true (by first | (with_reducible assumption) | assumption); have q8 : x3_1 < (a0.size : Int) := of_decide_eq_true (by first | (with_reducible assumption) | assumption); have hx8 := bt_at a0 x3_1; replace p8 := eq_true p8; replace q8 := eq_true q8) | (go_at_call 105; (with_reducible refine (regletref02_digit.calls (bt a0 x3_1) true _ A9.out).mono ?_); rintro e w' ⟨rfl, ⟨nd, rfl⟩⟩))
      go_roundg k1
      case measure => have := HK1.out; omega
      case rel => exact ⟨(wrap64 (x3_1 + 1)), er_, H', ⟨by have := HK1.out; omega⟩, dr_⟩
     replace c10 := Bool.eq_false_iff.mpr c10
     subst c10
     have H1 : (some false) = some r := by rw [if_neg (show ¬ (false = true) by decide)] at H; exact H
     clear H
     have H := H1
     clear H1
     obtain rfl := Option.some.inj H
     have p4 : 0 ≤ (x3_1 : Int) := da_
     have q4 : x3_1 < (a0.size : Int) := da_
     have hx4 := bt_at a0 x3_1
     replace p4 := eq_true p4
     replace q4 := eq_true q4
     go_wp2_with (first | ((with_reducible refine gate_callee (f := 104) rfl ?_); refine goesL_ (some 13) rfl rfl Tryd.func104 (by kernel_rfl) rfl #[.int .u8 (bt a0 x3_1)] rfl ar_ ?_; (with_reducible refine (regletref02_letter.calls (bt a0 x3_1) false _ A5.out).mono ?_); rintro e w' ⟨rfl, ⟨nd, rfl⟩⟩; refine ⟨_, rfl, ?_⟩; have p8 : 0 ≤ (x3_1 : Int) := of_decide_eq_true (by first | (with_reducible assumption) | assumption); have q8 : x3_1 < (a0.size : Int) := of_decide_eq_true (by first | (with_reducible assumption) | assumption); have hx8 := bt_at a0 x3_1; replace p8 := eq_true p8; replace q8 := eq_true q8) | (go_at_call 105; (with_reducible refine (regletref02_digit.calls (bt a0 x3_1) false _ A9.out).mono ?_); rintro e w' ⟨rfl, ⟨nd, rfl⟩⟩))
     go_ret
     exact ⟨er_, dr_⟩
    rw [if_neg c3] at H
    exact absurd H (by simp)
   rw [if_neg c2] at H
   have c2b0 := decide_eq_false c2
   clear c2
   obtain rfl := Option.some.inj H
   go_wp2
   go_ret
   exact ⟨er_, dr_⟩
def regletref02_sign.f (a0 : Int) : Option (Bool) := if a0 = 43 then (some true) else (some (a0 == 45))
set_option maxHeartbeats 8000000 in
set_option maxRecDepth 100000 in
theorem regletref02_sign.calls (a0 : Int) (r : Bool) (w : World) (h : regletref02_sign.f a0 = some r) :
  Calls Tryd.prog 106 #[.int .u8 a0] w fun e w' => e = .returned (.bool r) ∧ Drawn0 w w' := by
 have H : (if a0 = 43 then (some true) else (some (a0 == 45))) = some r := h
 clear h
 by_cases c2 : a0 = 43
 ·rw [if_pos c2] at H
  have c2b0 := beq_iff_eq.mpr c2
  have c2b1 := bne_eq_false_iff_eq.mpr c2
  clear c2
  obtain rfl := Option.some.inj H
  go_enter Tryd.func106, Tryd.ntmps106
  go_wp2
  go_ret
  exact ⟨er_, dr_⟩
 rw [if_neg c2] at H
 have c2b0 := beq_eq_false_iff_ne.mpr c2
 have c2b1 := bne_iff_ne.mpr c2
 obtain rfl := Option.some.inj H
 go_enter Tryd.func106, Tryd.ntmps106
 go_wp2
 go_ret
 exact ⟨er_, dr_⟩
def regletref02_expo.f (a0 : Int) : Option (Bool) := if a0 = 101 then (some true) else (if a0 = 69 then (some true) else (if a0 = 112 then (some true) else (some (a0 == 80))))
set_option maxHeartbeats 8000000 in
set_option maxRecDepth 100000 in
theorem regletref02_expo.calls (a0 : Int) (r : Bool) (w : World) (h : regletref02_expo.f a0 = some r) :
  Calls Tryd.prog 107 #[.int .u8 a0] w fun e w' => e = .returned (.bool r) ∧ Drawn0 w w' := by
 have H : (if a0 = 101 then (some true) else (if a0 = 69 then (some true) else (if a0 = 112 then (some true) else (some (a0 == 80))))) = some r := h
 clear h
 by_cases c2 : a0 = 101
 ·rw [if_pos c2] at H
  have c2b0 := beq_iff_eq.mpr c2
  have c2b1 := bne_eq_false_iff_eq.mpr c2
  clear c2
  obtain rfl := Option.some.inj H
  go_enter Tryd.func107, Tryd.ntmps107
  go_wp2
  go_ret
  exact ⟨er_, dr_⟩
 rw [if_neg c2] at H
 have c2b0 := beq_eq_false_iff_ne.mpr c2
 have c2b1 := bne_iff_ne.mpr c2
 by_cases c3 : a0 = 69
 ·rw [if_pos c3] at H
  have c3b0 := beq_iff_eq.mpr c3
  have c3b1 := bne_eq_false_iff_eq.mpr c3
  clear c3
  obtain rfl := Option.some.inj H
  go_enter Tryd.func107, Tryd.ntmps107
  go_wp2
  go_ret
  exact ⟨er_, dr_⟩
 rw [if_neg c3] at H
 have c3b0 := beq_eq_false_iff_ne.mpr c3
 have c3b1 := bne_iff_ne.mpr c3
 by_cases c4 : a0 = 112
 ·rw [if_pos c4] at H
  have c4b0 := beq_iff_eq.mpr c4
  have c4b1 := bne_eq_false_iff_eq.mpr c4
  clear c4
  obtain rfl := Option.some.inj H
  go_enter Tryd.func107, Tryd.ntmps107
  go_wp2
  go_ret
  exact ⟨er_, dr_⟩
 rw [if_neg c4] at H
 have c4b0 := beq_eq_false_iff_ne.mpr c4
 have c4b1 := bne_iff_ne.mpr c4
 obtain rfl := Option.some.inj H
 go_enter Tryd.func107, Tryd.ntmps107
 go_wp2
 go_ret
 exact ⟨er_, dr_⟩
mutual
def regletref02_IsNumber.j0 : Nat → ByteArray → Int → Bool → Option (Bool)
 | 0, _, _, _ => none
 | k + 1, x0, x3, x20 => if x20 = true then (if 1 < (x0.size : Int) then ((regletref02_digit.f (bt x0 1)).bind fun t117 => (some t117)) else (none)) else (if 0 ≤ (wrap64 (x3 - 1)) then (if (wrap64 (x3 - 1)) < (x0.size : Int) then ((regletref02_sign.f (bt x0 (wrap64 (x3 - 1)))).bind fun t118 => (if t118 = true then (if x3 > 2 then (if 0 ≤ (wrap64 (x3 - 2)) then (if (wrap64 (x3 - 2)) < (x0.size : Int) then ((regletref02_expo.f (bt x0 (wrap64 (x3 - 2)))).bind fun t119 => (if t119 = true then (if (wrap64 (x3 - 2)) ≤ (x0.size : Int) then ((regletref02_IsNumber.f k (x0.extract 0 ((wrap64 (x3 - 2)) : Int).toNat)).bind fun t120 => (some t120)) else (none)) else (some false))) else (none)) else (none)) else (some false)) else ((regletref02_digit.f (bt x0 (wrap64 (x3 - 1)))).bind fun t121 => (if t121 = true then (if (wrap64 (x3 - 1)) ≤ (x0.size : Int) then ((regletref02_IsNumber.f k (x0.extract 0 ((wrap64 (x3 - 1)) : Int).toNat)).bind fun t122 => (some t122)) else (none)) else ((regletref02_letter.f (bt x0 (wrap64 (x3 - 1)))).bind fun t123 => (if t123 = true then (if (wrap64 (x3 - 1)) ≤ (x0.size : Int) then ((regletref02_IsNumber.f k (x0.extract 0 ((wrap64 (x3 - 1)) : Int).toNat)).bind fun t124 => (some t124)) else (none)) else (if (bt x0 (wrap64 (x3 - 1))) = 46 then (if (wrap64 (x3 - 1)) ≤ (x0.size : Int) then ((regletref02_IsNumber.f k (x0.extract 0 ((wrap64 (x3 - 1)) : Int).toNat)).bind fun t125 => (some t125)) else (none)) else (some false)))))))) else (none)) else (none))
def regletref02_IsNumber.f : Nat → ByteArray → Option (Bool)
 | 0, _ => none
 | k + 1, a0 => if (a0.size : Int) = 0 then (some false) else (if (a0.size : Int) = 1 then (if 0 < (a0.size : Int) then ((regletref02_digit.f (bt a0 0)).bind fun t116 => (some t116)) else (none)) else (if (a0.size : Int) = 2 then (if 0 < (a0.size : Int) then (regletref02_IsNumber.j0 k a0 (a0.size : Int) ((bt a0 0) == 46)) else (none)) else (regletref02_IsNumber.j0 k a0 (a0.size : Int) false)))
end
theorem regletref02_IsNumber.mono_l : ∀ k, (∀ y0, LeO (regletref02_IsNumber.f k y0) (regletref02_IsNumber.f (k + 1) y0)) ∧ (∀ y0 y1 y2, LeO (regletref02_IsNumber.j0 k y0 y1 y2) (regletref02_IsNumber.j0 (k + 1) y0 y1 y2))
 | 0 => ⟨fun _ r h => by simp [regletref02_IsNumber.f] at h, fun _ _ _ r h => by simp [regletref02_IsNumber.j0] at h⟩
 | k + 1 => by
  obtain ⟨ih0, ih1⟩ := regletref02_IsNumber.mono_l k
  refine ⟨?_, ?_⟩
  ·intro y0
   unfold regletref02_IsNumber.f
   repeat' first
   | (with_reducible exact ih0 _)
   | (with_reducible exact ih1 _ _ _)
   | (with_reducible exact LeO.refl _)
   | (with_reducible exact LeO.none _)
   | (with_reducible refine LeO.ite ?_ ?_)
   | (with_reducible refine LeO.bind ?_ (fun _ => ?_))
   | exact ih0 _
   | exact ih1 _ _ _
   | exact LeO.none _
   | refine LeO.ite ?_ ?_
   | refine LeO.bind ?_ (fun _ => ?_)
  intro y0 y1 y2
  unfold regletref02_IsNumber.j0
  repeat' first
  | (with_reducible exact ih0 _)
  | (with_reducible exact ih1 _ _ _)
  | (with_reducible exact LeO.refl _)
  | (with_reducible exact LeO.none _)
  | (with_reducible refine LeO.ite ?_ ?_)
  | (with_reducible refine LeO.bind ?_ (fun _ => ?_))
  | exact ih0 _
  | exact ih1 _ _ _
  | exact LeO.none _
  | refine LeO.ite ?_ ?_
  | refine LeO.bind ?_ (fun _ => ?_)
theorem regletref02_IsNumber.mono : ∀ a0 k, LeO (regletref02_IsNumber.f k a0) (regletref02_IsNumber.f (k + 1) a0) := by
 intro a0 k
 obtain ⟨ih0, ih1⟩ := regletref02_IsNumber.mono_l k
 exact ih0 a0
set_option maxHeartbeats 8000000 in
set_option maxRecDepth 100000 in
theorem regletref02_IsNumber.calls (k : Nat) : ∀ (a0 : ByteArray) (r : Bool) (w : World) (h : regletref02_IsNumber.f k a0 = some r),
  Calls Tryd.prog 101 #[.string a0] w fun e w' => e = .returned (.bool r) ∧ Drawn0 w w' := by
 induction k using Nat.strongRecOn with
 | _ k ih =>
 intro a0 r w h
 cases k with
 | zero => exact absurd h (by simp [regletref02_IsNumber.f])
 | succ k =>
 simp only [regletref02_IsNumber.f] at h
 have H : (if (a0.size : Int) = 0 then (some false) else (if (a0.size : Int) = 1 then (if 0 < (a0.size : Int) then ((regletref02_digit.f (bt a0 0)).bind fun t116 => (some t116)) else (none)) else (if (a0.size : Int) = 2 then (if 0 < (a0.size : Int) then (regletref02_IsNumber.j0 k a0 (a0.size : Int) ((bt a0 0) == 46)) else (none)) else (regletref02_IsNumber.j0 k a0 (a0.size : Int) false)))) = some r := h
 clear h
 by_cases c2 : (a0.size : Int) = 0
 ·rw [if_pos c2] at H
  have c2b0 := beq_iff_eq.mpr c2
  have c2b1 := bne_eq_false_iff_eq.mpr c2
  clear c2
  obtain rfl := Option.some.inj H
  go_enter Tryd.func101, Tryd.ntmps101
  go_wp2
  go_ret
  exact ⟨er_, dr_⟩
 rw [if_neg c2] at H
 have c2b0 := beq_eq_false_iff_ne.mpr c2
 have c2b1 := bne_iff_ne.mpr c2
 by_cases c3 : (a0.size : Int) = 1
 ·rw [if_pos c3] at H
  have c3b0 := beq_iff_eq.mpr c3
  have c3b1 := bne_eq_false_iff_eq.mpr c3
  clear c3
  by_cases c4 : 0 < (a0.size : Int)
  ·rw [if_pos c4] at H
   have c4b0 := decide_eq_true c4
   have c4b1 : decide (0 < a0.size) = true := decide_eq_true (by omega)
   clear c4
   replace H := Option.bind_eq_some_iff.mp H
   obtain ⟨t116, A60, H⟩ := H
   replace H : (some t116) = some r := H
   have A6 := Aside0.mk A60
   clear A60
   obtain rfl := Option.some.inj H
   have p5 : 0 ≤ (0 : Int) := (by omega)
   have q5 : 0 < a0.size := (by have : (0 : Int) < (a0.size : Int) := of_decide_eq_true (by first | (with_reducible assumption) | assumption); omega)
   have hx5 : ∀ h : 0 < a0.size, ((a0[0]'h).toNat : Int) = bt a0 0 := bt_at a0 0
   clear p5
   have qi5 : (0 < (a0.size : Int)) = True := eq_true da_
   replace q5 := eq_true q5
   go_enter Tryd.func101, Tryd.ntmps101
   go_wp2_with (first | ((with_reducible refine gate_callee (f := 105) rfl ?_); refine goesL_ (some 13) rfl rfl Tryd.func105 (by kernel_rfl) rfl #[.int .u8 (bt a0 0)] rfl ar_ ?_; (with_reducible refine (regletref02_digit.calls (bt a0 0) t116 _ A6.out).mono ?_); rintro e w' ⟨rfl, ⟨nd, rfl⟩⟩; refine ⟨_, rfl, ?_⟩))
   go_ret
   exact ⟨er_, dr_⟩
  rw [if_neg c4] at H
  exact absurd H (by simp)
 rw [if_neg c3] at H
 have c3b0 := beq_eq_false_iff_ne.mpr c3
 have c3b1 := bne_iff_ne.mpr c3
 have HC7 := Aside0.mk H
 clear H
 go_enter Tryd.func101, Tryd.ntmps101
 go_upto_region 6 with (fail)
 go_cut [20] (fun v20 wc => ∃ (kq : Nat) (x20_6 : Bool), v20 = .bool x20_6 ∧ Aside0 (regletref02_IsNumber.j0 kq a0 (a0.size : Int) x20_6 = some r) ∧ Aside0 (kq ≤ k) ∧ Drawn0 w wc)
 case first =>
  have H := HC7.out
  clear HC7
  by_cases c8 : (a0.size : Int) = 2
  ·rw [if_pos c8] at H
   have c8b0 := beq_iff_eq.mpr c8
   have c8b1 := bne_eq_false_iff_eq.mpr c8
   clear c8
   (first | rw [c8b0] | (simp only [i64_w, i32_w]; rw [c8b0]) | skip)
   by_cases c9 : 0 < (a0.size : Int)
   ·rw [if_pos c9] at H
    have c9b0 := decide_eq_true c9
    have c9b1 : decide (0 < a0.size) = true := decide_eq_true (by omega)
    clear c9
    have H' := Aside0.mk H
    clear H
    have p10 : 0 ≤ (0 : Int) := (by omega)
    have q10 : 0 < a0.size := (by have : (0 : Int) < (a0.size : Int) := of_decide_eq_true (by first | (with_reducible assumption) | assumption); omega)
    have hx10 : ∀ h : 0 < a0.size, ((a0[0]'h).toNat : Int) = bt a0 0 := bt_at a0 0
    clear p10
    have qi10 : (0 < (a0.size : Int)) = True := eq_true da_
    replace q10 := eq_true q10
    go_wp2
    go_meet
    case rel => exact ⟨_, (((bt a0 0) == 46)), er_, H', ⟨om_⟩, dr_⟩
   rw [if_neg c9] at H
   exact absurd H (by simp)
  rw [if_neg c8] at H
  have c8b0 := beq_eq_false_iff_ne.mpr c8
  have c8b1 := bne_iff_ne.mpr c8
  (first | rw [c8b0] | (simp only [i64_w, i32_w]; rw [c8b0]) | skip)
  have H' := Aside0.mk H
  clear H
  go_wp2
  go_meet
  case rel => exact ⟨_, (false), er_, H', ⟨om_⟩, dr_⟩
 case rest =>
  clear HC7
  try clear c1
  try clear p1
  try clear q1
  try clear hx1
  try clear qi1
  try clear c2
  try clear c2b0
  try clear c2b1
  try clear p2
  try clear c3
  try clear c3b0
  try clear c3b1
  try clear c4
  try clear c4b0
  try clear c4b1
  try clear p5
  try clear q5
  try clear hx5
  try clear qi5
  try clear c8
  try clear c8b0
  try clear c8b1
  try clear c9
  try clear c9b0
  try clear c9b1
  try clear c10
  try clear p10
  try clear q10
  try clear hx10
  try clear qi10
  try clear p10
  try clear p5
  try clear q10
  try clear q5
  obtain ⟨kq, x20_6, rfl, HA, HJ6, ⟨mc6, rfl⟩⟩ := hcut
  cases kq with
  | zero => exact absurd HA.out (by simp [regletref02_IsNumber.j0])
  | succ kj6 =>
   have H := HA.out
   clear HA
   simp only [regletref02_IsNumber.j0] at H
   by_cases c11 : x20_6 = true
   ·subst c11
    have H1 : (if 1 < (a0.size : Int) then ((regletref02_digit.f (bt a0 1)).bind fun t117 => (some t117)) else (none)) = some r := by rw [if_pos rfl] at H; exact H
    clear H
    have H := H1
    clear H1
    by_cases c12 : 1 < (a0.size : Int)
    ·rw [if_pos c12] at H
     have c12b0 := decide_eq_true c12
     have c12b1 : decide (1 < a0.size) = true := decide_eq_true (by omega)
     clear c12
     replace H := Option.bind_eq_some_iff.mp H
     obtain ⟨t117, A140, H⟩ := H
     replace H : (some t117) = some r := H
     have A14 := Aside0.mk A140
     clear A140
     obtain rfl := Option.some.inj H
     have p13 : 0 ≤ (1 : Int) := (by omega)
     have q13 : 1 < a0.size := (by have : (1 : Int) < (a0.size : Int) := of_decide_eq_true (by first | (with_reducible assumption) | assumption); omega)
     have hx13 : ∀ h : 1 < a0.size, ((a0[1]'h).toNat : Int) = bt a0 1 := bt_at a0 1
     clear p13
     have qi13 : (1 < (a0.size : Int)) = True := eq_true da_
     replace q13 := eq_true q13
     go_wp2_with (first | ((with_reducible refine gate_callee (f := 105) rfl ?_); refine goesL_ (some 23) rfl rfl Tryd.func105 (by kernel_rfl) rfl #[.int .u8 (bt a0 1)] rfl ar_ ?_; (with_reducible refine (regletref02_digit.calls (bt a0 1) t117 _ A14.out).mono ?_); rintro e w' ⟨rfl, ⟨nd, rfl⟩⟩; refine ⟨_, rfl, ?_⟩))
     go_ret
     exact ⟨er_, dr_⟩
    rw [if_neg c12] at H
    exact absurd H (by simp)
   replace c11 := Bool.eq_false_iff.mpr c11
   subst c11
   have H1 : (if 0 ≤ (wrap64 ((a0.size : Int) - 1)) then (if (wrap64 ((a0.size : Int) - 1)) < (a0.size : Int) then ((regletref02_sign.f (bt a0 (wrap64 ((a0.size : Int) - 1)))).bind fun t118 => (if t118 = true then (if (a0.size : Int) > 2 then (if 0 ≤ (wrap64 ((a0.size : Int) - 2)) then (if (wrap64 ((a0.size : Int) - 2)) < (a0.size : Int) then ((regletref02_expo.f (bt a0 (wrap64 ((a0.size : Int) - 2)))).bind fun t119 => (if t119 = true then (if (wrap64 ((a0.size : Int) - 2)) ≤ (a0.size : Int) then ((regletref02_IsNumber.f kj6 (a0.extract 0 ((wrap64 ((a0.size : Int) - 2)) : Int).toNat)).bind fun t120 => (some t120)) else (none)) else (some false))) else (none)) else (none)) else (some false)) else ((regletref02_digit.f (bt a0 (wrap64 ((a0.size : Int) - 1)))).bind fun t121 => (if t121 = true then (if (wrap64 ((a0.size : Int) - 1)) ≤ (a0.size : Int) then ((regletref02_IsNumber.f kj6 (a0.extract 0 ((wrap64 ((a0.size : Int) - 1)) : Int).toNat)).bind fun t122 => (some t122)) else (none)) else ((regletref02_letter.f (bt a0 (wrap64 ((a0.size : Int) - 1)))).bind fun t123 => (if t123 = true then (if (wrap64 ((a0.size : Int) - 1)) ≤ (a0.size : Int) then ((regletref02_IsNumber.f kj6 (a0.extract 0 ((wrap64 ((a0.size : Int) - 1)) : Int).toNat)).bind fun t124 => (some t124)) else (none)) else (if (bt a0 (wrap64 ((a0.size : Int) - 1))) = 46 then (if (wrap64 ((a0.size : Int) - 1)) ≤ (a0.size : Int) then ((regletref02_IsNumber.f kj6 (a0.extract 0 ((wrap64 ((a0.size : Int) - 1)) : Int).toNat)).bind fun t125 => (some t125)) else (none)) else (some false)))))))) else (none)) else (none)) = some r := by rw [if_neg (show ¬ (false = true) by decide)] at H; exact H
   clear H
   have H := H1
   clear H1
   obtain ⟨ji15, hji15⟩ : ∃ j_ : Int, (wrap64 ((a0.size : Int) - 1)) = j_ := ⟨_, rfl⟩
   replace H : (if 0 ≤ (ji15) then (if (ji15) < (a0.size : Int) then ((regletref02_sign.f (bt a0 (ji15))).bind fun t118 => (if t118 = true then (if (a0.size : Int) > 2 then (if 0 ≤ (wrap64 ((a0.size : Int) - 2)) then (if (wrap64 ((a0.size : Int) - 2)) < (a0.size : Int) then ((regletref02_expo.f (bt a0 (wrap64 ((a0.size : Int) - 2)))).bind fun t119 => (if t119 = true then (if (wrap64 ((a0.size : Int) - 2)) ≤ (a0.size : Int) then ((regletref02_IsNumber.f kj6 (a0.extract 0 ((wrap64 ((a0.size : Int) - 2)) : Int).toNat)).bind fun t120 => (some t120)) else (none)) else (some false))) else (none)) else (none)) else (some false)) else ((regletref02_digit.f (bt a0 (ji15))).bind fun t121 => (if t121 = true then (if (ji15) ≤ (a0.size : Int) then ((regletref02_IsNumber.f kj6 (a0.extract 0 ((ji15) : Int).toNat)).bind fun t122 => (some t122)) else (none)) else ((regletref02_letter.f (bt a0 (ji15))).bind fun t123 => (if t123 = true then (if (ji15) ≤ (a0.size : Int) then ((regletref02_IsNumber.f kj6 (a0.extract 0 ((ji15) : Int).toNat)).bind fun t124 => (some t124)) else (none)) else (if (bt a0 (ji15)) = 46 then (if (ji15) ≤ (a0.size : Int) then ((regletref02_IsNumber.f kj6 (a0.extract 0 ((ji15) : Int).toNat)).bind fun t125 => (some t125)) else (none)) else (some false)))))))) else (none)) else (none)) = some r := by first | (rw [hji15] at H; exact H) | (simp only [hji15] at H ⊢; exact H)
   have hji15w : (IntKind.i64.wrap ((a0.size : Int) - 1)) = ji15 := (i64_w _).trans hji15
   by_cases c16 : 0 ≤ (ji15)
   ·rw [if_pos c16] at H
    have c16b0 := decide_eq_true c16
    clear c16
    by_cases c17 : (ji15) < (a0.size : Int)
    ·rw [if_pos c17] at H
     have c17b0 := decide_eq_true c17
     clear c17
     replace H := Option.bind_eq_some_iff.mp H
     obtain ⟨t118, A190, H⟩ := H
     replace H : (if t118 = true then (if (a0.size : Int) > 2 then (if 0 ≤ (wrap64 ((a0.size : Int) - 2)) then (if (wrap64 ((a0.size : Int) - 2)) < (a0.size : Int) then ((regletref02_expo.f (bt a0 (wrap64 ((a0.size : Int) - 2)))).bind fun t119 => (if t119 = true then (if (wrap64 ((a0.size : Int) - 2)) ≤ (a0.size : Int) then ((regletref02_IsNumber.f kj6 (a0.extract 0 ((wrap64 ((a0.size : Int) - 2)) : Int).toNat)).bind fun t120 => (some t120)) else (none)) else (some false))) else (none)) else (none)) else (some false)) else ((regletref02_digit.f (bt a0 (ji15))).bind fun t121 => (if t121 = true then (if (ji15) ≤ (a0.size : Int) then ((regletref02_IsNumber.f kj6 (a0.extract 0 ((ji15) : Int).toNat)).bind fun t122 => (some t122)) else (none)) else ((regletref02_letter.f (bt a0 (ji15))).bind fun t123 => (if t123 = true then (if (ji15) ≤ (a0.size : Int) then ((regletref02_IsNumber.f kj6 (a0.extract 0 ((ji15) : Int).toNat)).bind fun t124 => (some t124)) else (none)) else (if (bt a0 (ji15)) = 46 then (if (ji15) ≤ (a0.size : Int) then ((regletref02_IsNumber.f kj6 (a0.extract 0 ((ji15) : Int).toNat)).bind fun t125 => (some t125)) else (none)) else (some false))))))) = some r := H
     have A19 := Aside0.mk A190
     clear A190
     by_cases c20 : t118 = true
     ·subst c20
      have H1 : (if (a0.size : Int) > 2 then (if 0 ≤ (wrap64 ((a0.size : Int) - 2)) then (if (wrap64 ((a0.size : Int) - 2)) < (a0.size : Int) then ((regletref02_expo.f (bt a0 (wrap64 ((a0.size : Int) - 2)))).bind fun t119 => (if t119 = true then (if (wrap64 ((a0.size : Int) - 2)) ≤ (a0.size : Int) then ((regletref02_IsNumber.f kj6 (a0.extract 0 ((wrap64 ((a0.size : Int) - 2)) : Int).toNat)).bind fun t120 => (some t120)) else (none)) else (some false))) else (none)) else (none)) else (some false)) = some r := by rw [if_pos rfl] at H; exact H
      clear H
      have H := H1
      clear H1
      by_cases c21 : (a0.size : Int) > 2
      ·rw [if_pos c21] at H
       have c21b0 : decide (2 < (a0.size : Int)) = true := decide_eq_true c21
       have c21b1 : decide (2 < a0.size) = true := decide_eq_true (by omega)
       clear c21
       obtain ⟨ji22, hji22⟩ : ∃ j_ : Int, (wrap64 ((a0.size : Int) - 2)) = j_ := ⟨_, rfl⟩
       replace H : (if 0 ≤ (ji22) then (if (ji22) < (a0.size : Int) then ((regletref02_expo.f (bt a0 (ji22))).bind fun t119 => (if t119 = true then (if (ji22) ≤ (a0.size : Int) then ((regletref02_IsNumber.f kj6 (a0.extract 0 ((ji22) : Int).toNat)).bind fun t120 => (some t120)) else (none)) else (some false))) else (none)) else (none)) = some r := by first | (rw [hji22] at H; exact H) | (simp only [hji22] at H ⊢; exact H)
       (try rw [hji22] at A19)
       have hji22w : (IntKind.i64.wrap ((a0.size : Int) - 2)) = ji22 := (i64_w _).trans hji22
       by_cases c23 : 0 ≤ (ji22)
       ·rw [if_pos c23] at H
        have c23b0 := decide_eq_true c23
        clear c23
        by_cases c24 : (ji22) < (a0.size : Int)
        ·rw [if_pos c24] at H
         have c24b0 := decide_eq_true c24
         clear c24
         replace H := Option.bind_eq_some_iff.mp H
         obtain ⟨t119, A260, H⟩ := H
         replace H : (if t119 = true then (if (ji22) ≤ (a0.size : Int) then ((regletref02_IsNumber.f kj6 (a0.extract 0 ((ji22) : Int).toNat)).bind fun t120 => (some t120)) else (none)) else (some false)) = some r := H
         have A26 := Aside0.mk A260
         clear A260
         by_cases c27 : t119 = true
         ·subst c27
          have H1 : (if (ji22) ≤ (a0.size : Int) then ((regletref02_IsNumber.f kj6 (a0.extract 0 ((ji22) : Int).toNat)).bind fun t120 => (some t120)) else (none)) = some r := by rw [if_pos rfl] at H; exact H
          clear H
          have H := H1
          clear H1
          have c28b0 := eq_true (of_decide_eq_true (by first | (with_reducible assumption) | assumption) : 0 ≤ (ji22))
          by_cases c29 : (ji22) ≤ (a0.size : Int)
          ·rw [if_pos c29] at H
           have c29b0 := eq_true c29
           have c29b1 := decide_eq_true c29
           clear c29
           replace H := Option.bind_eq_some_iff.mp H
           obtain ⟨t120, A300, H⟩ := H
           replace H : (some t120) = some r := H
           have A30 := Aside0.mk A300
           clear A300
           obtain rfl := Option.some.inj H
           have p18 : 0 ≤ ((ji15) : Int) := da_
           have q18 : (ji15) < (a0.size : Int) := da_
           have hx18 := bt_at a0 (ji15)
           replace p18 := eq_true p18
           replace q18 := eq_true q18
           go_wp2_with (first | ((with_reducible refine gate_callee (f := 106) rfl ?_); refine goesL_ (some 28) rfl rfl Tryd.func106 (by kernel_rfl) rfl #[.int .u8 (bt a0 (ji15))] rfl (by (try simp only [List.map_toArray, List.map_cons, List.map_nil]); first | done | (simp only [hji15]; rfl) | rfl | (simp only [List.length_drop, List.length_take]; rfl)) ?_; (with_reducible refine (regletref02_sign.calls (bt a0 (ji15)) true _ A19.out).mono ?_); rintro e w' ⟨rfl, ⟨nd, rfl⟩⟩; refine ⟨_, rfl, ?_⟩; have p25 : 0 ≤ ((ji22) : Int) := of_decide_eq_true (by first | (with_reducible assumption) | assumption); have q25 : (ji22) < (a0.size : Int) := of_decide_eq_true (by first | (with_reducible assumption) | assumption); have hx25 := bt_at a0 (ji22); replace p25 := eq_true p25; replace q25 := eq_true q25) | (go_at_call 107; (with_reducible refine (regletref02_expo.calls (bt a0 (ji22)) true _ A26.out).mono ?_); rintro e w' ⟨rfl, ⟨nd, rfl⟩⟩) | (go_at_call 101; (with_reducible refine (ih kj6 (by have := HJ6.out; omega) (a0.extract 0 ((ji22) : Int).toNat) t120 _ A30.out).mono ?_); rintro e w' ⟨rfl, ⟨nd, rfl⟩⟩))
           go_ret
           exact ⟨by first | rfl | (simp; done) | (simp only [← hji15, ← hji22] <;> (first | rfl | simp)) | (simp [*]; done), dr_⟩
          rw [if_neg c29] at H
          exact absurd H (by simp)
         replace c27 := Bool.eq_false_iff.mpr c27
         subst c27
         have H1 : (some false) = some r := by rw [if_neg (show ¬ (false = true) by decide)] at H; exact H
         clear H
         have H := H1
         clear H1
         obtain rfl := Option.some.inj H
         have p18 : 0 ≤ ((ji15) : Int) := da_
         have q18 : (ji15) < (a0.size : Int) := da_
         have hx18 := bt_at a0 (ji15)
         replace p18 := eq_true p18
         replace q18 := eq_true q18
         go_wp2_with (first | ((with_reducible refine gate_callee (f := 106) rfl ?_); refine goesL_ (some 28) rfl rfl Tryd.func106 (by kernel_rfl) rfl #[.int .u8 (bt a0 (ji15))] rfl (by (try simp only [List.map_toArray, List.map_cons, List.map_nil]); first | done | (simp only [hji15]; rfl) | rfl | (simp only [List.length_drop, List.length_take]; rfl)) ?_; (with_reducible refine (regletref02_sign.calls (bt a0 (ji15)) true _ A19.out).mono ?_); rintro e w' ⟨rfl, ⟨nd, rfl⟩⟩; refine ⟨_, rfl, ?_⟩; have p25 : 0 ≤ ((ji22) : Int) := of_decide_eq_true (by first | (with_reducible assumption) | assumption); have q25 : (ji22) < (a0.size : Int) := of_decide_eq_true (by first | (with_reducible assumption) | assumption); have hx25 := bt_at a0 (ji22); replace p25 := eq_true p25; replace q25 := eq_true q25) | (go_at_call 107; (with_reducible refine (regletref02_expo.calls (bt a0 (ji22)) false _ A26.out).mono ?_); rintro e w' ⟨rfl, ⟨nd, rfl⟩⟩))
         go_ret
         exact ⟨by first | rfl | (simp; done) | (simp only [← hji15, ← hji22] <;> (first | rfl | simp)) | (simp [*]; done), dr_⟩
        rw [if_neg c24] at H
        exact absurd H (by simp)
       rw [if_neg c23] at H
       exact absurd H (by simp)
      rw [if_neg c21] at H
      have c21b0 : decide (2 < (a0.size : Int)) = false := decide_eq_false c21
      have c21b1 : decide (2 < a0.size) = false := decide_eq_false (by omega)
      clear c21
      obtain rfl := Option.some.inj H
      have p18 : 0 ≤ ((ji15) : Int) := da_
      have q18 : (ji15) < (a0.size : Int) := da_
      have hx18 := bt_at a0 (ji15)
      replace p18 := eq_true p18
      replace q18 := eq_true q18
      go_wp2_with (first | ((with_reducible refine gate_callee (f := 106) rfl ?_); refine goesL_ (some 28) rfl rfl Tryd.func106 (by kernel_rfl) rfl #[.int .u8 (bt a0 (ji15))] rfl (by (try simp only [List.map_toArray, List.map_cons, List.map_nil]); first | done | (simp only [hji15]; rfl) | rfl | (simp only [List.length_drop, List.length_take]; rfl)) ?_; (with_reducible refine (regletref02_sign.calls (bt a0 (ji15)) true _ A19.out).mono ?_); rintro e w' ⟨rfl, ⟨nd, rfl⟩⟩; refine ⟨_, rfl, ?_⟩))
      go_ret
      exact ⟨by first | rfl | (simp; done) | (simp only [← hji15] <;> (first | rfl | simp)) | (simp [*]; done), dr_⟩
     replace c20 := Bool.eq_false_iff.mpr c20
     subst c20
     have H1 : ((regletref02_digit.f (bt a0 (ji15))).bind fun t121 => (if t121 = true then (if (ji15) ≤ (a0.size : Int) then ((regletref02_IsNumber.f kj6 (a0.extract 0 ((ji15) : Int).toNat)).bind fun t122 => (some t122)) else (none)) else ((regletref02_letter.f (bt a0 (ji15))).bind fun t123 => (if t123 = true then (if (ji15) ≤ (a0.size : Int) then ((regletref02_IsNumber.f kj6 (a0.extract 0 ((ji15) : Int).toNat)).bind fun t124 => (some t124)) else (none)) else (if (bt a0 (ji15)) = 46 then (if (ji15) ≤ (a0.size : Int) then ((regletref02_IsNumber.f kj6 (a0.extract 0 ((ji15) : Int).toNat)).bind fun t125 => (some t125)) else (none)) else (some false)))))) = some r := by rw [if_neg (show ¬ (false = true) by decide)] at H; exact H
     clear H
     have H := H1
     clear H1
     replace H := Option.bind_eq_some_iff.mp H
     obtain ⟨t121, A320, H⟩ := H
     replace H : (if t121 = true then (if (ji15) ≤ (a0.size : Int) then ((regletref02_IsNumber.f kj6 (a0.extract 0 ((ji15) : Int).toNat)).bind fun t122 => (some t122)) else (none)) else ((regletref02_letter.f (bt a0 (ji15))).bind fun t123 => (if t123 = true then (if (ji15) ≤ (a0.size : Int) then ((regletref02_IsNumber.f kj6 (a0.extract 0 ((ji15) : Int).toNat)).bind fun t124 => (some t124)) else (none)) else (if (bt a0 (ji15)) = 46 then (if (ji15) ≤ (a0.size : Int) then ((regletref02_IsNumber.f kj6 (a0.extract 0 ((ji15) : Int).toNat)).bind fun t125 => (some t125)) else (none)) else (some false))))) = some r := H
     have A32 := Aside0.mk A320
     clear A320
     by_cases c33 : t121 = true
     ·subst c33
      have H1 : (if (ji15) ≤ (a0.size : Int) then ((regletref02_IsNumber.f kj6 (a0.extract 0 ((ji15) : Int).toNat)).bind fun t122 => (some t122)) else (none)) = some r := by rw [if_pos rfl] at H; exact H
      clear H
      have H := H1
      clear H1
      have c34b0 := eq_true (of_decide_eq_true (by first | (with_reducible assumption) | assumption) : 0 ≤ (ji15))
      by_cases c35 : (ji15) ≤ (a0.size : Int)
      ·rw [if_pos c35] at H
       have c35b0 := eq_true c35
       have c35b1 := decide_eq_true c35
       clear c35
       replace H := Option.bind_eq_some_iff.mp H
       obtain ⟨t122, A360, H⟩ := H
       replace H : (some t122) = some r := H
       have A36 := Aside0.mk A360
       clear A360
       obtain rfl := Option.some.inj H
       have p18 : 0 ≤ ((ji15) : Int) := da_
       have q18 : (ji15) < (a0.size : Int) := da_
       have hx18 := bt_at a0 (ji15)
       replace p18 := eq_true p18
       replace q18 := eq_true q18
       go_wp2_with (first | ((with_reducible refine gate_callee (f := 106) rfl ?_); refine goesL_ (some 28) rfl rfl Tryd.func106 (by kernel_rfl) rfl #[.int .u8 (bt a0 (ji15))] rfl (by (try simp only [List.map_toArray, List.map_cons, List.map_nil]); first | done | (simp only [hji15]; rfl) | rfl | (simp only [List.length_drop, List.length_take]; rfl)) ?_; (with_reducible refine (regletref02_sign.calls (bt a0 (ji15)) false _ A19.out).mono ?_); rintro e w' ⟨rfl, ⟨nd, rfl⟩⟩; refine ⟨_, rfl, ?_⟩; have p31 : 0 ≤ ((ji15) : Int) := of_decide_eq_true (by first | (with_reducible assumption) | assumption); have q31 : (ji15) < (a0.size : Int) := of_decide_eq_true (by first | (with_reducible assumption) | assumption); have hx31 := bt_at a0 (ji15); replace p31 := eq_true p31; replace q31 := eq_true q31) | ((with_reducible refine gate_callee (f := 105) rfl ?_); refine goesL_ (some 50) rfl rfl Tryd.func105 (by kernel_rfl) rfl #[.int .u8 (bt a0 (ji15))] rfl (by (try simp only [List.map_toArray, List.map_cons, List.map_nil]); first | done | (simp only [hji15]; rfl) | rfl | (simp only [List.length_drop, List.length_take]; rfl)) ?_; (with_reducible refine (regletref02_digit.calls (bt a0 (ji15)) true _ A32.out).mono ?_); rintro e w' ⟨rfl, ⟨nd, rfl⟩⟩; refine ⟨_, rfl, ?_⟩) | (go_at_call 101; (with_reducible refine (ih kj6 (by have := HJ6.out; omega) (a0.extract 0 ((ji15) : Int).toNat) t122 _ A36.out).mono ?_); rintro e w' ⟨rfl, ⟨nd, rfl⟩⟩))
       go_ret
       exact ⟨by first | rfl | (simp; done) | (simp only [← hji15] <;> (first | rfl | simp)) | (simp [*]; done), dr_⟩
      rw [if_neg c35] at H
      exact absurd H (by simp)
     replace c33 := Bool.eq_false_iff.mpr c33
     subst c33
     have H1 : ((regletref02_letter.f (bt a0 (ji15))).bind fun t123 => (if t123 = true then (if (ji15) ≤ (a0.size : Int) then ((regletref02_IsNumber.f kj6 (a0.extract 0 ((ji15) : Int).toNat)).bind fun t124 => (some t124)) else (none)) else (if (bt a0 (ji15)) = 46 then (if (ji15) ≤ (a0.size : Int) then ((regletref02_IsNumber.f kj6 (a0.extract 0 ((ji15) : Int).toNat)).bind fun t125 => (some t125)) else (none)) else (some false)))) = some r := by rw [if_neg (show ¬ (false = true) by decide)] at H; exact H
     clear H
     have H := H1
     clear H1
     replace H := Option.bind_eq_some_iff.mp H
     obtain ⟨t123, A370, H⟩ := H
     replace H : (if t123 = true then (if (ji15) ≤ (a0.size : Int) then ((regletref02_IsNumber.f kj6 (a0.extract 0 ((ji15) : Int).toNat)).bind fun t124 => (some t124)) else (none)) else (if (bt a0 (ji15)) = 46 then (if (ji15) ≤ (a0.size : Int) then ((regletref02_IsNumber.f kj6 (a0.extract 0 ((ji15) : Int).toNat)).bind fun t125 => (some t125)) else (none)) else (some false))) = some r := H
     have A37 := Aside0.mk A370
     clear A370
     by_cases c38 : t123 = true
     ·subst c38
      have H1 : (if (ji15) ≤ (a0.size : Int) then ((regletref02_IsNumber.f kj6 (a0.extract 0 ((ji15) : Int).toNat)).bind fun t124 => (some t124)) else (none)) = some r := by rw [if_pos rfl] at H; exact H
      clear H
      have H := H1
      clear H1
      have c39b0 := eq_true (of_decide_eq_true (by first | (with_reducible assumption) | assumption) : 0 ≤ (ji15))
      by_cases c40 : (ji15) ≤ (a0.size : Int)
      ·rw [if_pos c40] at H
       have c40b0 := eq_true c40
       have c40b1 := decide_eq_true c40
       clear c40
       replace H := Option.bind_eq_some_iff.mp H
       obtain ⟨t124, A410, H⟩ := H
       replace H : (some t124) = some r := H
       have A41 := Aside0.mk A410
       clear A410
       obtain rfl := Option.some.inj H
       have p18 : 0 ≤ ((ji15) : Int) := da_
       have q18 : (ji15) < (a0.size : Int) := da_
       have hx18 := bt_at a0 (ji15)
       replace p18 := eq_true p18
       replace q18 := eq_true q18
       go_wp2_with (first | ((with_reducible refine gate_callee (f := 106) rfl ?_); refine goesL_ (some 28) rfl rfl Tryd.func106 (by kernel_rfl) rfl #[.int .u8 (bt a0 (ji15))] rfl (by (try simp only [List.map_toArray, List.map_cons, List.map_nil]); first | done | (simp only [hji15]; rfl) | rfl | (simp only [List.length_drop, List.length_take]; rfl)) ?_; (with_reducible refine (regletref02_sign.calls (bt a0 (ji15)) false _ A19.out).mono ?_); rintro e w' ⟨rfl, ⟨nd, rfl⟩⟩; refine ⟨_, rfl, ?_⟩; have p31 : 0 ≤ ((ji15) : Int) := of_decide_eq_true (by first | (with_reducible assumption) | assumption); have q31 : (ji15) < (a0.size : Int) := of_decide_eq_true (by first | (with_reducible assumption) | assumption); have hx31 := bt_at a0 (ji15); replace p31 := eq_true p31; replace q31 := eq_true q31) | ((with_reducible refine gate_callee (f := 105) rfl ?_); refine goesL_ (some 50) rfl rfl Tryd.func105 (by kernel_rfl) rfl #[.int .u8 (bt a0 (ji15))] rfl (by (try simp only [List.map_toArray, List.map_cons, List.map_nil]); first | done | (simp only [hji15]; rfl) | rfl | (simp only [List.length_drop, List.length_take]; rfl)) ?_; (with_reducible refine (regletref02_digit.calls (bt a0 (ji15)) false _ A32.out).mono ?_); rintro e w' ⟨rfl, ⟨nd, rfl⟩⟩; refine ⟨_, rfl, ?_⟩) | (go_at_call 104; (with_reducible refine (regletref02_letter.calls (bt a0 (ji15)) true _ A37.out).mono ?_); rintro e w' ⟨rfl, ⟨nd, rfl⟩⟩) | (go_at_call 101; (with_reducible refine (ih kj6 (by have := HJ6.out; omega) (a0.extract 0 ((ji15) : Int).toNat) t124 _ A41.out).mono ?_); rintro e w' ⟨rfl, ⟨nd, rfl⟩⟩))
       go_ret
       exact ⟨by first | rfl | (simp; done) | (simp only [← hji15] <;> (first | rfl | simp)) | (simp [*]; done), dr_⟩
      rw [if_neg c40] at H
      exact absurd H (by simp)
     replace c38 := Bool.eq_false_iff.mpr c38
     subst c38
     have H1 : (if (bt a0 (ji15)) = 46 then (if (ji15) ≤ (a0.size : Int) then ((regletref02_IsNumber.f kj6 (a0.extract 0 ((ji15) : Int).toNat)).bind fun t125 => (some t125)) else (none)) else (some false)) = some r := by rw [if_neg (show ¬ (false = true) by decide)] at H; exact H
     clear H
     have H := H1
     clear H1
     by_cases c42 : (bt a0 (ji15)) = 46
     ·rw [if_pos c42] at H
      have c42b0 := beq_iff_eq.mpr c42
      have c42b1 := bne_eq_false_iff_eq.mpr c42
      clear c42
      have c43b0 := eq_true (of_decide_eq_true (by first | (with_reducible assumption) | assumption) : 0 ≤ (ji15))
      by_cases c44 : (ji15) ≤ (a0.size : Int)
      ·rw [if_pos c44] at H
       have c44b0 := eq_true c44
       have c44b1 := decide_eq_true c44
       clear c44
       replace H := Option.bind_eq_some_iff.mp H
       obtain ⟨t125, A450, H⟩ := H
       replace H : (some t125) = some r := H
       have A45 := Aside0.mk A450
       clear A450
       obtain rfl := Option.some.inj H
       have p18 : 0 ≤ ((ji15) : Int) := da_
       have q18 : (ji15) < (a0.size : Int) := da_
       have hx18 := bt_at a0 (ji15)
       replace p18 := eq_true p18
       replace q18 := eq_true q18
       go_wp2_with (first | ((with_reducible refine gate_callee (f := 106) rfl ?_); refine goesL_ (some 28) rfl rfl Tryd.func106 (by kernel_rfl) rfl #[.int .u8 (bt a0 (ji15))] rfl (by (try simp only [List.map_toArray, List.map_cons, List.map_nil]); first | done | (simp only [hji15]; rfl) | rfl | (simp only [List.length_drop, List.length_take]; rfl)) ?_; (with_reducible refine (regletref02_sign.calls (bt a0 (ji15)) false _ A19.out).mono ?_); rintro e w' ⟨rfl, ⟨nd, rfl⟩⟩; refine ⟨_, rfl, ?_⟩; have p31 : 0 ≤ ((ji15) : Int) := of_decide_eq_true (by first | (with_reducible assumption) | assumption); have q31 : (ji15) < (a0.size : Int) := of_decide_eq_true (by first | (with_reducible assumption) | assumption); have hx31 := bt_at a0 (ji15); replace p31 := eq_true p31; replace q31 := eq_true q31) | ((with_reducible refine gate_callee (f := 105) rfl ?_); refine goesL_ (some 50) rfl rfl Tryd.func105 (by kernel_rfl) rfl #[.int .u8 (bt a0 (ji15))] rfl (by (try simp only [List.map_toArray, List.map_cons, List.map_nil]); first | done | (simp only [hji15]; rfl) | rfl | (simp only [List.length_drop, List.length_take]; rfl)) ?_; (with_reducible refine (regletref02_digit.calls (bt a0 (ji15)) false _ A32.out).mono ?_); rintro e w' ⟨rfl, ⟨nd, rfl⟩⟩; refine ⟨_, rfl, ?_⟩) | (go_at_call 104; (with_reducible refine (regletref02_letter.calls (bt a0 (ji15)) false _ A37.out).mono ?_); rintro e w' ⟨rfl, ⟨nd, rfl⟩⟩) | (go_at_call 101; (with_reducible refine (ih kj6 (by have := HJ6.out; omega) (a0.extract 0 ((ji15) : Int).toNat) t125 _ A45.out).mono ?_); rintro e w' ⟨rfl, ⟨nd, rfl⟩⟩))
       go_ret
       exact ⟨by first | rfl | (simp; done) | (simp only [← hji15] <;> (first | rfl | simp)) | (simp [*]; done), dr_⟩
      rw [if_neg c44] at H
      exact absurd H (by simp)
     rw [if_neg c42] at H
     have c42b0 := beq_eq_false_iff_ne.mpr c42
     have c42b1 := bne_iff_ne.mpr c42
     obtain rfl := Option.some.inj H
     have p18 : 0 ≤ ((ji15) : Int) := da_
     have q18 : (ji15) < (a0.size : Int) := da_
     have hx18 := bt_at a0 (ji15)
     replace p18 := eq_true p18
     replace q18 := eq_true q18
     go_wp2_with (first | ((with_reducible refine gate_callee (f := 106) rfl ?_); refine goesL_ (some 28) rfl rfl Tryd.func106 (by kernel_rfl) rfl #[.int .u8 (bt a0 (ji15))] rfl (by (try simp only [List.map_toArray, List.map_cons, List.map_nil]); first | done | (simp only [hji15]; rfl) | rfl | (simp only [List.length_drop, List.length_take]; rfl)) ?_; (with_reducible refine (regletref02_sign.calls (bt a0 (ji15)) false _ A19.out).mono ?_); rintro e w' ⟨rfl, ⟨nd, rfl⟩⟩; refine ⟨_, rfl, ?_⟩; have p31 : 0 ≤ ((ji15) : Int) := of_decide_eq_true (by first | (with_reducible assumption) | assumption); have q31 : (ji15) < (a0.size : Int) := of_decide_eq_true (by first | (with_reducible assumption) | assumption); have hx31 := bt_at a0 (ji15); replace p31 := eq_true p31; replace q31 := eq_true q31) | ((with_reducible refine gate_callee (f := 105) rfl ?_); refine goesL_ (some 50) rfl rfl Tryd.func105 (by kernel_rfl) rfl #[.int .u8 (bt a0 (ji15))] rfl (by (try simp only [List.map_toArray, List.map_cons, List.map_nil]); first | done | (simp only [hji15]; rfl) | rfl | (simp only [List.length_drop, List.length_take]; rfl)) ?_; (with_reducible refine (regletref02_digit.calls (bt a0 (ji15)) false _ A32.out).mono ?_); rintro e w' ⟨rfl, ⟨nd, rfl⟩⟩; refine ⟨_, rfl, ?_⟩) | (go_at_call 104; (with_reducible refine (regletref02_letter.calls (bt a0 (ji15)) false _ A37.out).mono ?_); rintro e w' ⟨rfl, ⟨nd, rfl⟩⟩))
     go_ret
     exact ⟨by first | rfl | (simp; done) | (simp only [← hji15] <;> (first | rfl | simp)) | (simp [*]; done), dr_⟩
    rw [if_neg c17] at H
    exact absurd H (by simp)
   rw [if_neg c16] at H
   exact absurd H (by simp)
mutual
def regletref02_IsPunct.j0 : Nat → ByteArray → ByteArray → Bool → Option (Bool)
 | 0, _, _, _ => none
 | k + 1, x0, x3, x16 => if x16 = true then (some false) else (regletref02_IsPunct.l0 k x0 x3 0)
def regletref02_IsPunct.l0 : Nat → ByteArray → ByteArray → Int → Option (Bool)
 | 0, _, _, _ => none
 | k + 1, x0, x3, x4 => if x4 < (x0.size : Int) then (if 0 ≤ x4 then (if (bt x0 x4) = 32 then (some false) else (regletref02_IsPunct.l0 k x0 x3 (wrap64 (x4 + 1)))) else (none)) else (regletref02_IsPunct.l1 k x3 0)
def regletref02_IsPunct.l1 : Nat → ByteArray → Int → Option (Bool)
 | 0, _, _ => none
 | k + 1, x3, x5 => if (wrap64 (x5 + (x3.size : Int))) ≤ 143 then (if 0 ≤ x5 then (if x5 ≤ (wrap64 (x5 + (x3.size : Int))) then (if ((⟨#[32, 91, 32, 93, 32, 40, 32, 41, 32, 123, 32, 125, 32, 46, 32, 45, 62, 32, 43, 43, 32, 45, 45, 32, 38, 32, 42, 32, 43, 32, 45, 32, 126, 32, 33, 32, 47, 32, 37, 32, 60, 60, 32, 62, 62, 32, 60, 32, 62, 32, 60, 61, 32, 62, 61, 32, 61, 61, 32, 33, 61, 32, 94, 32, 124, 32, 38, 38, 32, 124, 124, 32, 63, 32, 58, 32, 59, 32, 46, 46, 46, 32, 61, 32, 42, 61, 32, 47, 61, 32, 37, 61, 32, 43, 61, 32, 45, 61, 32, 60, 60, 61, 32, 62, 62, 61, 32, 38, 61, 32, 94, 61, 32, 124, 61, 32, 44, 32, 35, 32, 35, 35, 32, 60, 58, 32, 58, 62, 32, 60, 37, 32, 37, 62, 32, 37, 58, 32, 37, 58, 37, 58, 32]⟩ : ByteArray).extract (x5 : Int).toNat ((wrap64 (x5 + (x3.size : Int))) : Int).toNat).toList = x3.toList then (some true) else (regletref02_IsPunct.l1 k x3 (wrap64 (x5 + 1)))) else (none)) else (none)) else (some false)
end
def regletref02_IsPunct.f (k : Nat) (a0 : ByteArray) : Option (Bool) := if 1 + a0.size ≤ 9223372036854775807 then (if ((⟨#[32]⟩ : ByteArray) ++ a0).size + 1 ≤ 9223372036854775807 then (if (a0.size : Int) = 0 then (regletref02_IsPunct.j0 k a0 (((⟨#[32]⟩ : ByteArray) ++ a0) ++ (⟨#[32]⟩ : ByteArray)) true) else (regletref02_IsPunct.j0 k a0 (((⟨#[32]⟩ : ByteArray) ++ a0) ++ (⟨#[32]⟩ : ByteArray)) (decide ((a0.size : Int) > 4)))) else (none)) else (none)
theorem regletref02_IsPunct.mono_l : ∀ k, (∀ y0 y1 y2, LeO (regletref02_IsPunct.j0 k y0 y1 y2) (regletref02_IsPunct.j0 (k + 1) y0 y1 y2)) ∧ (∀ y0 y1 y2, LeO (regletref02_IsPunct.l0 k y0 y1 y2) (regletref02_IsPunct.l0 (k + 1) y0 y1 y2)) ∧ (∀ y0 y1, LeO (regletref02_IsPunct.l1 k y0 y1) (regletref02_IsPunct.l1 (k + 1) y0 y1))
 | 0 => ⟨fun _ _ _ r h => by simp [regletref02_IsPunct.j0] at h, fun _ _ _ r h => by simp [regletref02_IsPunct.l0] at h, fun _ _ r h => by simp [regletref02_IsPunct.l1] at h⟩
 | k + 1 => by
  obtain ⟨ih0, ih1, ih2⟩ := regletref02_IsPunct.mono_l k
  refine ⟨?_, ?_, ?_⟩
  ·intro y0 y1 y2
   unfold regletref02_IsPunct.j0
   repeat' first
   | (with_reducible exact ih0 _ _ _)
   | (with_reducible exact ih1 _ _ _)
   | (with_reducible exact ih2 _ _)
   | (with_reducible exact LeO.refl _)
   | (with_reducible exact LeO.none _)
   | (with_reducible refine LeO.ite ?_ ?_)
   | (with_reducible refine LeO.bind ?_ (fun _ => ?_))
   | exact ih0 _ _ _
   | exact ih1 _ _ _
   | exact ih2 _ _
   | exact LeO.none _
   | refine LeO.ite ?_ ?_
   | refine LeO.bind ?_ (fun _ => ?_)
  ·intro y0 y1 y2
   unfold regletref02_IsPunct.l0
   repeat' first
   | (with_reducible exact ih0 _ _ _)
   | (with_reducible exact ih1 _ _ _)
   | (with_reducible exact ih2 _ _)
   | (with_reducible exact LeO.refl _)
   | (with_reducible exact LeO.none _)
   | (with_reducible refine LeO.ite ?_ ?_)
   | (with_reducible refine LeO.bind ?_ (fun _ => ?_))
   | exact ih0 _ _ _
   | exact ih1 _ _ _
   | exact ih2 _ _
   | exact LeO.none _
   | refine LeO.ite ?_ ?_
   | refine LeO.bind ?_ (fun _ => ?_)
  intro y0 y1
  unfold regletref02_IsPunct.l1
  repeat' first
  | (with_reducible exact ih0 _ _ _)
  | (with_reducible exact ih1 _ _ _)
  | (with_reducible exact ih2 _ _)
  | (with_reducible exact LeO.refl _)
  | (with_reducible exact LeO.none _)
  | (with_reducible refine LeO.ite ?_ ?_)
  | (with_reducible refine LeO.bind ?_ (fun _ => ?_))
  | exact ih0 _ _ _
  | exact ih1 _ _ _
  | exact ih2 _ _
  | exact LeO.none _
  | refine LeO.ite ?_ ?_
  | refine LeO.bind ?_ (fun _ => ?_)
theorem regletref02_IsPunct.mono : ∀ a0 k, LeO (regletref02_IsPunct.f k a0) (regletref02_IsPunct.f (k + 1) a0) := by
 intro a0 k
 obtain ⟨ih0, ih1, ih2⟩ := regletref02_IsPunct.mono_l k
 unfold regletref02_IsPunct.f
 repeat' first
   | (with_reducible exact ih0 _ _ _)
   | (with_reducible exact ih1 _ _ _)
   | (with_reducible exact ih2 _ _)
   | (with_reducible exact LeO.refl _)
   | (with_reducible exact LeO.none _)
   | (with_reducible refine LeO.ite ?_ ?_)
   | (with_reducible refine LeO.bind ?_ (fun _ => ?_))
   | exact ih0 _ _ _
   | exact ih1 _ _ _
   | exact ih2 _ _
   | exact LeO.none _
   | refine LeO.ite ?_ ?_
   | refine LeO.bind ?_ (fun _ => ?_)
set_option maxHeartbeats 8000000 in
set_option maxRecDepth 100000 in
theorem regletref02_IsPunct.calls (k : Nat) (a0 : ByteArray) (r : Bool) (w : World) (h : regletref02_IsPunct.f k a0 = some r) :
  Calls Tryd.prog 103 #[.string a0] w fun e w' => e = .returned (.bool r) ∧ Drawn0 w w' := by
 have H : (if 1 + a0.size ≤ 9223372036854775807 then (if ((⟨#[32]⟩ : ByteArray) ++ a0).size + 1 ≤ 9223372036854775807 then (if (a0.size : Int) = 0 then (regletref02_IsPunct.j0 k a0 (((⟨#[32]⟩ : ByteArray) ++ a0) ++ (⟨#[32]⟩ : ByteArray)) true) else (regletref02_IsPunct.j0 k a0 (((⟨#[32]⟩ : ByteArray) ++ a0) ++ (⟨#[32]⟩ : ByteArray)) (decide ((a0.size : Int) > 4)))) else (none)) else (none)) = some r := h
 clear h
 by_cases c2 : 1 + a0.size ≤ 9223372036854775807
 ·rw [if_pos c2] at H
  have c2b0 := eq_true c2
  have c2b1 := decide_eq_true c2
  try have c2b2 : (9223372036854775807 < 1 + a0.size) = False := eq_false (Nat.not_lt.2 c2)
  by_cases c3 : ((⟨#[32]⟩ : ByteArray) ++ a0).size + 1 ≤ 9223372036854775807
  ·rw [if_pos c3] at H
   have c3b0 := eq_true c3
   have c3b1 := decide_eq_true c3
   try have c3b2 : (9223372036854775807 < ((⟨#[32]⟩ : ByteArray) ++ a0).size + 1) = False := eq_false (Nat.not_lt.2 c3)
   have c3h : 1 + a0.size + 1 ≤ 9223372036854775807 := by (have h0_ := c3; rw [ByteArray.size_append] at h0_; exact h0_)
   have c3b3 : (9223372036854775807 < 1 + a0.size + 1) = False := eq_false (Nat.not_lt.2 c3h)
   have HC4 := Aside0.mk H
   clear H
   go_enter Tryd.func103, Tryd.ntmps103
   go_upto_region 2 with (fail)
   obtain ⟨y3, hy3⟩ : ∃ y_ : ByteArray, (((⟨#[32]⟩ : ByteArray) ++ a0) ++ (⟨#[32]⟩ : ByteArray)) = y_ := ⟨_, rfl⟩
   have hc_ := HC4.out
   clear HC4
   simp only [hy3] at hc_ ⊢
   have HC4 := Aside0.mk hc_
   clear hc_
   go_cut [16] (fun v16 wc => ∃ (kq : Nat) (x16_3 : Bool), v16 = .bool x16_3 ∧ Aside0 (regletref02_IsPunct.j0 kq a0 y3 x16_3 = some r) ∧ Aside0 (kq ≤ k) ∧ Drawn0 w wc)
   case first =>
    have H := HC4.out
    clear HC4
    by_cases c5 : (a0.size : Int) = 0
    ·rw [if_pos c5] at H
     have c5b0 := beq_iff_eq.mpr c5
     have c5b1 := bne_eq_false_iff_eq.mpr c5
     clear c5
     (first | rw [c5b0] | (simp only [i64_w, i32_w]; rw [c5b0]) | skip)
     have H' := Aside0.mk H
     clear H
     go_wp2
     go_meet
     case rel => exact ⟨_, (true), er_, H', ⟨om_⟩, dr_⟩
    rw [if_neg c5] at H
    have c5b0 := beq_eq_false_iff_ne.mpr c5
    have c5b1 := bne_iff_ne.mpr c5
    (first | rw [c5b0] | (simp only [i64_w, i32_w]; rw [c5b0]) | skip)
    have H' := Aside0.mk H
    clear H
    go_wp2
    go_meet
    case rel => exact ⟨_, (decide ((a0.size : Int) > 4)), er_, H', ⟨om_⟩, dr_⟩
   case rest =>
    clear HC4
    try clear c1
    try clear c2
    try clear c2b0
    try clear c2b1
    try clear c2b2
    try clear p2
    try clear c3
    try clear c3b0
    try clear c3b1
    try clear c3b2
    try clear c5
    try clear c5b0
    try clear c5b1
    obtain ⟨kq, x16_3, rfl, HA, HJ3, ⟨mc3, rfl⟩⟩ := hcut
    cases kq with
    | zero => exact absurd HA.out (by simp [regletref02_IsPunct.j0])
    | succ kj3 =>
     have H := HA.out
     clear HA
     simp only [regletref02_IsPunct.j0] at H
     by_cases c6 : x16_3 = true
     ·subst c6
      have H1 : (some false) = some r := by rw [if_pos rfl] at H; exact H
      clear H
      have H := H1
      clear H1
      obtain rfl := Option.some.inj H
      go_wp2
      go_ret
      exact ⟨er_, dr_⟩
     replace c6 := Bool.eq_false_iff.mpr c6
     subst c6
     have H1 : (regletref02_IsPunct.l0 kj3 a0 y3 0) = some r := by rw [if_neg (show ¬ (false = true) by decide)] at H; exact H
     clear H
     have H := H1
     clear H1
     have H' := Aside0.mk H
     clear H
     go_wp2
     go_loopg [4] kj3 (fun kq v4 w' => ∃ (x4_2 : Int), v4 = .int .i64 x4_2 ∧ Aside0 (regletref02_IsPunct.l0 kq a0 y3 x4_2 = some r) ∧ Aside0 (kq ≤ kj3) ∧ Drawn0 w w')
     case atStart => exact ⟨(0), er_, H', ⟨Nat.le_refl _⟩, dr_⟩
     case round =>
      clear H'
      try clear c1
      try clear c2
      try clear c2b0
      try clear c2b1
      try clear c2b2
      try clear p2
      try clear c3
      try clear c3b0
      try clear c3b1
      try clear c3b2
      try clear c5
      try clear c5b0
      try clear c5b1
      try clear c6
      try clear p2
      obtain ⟨x4_2, rfl, HA, HK2, ⟨m2, rfl⟩⟩ := hrel
      cases gk with
      | zero => exact absurd HA.out (by simp [regletref02_IsPunct.l0])
      | succ k2 =>
       have H := HA.out
       clear HA
       simp only [regletref02_IsPunct.l0] at H
       by_cases c7 : x4_2 < (a0.size : Int)
       ·rw [if_pos c7] at H
        have c7b0 := decide_eq_true c7
        clear c7
        by_cases c8 : 0 ≤ x4_2
        ·rw [if_pos c8] at H
         have c8b0 := decide_eq_true c8
         clear c8
         by_cases c10 : (bt a0 x4_2) = 32
         ·rw [if_pos c10] at H
          have c10b0 := beq_iff_eq.mpr c10
          have c10b1 := bne_eq_false_iff_eq.mpr c10
          clear c10
          obtain rfl := Option.some.inj H
          have p9 : 0 ≤ (x4_2 : Int) := da_
          have q9 : x4_2 < (a0.size : Int) := da_
          have hx9 := bt_at a0 x4_2
          replace p9 := eq_true p9
          replace q9 := eq_true q9
          go_wp2
          go_ret
          exact ⟨er_, dr_⟩
         rw [if_neg c10] at H
         have c10b0 := beq_eq_false_iff_ne.mpr c10
         have c10b1 := bne_iff_ne.mpr c10
         have H' := Aside0.mk H
         clear H
         have p9 : 0 ≤ (x4_2 : Int) := da_
         have q9 : x4_2 < (a0.size : Int) := da_
         have hx9 := bt_at a0 x4_2
         replace p9 := eq_true p9
         replace q9 := eq_true q9
         go_wp2
         go_roundg k2
         case measure => have := HJ3.out; have := HK2.out; omega
         case rel => exact ⟨(wrap64 (x4_2 + 1)), er_, H', ⟨by have := HJ3.out; have := HK2.out; omega⟩, dr_⟩
        rw [if_neg c8] at H
        exact absurd H (by simp)
       rw [if_neg c7] at H
       have c7b0 := decide_eq_false c7
       clear c7
       have H' := Aside0.mk H
       clear H
       go_wp2
       go_loopg [5] k2 (fun kq v5 w' => ∃ (x5_3 : Int), v5 = .int .i64 x5_3 ∧ Aside0 (regletref02_IsPunct.l1 kq y3 x5_3 = some r) ∧ Aside0 (kq ≤ k2) ∧ Drawn0 w w')
       case atStart => exact ⟨(0), er_, H', ⟨Nat.le_refl _⟩, dr_⟩
       case round =>
        clear H'
        try clear c1
        try clear c2
        try clear c2b0
        try clear c2b1
        try clear c2b2
        try clear p2
        try clear c3
        try clear c3b0
        try clear c3b1
        try clear c3b2
        try clear c5
        try clear c5b0
        try clear c5b1
        try clear c6
        try clear p6
        try clear c7
        try clear c7b0
        try clear c8
        try clear c8b0
        try clear p9
        try clear q9
        try clear hx9
        try clear c10
        try clear c10b0
        try clear c10b1
        try clear p2
        try clear p9
        try clear q9
        obtain ⟨x5_3, rfl, HA, HK3, ⟨m3, rfl⟩⟩ := hrel
        cases gk with
        | zero => exact absurd HA.out (by simp [regletref02_IsPunct.l1])
        | succ k3 =>
         have H := HA.out
         clear HA
         simp only [regletref02_IsPunct.l1] at H
         by_cases c11 : (wrap64 (x5_3 + (y3.size : Int))) ≤ 143
         ·rw [if_pos c11] at H
          have c11b0 := decide_eq_true c11
          clear c11
          by_cases c12 : 0 ≤ x5_3
          ·rw [if_pos c12] at H
           have c12b0 := eq_true c12
           have c12b1 := decide_eq_true c12
           clear c12
           by_cases c13 : x5_3 ≤ (wrap64 (x5_3 + (y3.size : Int)))
           ·rw [if_pos c13] at H
            have c13b0 := eq_true c13
            have c13b1 := decide_eq_true c13
            have c14b0 := eq_true (of_decide_eq_true (by first | (with_reducible assumption) | assumption) : (wrap64 (x5_3 + (y3.size : Int))) ≤ 143)
            by_cases c15 : ((⟨#[32, 91, 32, 93, 32, 40, 32, 41, 32, 123, 32, 125, 32, 46, 32, 45, 62, 32, 43, 43, 32, 45, 45, 32, 38, 32, 42, 32, 43, 32, 45, 32, 126, 32, 33, 32, 47, 32, 37, 32, 60, 60, 32, 62, 62, 32, 60, 32, 62, 32, 60, 61, 32, 62, 61, 32, 61, 61, 32, 33, 61, 32, 94, 32, 124, 32, 38, 38, 32, 124, 124, 32, 63, 32, 58, 32, 59, 32, 46, 46, 46, 32, 61, 32, 42, 61, 32, 47, 61, 32, 37, 61, 32, 43, 61, 32, 45, 61, 32, 60, 60, 61, 32, 62, 62, 61, 32, 38, 61, 32, 94, 61, 32, 124, 61, 32, 44, 32, 35, 32, 35, 35, 32, 60, 58, 32, 58, 62, 32, 60, 37, 32, 37, 62, 32, 37, 58, 32, 37, 58, 37, 58, 32]⟩ : ByteArray).extract (x5_3 : Int).toNat ((wrap64 (x5_3 + (y3.size : Int))) : Int).toNat).toList = y3.toList
            ·rw [if_pos c15] at H
             have c15b0 := beq_iff_eq.mpr c15
             have c15b1 := bne_eq_false_iff_eq.mpr c15
             clear c15
             obtain rfl := Option.some.inj H
             go_wp2
             go_ret
             exact ⟨er_, dr_⟩
            rw [if_neg c15] at H
            have c15b0 := beq_eq_false_iff_ne.mpr c15
            have c15b1 := bne_iff_ne.mpr c15
            have H' := Aside0.mk H
            clear H
            go_wp2
            go_roundg k3
            case measure => have := HJ3.out; have := HK2.out; have := HK3.out; omega
            case rel => exact ⟨(wrap64 (x5_3 + 1)), er_, H', ⟨by have := HJ3.out; have := HK2.out; have := HK3.out; omega⟩, dr_⟩
           rw [if_neg c13] at H
           exact absurd H (by simp)
          rw [if_neg c12] at H
          exact absurd H (by simp)
         rw [if_neg c11] at H
         have c11b0 := decide_eq_false c11
         clear c11
         obtain rfl := Option.some.inj H
         go_wp2
         go_ret
         exact ⟨er_, dr_⟩
  rw [if_neg c3] at H
  exact absurd H (by simp)
 rw [if_neg c2] at H
 exact absurd H (by simp)
mutual
def regletref02_pieces.l0 : Nat → ByteArray → Int → Int → Option (Bool)
 | 0, _, _, _ => none
 | k + 1, x0, x1, x5 => if x5 < (x0.size : Int) then (if 0 ≤ x5 then (if (bt x0 x5) = x1 then (regletref02_pieces.j1 k x0 x1 x5 true) else (regletref02_pieces.j1 k x0 x1 x5 ((bt x0 x5) == 10))) else (none)) else (some true)
def regletref02_pieces.j1 : Nat → ByteArray → Int → Int → Bool → Option (Bool)
 | 0, _, _, _, _ => none
 | k + 1, x0, x1, x5, x20 => if x20 = true then (some false) else (if 0 ≤ x5 then (if x5 < (x0.size : Int) then (if (bt x0 x5) = 92 then (if (wrap64 (x5 + 1)) = (x0.size : Int) then (some false) else (if 0 ≤ (wrap64 (x5 + 1)) then (if (wrap64 (x5 + 1)) < (x0.size : Int) then (if (bt x0 (wrap64 (x5 + 1))) = 10 then (some false) else (regletref02_pieces.l0 k x0 x1 (wrap64 ((wrap64 (x5 + 1)) + 1)))) else (none)) else (none))) else (regletref02_pieces.l0 k x0 x1 (wrap64 (x5 + 1)))) else (none)) else (none))
end
def regletref02_pieces.f (k : Nat) (a0 : ByteArray) (a1 : Int) : Option (Bool) := regletref02_pieces.l0 k a0 a1 0
theorem regletref02_pieces.mono_l : ∀ k, (∀ y0 y1 y2, LeO (regletref02_pieces.l0 k y0 y1 y2) (regletref02_pieces.l0 (k + 1) y0 y1 y2)) ∧ (∀ y0 y1 y2 y3, LeO (regletref02_pieces.j1 k y0 y1 y2 y3) (regletref02_pieces.j1 (k + 1) y0 y1 y2 y3))
 | 0 => ⟨fun _ _ _ r h => by simp [regletref02_pieces.l0] at h, fun _ _ _ _ r h => by simp [regletref02_pieces.j1] at h⟩
 | k + 1 => by
  obtain ⟨ih0, ih1⟩ := regletref02_pieces.mono_l k
  refine ⟨?_, ?_⟩
  ·intro y0 y1 y2
   unfold regletref02_pieces.l0
   repeat' first
   | (with_reducible exact ih0 _ _ _)
   | (with_reducible exact ih1 _ _ _ _)
   | (with_reducible exact LeO.refl _)
   | (with_reducible exact LeO.none _)
   | (with_reducible refine LeO.ite ?_ ?_)
   | (with_reducible refine LeO.bind ?_ (fun _ => ?_))
   | exact ih0 _ _ _
   | exact ih1 _ _ _ _
   | exact LeO.none _
   | refine LeO.ite ?_ ?_
   | refine LeO.bind ?_ (fun _ => ?_)
  intro y0 y1 y2 y3
  unfold regletref02_pieces.j1
  repeat' first
  | (with_reducible exact ih0 _ _ _)
  | (with_reducible exact ih1 _ _ _ _)
  | (with_reducible exact LeO.refl _)
  | (with_reducible exact LeO.none _)
  | (with_reducible refine LeO.ite ?_ ?_)
  | (with_reducible refine LeO.bind ?_ (fun _ => ?_))
  | exact ih0 _ _ _
  | exact ih1 _ _ _ _
  | exact LeO.none _
  | refine LeO.ite ?_ ?_
  | refine LeO.bind ?_ (fun _ => ?_)
theorem regletref02_pieces.mono : ∀ a0 a1 k, LeO (regletref02_pieces.f k a0 a1) (regletref02_pieces.f (k + 1) a0 a1) := by
 intro a0 a1 k
 obtain ⟨ih0, ih1⟩ := regletref02_pieces.mono_l k
 unfold regletref02_pieces.f
 repeat' first
   | (with_reducible exact ih0 _ _ _)
   | (with_reducible exact ih1 _ _ _ _)
   | (with_reducible exact LeO.refl _)
   | (with_reducible exact LeO.none _)
   | (with_reducible refine LeO.ite ?_ ?_)
   | (with_reducible refine LeO.bind ?_ (fun _ => ?_))
   | exact ih0 _ _ _
   | exact ih1 _ _ _ _
   | exact LeO.none _
   | refine LeO.ite ?_ ?_
   | refine LeO.bind ?_ (fun _ => ?_)
set_option maxHeartbeats 8000000 in
set_option maxRecDepth 100000 in
theorem regletref02_pieces.calls (k : Nat) (a0 : ByteArray) (a1 : Int) (r : Bool) (w : World) (h : regletref02_pieces.f k a0 a1 = some r) :
  Calls Tryd.prog 108 #[.string a0, .int .u8 a1] w fun e w' => e = .returned (.bool r) ∧ Drawn0 w w' := by
 have H : (regletref02_pieces.l0 k a0 a1 0) = some r := h
 clear h
 have H' := Aside0.mk H
 clear H
 go_enter Tryd.func108, Tryd.ntmps108
 go_wp2
 go_loopg [5] k (fun kq v5 w' => ∃ (x5_1 : Int), v5 = .int .i64 x5_1 ∧ Aside0 (regletref02_pieces.l0 kq a0 a1 x5_1 = some r) ∧ Aside0 (kq ≤ k) ∧ Drawn0 w w')
 case atStart => exact ⟨(0), er_, H', ⟨Nat.le_refl _⟩, dr_⟩
 case round =>
  clear H'
  try clear c1
  try clear p2
  obtain ⟨x5_1, rfl, HA, HK1, ⟨m1, rfl⟩⟩ := hrel
  cases gk with
  | zero => exact absurd HA.out (by simp [regletref02_pieces.l0])
  | succ k1 =>
   have H := HA.out
   clear HA
   simp only [regletref02_pieces.l0] at H
   by_cases c3 : x5_1 < (a0.size : Int)
   ·rw [if_pos c3] at H
    have c3b0 := decide_eq_true c3
    clear c3
    have HC4 := Aside0.mk H
    clear H
    go_upto_region 3 with (fail)
    go_cut [20] (fun v20 wc => ∃ (kq : Nat) (x20_3 : Bool), v20 = .bool x20_3 ∧ Aside0 (regletref02_pieces.j1 kq a0 a1 x5_1 x20_3 = some r) ∧ Aside0 (kq ≤ k1) ∧ Drawn0 w wc)
    case first =>
     have H := HC4.out
     clear HC4
     by_cases c5 : 0 ≤ x5_1
     ·rw [if_pos c5] at H
      have c5b0 := decide_eq_true c5
      clear c5
      (first | rw [c5b0] | (simp only [i64_w, i32_w]; rw [c5b0]) | skip)
      by_cases c7 : (bt a0 x5_1) = a1
      ·rw [if_pos c7] at H
       have c7b0 := beq_iff_eq.mpr c7
       have c7b1 := bne_eq_false_iff_eq.mpr c7
       clear c7
       have H' := Aside0.mk H
       clear H
       have p6 : 0 ≤ (x5_1 : Int) := da_
       have q6 : x5_1 < (a0.size : Int) := da_
       have hx6 := bt_at a0 x5_1
       replace p6 := eq_true p6
       replace q6 := eq_true q6
       go_wp2
       go_meet
       case rel => exact ⟨_, (true), er_, H', ⟨by have := HK1.out; first | omega | exact Nat.le_refl _⟩, dr_⟩
      rw [if_neg c7] at H
      have c7b0 := beq_eq_false_iff_ne.mpr c7
      have c7b1 := bne_iff_ne.mpr c7
      have H' := Aside0.mk H
      clear H
      have p6 : 0 ≤ (x5_1 : Int) := da_
      have q6 : x5_1 < (a0.size : Int) := da_
      have hx6 := bt_at a0 x5_1
      replace p6 := eq_true p6
      replace q6 := eq_true q6
      have p8 : 0 ≤ (x5_1 : Int) := da_
      have q8 : x5_1 < (a0.size : Int) := da_
      have hx8 := bt_at a0 x5_1
      replace p8 := eq_true p8
      replace q8 := eq_true q8
      go_wp2
      go_meet
      case rel => exact ⟨_, (((bt a0 x5_1) == 10)), er_, H', ⟨by have := HK1.out; first | omega | exact Nat.le_refl _⟩, dr_⟩
     rw [if_neg c5] at H
     exact absurd H (by simp)
    case rest =>
     clear HC4
     try clear c1
     try clear p2
     try clear c3
     try clear c3b0
     try clear c5
     try clear c5b0
     try clear p6
     try clear q6
     try clear hx6
     try clear c7
     try clear c7b0
     try clear c7b1
     try clear p8
     try clear q8
     try clear hx8
     try clear p2
     try clear p6
     try clear p8
     try clear q6
     try clear q8
     obtain ⟨kq, x20_3, rfl, HA, HJ3, ⟨mc3, rfl⟩⟩ := hcut
     cases kq with
     | zero => exact absurd HA.out (by simp [regletref02_pieces.j1])
     | succ kj3 =>
      have H := HA.out
      clear HA
      simp only [regletref02_pieces.j1] at H
      by_cases c9 : x20_3 = true
      ·subst c9
       have H1 : (some false) = some r := by rw [if_pos rfl] at H; exact H
       clear H
       have H := H1
       clear H1
       obtain rfl := Option.some.inj H
       go_wp2
       go_ret
       exact ⟨er_, dr_⟩
      replace c9 := Bool.eq_false_iff.mpr c9
      subst c9
      have H1 : (if 0 ≤ x5_1 then (if x5_1 < (a0.size : Int) then (if (bt a0 x5_1) = 92 then (if (wrap64 (x5_1 + 1)) = (a0.size : Int) then (some false) else (if 0 ≤ (wrap64 (x5_1 + 1)) then (if (wrap64 (x5_1 + 1)) < (a0.size : Int) then (if (bt a0 (wrap64 (x5_1 + 1))) = 10 then (some false) else (regletref02_pieces.l0 kj3 a0 a1 (wrap64 ((wrap64 (x5_1 + 1)) + 1)))) else (none)) else (none))) else (regletref02_pieces.l0 kj3 a0 a1 (wrap64 (x5_1 + 1)))) else (none)) else (none)) = some r := by rw [if_neg (show ¬ (false = true) by decide)] at H; exact H
      clear H
      have H := H1
      clear H1
      by_cases c10 : 0 ≤ x5_1
      ·rw [if_pos c10] at H
       have c10b0 := decide_eq_true c10
       clear c10
       by_cases c11 : x5_1 < (a0.size : Int)
       ·rw [if_pos c11] at H
        have c11b0 := decide_eq_true c11
        clear c11
        by_cases c13 : (bt a0 x5_1) = 92
        ·rw [if_pos c13] at H
         have c13b0 := beq_iff_eq.mpr c13
         have c13b1 := bne_eq_false_iff_eq.mpr c13
         clear c13
         by_cases c14 : (wrap64 (x5_1 + 1)) = (a0.size : Int)
         ·rw [if_pos c14] at H
          have c14b0 := beq_iff_eq.mpr c14
          have c14b1 := bne_eq_false_iff_eq.mpr c14
          clear c14
          obtain rfl := Option.some.inj H
          have p12 : 0 ≤ (x5_1 : Int) := da_
          have q12 : x5_1 < (a0.size : Int) := da_
          have hx12 := bt_at a0 x5_1
          replace p12 := eq_true p12
          replace q12 := eq_true q12
          go_wp2
          go_ret
          exact ⟨er_, dr_⟩
         rw [if_neg c14] at H
         have c14b0 := beq_eq_false_iff_ne.mpr c14
         have c14b1 := bne_iff_ne.mpr c14
         obtain ⟨ji15, hji15⟩ : ∃ j_ : Int, (wrap64 (x5_1 + 1)) = j_ := ⟨_, rfl⟩
         replace H : (if 0 ≤ (ji15) then (if (ji15) < (a0.size : Int) then (if (bt a0 (ji15)) = 10 then (some false) else (regletref02_pieces.l0 kj3 a0 a1 (wrap64 ((ji15) + 1)))) else (none)) else (none)) = some r := by first | (rw [hji15] at H; exact H) | (simp only [hji15] at H ⊢; exact H)
         (try rw [hji15] at c14b0)
         (try rw [hji15] at c14b1)
         have hji15w : (IntKind.i64.wrap (x5_1 + 1)) = ji15 := (i64_w _).trans hji15
         by_cases c16 : 0 ≤ (ji15)
         ·rw [if_pos c16] at H
          have c16b0 := decide_eq_true c16
          clear c16
          by_cases c17 : (ji15) < (a0.size : Int)
          ·rw [if_pos c17] at H
           have c17b0 := decide_eq_true c17
           clear c17
           by_cases c19 : (bt a0 (ji15)) = 10
           ·rw [if_pos c19] at H
            have c19b0 := beq_iff_eq.mpr c19
            have c19b1 := bne_eq_false_iff_eq.mpr c19
            clear c19
            obtain rfl := Option.some.inj H
            have p12 : 0 ≤ (x5_1 : Int) := da_
            have q12 : x5_1 < (a0.size : Int) := da_
            have hx12 := bt_at a0 x5_1
            replace p12 := eq_true p12
            replace q12 := eq_true q12
            have p18 : 0 ≤ ((ji15) : Int) := da_
            have q18 : (ji15) < (a0.size : Int) := da_
            have hx18 := bt_at a0 (ji15)
            replace p18 := eq_true p18
            replace q18 := eq_true q18
            go_wp2
            go_ret
            exact ⟨by first | rfl | (simp; done) | (simp only [← hji15] <;> (first | rfl | simp)) | (simp [*]; done), dr_⟩
           rw [if_neg c19] at H
           have c19b0 := beq_eq_false_iff_ne.mpr c19
           have c19b1 := bne_iff_ne.mpr c19
           have H' := Aside0.mk H
           clear H
           have p12 : 0 ≤ (x5_1 : Int) := da_
           have q12 : x5_1 < (a0.size : Int) := da_
           have hx12 := bt_at a0 x5_1
           replace p12 := eq_true p12
           replace q12 := eq_true q12
           have p18 : 0 ≤ ((ji15) : Int) := da_
           have q18 : (ji15) < (a0.size : Int) := da_
           have hx18 := bt_at a0 (ji15)
           replace p18 := eq_true p18
           replace q18 := eq_true q18
           go_wp2
           go_roundg kj3
           case measure => have := HK1.out; have := HJ3.out; omega
           case rel => exact ⟨(wrap64 ((ji15) + 1)), (by first | rfl | (simp; done) | (simp only [← hji15] <;> (first | rfl | simp)) | (simp [*]; done)), H', ⟨by have := HK1.out; have := HJ3.out; omega⟩, dr_⟩
          rw [if_neg c17] at H
          exact absurd H (by simp)
         rw [if_neg c16] at H
         exact absurd H (by simp)
        rw [if_neg c13] at H
        have c13b0 := beq_eq_false_iff_ne.mpr c13
        have c13b1 := bne_iff_ne.mpr c13
        have H' := Aside0.mk H
        clear H
        have p12 : 0 ≤ (x5_1 : Int) := da_
        have q12 : x5_1 < (a0.size : Int) := da_
        have hx12 := bt_at a0 x5_1
        replace p12 := eq_true p12
        replace q12 := eq_true q12
        go_wp2
        go_roundg kj3
        case measure => have := HK1.out; have := HJ3.out; omega
        case rel => exact ⟨(wrap64 (x5_1 + 1)), er_, H', ⟨by have := HK1.out; have := HJ3.out; omega⟩, dr_⟩
       rw [if_neg c11] at H
       exact absurd H (by simp)
      rw [if_neg c10] at H
      exact absurd H (by simp)
   rw [if_neg c3] at H
   have c3b0 := decide_eq_false c3
   clear c3
   obtain rfl := Option.some.inj H
   go_wp2
   go_ret
   exact ⟨er_, dr_⟩
def regletref02_IsLiteral.l0 : Nat → ByteArray → Int → List ByteArray → Int → Option (Bool)
 | 0, _, _, _, _ => none
 | k + 1, x0, x1, x2, x7 => if x7 < (x2.length : Int) then (if 0 ≤ x7 then (if (x0.size : Int) ≥ (wrap64 (((rdOf ByteArray.empty x2 x7).size : Int) + 2)) then (if 0 ≤ ((rdOf ByteArray.empty x2 x7).size : Int) then (if ((rdOf ByteArray.empty x2 x7).size : Int) ≤ (x0.size : Int) then (if (x0.extract 0 (((rdOf ByteArray.empty x2 x7).size : Int) : Int).toNat).toList = (rdOf ByteArray.empty x2 x7).toList then (if ((rdOf ByteArray.empty x2 x7).size : Int) < (x0.size : Int) then (if (bt x0 ((rdOf ByteArray.empty x2 x7).size : Int)) = x1 then (if 0 ≤ (wrap64 ((x0.size : Int) - 1)) then (if (wrap64 ((x0.size : Int) - 1)) < (x0.size : Int) then (if (bt x0 (wrap64 ((x0.size : Int) - 1))) = x1 then (if 0 ≤ (wrap64 (((rdOf ByteArray.empty x2 x7).size : Int) + 1)) then (if (wrap64 (((rdOf ByteArray.empty x2 x7).size : Int) + 1)) ≤ (wrap64 ((x0.size : Int) - 1)) then (if (wrap64 ((x0.size : Int) - 1)) ≤ (x0.size : Int) then ((regletref02_pieces.f k (x0.extract ((wrap64 (((rdOf ByteArray.empty x2 x7).size : Int) + 1)) : Int).toNat ((wrap64 ((x0.size : Int) - 1)) : Int).toNat) x1).bind fun t128 => (if t128 = true then (if x1 = 34 then (some true) else (some (decide ((x0.size : Int) > (wrap64 (((rdOf ByteArray.empty x2 x7).size : Int) + 2)))))) else (regletref02_IsLiteral.l0 k x0 x1 x2 (wrap64 (x7 + 1))))) else (none)) else (none)) else (none)) else (regletref02_IsLiteral.l0 k x0 x1 x2 (wrap64 (x7 + 1)))) else (none)) else (none)) else (regletref02_IsLiteral.l0 k x0 x1 x2 (wrap64 (x7 + 1)))) else (none)) else (regletref02_IsLiteral.l0 k x0 x1 x2 (wrap64 (x7 + 1)))) else (none)) else (none)) else (regletref02_IsLiteral.l0 k x0 x1 x2 (wrap64 (x7 + 1)))) else (none)) else (some false)
def regletref02_IsLiteral.f (k : Nat) (a0 : ByteArray) (a1 : Int) (l2 : List ByteArray) : Option (Bool) := regletref02_IsLiteral.l0 k a0 a1 l2 0
theorem regletref02_IsLiteral.mono_l : ∀ k, (∀ y0 y1 y2 y3, LeO (regletref02_IsLiteral.l0 k y0 y1 y2 y3) (regletref02_IsLiteral.l0 (k + 1) y0 y1 y2 y3))
 | 0 => fun _ _ _ _ r h => by simp [regletref02_IsLiteral.l0] at h
 | k + 1 => by
  have ih0 := regletref02_IsLiteral.mono_l k
  intro y0 y1 y2 y3
  unfold regletref02_IsLiteral.l0
  repeat' first
  | (with_reducible exact ih0 _ _ _ _)
  | (with_reducible exact regletref02_pieces.mono _ _ _)
  | (with_reducible exact LeO.refl _)
  | (with_reducible exact LeO.none _)
  | (with_reducible refine LeO.ite ?_ ?_)
  | (with_reducible refine LeO.bind ?_ (fun _ => ?_))
  | exact ih0 _ _ _ _
  | exact regletref02_pieces.mono _ _ _
  | exact LeO.none _
  | refine LeO.ite ?_ ?_
  | refine LeO.bind ?_ (fun _ => ?_)
theorem regletref02_IsLiteral.mono : ∀ a0 a1 a2 k, LeO (regletref02_IsLiteral.f k a0 a1 a2) (regletref02_IsLiteral.f (k + 1) a0 a1 a2) := by
 intro a0 a1 a2 k
 have ih0 := regletref02_IsLiteral.mono_l k
 unfold regletref02_IsLiteral.f
 repeat' first
   | (with_reducible exact ih0 _ _ _ _)
   | (with_reducible exact regletref02_pieces.mono _ _ _)
   | (with_reducible exact LeO.refl _)
   | (with_reducible exact LeO.none _)
   | (with_reducible refine LeO.ite ?_ ?_)
   | (with_reducible refine LeO.bind ?_ (fun _ => ?_))
   | exact ih0 _ _ _ _
   | exact regletref02_pieces.mono _ _ _
   | exact LeO.none _
   | refine LeO.ite ?_ ?_
   | refine LeO.bind ?_ (fun _ => ?_)
theorem wpStill_cons_ {P : Program} {ops : Array Oper} {w : World} {Q : Act → Prop} {a : Act} {o : Oper} {rest : List Oper} : wpStill P ops w Q (o :: rest) a = (if Region.wanted o (yielded ops a.tmps) = true then o.still P a w (wpStill P ops w Q rest) else wpStill P ops w Q rest (a.put o.dst undef)) := rfl
theorem wpStill_nil_ {P : Program} {ops : Array Oper} {w : World} {Q : Act → Prop} {a : Act} : wpStill P ops w Q [] a = Q a := rfl
attribute [local go_sem] wpStill_cons_ wpStill_nil_
theorem wpStill_append_ {P : Program} {ops : Array Oper} {w : World} {Q : Act → Prop} {l2 : List Oper} : ∀ l1 : List Oper, wpStill P ops w Q (l1 ++ l2) = wpStill P ops w (wpStill P ops w Q l2) l1
 | [] => rfl
 | o :: l1 => by
  funext a
  have ih := wpStill_append_ (P := P) (ops := ops) (w := w) (Q := Q) (l2 := l2) l1
  show (if Region.wanted o (yielded ops a.tmps) = true then o.still P a w (wpStill P ops w Q (l1 ++ l2)) else wpStill P ops w Q (l1 ++ l2) (a.put o.dst undef)) = _
  rw [ih]
  rfl
theorem wpStill_split (n : Nat) {P : Program} {ops : Array Oper} {w : World} {Q : Act → Prop} {l : List Oper} {a : Act} (h : ∀ K : Act → Prop, (∀ a', wpStill P ops w Q (l.drop n) a' → K a') → wpStill P ops w K (l.take n) a) : wpStill P ops w Q l a := by
 have := h _ (fun _ h => h)
 rw [← wpStill_append_, List.take_append_drop] at this
 exact this
set_option maxHeartbeats 8000000 in
set_option maxRecDepth 100000 in
theorem regletref02_IsLiteral.calls (k : Nat) (a0 : ByteArray) (a1 : Int) (A2 : Option Addr) (c2 : Nat) (l2 : List ByteArray) (r : Bool) (w : World) (hr2 : Kd.C Kd.string w A2 l2.length l2) (hc2 : l2.length ≤ c2) (h : regletref02_IsLiteral.f k a0 a1 l2 = some r) :
  Calls Tryd.prog 102 #[.string a0, .int .u8 a1, .slice A2 l2.length c2] w fun e w' => e = .returned (.bool r) ∧ Below w.heap.size w w' := by
 have HR2 := Aside0.mk hr2
 have HC2 := Aside0.mk hc2
 clear hr2 hc2
 have HB := Aside0.mk (Below.refl w.heap.size w)
 have H : (regletref02_IsLiteral.l0 k a0 a1 l2 0) = some r := h
 clear h
 have H' := Aside0.mk H
 clear H
 go_enter Tryd.func102, Tryd.ntmps102
 go_wp2
 go_loopg [7] k (fun kq v7 w' => ∃ (x7_1 : Int), v7 = .int .i64 x7_1 ∧ Aside0 (regletref02_IsLiteral.l0 kq a0 a1 l2 x7_1 = some r) ∧ Aside0 (kq ≤ k) ∧ Aside0 (Below w.heap.size w w'))
 case atStart => exact ⟨(0), er_, H', ⟨Nat.le_refl _⟩, ⟨bl_⟩⟩
 case round =>
  clear H'
  obtain ⟨x7_1, rfl, HA, HK1, HB⟩ := hrel
  cases gk with
  | zero => exact absurd HA.out (by simp [regletref02_IsLiteral.l0])
  | succ k1 =>
   have H := HA.out
   clear HA
   simp only [regletref02_IsLiteral.l0] at H
   by_cases c4 : x7_1 < (l2.length : Int)
   ·rw [if_pos c4] at H
    by_cases c5 : 0 ≤ x7_1
    ·rw [if_pos c5] at H
     obtain ⟨ad, e126, hx⟩ := Kd.at_string HR2.out x7_1 c5 c4
     cases e126
     replace hx := (HB.out.cell (World.block_lt_of_cell? w _ hx)).trans hx
     obtain ⟨p, hp⟩ : ∃ p_ : ByteArray, rdOf ByteArray.empty l2 x7_1 = p_ := ⟨_, rfl⟩
     simp only [hp] at H hx
     clear hp
     have c4b := decide_eq_true c4
     have c4c := eq_true c4
     have c5b := eq_true c5
     have c7b := eq_true (Int.natCast_nonneg p.size)
     clear c4 c5
     go_upto_region 5 with fail
     obtain ⟨j0, hj0⟩ : ∃ j_, wrap64 ((p.size : Int) + 2) = j_ := ⟨_, rfl⟩
     have hj0w : IntKind.i64.wrap ((p.size : Int) + 2) = j0 := (i64_w _).trans hj0
     simp only [hj0] at H
     by_cases c6 : (a0.size : Int) ≥ j0
     ·rw [if_pos c6] at H
      have c6b : (j0 ≤ (a0.size : Int)) = True := eq_true c6
      clear c6
      rw [if_pos (Int.natCast_nonneg p.size)] at H
      by_cases c8 : (p.size : Int) ≤ (a0.size : Int)
      ·rw [if_pos c8] at H
       have c8b := eq_true c8
       have c8c : (p.size ≤ a0.size) = True := eq_true (Int.ofNat_le.1 c8)
       clear c8
       simp only [Int.toNat_natCast] at H
       by_cases c9 : (a0.extract 0 p.size).toList = p.toList
       ·rw [if_pos c9] at H
        have c9b : ((a0.extract 0 p.size).toList == p.toList) = true := beq_iff_eq.mpr c9
        have c9c := eq_true c9
        by_cases c10 : (p.size : Int) < (a0.size : Int)
        ·rw [if_pos c10] at H
         have c10b := eq_true c10
         have c10c : (p.size < a0.size) = True := eq_true (Int.ofNat_lt.1 c10)
         have hx11 : ∀ h : p.size < a0.size, ((a0[p.size]'h).toNat : Int) = bt a0 (p.size : Int) := bt_at a0 (p.size : Int)
         by_cases c12 : bt a0 (p.size : Int) = a1
         ·rw [if_pos c12] at H
          have c12b : (bt a0 (p.size : Int) == a1) = true := beq_iff_eq.mpr c12
          by_cases c14 : 0 ≤ wrap64 ((a0.size : Int) - 1)
          ·rw [if_pos c14] at H
           by_cases c15 : wrap64 ((a0.size : Int) - 1) < (a0.size : Int)
           ·rw [if_pos c15] at H
            obtain ⟨j1, hj1⟩ : ∃ j_, wrap64 ((a0.size : Int) - 1) = j_ := ⟨_, rfl⟩
            have hj1w : IntKind.i64.wrap ((a0.size : Int) - 1) = j1 := (i64_w _).trans hj1
            rw [hj1] at c14 c15
            simp only [hj1] at H
            have c14b := eq_true c14
            have c15b := eq_true c15
            have hx16 := bt_at a0 j1
            by_cases c17 : bt a0 j1 = a1
            ·rw [if_pos c17] at H
             have c17b : (bt a0 j1 == a1) = true := beq_iff_eq.mpr c17
             obtain ⟨j2, hj2⟩ : ∃ j_, wrap64 ((p.size : Int) + 1) = j_ := ⟨_, rfl⟩
             have hj2w : IntKind.i64.wrap ((p.size : Int) + 1) = j2 := (i64_w _).trans hj2
             simp only [hj2] at H
             by_cases c19 : 0 ≤ j2
             ·rw [if_pos c19] at H
              by_cases c20 : j2 ≤ j1
              ·rw [if_pos c20] at H
               by_cases c21 : j1 ≤ (a0.size : Int)
               ·rw [if_pos c21] at H
                have c19b := eq_true c19
                have c20b := eq_true c20
                have c21b := eq_true c21
                obtain ⟨t128, A22_, H⟩ := Option.bind_eq_some_iff.mp H
                have A22 := Aside0.mk A22_
                clear A22_
                cases t128 with
                | false =>
                 refine wp_region_still_tail 40 (by kernel_rfl) (by kernel_rfl) ?_
                 simp only [List.take_succ_cons, List.take_zero, List.drop_succ_cons, List.drop_zero]
                 change wpStill _ _ (World.drew _) (fun a' => wpList _ _ _ _ a' (World.drew _)) _ _
                 refine wpStill_split 10 (fun K hK => ?_)
                 simp only [List.take_succ_cons, List.take_zero, List.drop_succ_cons, List.drop_zero] at hK ⊢
                 go_simp
                 refine hK _ ?_
                 clear hK K
                 refine wpStill_split 8 (fun K hK => ?_)
                 simp only [List.take_succ_cons, List.take_zero, List.drop_succ_cons, List.drop_zero] at hK ⊢
                 go_simp
                 refine hK _ ?_
                 clear hK K
                 refine wpStill_split 6 (fun K hK => ?_)
                 simp only [List.take_succ_cons, List.take_zero, List.drop_succ_cons, List.drop_zero] at hK ⊢
                 go_simp
                 refine hK _ ?_
                 clear hK K
                 refine wpStill_split 6 (fun K hK => ?_)
                 simp only [List.take_succ_cons, List.take_zero, List.drop_succ_cons, List.drop_zero] at hK ⊢
                 go_simp
                 refine hK _ ?_
                 clear hK K
                 go_simp
                 go_wp2_with (go_at_call 108; refine (regletref02_pieces.calls k1 _ _ _ _ A22.out).mono ?_; rintro e w' ⟨rfl, ⟨nd, rfl⟩⟩)
                 go_roundg k1
                 case measure => have := HK1.out; omega
                 case rel => exact ⟨wrap64 (x7_1 + 1), (by first | rfl | simp), ⟨H⟩, ⟨by have := HK1.out; omega⟩, ⟨bl_⟩⟩
                | true =>
                 replace H : (if a1 = 34 then (some true) else (some (decide ((a0.size : Int) > j0)))) = some r := H
                 by_cases c24 : a1 = 34
                 ·rw [if_pos c24] at H
                  obtain rfl := Option.some.inj H
                  subst c24
                  refine wp_region_still_tail 40 (by kernel_rfl) (by kernel_rfl) ?_
                  simp only [List.take_succ_cons, List.take_zero, List.drop_succ_cons, List.drop_zero]
                  change wpStill _ _ (World.drew _) (fun a' => wpList _ _ _ _ a' (World.drew _)) _ _
                  refine wpStill_split 10 (fun K hK => ?_)
                  simp only [List.take_succ_cons, List.take_zero, List.drop_succ_cons, List.drop_zero] at hK ⊢
                  go_simp
                  refine hK _ ?_
                  clear hK K
                  refine wpStill_split 8 (fun K hK => ?_)
                  simp only [List.take_succ_cons, List.take_zero, List.drop_succ_cons, List.drop_zero] at hK ⊢
                  go_simp
                  refine hK _ ?_
                  clear hK K
                  refine wpStill_split 6 (fun K hK => ?_)
                  simp only [List.take_succ_cons, List.take_zero, List.drop_succ_cons, List.drop_zero] at hK ⊢
                  go_simp
                  refine hK _ ?_
                  clear hK K
                  refine wpStill_split 6 (fun K hK => ?_)
                  simp only [List.take_succ_cons, List.take_zero, List.drop_succ_cons, List.drop_zero] at hK ⊢
                  go_simp
                  refine hK _ ?_
                  clear hK K
                  go_simp
                  go_wp2_with (go_at_call 108; refine (regletref02_pieces.calls k1 _ _ _ _ A22.out).mono ?_; rintro e w' ⟨rfl, ⟨nd, rfl⟩⟩)
                  go_ret
                  exact ⟨rfl, bl_⟩
                 rw [if_neg c24] at H
                 have c24b : (a1 == 34) = false := beq_eq_false_iff_ne.mpr c24
                 obtain rfl := Option.some.inj H
                 refine wp_region_still_tail 40 (by kernel_rfl) (by kernel_rfl) ?_
                 simp only [List.take_succ_cons, List.take_zero, List.drop_succ_cons, List.drop_zero]
                 change wpStill _ _ (World.drew _) (fun a' => wpList _ _ _ _ a' (World.drew _)) _ _
                 refine wpStill_split 10 (fun K hK => ?_)
                 simp only [List.take_succ_cons, List.take_zero, List.drop_succ_cons, List.drop_zero] at hK ⊢
                 go_simp
                 refine hK _ ?_
                 clear hK K
                 refine wpStill_split 8 (fun K hK => ?_)
                 simp only [List.take_succ_cons, List.take_zero, List.drop_succ_cons, List.drop_zero] at hK ⊢
                 go_simp
                 refine hK _ ?_
                 clear hK K
                 refine wpStill_split 6 (fun K hK => ?_)
                 simp only [List.take_succ_cons, List.take_zero, List.drop_succ_cons, List.drop_zero] at hK ⊢
                 go_simp
                 refine hK _ ?_
                 clear hK K
                 refine wpStill_split 6 (fun K hK => ?_)
                 simp only [List.take_succ_cons, List.take_zero, List.drop_succ_cons, List.drop_zero] at hK ⊢
                 go_simp
                 refine hK _ ?_
                 clear hK K
                 go_simp
                 go_wp2_with (go_at_call 108; refine (regletref02_pieces.calls k1 _ _ _ _ A22.out).mono ?_; rintro e w' ⟨rfl, ⟨nd, rfl⟩⟩)
                 go_ret
                 exact ⟨er_, bl_⟩
               rw [if_neg c21] at H
               exact absurd H (by simp)
              rw [if_neg c20] at H
              exact absurd H (by simp)
             rw [if_neg c19] at H
             exact absurd H (by simp)
            rw [if_neg c17] at H
            have c17b : (bt a0 j1 == a1) = false := beq_eq_false_iff_ne.mpr c17
            refine wp_region_still_tail 40 (by kernel_rfl) (by kernel_rfl) ?_
            simp only [List.take_succ_cons, List.take_zero, List.drop_succ_cons, List.drop_zero]
            change wpStill _ _ (World.drew _) (fun a' => wpList _ _ _ _ a' (World.drew _)) _ _
            refine wpStill_split 10 (fun K hK => ?_)
            simp only [List.take_succ_cons, List.take_zero, List.drop_succ_cons, List.drop_zero] at hK ⊢
            go_simp
            refine hK _ ?_
            clear hK K
            refine wpStill_split 8 (fun K hK => ?_)
            simp only [List.take_succ_cons, List.take_zero, List.drop_succ_cons, List.drop_zero] at hK ⊢
            go_simp
            refine hK _ ?_
            clear hK K
            refine wpStill_split 6 (fun K hK => ?_)
            simp only [List.take_succ_cons, List.take_zero, List.drop_succ_cons, List.drop_zero] at hK ⊢
            go_simp
            refine hK _ ?_
            clear hK K
            refine wpStill_split 6 (fun K hK => ?_)
            simp only [List.take_succ_cons, List.take_zero, List.drop_succ_cons, List.drop_zero] at hK ⊢
            go_simp
            refine hK _ ?_
            clear hK K
            go_simp
            go_wp2
            go_roundg k1
            case measure => have := HK1.out; omega
            case rel => exact ⟨wrap64 (x7_1 + 1), (by first | rfl | simp), ⟨H⟩, ⟨by have := HK1.out; omega⟩, ⟨bl_⟩⟩
           rw [if_neg c15] at H
           exact absurd H (by simp)
          rw [if_neg c14] at H
          exact absurd H (by simp)
         rw [if_neg c12] at H
         have c12b : (bt a0 (p.size : Int) == a1) = false := beq_eq_false_iff_ne.mpr c12
         refine wp_region_still_tail 40 (by kernel_rfl) (by kernel_rfl) ?_
         simp only [List.take_succ_cons, List.take_zero, List.drop_succ_cons, List.drop_zero]
         change wpStill _ _ (World.drew _) (fun a' => wpList _ _ _ _ a' (World.drew _)) _ _
         refine wpStill_split 10 (fun K hK => ?_)
         simp only [List.take_succ_cons, List.take_zero, List.drop_succ_cons, List.drop_zero] at hK ⊢
         go_simp
         refine hK _ ?_
         clear hK K
         refine wpStill_split 8 (fun K hK => ?_)
         simp only [List.take_succ_cons, List.take_zero, List.drop_succ_cons, List.drop_zero] at hK ⊢
         go_simp
         refine hK _ ?_
         clear hK K
         refine wpStill_split 7 (fun K hK => ?_)
         simp only [List.take_succ_cons, List.take_zero, List.drop_succ_cons, List.drop_zero] at hK ⊢
         go_simp
         refine hK _ ?_
         clear hK K
         go_simp
         go_wp2
         go_roundg k1
         case measure => have := HK1.out; omega
         case rel => exact ⟨wrap64 (x7_1 + 1), (by first | rfl | simp), ⟨H⟩, ⟨by have := HK1.out; omega⟩, ⟨bl_⟩⟩
        rw [if_neg c10] at H
        exact absurd H (by simp)
       rw [if_neg c9] at H
       have c9b : ((a0.extract 0 p.size).toList == p.toList) = false := beq_eq_false_iff_ne.mpr c9
       have c9c := eq_false c9
       refine wp_region_still_tail 40 (by kernel_rfl) (by kernel_rfl) ?_
       simp only [List.take_succ_cons, List.take_zero, List.drop_succ_cons, List.drop_zero]
       change wpStill _ _ (World.drew _) (fun a' => wpList _ _ _ _ a' (World.drew _)) _ _
       refine wpStill_split 12 (fun K hK => ?_)
       simp only [List.take_succ_cons, List.take_zero, List.drop_succ_cons, List.drop_zero] at hK ⊢
       go_simp
       refine hK _ ?_
       clear hK K
       refine wpStill_split 10 (fun K hK => ?_)
       simp only [List.take_succ_cons, List.take_zero, List.drop_succ_cons, List.drop_zero] at hK ⊢
       go_simp
       refine hK _ ?_
       clear hK K
       go_simp
       go_wp2
       go_roundg k1
       case measure => have := HK1.out; omega
       case rel => exact ⟨wrap64 (x7_1 + 1), (by first | rfl | simp), ⟨H⟩, ⟨by have := HK1.out; omega⟩, ⟨bl_⟩⟩
      rw [if_neg c8] at H
      exact absurd H (by simp)
     rw [if_neg c6] at H
     have c6b : (j0 ≤ (a0.size : Int)) = False := eq_false c6
     clear c6
     refine wp_region_still_tail 40 (by kernel_rfl) (by kernel_rfl) ?_
     simp only [List.take_succ_cons, List.take_zero, List.drop_succ_cons, List.drop_zero]
     change wpStill _ _ (World.drew _) (fun a' => wpList _ _ _ _ a' (World.drew _)) _ _
     go_simp
     go_wp2
     go_roundg k1
     case measure => have := HK1.out; omega
     case rel => exact ⟨wrap64 (x7_1 + 1), (by first | rfl | simp), ⟨H⟩, ⟨by have := HK1.out; omega⟩, ⟨bl_⟩⟩
    rw [if_neg c5] at H
    exact absurd H (by simp)
   rw [if_neg c4] at H
   have c4b := decide_eq_false c4
   have c4c := eq_false c4
   obtain rfl := Option.some.inj H
   go_wp2
   go_ret
   exact ⟨rfl, bl_⟩
end Go.Proofs.YtcdleippdegibaaDoor.PR
