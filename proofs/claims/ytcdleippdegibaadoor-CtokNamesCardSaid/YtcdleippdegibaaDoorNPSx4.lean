import Derived.Test.YtcdleippdegibaaDoorNPSx0
namespace Go.Proofs.YtcdleippdegibaaDoor.PS
open Go.RowKit Go.Proofs.YtcdleippdegibaaDoorW.PrintWords Go.Proofs.YtcdleippdegibaaDoorW.PrintLast Go.Proofs.YtcdleippdegibaaDoorW.PrintMore
open Go.Proofs.YtcdleippdegibaaDoor.LibG (SH SH.below SH.drewN SH.drew SH.alloc)
open Go.Proofs.YtcdleippdegibaaDoor.PK
attribute [local go_sem] max2_int min2_int max_two min_two max_three min_three max_four min_four
set_option linter.unusedVariables false
set_option linter.unusedSimpArgs false
def scan_punct.l0 : Nat → ByteArray → Int → Option (Int)
  | 0, _, _ => none
  | k + 1, x0, x3 => if x3 > 0 then (if 0 ≤ x3 then (if x3 ≤ (x0.size : Int) then (if (x0.extract 0 (x3 : Int).toNat).toList = ([37, 58, 37, 58] : List UInt8) then (some x3) else (if (x0.extract 0 (x3 : Int).toNat).toList = ([46, 46, 46] : List UInt8) then (some x3) else (if (x0.extract 0 (x3 : Int).toNat).toList = ([60, 60, 61] : List UInt8) then (some x3) else (if (x0.extract 0 (x3 : Int).toNat).toList = ([62, 62, 61] : List UInt8) then (some x3) else (if (x0.extract 0 (x3 : Int).toNat).toList = ([45, 62] : List UInt8) then (some x3) else (if (x0.extract 0 (x3 : Int).toNat).toList = ([43, 43] : List UInt8) then (some x3) else (if (x0.extract 0 (x3 : Int).toNat).toList = ([45, 45] : List UInt8) then (some x3) else (if (x0.extract 0 (x3 : Int).toNat).toList = ([60, 60] : List UInt8) then (some x3) else (if (x0.extract 0 (x3 : Int).toNat).toList = ([62, 62] : List UInt8) then (some x3) else (if (x0.extract 0 (x3 : Int).toNat).toList = ([60, 61] : List UInt8) then (some x3) else (if (x0.extract 0 (x3 : Int).toNat).toList = ([62, 61] : List UInt8) then (some x3) else (if (x0.extract 0 (x3 : Int).toNat).toList = ([61, 61] : List UInt8) then (some x3) else (if (x0.extract 0 (x3 : Int).toNat).toList = ([33, 61] : List UInt8) then (some x3) else (if (x0.extract 0 (x3 : Int).toNat).toList = ([38, 38] : List UInt8) then (some x3) else (if (x0.extract 0 (x3 : Int).toNat).toList = ([124, 124] : List UInt8) then (some x3) else (if (x0.extract 0 (x3 : Int).toNat).toList = ([42, 61] : List UInt8) then (some x3) else (if (x0.extract 0 (x3 : Int).toNat).toList = ([47, 61] : List UInt8) then (some x3) else (if (x0.extract 0 (x3 : Int).toNat).toList = ([37, 61] : List UInt8) then (some x3) else (if (x0.extract 0 (x3 : Int).toNat).toList = ([43, 61] : List UInt8) then (some x3) else (if (x0.extract 0 (x3 : Int).toNat).toList = ([45, 61] : List UInt8) then (some x3) else (if (x0.extract 0 (x3 : Int).toNat).toList = ([38, 61] : List UInt8) then (some x3) else (if (x0.extract 0 (x3 : Int).toNat).toList = ([94, 61] : List UInt8) then (some x3) else (if (x0.extract 0 (x3 : Int).toNat).toList = ([124, 61] : List UInt8) then (some x3) else (if (x0.extract 0 (x3 : Int).toNat).toList = ([35, 35] : List UInt8) then (some x3) else (if (x0.extract 0 (x3 : Int).toNat).toList = ([60, 58] : List UInt8) then (some x3) else (if (x0.extract 0 (x3 : Int).toNat).toList = ([58, 62] : List UInt8) then (some x3) else (if (x0.extract 0 (x3 : Int).toNat).toList = ([60, 37] : List UInt8) then (some x3) else (if (x0.extract 0 (x3 : Int).toNat).toList = ([37, 62] : List UInt8) then (some x3) else (if (x0.extract 0 (x3 : Int).toNat).toList = ([37, 58] : List UInt8) then (some x3) else (if (x0.extract 0 (x3 : Int).toNat).toList = ([91] : List UInt8) then (some x3) else (if (x0.extract 0 (x3 : Int).toNat).toList = ([93] : List UInt8) then (some x3) else (if (x0.extract 0 (x3 : Int).toNat).toList = ([40] : List UInt8) then (some x3) else (if (x0.extract 0 (x3 : Int).toNat).toList = ([41] : List UInt8) then (some x3) else (if (x0.extract 0 (x3 : Int).toNat).toList = ([123] : List UInt8) then (some x3) else (if (x0.extract 0 (x3 : Int).toNat).toList = ([125] : List UInt8) then (some x3) else (if (x0.extract 0 (x3 : Int).toNat).toList = ([46] : List UInt8) then (some x3) else (if (x0.extract 0 (x3 : Int).toNat).toList = ([38] : List UInt8) then (some x3) else (if (x0.extract 0 (x3 : Int).toNat).toList = ([42] : List UInt8) then (some x3) else (if (x0.extract 0 (x3 : Int).toNat).toList = ([43] : List UInt8) then (some x3) else (if (x0.extract 0 (x3 : Int).toNat).toList = ([45] : List UInt8) then (some x3) else (if (x0.extract 0 (x3 : Int).toNat).toList = ([126] : List UInt8) then (some x3) else (if (x0.extract 0 (x3 : Int).toNat).toList = ([33] : List UInt8) then (some x3) else (if (x0.extract 0 (x3 : Int).toNat).toList = ([47] : List UInt8) then (some x3) else (if (x0.extract 0 (x3 : Int).toNat).toList = ([37] : List UInt8) then (some x3) else (if (x0.extract 0 (x3 : Int).toNat).toList = ([60] : List UInt8) then (some x3) else (if (x0.extract 0 (x3 : Int).toNat).toList = ([62] : List UInt8) then (some x3) else (if (x0.extract 0 (x3 : Int).toNat).toList = ([94] : List UInt8) then (some x3) else (if (x0.extract 0 (x3 : Int).toNat).toList = ([124] : List UInt8) then (some x3) else (if (x0.extract 0 (x3 : Int).toNat).toList = ([63] : List UInt8) then (some x3) else (if (x0.extract 0 (x3 : Int).toNat).toList = ([58] : List UInt8) then (some x3) else (if (x0.extract 0 (x3 : Int).toNat).toList = ([59] : List UInt8) then (some x3) else (if (x0.extract 0 (x3 : Int).toNat).toList = ([61] : List UInt8) then (some x3) else (if (x0.extract 0 (x3 : Int).toNat).toList = ([44] : List UInt8) then (some x3) else (if (x0.extract 0 (x3 : Int).toNat).toList = ([35] : List UInt8) then (some x3) else (scan_punct.l0 k x0 (wrap64 (x3 - 1))))))))))))))))))))))))))))))))))))))))))))))))))))))))) else (none)) else (none)) else (some 0)
def scan_punct.f (k : Nat) (a0 : ByteArray) : Option (Int) := scan_punct.l0 k a0 (mn 4 (a0.size : Int))
set_option maxHeartbeats 8000000 in
set_option maxRecDepth 100000 in
theorem scan_punct.calls (k : Nat) (a0 : ByteArray) (r : Int) (w : World) (h : scan_punct.f k a0 = some r) :
    Calls Tryd.prog 77 #[.string a0] w fun e w' => e = .returned (.int .i64 r) ∧ Below w.heap.size w w' := by
  have HB := Aside0.mk (Below.refl w.heap.size w)
  have H : (scan_punct.l0 k a0 (mn 4 (a0.size : Int))) = some r := h
  clear h
  obtain ⟨ji2, hji2⟩ : ∃ j_ : Int, (mn 4 (a0.size : Int)) = j_ := ⟨_, rfl⟩
  replace H : (scan_punct.l0 k a0 ji2) = some r := by first | (rw [hji2] at H; exact H) | (simp only [hji2] at H ⊢; exact H)
  (try (have hji2h : ji2 ≤ 4 := by (rw [← hji2]; unfold mn; (repeat' split) <;> omega)))
  (try (have hji2g : ji2 ≤ 64 := by omega))
  (try (have hji2l : 0 ≤ ji2 := by (rw [← hji2]; unfold mn; (repeat' split) <;> omega)))
  (try (have hji2m : 0 ≤ ji2 := by omega))
  have hji2_ : (if (a0.size : Int) < 4 then (a0.size : Int) else 4) = ji2 := hji2
  have H' := Aside0.mk H
  clear H
  go_enter Tryd.func77, Tryd.ntmps77
  go_wp2
  go_loopg [3] k (fun kq v3 w' => ∃ (x3_1 : Int), v3 = .int .i64 x3_1 ∧ Aside0 (scan_punct.l0 kq a0 x3_1 = some r) ∧ Aside0 (kq ≤ k) ∧ Aside0 (Below w.heap.size w w'))
  case atStart => exact ⟨(ji2), (by first | rfl | (simp; done) | (simp only [← hji2] <;> (first | rfl | simp)) | (simp [*]; done)), H', ⟨Nat.le_refl _⟩, ⟨by repeat (first | (with_reducible first | exact HB.out | apply below_alloc | apply pw_below_drewN | apply below_drew1) | exact HB.out)⟩⟩
  case round =>
    clear H'
    try clear p2
    obtain ⟨x3_1, rfl, HA, HK1, HB⟩ := hrel
    cases gk with
    | zero => exact absurd HA.out (by simp [scan_punct.l0])
    | succ k1 =>
      have H := HA.out
      clear HA
      simp only [scan_punct.l0] at H
      by_cases c3 : x3_1 > 0
      · rw [if_pos c3] at H
        have c3b0 : decide (0 < x3_1) = true := decide_eq_true c3
        clear c3
        by_cases c4 : 0 ≤ x3_1
        · rw [if_pos c4] at H
          have c4b0 := eq_true c4
          have c4b1 : decide (0 ≤ x3_1) = true := decide_eq_true c4
          clear c4
          by_cases c5 : x3_1 ≤ (a0.size : Int)
          · rw [if_pos c5] at H
            have c5b0 := eq_true c5
            have c5b1 : decide (x3_1 ≤ (a0.size : Int)) = true := decide_eq_true c5
            clear c5
            by_cases c6 : (a0.extract 0 (x3_1 : Int).toNat).toList = ([37, 58, 37, 58] : List UInt8)
            · rw [if_pos c6] at H
              have c6b0 : ((a0.extract 0 (x3_1 : Int).toNat).toList == ([37, 58, 37, 58] : List UInt8)) = true := beq_iff_eq.mpr c6
              have c6b1 : ((a0.extract 0 (x3_1 : Int).toNat).toList != ([37, 58, 37, 58] : List UInt8)) = false := bne_eq_false_iff_eq.mpr c6
              clear c6
              obtain rfl := Option.some.inj H
              go_wp2
              go_ret
              exact ⟨by first | rfl | (simp [errW_none, errW_some] <;> rfl) | (simp only [← hji2]; first | rfl | (simp [errW_none, errW_some] <;> rfl)) | (simp [*, errW_none, errW_some] <;> rfl), by repeat (first | (with_reducible first | exact HB.out | apply below_alloc | apply pw_below_drewN | apply below_drew1) | exact HB.out)⟩
            · rw [if_neg c6] at H
              have c6b0 : ((a0.extract 0 (x3_1 : Int).toNat).toList == ([37, 58, 37, 58] : List UInt8)) = false := beq_eq_false_iff_ne.mpr c6
              have c6b1 : ((a0.extract 0 (x3_1 : Int).toNat).toList != ([37, 58, 37, 58] : List UInt8)) = true := bne_iff_ne.mpr c6
              by_cases c7 : (a0.extract 0 (x3_1 : Int).toNat).toList = ([46, 46, 46] : List UInt8)
              · rw [if_pos c7] at H
                have c7b0 : ((a0.extract 0 (x3_1 : Int).toNat).toList == ([46, 46, 46] : List UInt8)) = true := beq_iff_eq.mpr c7
                have c7b1 : ((a0.extract 0 (x3_1 : Int).toNat).toList != ([46, 46, 46] : List UInt8)) = false := bne_eq_false_iff_eq.mpr c7
                clear c7
                obtain rfl := Option.some.inj H
                go_wp2
                go_ret
                exact ⟨by first | rfl | (simp [errW_none, errW_some] <;> rfl) | (simp only [← hji2]; first | rfl | (simp [errW_none, errW_some] <;> rfl)) | (simp [*, errW_none, errW_some] <;> rfl), by repeat (first | (with_reducible first | exact HB.out | apply below_alloc | apply pw_below_drewN | apply below_drew1) | exact HB.out)⟩
              · rw [if_neg c7] at H
                have c7b0 : ((a0.extract 0 (x3_1 : Int).toNat).toList == ([46, 46, 46] : List UInt8)) = false := beq_eq_false_iff_ne.mpr c7
                have c7b1 : ((a0.extract 0 (x3_1 : Int).toNat).toList != ([46, 46, 46] : List UInt8)) = true := bne_iff_ne.mpr c7
                by_cases c8 : (a0.extract 0 (x3_1 : Int).toNat).toList = ([60, 60, 61] : List UInt8)
                · rw [if_pos c8] at H
                  have c8b0 : ((a0.extract 0 (x3_1 : Int).toNat).toList == ([60, 60, 61] : List UInt8)) = true := beq_iff_eq.mpr c8
                  have c8b1 : ((a0.extract 0 (x3_1 : Int).toNat).toList != ([60, 60, 61] : List UInt8)) = false := bne_eq_false_iff_eq.mpr c8
                  clear c8
                  obtain rfl := Option.some.inj H
                  go_wp2
                  go_ret
                  exact ⟨by first | rfl | (simp [errW_none, errW_some] <;> rfl) | (simp only [← hji2]; first | rfl | (simp [errW_none, errW_some] <;> rfl)) | (simp [*, errW_none, errW_some] <;> rfl), by repeat (first | (with_reducible first | exact HB.out | apply below_alloc | apply pw_below_drewN | apply below_drew1) | exact HB.out)⟩
                · rw [if_neg c8] at H
                  have c8b0 : ((a0.extract 0 (x3_1 : Int).toNat).toList == ([60, 60, 61] : List UInt8)) = false := beq_eq_false_iff_ne.mpr c8
                  have c8b1 : ((a0.extract 0 (x3_1 : Int).toNat).toList != ([60, 60, 61] : List UInt8)) = true := bne_iff_ne.mpr c8
                  by_cases c9 : (a0.extract 0 (x3_1 : Int).toNat).toList = ([62, 62, 61] : List UInt8)
                  · rw [if_pos c9] at H
                    have c9b0 : ((a0.extract 0 (x3_1 : Int).toNat).toList == ([62, 62, 61] : List UInt8)) = true := beq_iff_eq.mpr c9
                    have c9b1 : ((a0.extract 0 (x3_1 : Int).toNat).toList != ([62, 62, 61] : List UInt8)) = false := bne_eq_false_iff_eq.mpr c9
                    clear c9
                    obtain rfl := Option.some.inj H
                    go_wp2
                    go_ret
                    exact ⟨by first | rfl | (simp [errW_none, errW_some] <;> rfl) | (simp only [← hji2]; first | rfl | (simp [errW_none, errW_some] <;> rfl)) | (simp [*, errW_none, errW_some] <;> rfl), by repeat (first | (with_reducible first | exact HB.out | apply below_alloc | apply pw_below_drewN | apply below_drew1) | exact HB.out)⟩
                  · rw [if_neg c9] at H
                    have c9b0 : ((a0.extract 0 (x3_1 : Int).toNat).toList == ([62, 62, 61] : List UInt8)) = false := beq_eq_false_iff_ne.mpr c9
                    have c9b1 : ((a0.extract 0 (x3_1 : Int).toNat).toList != ([62, 62, 61] : List UInt8)) = true := bne_iff_ne.mpr c9
                    by_cases c10 : (a0.extract 0 (x3_1 : Int).toNat).toList = ([45, 62] : List UInt8)
                    · rw [if_pos c10] at H
                      have c10b0 : ((a0.extract 0 (x3_1 : Int).toNat).toList == ([45, 62] : List UInt8)) = true := beq_iff_eq.mpr c10
                      have c10b1 : ((a0.extract 0 (x3_1 : Int).toNat).toList != ([45, 62] : List UInt8)) = false := bne_eq_false_iff_eq.mpr c10
                      clear c10
                      obtain rfl := Option.some.inj H
                      go_wp2
                      go_ret
                      exact ⟨by first | rfl | (simp [errW_none, errW_some] <;> rfl) | (simp only [← hji2]; first | rfl | (simp [errW_none, errW_some] <;> rfl)) | (simp [*, errW_none, errW_some] <;> rfl), by repeat (first | (with_reducible first | exact HB.out | apply below_alloc | apply pw_below_drewN | apply below_drew1) | exact HB.out)⟩
                    · rw [if_neg c10] at H
                      have c10b0 : ((a0.extract 0 (x3_1 : Int).toNat).toList == ([45, 62] : List UInt8)) = false := beq_eq_false_iff_ne.mpr c10
                      have c10b1 : ((a0.extract 0 (x3_1 : Int).toNat).toList != ([45, 62] : List UInt8)) = true := bne_iff_ne.mpr c10
                      by_cases c11 : (a0.extract 0 (x3_1 : Int).toNat).toList = ([43, 43] : List UInt8)
                      · rw [if_pos c11] at H
                        have c11b0 : ((a0.extract 0 (x3_1 : Int).toNat).toList == ([43, 43] : List UInt8)) = true := beq_iff_eq.mpr c11
                        have c11b1 : ((a0.extract 0 (x3_1 : Int).toNat).toList != ([43, 43] : List UInt8)) = false := bne_eq_false_iff_eq.mpr c11
                        clear c11
                        obtain rfl := Option.some.inj H
                        go_wp2
                        go_ret
                        exact ⟨by first | rfl | (simp [errW_none, errW_some] <;> rfl) | (simp only [← hji2]; first | rfl | (simp [errW_none, errW_some] <;> rfl)) | (simp [*, errW_none, errW_some] <;> rfl), by repeat (first | (with_reducible first | exact HB.out | apply below_alloc | apply pw_below_drewN | apply below_drew1) | exact HB.out)⟩
                      · rw [if_neg c11] at H
                        have c11b0 : ((a0.extract 0 (x3_1 : Int).toNat).toList == ([43, 43] : List UInt8)) = false := beq_eq_false_iff_ne.mpr c11
                        have c11b1 : ((a0.extract 0 (x3_1 : Int).toNat).toList != ([43, 43] : List UInt8)) = true := bne_iff_ne.mpr c11
                        by_cases c12 : (a0.extract 0 (x3_1 : Int).toNat).toList = ([45, 45] : List UInt8)
                        · rw [if_pos c12] at H
                          have c12b0 : ((a0.extract 0 (x3_1 : Int).toNat).toList == ([45, 45] : List UInt8)) = true := beq_iff_eq.mpr c12
                          have c12b1 : ((a0.extract 0 (x3_1 : Int).toNat).toList != ([45, 45] : List UInt8)) = false := bne_eq_false_iff_eq.mpr c12
                          clear c12
                          obtain rfl := Option.some.inj H
                          go_wp2
                          go_ret
                          exact ⟨by first | rfl | (simp [errW_none, errW_some] <;> rfl) | (simp only [← hji2]; first | rfl | (simp [errW_none, errW_some] <;> rfl)) | (simp [*, errW_none, errW_some] <;> rfl), by repeat (first | (with_reducible first | exact HB.out | apply below_alloc | apply pw_below_drewN | apply below_drew1) | exact HB.out)⟩
                        · rw [if_neg c12] at H
                          have c12b0 : ((a0.extract 0 (x3_1 : Int).toNat).toList == ([45, 45] : List UInt8)) = false := beq_eq_false_iff_ne.mpr c12
                          have c12b1 : ((a0.extract 0 (x3_1 : Int).toNat).toList != ([45, 45] : List UInt8)) = true := bne_iff_ne.mpr c12
                          by_cases c13 : (a0.extract 0 (x3_1 : Int).toNat).toList = ([60, 60] : List UInt8)
                          · rw [if_pos c13] at H
                            have c13b0 : ((a0.extract 0 (x3_1 : Int).toNat).toList == ([60, 60] : List UInt8)) = true := beq_iff_eq.mpr c13
                            have c13b1 : ((a0.extract 0 (x3_1 : Int).toNat).toList != ([60, 60] : List UInt8)) = false := bne_eq_false_iff_eq.mpr c13
                            clear c13
                            obtain rfl := Option.some.inj H
                            go_wp2
                            go_ret
                            exact ⟨by first | rfl | (simp [errW_none, errW_some] <;> rfl) | (simp only [← hji2]; first | rfl | (simp [errW_none, errW_some] <;> rfl)) | (simp [*, errW_none, errW_some] <;> rfl), by repeat (first | (with_reducible first | exact HB.out | apply below_alloc | apply pw_below_drewN | apply below_drew1) | exact HB.out)⟩
                          · rw [if_neg c13] at H
                            have c13b0 : ((a0.extract 0 (x3_1 : Int).toNat).toList == ([60, 60] : List UInt8)) = false := beq_eq_false_iff_ne.mpr c13
                            have c13b1 : ((a0.extract 0 (x3_1 : Int).toNat).toList != ([60, 60] : List UInt8)) = true := bne_iff_ne.mpr c13
                            by_cases c14 : (a0.extract 0 (x3_1 : Int).toNat).toList = ([62, 62] : List UInt8)
                            · rw [if_pos c14] at H
                              have c14b0 : ((a0.extract 0 (x3_1 : Int).toNat).toList == ([62, 62] : List UInt8)) = true := beq_iff_eq.mpr c14
                              have c14b1 : ((a0.extract 0 (x3_1 : Int).toNat).toList != ([62, 62] : List UInt8)) = false := bne_eq_false_iff_eq.mpr c14
                              clear c14
                              obtain rfl := Option.some.inj H
                              go_wp2
                              go_ret
                              exact ⟨by first | rfl | (simp [errW_none, errW_some] <;> rfl) | (simp only [← hji2]; first | rfl | (simp [errW_none, errW_some] <;> rfl)) | (simp [*, errW_none, errW_some] <;> rfl), by repeat (first | (with_reducible first | exact HB.out | apply below_alloc | apply pw_below_drewN | apply below_drew1) | exact HB.out)⟩
                            · rw [if_neg c14] at H
                              have c14b0 : ((a0.extract 0 (x3_1 : Int).toNat).toList == ([62, 62] : List UInt8)) = false := beq_eq_false_iff_ne.mpr c14
                              have c14b1 : ((a0.extract 0 (x3_1 : Int).toNat).toList != ([62, 62] : List UInt8)) = true := bne_iff_ne.mpr c14
                              by_cases c15 : (a0.extract 0 (x3_1 : Int).toNat).toList = ([60, 61] : List UInt8)
                              · rw [if_pos c15] at H
                                have c15b0 : ((a0.extract 0 (x3_1 : Int).toNat).toList == ([60, 61] : List UInt8)) = true := beq_iff_eq.mpr c15
                                have c15b1 : ((a0.extract 0 (x3_1 : Int).toNat).toList != ([60, 61] : List UInt8)) = false := bne_eq_false_iff_eq.mpr c15
                                clear c15
                                obtain rfl := Option.some.inj H
                                go_wp2
                                go_ret
                                exact ⟨by first | rfl | (simp [errW_none, errW_some] <;> rfl) | (simp only [← hji2]; first | rfl | (simp [errW_none, errW_some] <;> rfl)) | (simp [*, errW_none, errW_some] <;> rfl), by repeat (first | (with_reducible first | exact HB.out | apply below_alloc | apply pw_below_drewN | apply below_drew1) | exact HB.out)⟩
                              · rw [if_neg c15] at H
                                have c15b0 : ((a0.extract 0 (x3_1 : Int).toNat).toList == ([60, 61] : List UInt8)) = false := beq_eq_false_iff_ne.mpr c15
                                have c15b1 : ((a0.extract 0 (x3_1 : Int).toNat).toList != ([60, 61] : List UInt8)) = true := bne_iff_ne.mpr c15
                                by_cases c16 : (a0.extract 0 (x3_1 : Int).toNat).toList = ([62, 61] : List UInt8)
                                · rw [if_pos c16] at H
                                  have c16b0 : ((a0.extract 0 (x3_1 : Int).toNat).toList == ([62, 61] : List UInt8)) = true := beq_iff_eq.mpr c16
                                  have c16b1 : ((a0.extract 0 (x3_1 : Int).toNat).toList != ([62, 61] : List UInt8)) = false := bne_eq_false_iff_eq.mpr c16
                                  clear c16
                                  obtain rfl := Option.some.inj H
                                  go_wp2
                                  go_ret
                                  exact ⟨by first | rfl | (simp [errW_none, errW_some] <;> rfl) | (simp only [← hji2]; first | rfl | (simp [errW_none, errW_some] <;> rfl)) | (simp [*, errW_none, errW_some] <;> rfl), by repeat (first | (with_reducible first | exact HB.out | apply below_alloc | apply pw_below_drewN | apply below_drew1) | exact HB.out)⟩
                                · rw [if_neg c16] at H
                                  have c16b0 : ((a0.extract 0 (x3_1 : Int).toNat).toList == ([62, 61] : List UInt8)) = false := beq_eq_false_iff_ne.mpr c16
                                  have c16b1 : ((a0.extract 0 (x3_1 : Int).toNat).toList != ([62, 61] : List UInt8)) = true := bne_iff_ne.mpr c16
                                  by_cases c17 : (a0.extract 0 (x3_1 : Int).toNat).toList = ([61, 61] : List UInt8)
                                  · rw [if_pos c17] at H
                                    have c17b0 : ((a0.extract 0 (x3_1 : Int).toNat).toList == ([61, 61] : List UInt8)) = true := beq_iff_eq.mpr c17
                                    have c17b1 : ((a0.extract 0 (x3_1 : Int).toNat).toList != ([61, 61] : List UInt8)) = false := bne_eq_false_iff_eq.mpr c17
                                    clear c17
                                    obtain rfl := Option.some.inj H
                                    go_wp2
                                    go_ret
                                    exact ⟨by first | rfl | (simp [errW_none, errW_some] <;> rfl) | (simp only [← hji2]; first | rfl | (simp [errW_none, errW_some] <;> rfl)) | (simp [*, errW_none, errW_some] <;> rfl), by repeat (first | (with_reducible first | exact HB.out | apply below_alloc | apply pw_below_drewN | apply below_drew1) | exact HB.out)⟩
                                  · rw [if_neg c17] at H
                                    have c17b0 : ((a0.extract 0 (x3_1 : Int).toNat).toList == ([61, 61] : List UInt8)) = false := beq_eq_false_iff_ne.mpr c17
                                    have c17b1 : ((a0.extract 0 (x3_1 : Int).toNat).toList != ([61, 61] : List UInt8)) = true := bne_iff_ne.mpr c17
                                    by_cases c18 : (a0.extract 0 (x3_1 : Int).toNat).toList = ([33, 61] : List UInt8)
                                    · rw [if_pos c18] at H
                                      have c18b0 : ((a0.extract 0 (x3_1 : Int).toNat).toList == ([33, 61] : List UInt8)) = true := beq_iff_eq.mpr c18
                                      have c18b1 : ((a0.extract 0 (x3_1 : Int).toNat).toList != ([33, 61] : List UInt8)) = false := bne_eq_false_iff_eq.mpr c18
                                      clear c18
                                      obtain rfl := Option.some.inj H
                                      go_wp2
                                      go_ret
                                      exact ⟨by first | rfl | (simp [errW_none, errW_some] <;> rfl) | (simp only [← hji2]; first | rfl | (simp [errW_none, errW_some] <;> rfl)) | (simp [*, errW_none, errW_some] <;> rfl), by repeat (first | (with_reducible first | exact HB.out | apply below_alloc | apply pw_below_drewN | apply below_drew1) | exact HB.out)⟩
                                    · rw [if_neg c18] at H
                                      have c18b0 : ((a0.extract 0 (x3_1 : Int).toNat).toList == ([33, 61] : List UInt8)) = false := beq_eq_false_iff_ne.mpr c18
                                      have c18b1 : ((a0.extract 0 (x3_1 : Int).toNat).toList != ([33, 61] : List UInt8)) = true := bne_iff_ne.mpr c18
                                      by_cases c19 : (a0.extract 0 (x3_1 : Int).toNat).toList = ([38, 38] : List UInt8)
                                      · rw [if_pos c19] at H
                                        have c19b0 : ((a0.extract 0 (x3_1 : Int).toNat).toList == ([38, 38] : List UInt8)) = true := beq_iff_eq.mpr c19
                                        have c19b1 : ((a0.extract 0 (x3_1 : Int).toNat).toList != ([38, 38] : List UInt8)) = false := bne_eq_false_iff_eq.mpr c19
                                        clear c19
                                        obtain rfl := Option.some.inj H
                                        go_wp2
                                        go_ret
                                        exact ⟨by first | rfl | (simp [errW_none, errW_some] <;> rfl) | (simp only [← hji2]; first | rfl | (simp [errW_none, errW_some] <;> rfl)) | (simp [*, errW_none, errW_some] <;> rfl), by repeat (first | (with_reducible first | exact HB.out | apply below_alloc | apply pw_below_drewN | apply below_drew1) | exact HB.out)⟩
                                      · rw [if_neg c19] at H
                                        have c19b0 : ((a0.extract 0 (x3_1 : Int).toNat).toList == ([38, 38] : List UInt8)) = false := beq_eq_false_iff_ne.mpr c19
                                        have c19b1 : ((a0.extract 0 (x3_1 : Int).toNat).toList != ([38, 38] : List UInt8)) = true := bne_iff_ne.mpr c19
                                        by_cases c20 : (a0.extract 0 (x3_1 : Int).toNat).toList = ([124, 124] : List UInt8)
                                        · rw [if_pos c20] at H
                                          have c20b0 : ((a0.extract 0 (x3_1 : Int).toNat).toList == ([124, 124] : List UInt8)) = true := beq_iff_eq.mpr c20
                                          have c20b1 : ((a0.extract 0 (x3_1 : Int).toNat).toList != ([124, 124] : List UInt8)) = false := bne_eq_false_iff_eq.mpr c20
                                          clear c20
                                          obtain rfl := Option.some.inj H
                                          go_wp2
                                          go_ret
                                          exact ⟨by first | rfl | (simp [errW_none, errW_some] <;> rfl) | (simp only [← hji2]; first | rfl | (simp [errW_none, errW_some] <;> rfl)) | (simp [*, errW_none, errW_some] <;> rfl), by repeat (first | (with_reducible first | exact HB.out | apply below_alloc | apply pw_below_drewN | apply below_drew1) | exact HB.out)⟩
                                        · rw [if_neg c20] at H
                                          have c20b0 : ((a0.extract 0 (x3_1 : Int).toNat).toList == ([124, 124] : List UInt8)) = false := beq_eq_false_iff_ne.mpr c20
                                          have c20b1 : ((a0.extract 0 (x3_1 : Int).toNat).toList != ([124, 124] : List UInt8)) = true := bne_iff_ne.mpr c20
                                          by_cases c21 : (a0.extract 0 (x3_1 : Int).toNat).toList = ([42, 61] : List UInt8)
                                          · rw [if_pos c21] at H
                                            have c21b0 : ((a0.extract 0 (x3_1 : Int).toNat).toList == ([42, 61] : List UInt8)) = true := beq_iff_eq.mpr c21
                                            have c21b1 : ((a0.extract 0 (x3_1 : Int).toNat).toList != ([42, 61] : List UInt8)) = false := bne_eq_false_iff_eq.mpr c21
                                            clear c21
                                            obtain rfl := Option.some.inj H
                                            go_wp2
                                            go_ret
                                            exact ⟨by first | rfl | (simp [errW_none, errW_some] <;> rfl) | (simp only [← hji2]; first | rfl | (simp [errW_none, errW_some] <;> rfl)) | (simp [*, errW_none, errW_some] <;> rfl), by repeat (first | (with_reducible first | exact HB.out | apply below_alloc | apply pw_below_drewN | apply below_drew1) | exact HB.out)⟩
                                          · rw [if_neg c21] at H
                                            have c21b0 : ((a0.extract 0 (x3_1 : Int).toNat).toList == ([42, 61] : List UInt8)) = false := beq_eq_false_iff_ne.mpr c21
                                            have c21b1 : ((a0.extract 0 (x3_1 : Int).toNat).toList != ([42, 61] : List UInt8)) = true := bne_iff_ne.mpr c21
                                            by_cases c22 : (a0.extract 0 (x3_1 : Int).toNat).toList = ([47, 61] : List UInt8)
                                            · rw [if_pos c22] at H
                                              have c22b0 : ((a0.extract 0 (x3_1 : Int).toNat).toList == ([47, 61] : List UInt8)) = true := beq_iff_eq.mpr c22
                                              have c22b1 : ((a0.extract 0 (x3_1 : Int).toNat).toList != ([47, 61] : List UInt8)) = false := bne_eq_false_iff_eq.mpr c22
                                              clear c22
                                              obtain rfl := Option.some.inj H
                                              go_wp2
                                              go_ret
                                              exact ⟨by first | rfl | (simp [errW_none, errW_some] <;> rfl) | (simp only [← hji2]; first | rfl | (simp [errW_none, errW_some] <;> rfl)) | (simp [*, errW_none, errW_some] <;> rfl), by repeat (first | (with_reducible first | exact HB.out | apply below_alloc | apply pw_below_drewN | apply below_drew1) | exact HB.out)⟩
                                            · rw [if_neg c22] at H
                                              have c22b0 : ((a0.extract 0 (x3_1 : Int).toNat).toList == ([47, 61] : List UInt8)) = false := beq_eq_false_iff_ne.mpr c22
                                              have c22b1 : ((a0.extract 0 (x3_1 : Int).toNat).toList != ([47, 61] : List UInt8)) = true := bne_iff_ne.mpr c22
                                              by_cases c23 : (a0.extract 0 (x3_1 : Int).toNat).toList = ([37, 61] : List UInt8)
                                              · rw [if_pos c23] at H
                                                have c23b0 : ((a0.extract 0 (x3_1 : Int).toNat).toList == ([37, 61] : List UInt8)) = true := beq_iff_eq.mpr c23
                                                have c23b1 : ((a0.extract 0 (x3_1 : Int).toNat).toList != ([37, 61] : List UInt8)) = false := bne_eq_false_iff_eq.mpr c23
                                                clear c23
                                                obtain rfl := Option.some.inj H
                                                go_wp2
                                                go_ret
                                                exact ⟨by first | rfl | (simp [errW_none, errW_some] <;> rfl) | (simp only [← hji2]; first | rfl | (simp [errW_none, errW_some] <;> rfl)) | (simp [*, errW_none, errW_some] <;> rfl), by repeat (first | (with_reducible first | exact HB.out | apply below_alloc | apply pw_below_drewN | apply below_drew1) | exact HB.out)⟩
                                              · rw [if_neg c23] at H
                                                have c23b0 : ((a0.extract 0 (x3_1 : Int).toNat).toList == ([37, 61] : List UInt8)) = false := beq_eq_false_iff_ne.mpr c23
                                                have c23b1 : ((a0.extract 0 (x3_1 : Int).toNat).toList != ([37, 61] : List UInt8)) = true := bne_iff_ne.mpr c23
                                                by_cases c24 : (a0.extract 0 (x3_1 : Int).toNat).toList = ([43, 61] : List UInt8)
                                                · rw [if_pos c24] at H
                                                  have c24b0 : ((a0.extract 0 (x3_1 : Int).toNat).toList == ([43, 61] : List UInt8)) = true := beq_iff_eq.mpr c24
                                                  have c24b1 : ((a0.extract 0 (x3_1 : Int).toNat).toList != ([43, 61] : List UInt8)) = false := bne_eq_false_iff_eq.mpr c24
                                                  clear c24
                                                  obtain rfl := Option.some.inj H
                                                  go_wp2
                                                  go_ret
                                                  exact ⟨by first | rfl | (simp [errW_none, errW_some] <;> rfl) | (simp only [← hji2]; first | rfl | (simp [errW_none, errW_some] <;> rfl)) | (simp [*, errW_none, errW_some] <;> rfl), by repeat (first | (with_reducible first | exact HB.out | apply below_alloc | apply pw_below_drewN | apply below_drew1) | exact HB.out)⟩
                                                · rw [if_neg c24] at H
                                                  have c24b0 : ((a0.extract 0 (x3_1 : Int).toNat).toList == ([43, 61] : List UInt8)) = false := beq_eq_false_iff_ne.mpr c24
                                                  have c24b1 : ((a0.extract 0 (x3_1 : Int).toNat).toList != ([43, 61] : List UInt8)) = true := bne_iff_ne.mpr c24
                                                  by_cases c25 : (a0.extract 0 (x3_1 : Int).toNat).toList = ([45, 61] : List UInt8)
                                                  · rw [if_pos c25] at H
                                                    have c25b0 : ((a0.extract 0 (x3_1 : Int).toNat).toList == ([45, 61] : List UInt8)) = true := beq_iff_eq.mpr c25
                                                    have c25b1 : ((a0.extract 0 (x3_1 : Int).toNat).toList != ([45, 61] : List UInt8)) = false := bne_eq_false_iff_eq.mpr c25
                                                    clear c25
                                                    obtain rfl := Option.some.inj H
                                                    go_wp2
                                                    go_ret
                                                    exact ⟨by first | rfl | (simp [errW_none, errW_some] <;> rfl) | (simp only [← hji2]; first | rfl | (simp [errW_none, errW_some] <;> rfl)) | (simp [*, errW_none, errW_some] <;> rfl), by repeat (first | (with_reducible first | exact HB.out | apply below_alloc | apply pw_below_drewN | apply below_drew1) | exact HB.out)⟩
                                                  · rw [if_neg c25] at H
                                                    have c25b0 : ((a0.extract 0 (x3_1 : Int).toNat).toList == ([45, 61] : List UInt8)) = false := beq_eq_false_iff_ne.mpr c25
                                                    have c25b1 : ((a0.extract 0 (x3_1 : Int).toNat).toList != ([45, 61] : List UInt8)) = true := bne_iff_ne.mpr c25
                                                    by_cases c26 : (a0.extract 0 (x3_1 : Int).toNat).toList = ([38, 61] : List UInt8)
                                                    · rw [if_pos c26] at H
                                                      have c26b0 : ((a0.extract 0 (x3_1 : Int).toNat).toList == ([38, 61] : List UInt8)) = true := beq_iff_eq.mpr c26
                                                      have c26b1 : ((a0.extract 0 (x3_1 : Int).toNat).toList != ([38, 61] : List UInt8)) = false := bne_eq_false_iff_eq.mpr c26
                                                      clear c26
                                                      obtain rfl := Option.some.inj H
                                                      go_wp2
                                                      go_ret
                                                      exact ⟨by first | rfl | (simp [errW_none, errW_some] <;> rfl) | (simp only [← hji2]; first | rfl | (simp [errW_none, errW_some] <;> rfl)) | (simp [*, errW_none, errW_some] <;> rfl), by repeat (first | (with_reducible first | exact HB.out | apply below_alloc | apply pw_below_drewN | apply below_drew1) | exact HB.out)⟩
                                                    · rw [if_neg c26] at H
                                                      have c26b0 : ((a0.extract 0 (x3_1 : Int).toNat).toList == ([38, 61] : List UInt8)) = false := beq_eq_false_iff_ne.mpr c26
                                                      have c26b1 : ((a0.extract 0 (x3_1 : Int).toNat).toList != ([38, 61] : List UInt8)) = true := bne_iff_ne.mpr c26
                                                      by_cases c27 : (a0.extract 0 (x3_1 : Int).toNat).toList = ([94, 61] : List UInt8)
                                                      · rw [if_pos c27] at H
                                                        have c27b0 : ((a0.extract 0 (x3_1 : Int).toNat).toList == ([94, 61] : List UInt8)) = true := beq_iff_eq.mpr c27
                                                        have c27b1 : ((a0.extract 0 (x3_1 : Int).toNat).toList != ([94, 61] : List UInt8)) = false := bne_eq_false_iff_eq.mpr c27
                                                        clear c27
                                                        obtain rfl := Option.some.inj H
                                                        go_wp2
                                                        go_ret
                                                        exact ⟨by first | rfl | (simp [errW_none, errW_some] <;> rfl) | (simp only [← hji2]; first | rfl | (simp [errW_none, errW_some] <;> rfl)) | (simp [*, errW_none, errW_some] <;> rfl), by repeat (first | (with_reducible first | exact HB.out | apply below_alloc | apply pw_below_drewN | apply below_drew1) | exact HB.out)⟩
                                                      · rw [if_neg c27] at H
                                                        have c27b0 : ((a0.extract 0 (x3_1 : Int).toNat).toList == ([94, 61] : List UInt8)) = false := beq_eq_false_iff_ne.mpr c27
                                                        have c27b1 : ((a0.extract 0 (x3_1 : Int).toNat).toList != ([94, 61] : List UInt8)) = true := bne_iff_ne.mpr c27
                                                        by_cases c28 : (a0.extract 0 (x3_1 : Int).toNat).toList = ([124, 61] : List UInt8)
                                                        · rw [if_pos c28] at H
                                                          have c28b0 : ((a0.extract 0 (x3_1 : Int).toNat).toList == ([124, 61] : List UInt8)) = true := beq_iff_eq.mpr c28
                                                          have c28b1 : ((a0.extract 0 (x3_1 : Int).toNat).toList != ([124, 61] : List UInt8)) = false := bne_eq_false_iff_eq.mpr c28
                                                          clear c28
                                                          obtain rfl := Option.some.inj H
                                                          go_wp2
                                                          go_ret
                                                          exact ⟨by first | rfl | (simp [errW_none, errW_some] <;> rfl) | (simp only [← hji2]; first | rfl | (simp [errW_none, errW_some] <;> rfl)) | (simp [*, errW_none, errW_some] <;> rfl), by repeat (first | (with_reducible first | exact HB.out | apply below_alloc | apply pw_below_drewN | apply below_drew1) | exact HB.out)⟩
                                                        · rw [if_neg c28] at H
                                                          have c28b0 : ((a0.extract 0 (x3_1 : Int).toNat).toList == ([124, 61] : List UInt8)) = false := beq_eq_false_iff_ne.mpr c28
                                                          have c28b1 : ((a0.extract 0 (x3_1 : Int).toNat).toList != ([124, 61] : List UInt8)) = true := bne_iff_ne.mpr c28
                                                          by_cases c29 : (a0.extract 0 (x3_1 : Int).toNat).toList = ([35, 35] : List UInt8)
                                                          · rw [if_pos c29] at H
                                                            have c29b0 : ((a0.extract 0 (x3_1 : Int).toNat).toList == ([35, 35] : List UInt8)) = true := beq_iff_eq.mpr c29
                                                            have c29b1 : ((a0.extract 0 (x3_1 : Int).toNat).toList != ([35, 35] : List UInt8)) = false := bne_eq_false_iff_eq.mpr c29
                                                            clear c29
                                                            obtain rfl := Option.some.inj H
                                                            go_wp2
                                                            go_ret
                                                            exact ⟨by first | rfl | (simp [errW_none, errW_some] <;> rfl) | (simp only [← hji2]; first | rfl | (simp [errW_none, errW_some] <;> rfl)) | (simp [*, errW_none, errW_some] <;> rfl), by repeat (first | (with_reducible first | exact HB.out | apply below_alloc | apply pw_below_drewN | apply below_drew1) | exact HB.out)⟩
                                                          · rw [if_neg c29] at H
                                                            have c29b0 : ((a0.extract 0 (x3_1 : Int).toNat).toList == ([35, 35] : List UInt8)) = false := beq_eq_false_iff_ne.mpr c29
                                                            have c29b1 : ((a0.extract 0 (x3_1 : Int).toNat).toList != ([35, 35] : List UInt8)) = true := bne_iff_ne.mpr c29
                                                            by_cases c30 : (a0.extract 0 (x3_1 : Int).toNat).toList = ([60, 58] : List UInt8)
                                                            · rw [if_pos c30] at H
                                                              have c30b0 : ((a0.extract 0 (x3_1 : Int).toNat).toList == ([60, 58] : List UInt8)) = true := beq_iff_eq.mpr c30
                                                              have c30b1 : ((a0.extract 0 (x3_1 : Int).toNat).toList != ([60, 58] : List UInt8)) = false := bne_eq_false_iff_eq.mpr c30
                                                              clear c30
                                                              obtain rfl := Option.some.inj H
                                                              go_wp2
                                                              go_ret
                                                              exact ⟨by first | rfl | (simp [errW_none, errW_some] <;> rfl) | (simp only [← hji2]; first | rfl | (simp [errW_none, errW_some] <;> rfl)) | (simp [*, errW_none, errW_some] <;> rfl), by repeat (first | (with_reducible first | exact HB.out | apply below_alloc | apply pw_below_drewN | apply below_drew1) | exact HB.out)⟩
                                                            · rw [if_neg c30] at H
                                                              have c30b0 : ((a0.extract 0 (x3_1 : Int).toNat).toList == ([60, 58] : List UInt8)) = false := beq_eq_false_iff_ne.mpr c30
                                                              have c30b1 : ((a0.extract 0 (x3_1 : Int).toNat).toList != ([60, 58] : List UInt8)) = true := bne_iff_ne.mpr c30
                                                              by_cases c31 : (a0.extract 0 (x3_1 : Int).toNat).toList = ([58, 62] : List UInt8)
                                                              · rw [if_pos c31] at H
                                                                have c31b0 : ((a0.extract 0 (x3_1 : Int).toNat).toList == ([58, 62] : List UInt8)) = true := beq_iff_eq.mpr c31
                                                                have c31b1 : ((a0.extract 0 (x3_1 : Int).toNat).toList != ([58, 62] : List UInt8)) = false := bne_eq_false_iff_eq.mpr c31
                                                                clear c31
                                                                obtain rfl := Option.some.inj H
                                                                go_wp2
                                                                go_ret
                                                                exact ⟨by first | rfl | (simp [errW_none, errW_some] <;> rfl) | (simp only [← hji2]; first | rfl | (simp [errW_none, errW_some] <;> rfl)) | (simp [*, errW_none, errW_some] <;> rfl), by repeat (first | (with_reducible first | exact HB.out | apply below_alloc | apply pw_below_drewN | apply below_drew1) | exact HB.out)⟩
                                                              · rw [if_neg c31] at H
                                                                have c31b0 : ((a0.extract 0 (x3_1 : Int).toNat).toList == ([58, 62] : List UInt8)) = false := beq_eq_false_iff_ne.mpr c31
                                                                have c31b1 : ((a0.extract 0 (x3_1 : Int).toNat).toList != ([58, 62] : List UInt8)) = true := bne_iff_ne.mpr c31
                                                                by_cases c32 : (a0.extract 0 (x3_1 : Int).toNat).toList = ([60, 37] : List UInt8)
                                                                · rw [if_pos c32] at H
                                                                  have c32b0 : ((a0.extract 0 (x3_1 : Int).toNat).toList == ([60, 37] : List UInt8)) = true := beq_iff_eq.mpr c32
                                                                  have c32b1 : ((a0.extract 0 (x3_1 : Int).toNat).toList != ([60, 37] : List UInt8)) = false := bne_eq_false_iff_eq.mpr c32
                                                                  clear c32
                                                                  obtain rfl := Option.some.inj H
                                                                  go_wp2
                                                                  go_ret
                                                                  exact ⟨by first | rfl | (simp [errW_none, errW_some] <;> rfl) | (simp only [← hji2]; first | rfl | (simp [errW_none, errW_some] <;> rfl)) | (simp [*, errW_none, errW_some] <;> rfl), by repeat (first | (with_reducible first | exact HB.out | apply below_alloc | apply pw_below_drewN | apply below_drew1) | exact HB.out)⟩
                                                                · rw [if_neg c32] at H
                                                                  have c32b0 : ((a0.extract 0 (x3_1 : Int).toNat).toList == ([60, 37] : List UInt8)) = false := beq_eq_false_iff_ne.mpr c32
                                                                  have c32b1 : ((a0.extract 0 (x3_1 : Int).toNat).toList != ([60, 37] : List UInt8)) = true := bne_iff_ne.mpr c32
                                                                  by_cases c33 : (a0.extract 0 (x3_1 : Int).toNat).toList = ([37, 62] : List UInt8)
                                                                  · rw [if_pos c33] at H
                                                                    have c33b0 : ((a0.extract 0 (x3_1 : Int).toNat).toList == ([37, 62] : List UInt8)) = true := beq_iff_eq.mpr c33
                                                                    have c33b1 : ((a0.extract 0 (x3_1 : Int).toNat).toList != ([37, 62] : List UInt8)) = false := bne_eq_false_iff_eq.mpr c33
                                                                    clear c33
                                                                    obtain rfl := Option.some.inj H
                                                                    go_wp2
                                                                    go_ret
                                                                    exact ⟨by first | rfl | (simp [errW_none, errW_some] <;> rfl) | (simp only [← hji2]; first | rfl | (simp [errW_none, errW_some] <;> rfl)) | (simp [*, errW_none, errW_some] <;> rfl), by repeat (first | (with_reducible first | exact HB.out | apply below_alloc | apply pw_below_drewN | apply below_drew1) | exact HB.out)⟩
                                                                  · rw [if_neg c33] at H
                                                                    have c33b0 : ((a0.extract 0 (x3_1 : Int).toNat).toList == ([37, 62] : List UInt8)) = false := beq_eq_false_iff_ne.mpr c33
                                                                    have c33b1 : ((a0.extract 0 (x3_1 : Int).toNat).toList != ([37, 62] : List UInt8)) = true := bne_iff_ne.mpr c33
                                                                    by_cases c34 : (a0.extract 0 (x3_1 : Int).toNat).toList = ([37, 58] : List UInt8)
                                                                    · rw [if_pos c34] at H
                                                                      have c34b0 : ((a0.extract 0 (x3_1 : Int).toNat).toList == ([37, 58] : List UInt8)) = true := beq_iff_eq.mpr c34
                                                                      have c34b1 : ((a0.extract 0 (x3_1 : Int).toNat).toList != ([37, 58] : List UInt8)) = false := bne_eq_false_iff_eq.mpr c34
                                                                      clear c34
                                                                      obtain rfl := Option.some.inj H
                                                                      go_wp2
                                                                      go_ret
                                                                      exact ⟨by first | rfl | (simp [errW_none, errW_some] <;> rfl) | (simp only [← hji2]; first | rfl | (simp [errW_none, errW_some] <;> rfl)) | (simp [*, errW_none, errW_some] <;> rfl), by repeat (first | (with_reducible first | exact HB.out | apply below_alloc | apply pw_below_drewN | apply below_drew1) | exact HB.out)⟩
                                                                    · rw [if_neg c34] at H
                                                                      have c34b0 : ((a0.extract 0 (x3_1 : Int).toNat).toList == ([37, 58] : List UInt8)) = false := beq_eq_false_iff_ne.mpr c34
                                                                      have c34b1 : ((a0.extract 0 (x3_1 : Int).toNat).toList != ([37, 58] : List UInt8)) = true := bne_iff_ne.mpr c34
                                                                      by_cases c35 : (a0.extract 0 (x3_1 : Int).toNat).toList = ([91] : List UInt8)
                                                                      · rw [if_pos c35] at H
                                                                        have c35b0 : ((a0.extract 0 (x3_1 : Int).toNat).toList == ([91] : List UInt8)) = true := beq_iff_eq.mpr c35
                                                                        have c35b1 : ((a0.extract 0 (x3_1 : Int).toNat).toList != ([91] : List UInt8)) = false := bne_eq_false_iff_eq.mpr c35
                                                                        clear c35
                                                                        obtain rfl := Option.some.inj H
                                                                        go_wp2
                                                                        go_ret
                                                                        exact ⟨by first | rfl | (simp [errW_none, errW_some] <;> rfl) | (simp only [← hji2]; first | rfl | (simp [errW_none, errW_some] <;> rfl)) | (simp [*, errW_none, errW_some] <;> rfl), by repeat (first | (with_reducible first | exact HB.out | apply below_alloc | apply pw_below_drewN | apply below_drew1) | exact HB.out)⟩
                                                                      · rw [if_neg c35] at H
                                                                        have c35b0 : ((a0.extract 0 (x3_1 : Int).toNat).toList == ([91] : List UInt8)) = false := beq_eq_false_iff_ne.mpr c35
                                                                        have c35b1 : ((a0.extract 0 (x3_1 : Int).toNat).toList != ([91] : List UInt8)) = true := bne_iff_ne.mpr c35
                                                                        by_cases c36 : (a0.extract 0 (x3_1 : Int).toNat).toList = ([93] : List UInt8)
                                                                        · rw [if_pos c36] at H
                                                                          have c36b0 : ((a0.extract 0 (x3_1 : Int).toNat).toList == ([93] : List UInt8)) = true := beq_iff_eq.mpr c36
                                                                          have c36b1 : ((a0.extract 0 (x3_1 : Int).toNat).toList != ([93] : List UInt8)) = false := bne_eq_false_iff_eq.mpr c36
                                                                          clear c36
                                                                          obtain rfl := Option.some.inj H
                                                                          go_wp2
                                                                          go_ret
                                                                          exact ⟨by first | rfl | (simp [errW_none, errW_some] <;> rfl) | (simp only [← hji2]; first | rfl | (simp [errW_none, errW_some] <;> rfl)) | (simp [*, errW_none, errW_some] <;> rfl), by repeat (first | (with_reducible first | exact HB.out | apply below_alloc | apply pw_below_drewN | apply below_drew1) | exact HB.out)⟩
                                                                        · rw [if_neg c36] at H
                                                                          have c36b0 : ((a0.extract 0 (x3_1 : Int).toNat).toList == ([93] : List UInt8)) = false := beq_eq_false_iff_ne.mpr c36
                                                                          have c36b1 : ((a0.extract 0 (x3_1 : Int).toNat).toList != ([93] : List UInt8)) = true := bne_iff_ne.mpr c36
                                                                          by_cases c37 : (a0.extract 0 (x3_1 : Int).toNat).toList = ([40] : List UInt8)
                                                                          · rw [if_pos c37] at H
                                                                            have c37b0 : ((a0.extract 0 (x3_1 : Int).toNat).toList == ([40] : List UInt8)) = true := beq_iff_eq.mpr c37
                                                                            have c37b1 : ((a0.extract 0 (x3_1 : Int).toNat).toList != ([40] : List UInt8)) = false := bne_eq_false_iff_eq.mpr c37
                                                                            clear c37
                                                                            obtain rfl := Option.some.inj H
                                                                            go_wp2
                                                                            go_ret
                                                                            exact ⟨by first | rfl | (simp [errW_none, errW_some] <;> rfl) | (simp only [← hji2]; first | rfl | (simp [errW_none, errW_some] <;> rfl)) | (simp [*, errW_none, errW_some] <;> rfl), by repeat (first | (with_reducible first | exact HB.out | apply below_alloc | apply pw_below_drewN | apply below_drew1) | exact HB.out)⟩
                                                                          · rw [if_neg c37] at H
                                                                            have c37b0 : ((a0.extract 0 (x3_1 : Int).toNat).toList == ([40] : List UInt8)) = false := beq_eq_false_iff_ne.mpr c37
                                                                            have c37b1 : ((a0.extract 0 (x3_1 : Int).toNat).toList != ([40] : List UInt8)) = true := bne_iff_ne.mpr c37
                                                                            by_cases c38 : (a0.extract 0 (x3_1 : Int).toNat).toList = ([41] : List UInt8)
                                                                            · rw [if_pos c38] at H
                                                                              have c38b0 : ((a0.extract 0 (x3_1 : Int).toNat).toList == ([41] : List UInt8)) = true := beq_iff_eq.mpr c38
                                                                              have c38b1 : ((a0.extract 0 (x3_1 : Int).toNat).toList != ([41] : List UInt8)) = false := bne_eq_false_iff_eq.mpr c38
                                                                              clear c38
                                                                              obtain rfl := Option.some.inj H
                                                                              go_wp2
                                                                              go_ret
                                                                              exact ⟨by first | rfl | (simp [errW_none, errW_some] <;> rfl) | (simp only [← hji2]; first | rfl | (simp [errW_none, errW_some] <;> rfl)) | (simp [*, errW_none, errW_some] <;> rfl), by repeat (first | (with_reducible first | exact HB.out | apply below_alloc | apply pw_below_drewN | apply below_drew1) | exact HB.out)⟩
                                                                            · rw [if_neg c38] at H
                                                                              have c38b0 : ((a0.extract 0 (x3_1 : Int).toNat).toList == ([41] : List UInt8)) = false := beq_eq_false_iff_ne.mpr c38
                                                                              have c38b1 : ((a0.extract 0 (x3_1 : Int).toNat).toList != ([41] : List UInt8)) = true := bne_iff_ne.mpr c38
                                                                              by_cases c39 : (a0.extract 0 (x3_1 : Int).toNat).toList = ([123] : List UInt8)
                                                                              · rw [if_pos c39] at H
                                                                                have c39b0 : ((a0.extract 0 (x3_1 : Int).toNat).toList == ([123] : List UInt8)) = true := beq_iff_eq.mpr c39
                                                                                have c39b1 : ((a0.extract 0 (x3_1 : Int).toNat).toList != ([123] : List UInt8)) = false := bne_eq_false_iff_eq.mpr c39
                                                                                clear c39
                                                                                obtain rfl := Option.some.inj H
                                                                                go_wp2
                                                                                go_ret
                                                                                exact ⟨by first | rfl | (simp [errW_none, errW_some] <;> rfl) | (simp only [← hji2]; first | rfl | (simp [errW_none, errW_some] <;> rfl)) | (simp [*, errW_none, errW_some] <;> rfl), by repeat (first | (with_reducible first | exact HB.out | apply below_alloc | apply pw_below_drewN | apply below_drew1) | exact HB.out)⟩
                                                                              · rw [if_neg c39] at H
                                                                                have c39b0 : ((a0.extract 0 (x3_1 : Int).toNat).toList == ([123] : List UInt8)) = false := beq_eq_false_iff_ne.mpr c39
                                                                                have c39b1 : ((a0.extract 0 (x3_1 : Int).toNat).toList != ([123] : List UInt8)) = true := bne_iff_ne.mpr c39
                                                                                by_cases c40 : (a0.extract 0 (x3_1 : Int).toNat).toList = ([125] : List UInt8)
                                                                                · rw [if_pos c40] at H
                                                                                  have c40b0 : ((a0.extract 0 (x3_1 : Int).toNat).toList == ([125] : List UInt8)) = true := beq_iff_eq.mpr c40
                                                                                  have c40b1 : ((a0.extract 0 (x3_1 : Int).toNat).toList != ([125] : List UInt8)) = false := bne_eq_false_iff_eq.mpr c40
                                                                                  clear c40
                                                                                  obtain rfl := Option.some.inj H
                                                                                  go_wp2
                                                                                  go_ret
                                                                                  exact ⟨by first | rfl | (simp [errW_none, errW_some] <;> rfl) | (simp only [← hji2]; first | rfl | (simp [errW_none, errW_some] <;> rfl)) | (simp [*, errW_none, errW_some] <;> rfl), by repeat (first | (with_reducible first | exact HB.out | apply below_alloc | apply pw_below_drewN | apply below_drew1) | exact HB.out)⟩
                                                                                · rw [if_neg c40] at H
                                                                                  have c40b0 : ((a0.extract 0 (x3_1 : Int).toNat).toList == ([125] : List UInt8)) = false := beq_eq_false_iff_ne.mpr c40
                                                                                  have c40b1 : ((a0.extract 0 (x3_1 : Int).toNat).toList != ([125] : List UInt8)) = true := bne_iff_ne.mpr c40
                                                                                  by_cases c41 : (a0.extract 0 (x3_1 : Int).toNat).toList = ([46] : List UInt8)
                                                                                  · rw [if_pos c41] at H
                                                                                    have c41b0 : ((a0.extract 0 (x3_1 : Int).toNat).toList == ([46] : List UInt8)) = true := beq_iff_eq.mpr c41
                                                                                    have c41b1 : ((a0.extract 0 (x3_1 : Int).toNat).toList != ([46] : List UInt8)) = false := bne_eq_false_iff_eq.mpr c41
                                                                                    clear c41
                                                                                    obtain rfl := Option.some.inj H
                                                                                    go_wp2
                                                                                    go_ret
                                                                                    exact ⟨by first | rfl | (simp [errW_none, errW_some] <;> rfl) | (simp only [← hji2]; first | rfl | (simp [errW_none, errW_some] <;> rfl)) | (simp [*, errW_none, errW_some] <;> rfl), by repeat (first | (with_reducible first | exact HB.out | apply below_alloc | apply pw_below_drewN | apply below_drew1) | exact HB.out)⟩
                                                                                  · rw [if_neg c41] at H
                                                                                    have c41b0 : ((a0.extract 0 (x3_1 : Int).toNat).toList == ([46] : List UInt8)) = false := beq_eq_false_iff_ne.mpr c41
                                                                                    have c41b1 : ((a0.extract 0 (x3_1 : Int).toNat).toList != ([46] : List UInt8)) = true := bne_iff_ne.mpr c41
                                                                                    by_cases c42 : (a0.extract 0 (x3_1 : Int).toNat).toList = ([38] : List UInt8)
                                                                                    · rw [if_pos c42] at H
                                                                                      have c42b0 : ((a0.extract 0 (x3_1 : Int).toNat).toList == ([38] : List UInt8)) = true := beq_iff_eq.mpr c42
                                                                                      have c42b1 : ((a0.extract 0 (x3_1 : Int).toNat).toList != ([38] : List UInt8)) = false := bne_eq_false_iff_eq.mpr c42
                                                                                      clear c42
                                                                                      obtain rfl := Option.some.inj H
                                                                                      go_wp2
                                                                                      go_ret
                                                                                      exact ⟨by first | rfl | (simp [errW_none, errW_some] <;> rfl) | (simp only [← hji2]; first | rfl | (simp [errW_none, errW_some] <;> rfl)) | (simp [*, errW_none, errW_some] <;> rfl), by repeat (first | (with_reducible first | exact HB.out | apply below_alloc | apply pw_below_drewN | apply below_drew1) | exact HB.out)⟩
                                                                                    · rw [if_neg c42] at H
                                                                                      have c42b0 : ((a0.extract 0 (x3_1 : Int).toNat).toList == ([38] : List UInt8)) = false := beq_eq_false_iff_ne.mpr c42
                                                                                      have c42b1 : ((a0.extract 0 (x3_1 : Int).toNat).toList != ([38] : List UInt8)) = true := bne_iff_ne.mpr c42
                                                                                      by_cases c43 : (a0.extract 0 (x3_1 : Int).toNat).toList = ([42] : List UInt8)
                                                                                      · rw [if_pos c43] at H
                                                                                        have c43b0 : ((a0.extract 0 (x3_1 : Int).toNat).toList == ([42] : List UInt8)) = true := beq_iff_eq.mpr c43
                                                                                        have c43b1 : ((a0.extract 0 (x3_1 : Int).toNat).toList != ([42] : List UInt8)) = false := bne_eq_false_iff_eq.mpr c43
                                                                                        clear c43
                                                                                        obtain rfl := Option.some.inj H
                                                                                        go_wp2
                                                                                        go_ret
                                                                                        exact ⟨by first | rfl | (simp [errW_none, errW_some] <;> rfl) | (simp only [← hji2]; first | rfl | (simp [errW_none, errW_some] <;> rfl)) | (simp [*, errW_none, errW_some] <;> rfl), by repeat (first | (with_reducible first | exact HB.out | apply below_alloc | apply pw_below_drewN | apply below_drew1) | exact HB.out)⟩
                                                                                      · rw [if_neg c43] at H
                                                                                        have c43b0 : ((a0.extract 0 (x3_1 : Int).toNat).toList == ([42] : List UInt8)) = false := beq_eq_false_iff_ne.mpr c43
                                                                                        have c43b1 : ((a0.extract 0 (x3_1 : Int).toNat).toList != ([42] : List UInt8)) = true := bne_iff_ne.mpr c43
                                                                                        by_cases c44 : (a0.extract 0 (x3_1 : Int).toNat).toList = ([43] : List UInt8)
                                                                                        · rw [if_pos c44] at H
                                                                                          have c44b0 : ((a0.extract 0 (x3_1 : Int).toNat).toList == ([43] : List UInt8)) = true := beq_iff_eq.mpr c44
                                                                                          have c44b1 : ((a0.extract 0 (x3_1 : Int).toNat).toList != ([43] : List UInt8)) = false := bne_eq_false_iff_eq.mpr c44
                                                                                          clear c44
                                                                                          obtain rfl := Option.some.inj H
                                                                                          go_wp2
                                                                                          go_ret
                                                                                          exact ⟨by first | rfl | (simp [errW_none, errW_some] <;> rfl) | (simp only [← hji2]; first | rfl | (simp [errW_none, errW_some] <;> rfl)) | (simp [*, errW_none, errW_some] <;> rfl), by repeat (first | (with_reducible first | exact HB.out | apply below_alloc | apply pw_below_drewN | apply below_drew1) | exact HB.out)⟩
                                                                                        · rw [if_neg c44] at H
                                                                                          have c44b0 : ((a0.extract 0 (x3_1 : Int).toNat).toList == ([43] : List UInt8)) = false := beq_eq_false_iff_ne.mpr c44
                                                                                          have c44b1 : ((a0.extract 0 (x3_1 : Int).toNat).toList != ([43] : List UInt8)) = true := bne_iff_ne.mpr c44
                                                                                          by_cases c45 : (a0.extract 0 (x3_1 : Int).toNat).toList = ([45] : List UInt8)
                                                                                          · rw [if_pos c45] at H
                                                                                            have c45b0 : ((a0.extract 0 (x3_1 : Int).toNat).toList == ([45] : List UInt8)) = true := beq_iff_eq.mpr c45
                                                                                            have c45b1 : ((a0.extract 0 (x3_1 : Int).toNat).toList != ([45] : List UInt8)) = false := bne_eq_false_iff_eq.mpr c45
                                                                                            clear c45
                                                                                            obtain rfl := Option.some.inj H
                                                                                            go_wp2
                                                                                            go_ret
                                                                                            exact ⟨by first | rfl | (simp [errW_none, errW_some] <;> rfl) | (simp only [← hji2]; first | rfl | (simp [errW_none, errW_some] <;> rfl)) | (simp [*, errW_none, errW_some] <;> rfl), by repeat (first | (with_reducible first | exact HB.out | apply below_alloc | apply pw_below_drewN | apply below_drew1) | exact HB.out)⟩
                                                                                          · rw [if_neg c45] at H
                                                                                            have c45b0 : ((a0.extract 0 (x3_1 : Int).toNat).toList == ([45] : List UInt8)) = false := beq_eq_false_iff_ne.mpr c45
                                                                                            have c45b1 : ((a0.extract 0 (x3_1 : Int).toNat).toList != ([45] : List UInt8)) = true := bne_iff_ne.mpr c45
                                                                                            by_cases c46 : (a0.extract 0 (x3_1 : Int).toNat).toList = ([126] : List UInt8)
                                                                                            · rw [if_pos c46] at H
                                                                                              have c46b0 : ((a0.extract 0 (x3_1 : Int).toNat).toList == ([126] : List UInt8)) = true := beq_iff_eq.mpr c46
                                                                                              have c46b1 : ((a0.extract 0 (x3_1 : Int).toNat).toList != ([126] : List UInt8)) = false := bne_eq_false_iff_eq.mpr c46
                                                                                              clear c46
                                                                                              obtain rfl := Option.some.inj H
                                                                                              go_wp2
                                                                                              go_ret
                                                                                              exact ⟨by first | rfl | (simp [errW_none, errW_some] <;> rfl) | (simp only [← hji2]; first | rfl | (simp [errW_none, errW_some] <;> rfl)) | (simp [*, errW_none, errW_some] <;> rfl), by repeat (first | (with_reducible first | exact HB.out | apply below_alloc | apply pw_below_drewN | apply below_drew1) | exact HB.out)⟩
                                                                                            · rw [if_neg c46] at H
                                                                                              have c46b0 : ((a0.extract 0 (x3_1 : Int).toNat).toList == ([126] : List UInt8)) = false := beq_eq_false_iff_ne.mpr c46
                                                                                              have c46b1 : ((a0.extract 0 (x3_1 : Int).toNat).toList != ([126] : List UInt8)) = true := bne_iff_ne.mpr c46
                                                                                              by_cases c47 : (a0.extract 0 (x3_1 : Int).toNat).toList = ([33] : List UInt8)
                                                                                              · rw [if_pos c47] at H
                                                                                                have c47b0 : ((a0.extract 0 (x3_1 : Int).toNat).toList == ([33] : List UInt8)) = true := beq_iff_eq.mpr c47
                                                                                                have c47b1 : ((a0.extract 0 (x3_1 : Int).toNat).toList != ([33] : List UInt8)) = false := bne_eq_false_iff_eq.mpr c47
                                                                                                clear c47
                                                                                                obtain rfl := Option.some.inj H
                                                                                                go_wp2
                                                                                                go_ret
                                                                                                exact ⟨by first | rfl | (simp [errW_none, errW_some] <;> rfl) | (simp only [← hji2]; first | rfl | (simp [errW_none, errW_some] <;> rfl)) | (simp [*, errW_none, errW_some] <;> rfl), by repeat (first | (with_reducible first | exact HB.out | apply below_alloc | apply pw_below_drewN | apply below_drew1) | exact HB.out)⟩
                                                                                              · rw [if_neg c47] at H
                                                                                                have c47b0 : ((a0.extract 0 (x3_1 : Int).toNat).toList == ([33] : List UInt8)) = false := beq_eq_false_iff_ne.mpr c47
                                                                                                have c47b1 : ((a0.extract 0 (x3_1 : Int).toNat).toList != ([33] : List UInt8)) = true := bne_iff_ne.mpr c47
                                                                                                by_cases c48 : (a0.extract 0 (x3_1 : Int).toNat).toList = ([47] : List UInt8)
                                                                                                · rw [if_pos c48] at H
                                                                                                  have c48b0 : ((a0.extract 0 (x3_1 : Int).toNat).toList == ([47] : List UInt8)) = true := beq_iff_eq.mpr c48
                                                                                                  have c48b1 : ((a0.extract 0 (x3_1 : Int).toNat).toList != ([47] : List UInt8)) = false := bne_eq_false_iff_eq.mpr c48
                                                                                                  clear c48
                                                                                                  obtain rfl := Option.some.inj H
                                                                                                  go_wp2
                                                                                                  go_ret
                                                                                                  exact ⟨by first | rfl | (simp [errW_none, errW_some] <;> rfl) | (simp only [← hji2]; first | rfl | (simp [errW_none, errW_some] <;> rfl)) | (simp [*, errW_none, errW_some] <;> rfl), by repeat (first | (with_reducible first | exact HB.out | apply below_alloc | apply pw_below_drewN | apply below_drew1) | exact HB.out)⟩
                                                                                                · rw [if_neg c48] at H
                                                                                                  have c48b0 : ((a0.extract 0 (x3_1 : Int).toNat).toList == ([47] : List UInt8)) = false := beq_eq_false_iff_ne.mpr c48
                                                                                                  have c48b1 : ((a0.extract 0 (x3_1 : Int).toNat).toList != ([47] : List UInt8)) = true := bne_iff_ne.mpr c48
                                                                                                  by_cases c49 : (a0.extract 0 (x3_1 : Int).toNat).toList = ([37] : List UInt8)
                                                                                                  · rw [if_pos c49] at H
                                                                                                    have c49b0 : ((a0.extract 0 (x3_1 : Int).toNat).toList == ([37] : List UInt8)) = true := beq_iff_eq.mpr c49
                                                                                                    have c49b1 : ((a0.extract 0 (x3_1 : Int).toNat).toList != ([37] : List UInt8)) = false := bne_eq_false_iff_eq.mpr c49
                                                                                                    clear c49
                                                                                                    obtain rfl := Option.some.inj H
                                                                                                    go_wp2
                                                                                                    go_ret
                                                                                                    exact ⟨by first | rfl | (simp [errW_none, errW_some] <;> rfl) | (simp only [← hji2]; first | rfl | (simp [errW_none, errW_some] <;> rfl)) | (simp [*, errW_none, errW_some] <;> rfl), by repeat (first | (with_reducible first | exact HB.out | apply below_alloc | apply pw_below_drewN | apply below_drew1) | exact HB.out)⟩
                                                                                                  · rw [if_neg c49] at H
                                                                                                    have c49b0 : ((a0.extract 0 (x3_1 : Int).toNat).toList == ([37] : List UInt8)) = false := beq_eq_false_iff_ne.mpr c49
                                                                                                    have c49b1 : ((a0.extract 0 (x3_1 : Int).toNat).toList != ([37] : List UInt8)) = true := bne_iff_ne.mpr c49
                                                                                                    by_cases c50 : (a0.extract 0 (x3_1 : Int).toNat).toList = ([60] : List UInt8)
                                                                                                    · rw [if_pos c50] at H
                                                                                                      have c50b0 : ((a0.extract 0 (x3_1 : Int).toNat).toList == ([60] : List UInt8)) = true := beq_iff_eq.mpr c50
                                                                                                      have c50b1 : ((a0.extract 0 (x3_1 : Int).toNat).toList != ([60] : List UInt8)) = false := bne_eq_false_iff_eq.mpr c50
                                                                                                      clear c50
                                                                                                      obtain rfl := Option.some.inj H
                                                                                                      go_wp2
                                                                                                      go_ret
                                                                                                      exact ⟨by first | rfl | (simp [errW_none, errW_some] <;> rfl) | (simp only [← hji2]; first | rfl | (simp [errW_none, errW_some] <;> rfl)) | (simp [*, errW_none, errW_some] <;> rfl), by repeat (first | (with_reducible first | exact HB.out | apply below_alloc | apply pw_below_drewN | apply below_drew1) | exact HB.out)⟩
                                                                                                    · rw [if_neg c50] at H
                                                                                                      have c50b0 : ((a0.extract 0 (x3_1 : Int).toNat).toList == ([60] : List UInt8)) = false := beq_eq_false_iff_ne.mpr c50
                                                                                                      have c50b1 : ((a0.extract 0 (x3_1 : Int).toNat).toList != ([60] : List UInt8)) = true := bne_iff_ne.mpr c50
                                                                                                      by_cases c51 : (a0.extract 0 (x3_1 : Int).toNat).toList = ([62] : List UInt8)
                                                                                                      · rw [if_pos c51] at H
                                                                                                        have c51b0 : ((a0.extract 0 (x3_1 : Int).toNat).toList == ([62] : List UInt8)) = true := beq_iff_eq.mpr c51
                                                                                                        have c51b1 : ((a0.extract 0 (x3_1 : Int).toNat).toList != ([62] : List UInt8)) = false := bne_eq_false_iff_eq.mpr c51
                                                                                                        clear c51
                                                                                                        obtain rfl := Option.some.inj H
                                                                                                        go_wp2
                                                                                                        go_ret
                                                                                                        exact ⟨by first | rfl | (simp [errW_none, errW_some] <;> rfl) | (simp only [← hji2]; first | rfl | (simp [errW_none, errW_some] <;> rfl)) | (simp [*, errW_none, errW_some] <;> rfl), by repeat (first | (with_reducible first | exact HB.out | apply below_alloc | apply pw_below_drewN | apply below_drew1) | exact HB.out)⟩
                                                                                                      · rw [if_neg c51] at H
                                                                                                        have c51b0 : ((a0.extract 0 (x3_1 : Int).toNat).toList == ([62] : List UInt8)) = false := beq_eq_false_iff_ne.mpr c51
                                                                                                        have c51b1 : ((a0.extract 0 (x3_1 : Int).toNat).toList != ([62] : List UInt8)) = true := bne_iff_ne.mpr c51
                                                                                                        by_cases c52 : (a0.extract 0 (x3_1 : Int).toNat).toList = ([94] : List UInt8)
                                                                                                        · rw [if_pos c52] at H
                                                                                                          have c52b0 : ((a0.extract 0 (x3_1 : Int).toNat).toList == ([94] : List UInt8)) = true := beq_iff_eq.mpr c52
                                                                                                          have c52b1 : ((a0.extract 0 (x3_1 : Int).toNat).toList != ([94] : List UInt8)) = false := bne_eq_false_iff_eq.mpr c52
                                                                                                          clear c52
                                                                                                          obtain rfl := Option.some.inj H
                                                                                                          go_wp2
                                                                                                          go_ret
                                                                                                          exact ⟨by first | rfl | (simp [errW_none, errW_some] <;> rfl) | (simp only [← hji2]; first | rfl | (simp [errW_none, errW_some] <;> rfl)) | (simp [*, errW_none, errW_some] <;> rfl), by repeat (first | (with_reducible first | exact HB.out | apply below_alloc | apply pw_below_drewN | apply below_drew1) | exact HB.out)⟩
                                                                                                        · rw [if_neg c52] at H
                                                                                                          have c52b0 : ((a0.extract 0 (x3_1 : Int).toNat).toList == ([94] : List UInt8)) = false := beq_eq_false_iff_ne.mpr c52
                                                                                                          have c52b1 : ((a0.extract 0 (x3_1 : Int).toNat).toList != ([94] : List UInt8)) = true := bne_iff_ne.mpr c52
                                                                                                          by_cases c53 : (a0.extract 0 (x3_1 : Int).toNat).toList = ([124] : List UInt8)
                                                                                                          · rw [if_pos c53] at H
                                                                                                            have c53b0 : ((a0.extract 0 (x3_1 : Int).toNat).toList == ([124] : List UInt8)) = true := beq_iff_eq.mpr c53
                                                                                                            have c53b1 : ((a0.extract 0 (x3_1 : Int).toNat).toList != ([124] : List UInt8)) = false := bne_eq_false_iff_eq.mpr c53
                                                                                                            clear c53
                                                                                                            obtain rfl := Option.some.inj H
                                                                                                            go_wp2
                                                                                                            go_ret
                                                                                                            exact ⟨by first | rfl | (simp [errW_none, errW_some] <;> rfl) | (simp only [← hji2]; first | rfl | (simp [errW_none, errW_some] <;> rfl)) | (simp [*, errW_none, errW_some] <;> rfl), by repeat (first | (with_reducible first | exact HB.out | apply below_alloc | apply pw_below_drewN | apply below_drew1) | exact HB.out)⟩
                                                                                                          · rw [if_neg c53] at H
                                                                                                            have c53b0 : ((a0.extract 0 (x3_1 : Int).toNat).toList == ([124] : List UInt8)) = false := beq_eq_false_iff_ne.mpr c53
                                                                                                            have c53b1 : ((a0.extract 0 (x3_1 : Int).toNat).toList != ([124] : List UInt8)) = true := bne_iff_ne.mpr c53
                                                                                                            by_cases c54 : (a0.extract 0 (x3_1 : Int).toNat).toList = ([63] : List UInt8)
                                                                                                            · rw [if_pos c54] at H
                                                                                                              have c54b0 : ((a0.extract 0 (x3_1 : Int).toNat).toList == ([63] : List UInt8)) = true := beq_iff_eq.mpr c54
                                                                                                              have c54b1 : ((a0.extract 0 (x3_1 : Int).toNat).toList != ([63] : List UInt8)) = false := bne_eq_false_iff_eq.mpr c54
                                                                                                              clear c54
                                                                                                              obtain rfl := Option.some.inj H
                                                                                                              go_wp2
                                                                                                              go_ret
                                                                                                              exact ⟨by first | rfl | (simp [errW_none, errW_some] <;> rfl) | (simp only [← hji2]; first | rfl | (simp [errW_none, errW_some] <;> rfl)) | (simp [*, errW_none, errW_some] <;> rfl), by repeat (first | (with_reducible first | exact HB.out | apply below_alloc | apply pw_below_drewN | apply below_drew1) | exact HB.out)⟩
                                                                                                            · rw [if_neg c54] at H
                                                                                                              have c54b0 : ((a0.extract 0 (x3_1 : Int).toNat).toList == ([63] : List UInt8)) = false := beq_eq_false_iff_ne.mpr c54
                                                                                                              have c54b1 : ((a0.extract 0 (x3_1 : Int).toNat).toList != ([63] : List UInt8)) = true := bne_iff_ne.mpr c54
                                                                                                              by_cases c55 : (a0.extract 0 (x3_1 : Int).toNat).toList = ([58] : List UInt8)
                                                                                                              · rw [if_pos c55] at H
                                                                                                                have c55b0 : ((a0.extract 0 (x3_1 : Int).toNat).toList == ([58] : List UInt8)) = true := beq_iff_eq.mpr c55
                                                                                                                have c55b1 : ((a0.extract 0 (x3_1 : Int).toNat).toList != ([58] : List UInt8)) = false := bne_eq_false_iff_eq.mpr c55
                                                                                                                clear c55
                                                                                                                obtain rfl := Option.some.inj H
                                                                                                                go_wp2
                                                                                                                go_ret
                                                                                                                exact ⟨by first | rfl | (simp [errW_none, errW_some] <;> rfl) | (simp only [← hji2]; first | rfl | (simp [errW_none, errW_some] <;> rfl)) | (simp [*, errW_none, errW_some] <;> rfl), by repeat (first | (with_reducible first | exact HB.out | apply below_alloc | apply pw_below_drewN | apply below_drew1) | exact HB.out)⟩
                                                                                                              · rw [if_neg c55] at H
                                                                                                                have c55b0 : ((a0.extract 0 (x3_1 : Int).toNat).toList == ([58] : List UInt8)) = false := beq_eq_false_iff_ne.mpr c55
                                                                                                                have c55b1 : ((a0.extract 0 (x3_1 : Int).toNat).toList != ([58] : List UInt8)) = true := bne_iff_ne.mpr c55
                                                                                                                by_cases c56 : (a0.extract 0 (x3_1 : Int).toNat).toList = ([59] : List UInt8)
                                                                                                                · rw [if_pos c56] at H
                                                                                                                  have c56b0 : ((a0.extract 0 (x3_1 : Int).toNat).toList == ([59] : List UInt8)) = true := beq_iff_eq.mpr c56
                                                                                                                  have c56b1 : ((a0.extract 0 (x3_1 : Int).toNat).toList != ([59] : List UInt8)) = false := bne_eq_false_iff_eq.mpr c56
                                                                                                                  clear c56
                                                                                                                  obtain rfl := Option.some.inj H
                                                                                                                  go_wp2
                                                                                                                  go_ret
                                                                                                                  exact ⟨by first | rfl | (simp [errW_none, errW_some] <;> rfl) | (simp only [← hji2]; first | rfl | (simp [errW_none, errW_some] <;> rfl)) | (simp [*, errW_none, errW_some] <;> rfl), by repeat (first | (with_reducible first | exact HB.out | apply below_alloc | apply pw_below_drewN | apply below_drew1) | exact HB.out)⟩
                                                                                                                · rw [if_neg c56] at H
                                                                                                                  have c56b0 : ((a0.extract 0 (x3_1 : Int).toNat).toList == ([59] : List UInt8)) = false := beq_eq_false_iff_ne.mpr c56
                                                                                                                  have c56b1 : ((a0.extract 0 (x3_1 : Int).toNat).toList != ([59] : List UInt8)) = true := bne_iff_ne.mpr c56
                                                                                                                  by_cases c57 : (a0.extract 0 (x3_1 : Int).toNat).toList = ([61] : List UInt8)
                                                                                                                  · rw [if_pos c57] at H
                                                                                                                    have c57b0 : ((a0.extract 0 (x3_1 : Int).toNat).toList == ([61] : List UInt8)) = true := beq_iff_eq.mpr c57
                                                                                                                    have c57b1 : ((a0.extract 0 (x3_1 : Int).toNat).toList != ([61] : List UInt8)) = false := bne_eq_false_iff_eq.mpr c57
                                                                                                                    clear c57
                                                                                                                    obtain rfl := Option.some.inj H
                                                                                                                    go_wp2
                                                                                                                    go_ret
                                                                                                                    exact ⟨by first | rfl | (simp [errW_none, errW_some] <;> rfl) | (simp only [← hji2]; first | rfl | (simp [errW_none, errW_some] <;> rfl)) | (simp [*, errW_none, errW_some] <;> rfl), by repeat (first | (with_reducible first | exact HB.out | apply below_alloc | apply pw_below_drewN | apply below_drew1) | exact HB.out)⟩
                                                                                                                  · rw [if_neg c57] at H
                                                                                                                    have c57b0 : ((a0.extract 0 (x3_1 : Int).toNat).toList == ([61] : List UInt8)) = false := beq_eq_false_iff_ne.mpr c57
                                                                                                                    have c57b1 : ((a0.extract 0 (x3_1 : Int).toNat).toList != ([61] : List UInt8)) = true := bne_iff_ne.mpr c57
                                                                                                                    by_cases c58 : (a0.extract 0 (x3_1 : Int).toNat).toList = ([44] : List UInt8)
                                                                                                                    · rw [if_pos c58] at H
                                                                                                                      have c58b0 : ((a0.extract 0 (x3_1 : Int).toNat).toList == ([44] : List UInt8)) = true := beq_iff_eq.mpr c58
                                                                                                                      have c58b1 : ((a0.extract 0 (x3_1 : Int).toNat).toList != ([44] : List UInt8)) = false := bne_eq_false_iff_eq.mpr c58
                                                                                                                      clear c58
                                                                                                                      obtain rfl := Option.some.inj H
                                                                                                                      go_wp2
                                                                                                                      go_ret
                                                                                                                      exact ⟨by first | rfl | (simp [errW_none, errW_some] <;> rfl) | (simp only [← hji2]; first | rfl | (simp [errW_none, errW_some] <;> rfl)) | (simp [*, errW_none, errW_some] <;> rfl), by repeat (first | (with_reducible first | exact HB.out | apply below_alloc | apply pw_below_drewN | apply below_drew1) | exact HB.out)⟩
                                                                                                                    · rw [if_neg c58] at H
                                                                                                                      have c58b0 : ((a0.extract 0 (x3_1 : Int).toNat).toList == ([44] : List UInt8)) = false := beq_eq_false_iff_ne.mpr c58
                                                                                                                      have c58b1 : ((a0.extract 0 (x3_1 : Int).toNat).toList != ([44] : List UInt8)) = true := bne_iff_ne.mpr c58
                                                                                                                      by_cases c59 : (a0.extract 0 (x3_1 : Int).toNat).toList = ([35] : List UInt8)
                                                                                                                      · rw [if_pos c59] at H
                                                                                                                        have c59b0 : ((a0.extract 0 (x3_1 : Int).toNat).toList == ([35] : List UInt8)) = true := beq_iff_eq.mpr c59
                                                                                                                        have c59b1 : ((a0.extract 0 (x3_1 : Int).toNat).toList != ([35] : List UInt8)) = false := bne_eq_false_iff_eq.mpr c59
                                                                                                                        clear c59
                                                                                                                        obtain rfl := Option.some.inj H
                                                                                                                        go_wp2
                                                                                                                        go_ret
                                                                                                                        exact ⟨by first | rfl | (simp [errW_none, errW_some] <;> rfl) | (simp only [← hji2]; first | rfl | (simp [errW_none, errW_some] <;> rfl)) | (simp [*, errW_none, errW_some] <;> rfl), by repeat (first | (with_reducible first | exact HB.out | apply below_alloc | apply pw_below_drewN | apply below_drew1) | exact HB.out)⟩
                                                                                                                      · rw [if_neg c59] at H
                                                                                                                        have c59b0 : ((a0.extract 0 (x3_1 : Int).toNat).toList == ([35] : List UInt8)) = false := beq_eq_false_iff_ne.mpr c59
                                                                                                                        have c59b1 : ((a0.extract 0 (x3_1 : Int).toNat).toList != ([35] : List UInt8)) = true := bne_iff_ne.mpr c59
                                                                                                                        have H' := Aside0.mk H
                                                                                                                        clear H
                                                                                                                        go_wp2
                                                                                                                        go_roundg k1
                                                                                                                        case measure => have := HK1.out; omega
                                                                                                                        case rel => exact ⟨(wrap64 (x3_1 - 1)), (by first | rfl | (simp; done) | (simp [*]; done)), H', ⟨by have := HK1.out; omega⟩, ⟨by repeat (first | (with_reducible first | exact HB.out | apply below_alloc | apply pw_below_drewN | apply below_drew1) | exact HB.out)⟩⟩
          · rw [if_neg c5] at H
            exact absurd H (by simp)
        · rw [if_neg c4] at H
          exact absurd H (by simp)
      · rw [if_neg c3] at H
        have c3b0 : decide (0 < x3_1) = false := decide_eq_false c3
        clear c3
        obtain rfl := Option.some.inj H
        go_wp2
        go_ret
        exact ⟨by first | rfl | (simp [errW_none, errW_some] <;> rfl) | (simp only [← hji2]; first | rfl | (simp [errW_none, errW_some] <;> rfl)) | (simp [*, errW_none, errW_some] <;> rfl), by repeat (first | (with_reducible first | exact HB.out | apply below_alloc | apply pw_below_drewN | apply below_drew1) | exact HB.out)⟩
end Go.Proofs.YtcdleippdegibaaDoor.PS
