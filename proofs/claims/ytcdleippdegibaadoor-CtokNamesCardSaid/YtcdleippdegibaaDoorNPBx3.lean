import Derived.Test.YtcdleippdegibaaDoorNPBx0
namespace Go.Proofs.YtcdleippdegibaaDoor.PB
open Go.RowKit Go.Proofs.YtcdleippdegibaaDoorW.PrintWords Go.Proofs.YtcdleippdegibaaDoorW.PrintLast Go.Proofs.YtcdleippdegibaaDoorW.PrintMore
open Go.Proofs.YtcdleippdegibaaDoor.PK
attribute [local go_sem] max2_int min2_int max_two min_two max_three min_three max_four min_four
set_option linter.unusedVariables false
set_option linter.unusedSimpArgs false
def ctok_Keyword.f (a0 : ByteArray) : Option (Bool) := if a0.toList = ([97, 117, 116, 111] : List UInt8) then (some true) else (if a0.toList = ([98, 114, 101, 97, 107] : List UInt8) then (some true) else (if a0.toList = ([99, 97, 115, 101] : List UInt8) then (some true) else (if a0.toList = ([99, 104, 97, 114] : List UInt8) then (some true) else (if a0.toList = ([99, 111, 110, 115, 116] : List UInt8) then (some true) else (if a0.toList = ([99, 111, 110, 116, 105, 110, 117, 101] : List UInt8) then (some true) else (if a0.toList = ([100, 101, 102, 97, 117, 108, 116] : List UInt8) then (some true) else (if a0.toList = ([100, 111] : List UInt8) then (some true) else (if a0.toList = ([100, 111, 117, 98, 108, 101] : List UInt8) then (some true) else (if a0.toList = ([101, 108, 115, 101] : List UInt8) then (some true) else (if a0.toList = ([101, 110, 117, 109] : List UInt8) then (some true) else (if a0.toList = ([101, 120, 116, 101, 114, 110] : List UInt8) then (some true) else (if a0.toList = ([102, 108, 111, 97, 116] : List UInt8) then (some true) else (if a0.toList = ([102, 111, 114] : List UInt8) then (some true) else (if a0.toList = ([103, 111, 116, 111] : List UInt8) then (some true) else (if a0.toList = ([105, 102] : List UInt8) then (some true) else (if a0.toList = ([105, 110, 108, 105, 110, 101] : List UInt8) then (some true) else (if a0.toList = ([105, 110, 116] : List UInt8) then (some true) else (if a0.toList = ([108, 111, 110, 103] : List UInt8) then (some true) else (if a0.toList = ([114, 101, 103, 105, 115, 116, 101, 114] : List UInt8) then (some true) else (if a0.toList = ([114, 101, 115, 116, 114, 105, 99, 116] : List UInt8) then (some true) else (if a0.toList = ([114, 101, 116, 117, 114, 110] : List UInt8) then (some true) else (if a0.toList = ([115, 104, 111, 114, 116] : List UInt8) then (some true) else (if a0.toList = ([115, 105, 103, 110, 101, 100] : List UInt8) then (some true) else (if a0.toList = ([115, 105, 122, 101, 111, 102] : List UInt8) then (some true) else (if a0.toList = ([115, 116, 97, 116, 105, 99] : List UInt8) then (some true) else (if a0.toList = ([115, 116, 114, 117, 99, 116] : List UInt8) then (some true) else (if a0.toList = ([115, 119, 105, 116, 99, 104] : List UInt8) then (some true) else (if a0.toList = ([116, 121, 112, 101, 100, 101, 102] : List UInt8) then (some true) else (if a0.toList = ([117, 110, 105, 111, 110] : List UInt8) then (some true) else (if a0.toList = ([117, 110, 115, 105, 103, 110, 101, 100] : List UInt8) then (some true) else (if a0.toList = ([118, 111, 105, 100] : List UInt8) then (some true) else (if a0.toList = ([118, 111, 108, 97, 116, 105, 108, 101] : List UInt8) then (some true) else (if a0.toList = ([119, 104, 105, 108, 101] : List UInt8) then (some true) else (if a0.toList = ([95, 65, 108, 105, 103, 110, 97, 115] : List UInt8) then (some true) else (if a0.toList = ([95, 65, 108, 105, 103, 110, 111, 102] : List UInt8) then (some true) else (if a0.toList = ([95, 65, 116, 111, 109, 105, 99] : List UInt8) then (some true) else (if a0.toList = ([95, 66, 111, 111, 108] : List UInt8) then (some true) else (if a0.toList = ([95, 67, 111, 109, 112, 108, 101, 120] : List UInt8) then (some true) else (if a0.toList = ([95, 71, 101, 110, 101, 114, 105, 99] : List UInt8) then (some true) else (if a0.toList = ([95, 73, 109, 97, 103, 105, 110, 97, 114, 121] : List UInt8) then (some true) else (if a0.toList = ([95, 78, 111, 114, 101, 116, 117, 114, 110] : List UInt8) then (some true) else (if a0.toList = ([95, 83, 116, 97, 116, 105, 99, 95, 97, 115, 115, 101, 114, 116] : List UInt8) then (some true) else (if a0.toList = ([95, 84, 104, 114, 101, 97, 100, 95, 108, 111, 99, 97, 108] : List UInt8) then (some true) else (some false))))))))))))))))))))))))))))))))))))))))))))
set_option maxHeartbeats 8000000 in
set_option maxRecDepth 100000 in
theorem ctok_Keyword.calls (a0 : ByteArray) (r : Bool) (w : World) (h : ctok_Keyword.f a0 = some r) :
    Calls Tryd.prog 11 #[.string a0] w fun e w' => e = .returned (.bool r) ∧ Drawn0 w w' := by
  have H : (if a0.toList = ([97, 117, 116, 111] : List UInt8) then (some true) else (if a0.toList = ([98, 114, 101, 97, 107] : List UInt8) then (some true) else (if a0.toList = ([99, 97, 115, 101] : List UInt8) then (some true) else (if a0.toList = ([99, 104, 97, 114] : List UInt8) then (some true) else (if a0.toList = ([99, 111, 110, 115, 116] : List UInt8) then (some true) else (if a0.toList = ([99, 111, 110, 116, 105, 110, 117, 101] : List UInt8) then (some true) else (if a0.toList = ([100, 101, 102, 97, 117, 108, 116] : List UInt8) then (some true) else (if a0.toList = ([100, 111] : List UInt8) then (some true) else (if a0.toList = ([100, 111, 117, 98, 108, 101] : List UInt8) then (some true) else (if a0.toList = ([101, 108, 115, 101] : List UInt8) then (some true) else (if a0.toList = ([101, 110, 117, 109] : List UInt8) then (some true) else (if a0.toList = ([101, 120, 116, 101, 114, 110] : List UInt8) then (some true) else (if a0.toList = ([102, 108, 111, 97, 116] : List UInt8) then (some true) else (if a0.toList = ([102, 111, 114] : List UInt8) then (some true) else (if a0.toList = ([103, 111, 116, 111] : List UInt8) then (some true) else (if a0.toList = ([105, 102] : List UInt8) then (some true) else (if a0.toList = ([105, 110, 108, 105, 110, 101] : List UInt8) then (some true) else (if a0.toList = ([105, 110, 116] : List UInt8) then (some true) else (if a0.toList = ([108, 111, 110, 103] : List UInt8) then (some true) else (if a0.toList = ([114, 101, 103, 105, 115, 116, 101, 114] : List UInt8) then (some true) else (if a0.toList = ([114, 101, 115, 116, 114, 105, 99, 116] : List UInt8) then (some true) else (if a0.toList = ([114, 101, 116, 117, 114, 110] : List UInt8) then (some true) else (if a0.toList = ([115, 104, 111, 114, 116] : List UInt8) then (some true) else (if a0.toList = ([115, 105, 103, 110, 101, 100] : List UInt8) then (some true) else (if a0.toList = ([115, 105, 122, 101, 111, 102] : List UInt8) then (some true) else (if a0.toList = ([115, 116, 97, 116, 105, 99] : List UInt8) then (some true) else (if a0.toList = ([115, 116, 114, 117, 99, 116] : List UInt8) then (some true) else (if a0.toList = ([115, 119, 105, 116, 99, 104] : List UInt8) then (some true) else (if a0.toList = ([116, 121, 112, 101, 100, 101, 102] : List UInt8) then (some true) else (if a0.toList = ([117, 110, 105, 111, 110] : List UInt8) then (some true) else (if a0.toList = ([117, 110, 115, 105, 103, 110, 101, 100] : List UInt8) then (some true) else (if a0.toList = ([118, 111, 105, 100] : List UInt8) then (some true) else (if a0.toList = ([118, 111, 108, 97, 116, 105, 108, 101] : List UInt8) then (some true) else (if a0.toList = ([119, 104, 105, 108, 101] : List UInt8) then (some true) else (if a0.toList = ([95, 65, 108, 105, 103, 110, 97, 115] : List UInt8) then (some true) else (if a0.toList = ([95, 65, 108, 105, 103, 110, 111, 102] : List UInt8) then (some true) else (if a0.toList = ([95, 65, 116, 111, 109, 105, 99] : List UInt8) then (some true) else (if a0.toList = ([95, 66, 111, 111, 108] : List UInt8) then (some true) else (if a0.toList = ([95, 67, 111, 109, 112, 108, 101, 120] : List UInt8) then (some true) else (if a0.toList = ([95, 71, 101, 110, 101, 114, 105, 99] : List UInt8) then (some true) else (if a0.toList = ([95, 73, 109, 97, 103, 105, 110, 97, 114, 121] : List UInt8) then (some true) else (if a0.toList = ([95, 78, 111, 114, 101, 116, 117, 114, 110] : List UInt8) then (some true) else (if a0.toList = ([95, 83, 116, 97, 116, 105, 99, 95, 97, 115, 115, 101, 114, 116] : List UInt8) then (some true) else (if a0.toList = ([95, 84, 104, 114, 101, 97, 100, 95, 108, 111, 99, 97, 108] : List UInt8) then (some true) else (some false))))))))))))))))))))))))))))))))))))))))))))) = some r := h
  clear h
  by_cases c2 : a0.toList = ([97, 117, 116, 111] : List UInt8)
  · rw [if_pos c2] at H
    have c2b0 : (a0.toList == ([97, 117, 116, 111] : List UInt8)) = true := beq_iff_eq.mpr c2
    have c2b1 : (a0.toList != ([97, 117, 116, 111] : List UInt8)) = false := bne_eq_false_iff_eq.mpr c2
    clear c2
    obtain rfl := Option.some.inj H
    go_enter Tryd.func11, Tryd.ntmps11
    go_wp2
    go_ret
    exact ⟨by first | rfl | (simp; done) | (simp [*]; done), by repeat (first | exact Drawn0.refl _ | apply Drawn0.step)⟩
  · rw [if_neg c2] at H
    have c2b0 : (a0.toList == ([97, 117, 116, 111] : List UInt8)) = false := beq_eq_false_iff_ne.mpr c2
    have c2b1 : (a0.toList != ([97, 117, 116, 111] : List UInt8)) = true := bne_iff_ne.mpr c2
    by_cases c3 : a0.toList = ([98, 114, 101, 97, 107] : List UInt8)
    · rw [if_pos c3] at H
      have c3b0 : (a0.toList == ([98, 114, 101, 97, 107] : List UInt8)) = true := beq_iff_eq.mpr c3
      have c3b1 : (a0.toList != ([98, 114, 101, 97, 107] : List UInt8)) = false := bne_eq_false_iff_eq.mpr c3
      clear c3
      obtain rfl := Option.some.inj H
      go_enter Tryd.func11, Tryd.ntmps11
      go_wp2
      go_ret
      exact ⟨by first | rfl | (simp; done) | (simp [*]; done), by repeat (first | exact Drawn0.refl _ | apply Drawn0.step)⟩
    · rw [if_neg c3] at H
      have c3b0 : (a0.toList == ([98, 114, 101, 97, 107] : List UInt8)) = false := beq_eq_false_iff_ne.mpr c3
      have c3b1 : (a0.toList != ([98, 114, 101, 97, 107] : List UInt8)) = true := bne_iff_ne.mpr c3
      by_cases c4 : a0.toList = ([99, 97, 115, 101] : List UInt8)
      · rw [if_pos c4] at H
        have c4b0 : (a0.toList == ([99, 97, 115, 101] : List UInt8)) = true := beq_iff_eq.mpr c4
        have c4b1 : (a0.toList != ([99, 97, 115, 101] : List UInt8)) = false := bne_eq_false_iff_eq.mpr c4
        clear c4
        obtain rfl := Option.some.inj H
        go_enter Tryd.func11, Tryd.ntmps11
        go_wp2
        go_ret
        exact ⟨by first | rfl | (simp; done) | (simp [*]; done), by repeat (first | exact Drawn0.refl _ | apply Drawn0.step)⟩
      · rw [if_neg c4] at H
        have c4b0 : (a0.toList == ([99, 97, 115, 101] : List UInt8)) = false := beq_eq_false_iff_ne.mpr c4
        have c4b1 : (a0.toList != ([99, 97, 115, 101] : List UInt8)) = true := bne_iff_ne.mpr c4
        by_cases c5 : a0.toList = ([99, 104, 97, 114] : List UInt8)
        · rw [if_pos c5] at H
          have c5b0 : (a0.toList == ([99, 104, 97, 114] : List UInt8)) = true := beq_iff_eq.mpr c5
          have c5b1 : (a0.toList != ([99, 104, 97, 114] : List UInt8)) = false := bne_eq_false_iff_eq.mpr c5
          clear c5
          obtain rfl := Option.some.inj H
          go_enter Tryd.func11, Tryd.ntmps11
          go_wp2
          go_ret
          exact ⟨by first | rfl | (simp; done) | (simp [*]; done), by repeat (first | exact Drawn0.refl _ | apply Drawn0.step)⟩
        · rw [if_neg c5] at H
          have c5b0 : (a0.toList == ([99, 104, 97, 114] : List UInt8)) = false := beq_eq_false_iff_ne.mpr c5
          have c5b1 : (a0.toList != ([99, 104, 97, 114] : List UInt8)) = true := bne_iff_ne.mpr c5
          by_cases c6 : a0.toList = ([99, 111, 110, 115, 116] : List UInt8)
          · rw [if_pos c6] at H
            have c6b0 : (a0.toList == ([99, 111, 110, 115, 116] : List UInt8)) = true := beq_iff_eq.mpr c6
            have c6b1 : (a0.toList != ([99, 111, 110, 115, 116] : List UInt8)) = false := bne_eq_false_iff_eq.mpr c6
            clear c6
            obtain rfl := Option.some.inj H
            go_enter Tryd.func11, Tryd.ntmps11
            go_wp2
            go_ret
            exact ⟨by first | rfl | (simp; done) | (simp [*]; done), by repeat (first | exact Drawn0.refl _ | apply Drawn0.step)⟩
          · rw [if_neg c6] at H
            have c6b0 : (a0.toList == ([99, 111, 110, 115, 116] : List UInt8)) = false := beq_eq_false_iff_ne.mpr c6
            have c6b1 : (a0.toList != ([99, 111, 110, 115, 116] : List UInt8)) = true := bne_iff_ne.mpr c6
            by_cases c7 : a0.toList = ([99, 111, 110, 116, 105, 110, 117, 101] : List UInt8)
            · rw [if_pos c7] at H
              have c7b0 : (a0.toList == ([99, 111, 110, 116, 105, 110, 117, 101] : List UInt8)) = true := beq_iff_eq.mpr c7
              have c7b1 : (a0.toList != ([99, 111, 110, 116, 105, 110, 117, 101] : List UInt8)) = false := bne_eq_false_iff_eq.mpr c7
              clear c7
              obtain rfl := Option.some.inj H
              go_enter Tryd.func11, Tryd.ntmps11
              go_wp2
              go_ret
              exact ⟨by first | rfl | (simp; done) | (simp [*]; done), by repeat (first | exact Drawn0.refl _ | apply Drawn0.step)⟩
            · rw [if_neg c7] at H
              have c7b0 : (a0.toList == ([99, 111, 110, 116, 105, 110, 117, 101] : List UInt8)) = false := beq_eq_false_iff_ne.mpr c7
              have c7b1 : (a0.toList != ([99, 111, 110, 116, 105, 110, 117, 101] : List UInt8)) = true := bne_iff_ne.mpr c7
              by_cases c8 : a0.toList = ([100, 101, 102, 97, 117, 108, 116] : List UInt8)
              · rw [if_pos c8] at H
                have c8b0 : (a0.toList == ([100, 101, 102, 97, 117, 108, 116] : List UInt8)) = true := beq_iff_eq.mpr c8
                have c8b1 : (a0.toList != ([100, 101, 102, 97, 117, 108, 116] : List UInt8)) = false := bne_eq_false_iff_eq.mpr c8
                clear c8
                obtain rfl := Option.some.inj H
                go_enter Tryd.func11, Tryd.ntmps11
                go_wp2
                go_ret
                exact ⟨by first | rfl | (simp; done) | (simp [*]; done), by repeat (first | exact Drawn0.refl _ | apply Drawn0.step)⟩
              · rw [if_neg c8] at H
                have c8b0 : (a0.toList == ([100, 101, 102, 97, 117, 108, 116] : List UInt8)) = false := beq_eq_false_iff_ne.mpr c8
                have c8b1 : (a0.toList != ([100, 101, 102, 97, 117, 108, 116] : List UInt8)) = true := bne_iff_ne.mpr c8
                by_cases c9 : a0.toList = ([100, 111] : List UInt8)
                · rw [if_pos c9] at H
                  have c9b0 : (a0.toList == ([100, 111] : List UInt8)) = true := beq_iff_eq.mpr c9
                  have c9b1 : (a0.toList != ([100, 111] : List UInt8)) = false := bne_eq_false_iff_eq.mpr c9
                  clear c9
                  obtain rfl := Option.some.inj H
                  go_enter Tryd.func11, Tryd.ntmps11
                  go_wp2
                  go_ret
                  exact ⟨by first | rfl | (simp; done) | (simp [*]; done), by repeat (first | exact Drawn0.refl _ | apply Drawn0.step)⟩
                · rw [if_neg c9] at H
                  have c9b0 : (a0.toList == ([100, 111] : List UInt8)) = false := beq_eq_false_iff_ne.mpr c9
                  have c9b1 : (a0.toList != ([100, 111] : List UInt8)) = true := bne_iff_ne.mpr c9
                  by_cases c10 : a0.toList = ([100, 111, 117, 98, 108, 101] : List UInt8)
                  · rw [if_pos c10] at H
                    have c10b0 : (a0.toList == ([100, 111, 117, 98, 108, 101] : List UInt8)) = true := beq_iff_eq.mpr c10
                    have c10b1 : (a0.toList != ([100, 111, 117, 98, 108, 101] : List UInt8)) = false := bne_eq_false_iff_eq.mpr c10
                    clear c10
                    obtain rfl := Option.some.inj H
                    go_enter Tryd.func11, Tryd.ntmps11
                    go_wp2
                    go_ret
                    exact ⟨by first | rfl | (simp; done) | (simp [*]; done), by repeat (first | exact Drawn0.refl _ | apply Drawn0.step)⟩
                  · rw [if_neg c10] at H
                    have c10b0 : (a0.toList == ([100, 111, 117, 98, 108, 101] : List UInt8)) = false := beq_eq_false_iff_ne.mpr c10
                    have c10b1 : (a0.toList != ([100, 111, 117, 98, 108, 101] : List UInt8)) = true := bne_iff_ne.mpr c10
                    by_cases c11 : a0.toList = ([101, 108, 115, 101] : List UInt8)
                    · rw [if_pos c11] at H
                      have c11b0 : (a0.toList == ([101, 108, 115, 101] : List UInt8)) = true := beq_iff_eq.mpr c11
                      have c11b1 : (a0.toList != ([101, 108, 115, 101] : List UInt8)) = false := bne_eq_false_iff_eq.mpr c11
                      clear c11
                      obtain rfl := Option.some.inj H
                      go_enter Tryd.func11, Tryd.ntmps11
                      go_wp2
                      go_ret
                      exact ⟨by first | rfl | (simp; done) | (simp [*]; done), by repeat (first | exact Drawn0.refl _ | apply Drawn0.step)⟩
                    · rw [if_neg c11] at H
                      have c11b0 : (a0.toList == ([101, 108, 115, 101] : List UInt8)) = false := beq_eq_false_iff_ne.mpr c11
                      have c11b1 : (a0.toList != ([101, 108, 115, 101] : List UInt8)) = true := bne_iff_ne.mpr c11
                      by_cases c12 : a0.toList = ([101, 110, 117, 109] : List UInt8)
                      · rw [if_pos c12] at H
                        have c12b0 : (a0.toList == ([101, 110, 117, 109] : List UInt8)) = true := beq_iff_eq.mpr c12
                        have c12b1 : (a0.toList != ([101, 110, 117, 109] : List UInt8)) = false := bne_eq_false_iff_eq.mpr c12
                        clear c12
                        obtain rfl := Option.some.inj H
                        go_enter Tryd.func11, Tryd.ntmps11
                        go_wp2
                        go_ret
                        exact ⟨by first | rfl | (simp; done) | (simp [*]; done), by repeat (first | exact Drawn0.refl _ | apply Drawn0.step)⟩
                      · rw [if_neg c12] at H
                        have c12b0 : (a0.toList == ([101, 110, 117, 109] : List UInt8)) = false := beq_eq_false_iff_ne.mpr c12
                        have c12b1 : (a0.toList != ([101, 110, 117, 109] : List UInt8)) = true := bne_iff_ne.mpr c12
                        by_cases c13 : a0.toList = ([101, 120, 116, 101, 114, 110] : List UInt8)
                        · rw [if_pos c13] at H
                          have c13b0 : (a0.toList == ([101, 120, 116, 101, 114, 110] : List UInt8)) = true := beq_iff_eq.mpr c13
                          have c13b1 : (a0.toList != ([101, 120, 116, 101, 114, 110] : List UInt8)) = false := bne_eq_false_iff_eq.mpr c13
                          clear c13
                          obtain rfl := Option.some.inj H
                          go_enter Tryd.func11, Tryd.ntmps11
                          go_wp2
                          go_ret
                          exact ⟨by first | rfl | (simp; done) | (simp [*]; done), by repeat (first | exact Drawn0.refl _ | apply Drawn0.step)⟩
                        · rw [if_neg c13] at H
                          have c13b0 : (a0.toList == ([101, 120, 116, 101, 114, 110] : List UInt8)) = false := beq_eq_false_iff_ne.mpr c13
                          have c13b1 : (a0.toList != ([101, 120, 116, 101, 114, 110] : List UInt8)) = true := bne_iff_ne.mpr c13
                          by_cases c14 : a0.toList = ([102, 108, 111, 97, 116] : List UInt8)
                          · rw [if_pos c14] at H
                            have c14b0 : (a0.toList == ([102, 108, 111, 97, 116] : List UInt8)) = true := beq_iff_eq.mpr c14
                            have c14b1 : (a0.toList != ([102, 108, 111, 97, 116] : List UInt8)) = false := bne_eq_false_iff_eq.mpr c14
                            clear c14
                            obtain rfl := Option.some.inj H
                            go_enter Tryd.func11, Tryd.ntmps11
                            go_wp2
                            go_ret
                            exact ⟨by first | rfl | (simp; done) | (simp [*]; done), by repeat (first | exact Drawn0.refl _ | apply Drawn0.step)⟩
                          · rw [if_neg c14] at H
                            have c14b0 : (a0.toList == ([102, 108, 111, 97, 116] : List UInt8)) = false := beq_eq_false_iff_ne.mpr c14
                            have c14b1 : (a0.toList != ([102, 108, 111, 97, 116] : List UInt8)) = true := bne_iff_ne.mpr c14
                            by_cases c15 : a0.toList = ([102, 111, 114] : List UInt8)
                            · rw [if_pos c15] at H
                              have c15b0 : (a0.toList == ([102, 111, 114] : List UInt8)) = true := beq_iff_eq.mpr c15
                              have c15b1 : (a0.toList != ([102, 111, 114] : List UInt8)) = false := bne_eq_false_iff_eq.mpr c15
                              clear c15
                              obtain rfl := Option.some.inj H
                              go_enter Tryd.func11, Tryd.ntmps11
                              go_wp2
                              go_ret
                              exact ⟨by first | rfl | (simp; done) | (simp [*]; done), by repeat (first | exact Drawn0.refl _ | apply Drawn0.step)⟩
                            · rw [if_neg c15] at H
                              have c15b0 : (a0.toList == ([102, 111, 114] : List UInt8)) = false := beq_eq_false_iff_ne.mpr c15
                              have c15b1 : (a0.toList != ([102, 111, 114] : List UInt8)) = true := bne_iff_ne.mpr c15
                              by_cases c16 : a0.toList = ([103, 111, 116, 111] : List UInt8)
                              · rw [if_pos c16] at H
                                have c16b0 : (a0.toList == ([103, 111, 116, 111] : List UInt8)) = true := beq_iff_eq.mpr c16
                                have c16b1 : (a0.toList != ([103, 111, 116, 111] : List UInt8)) = false := bne_eq_false_iff_eq.mpr c16
                                clear c16
                                obtain rfl := Option.some.inj H
                                go_enter Tryd.func11, Tryd.ntmps11
                                go_wp2
                                go_ret
                                exact ⟨by first | rfl | (simp; done) | (simp [*]; done), by repeat (first | exact Drawn0.refl _ | apply Drawn0.step)⟩
                              · rw [if_neg c16] at H
                                have c16b0 : (a0.toList == ([103, 111, 116, 111] : List UInt8)) = false := beq_eq_false_iff_ne.mpr c16
                                have c16b1 : (a0.toList != ([103, 111, 116, 111] : List UInt8)) = true := bne_iff_ne.mpr c16
                                by_cases c17 : a0.toList = ([105, 102] : List UInt8)
                                · rw [if_pos c17] at H
                                  have c17b0 : (a0.toList == ([105, 102] : List UInt8)) = true := beq_iff_eq.mpr c17
                                  have c17b1 : (a0.toList != ([105, 102] : List UInt8)) = false := bne_eq_false_iff_eq.mpr c17
                                  clear c17
                                  obtain rfl := Option.some.inj H
                                  go_enter Tryd.func11, Tryd.ntmps11
                                  go_wp2
                                  go_ret
                                  exact ⟨by first | rfl | (simp; done) | (simp [*]; done), by repeat (first | exact Drawn0.refl _ | apply Drawn0.step)⟩
                                · rw [if_neg c17] at H
                                  have c17b0 : (a0.toList == ([105, 102] : List UInt8)) = false := beq_eq_false_iff_ne.mpr c17
                                  have c17b1 : (a0.toList != ([105, 102] : List UInt8)) = true := bne_iff_ne.mpr c17
                                  by_cases c18 : a0.toList = ([105, 110, 108, 105, 110, 101] : List UInt8)
                                  · rw [if_pos c18] at H
                                    have c18b0 : (a0.toList == ([105, 110, 108, 105, 110, 101] : List UInt8)) = true := beq_iff_eq.mpr c18
                                    have c18b1 : (a0.toList != ([105, 110, 108, 105, 110, 101] : List UInt8)) = false := bne_eq_false_iff_eq.mpr c18
                                    clear c18
                                    obtain rfl := Option.some.inj H
                                    go_enter Tryd.func11, Tryd.ntmps11
                                    go_wp2
                                    go_ret
                                    exact ⟨by first | rfl | (simp; done) | (simp [*]; done), by repeat (first | exact Drawn0.refl _ | apply Drawn0.step)⟩
                                  · rw [if_neg c18] at H
                                    have c18b0 : (a0.toList == ([105, 110, 108, 105, 110, 101] : List UInt8)) = false := beq_eq_false_iff_ne.mpr c18
                                    have c18b1 : (a0.toList != ([105, 110, 108, 105, 110, 101] : List UInt8)) = true := bne_iff_ne.mpr c18
                                    by_cases c19 : a0.toList = ([105, 110, 116] : List UInt8)
                                    · rw [if_pos c19] at H
                                      have c19b0 : (a0.toList == ([105, 110, 116] : List UInt8)) = true := beq_iff_eq.mpr c19
                                      have c19b1 : (a0.toList != ([105, 110, 116] : List UInt8)) = false := bne_eq_false_iff_eq.mpr c19
                                      clear c19
                                      obtain rfl := Option.some.inj H
                                      go_enter Tryd.func11, Tryd.ntmps11
                                      go_wp2
                                      go_ret
                                      exact ⟨by first | rfl | (simp; done) | (simp [*]; done), by repeat (first | exact Drawn0.refl _ | apply Drawn0.step)⟩
                                    · rw [if_neg c19] at H
                                      have c19b0 : (a0.toList == ([105, 110, 116] : List UInt8)) = false := beq_eq_false_iff_ne.mpr c19
                                      have c19b1 : (a0.toList != ([105, 110, 116] : List UInt8)) = true := bne_iff_ne.mpr c19
                                      by_cases c20 : a0.toList = ([108, 111, 110, 103] : List UInt8)
                                      · rw [if_pos c20] at H
                                        have c20b0 : (a0.toList == ([108, 111, 110, 103] : List UInt8)) = true := beq_iff_eq.mpr c20
                                        have c20b1 : (a0.toList != ([108, 111, 110, 103] : List UInt8)) = false := bne_eq_false_iff_eq.mpr c20
                                        clear c20
                                        obtain rfl := Option.some.inj H
                                        go_enter Tryd.func11, Tryd.ntmps11
                                        go_wp2
                                        go_ret
                                        exact ⟨by first | rfl | (simp; done) | (simp [*]; done), by repeat (first | exact Drawn0.refl _ | apply Drawn0.step)⟩
                                      · rw [if_neg c20] at H
                                        have c20b0 : (a0.toList == ([108, 111, 110, 103] : List UInt8)) = false := beq_eq_false_iff_ne.mpr c20
                                        have c20b1 : (a0.toList != ([108, 111, 110, 103] : List UInt8)) = true := bne_iff_ne.mpr c20
                                        by_cases c21 : a0.toList = ([114, 101, 103, 105, 115, 116, 101, 114] : List UInt8)
                                        · rw [if_pos c21] at H
                                          have c21b0 : (a0.toList == ([114, 101, 103, 105, 115, 116, 101, 114] : List UInt8)) = true := beq_iff_eq.mpr c21
                                          have c21b1 : (a0.toList != ([114, 101, 103, 105, 115, 116, 101, 114] : List UInt8)) = false := bne_eq_false_iff_eq.mpr c21
                                          clear c21
                                          obtain rfl := Option.some.inj H
                                          go_enter Tryd.func11, Tryd.ntmps11
                                          go_wp2
                                          go_ret
                                          exact ⟨by first | rfl | (simp; done) | (simp [*]; done), by repeat (first | exact Drawn0.refl _ | apply Drawn0.step)⟩
                                        · rw [if_neg c21] at H
                                          have c21b0 : (a0.toList == ([114, 101, 103, 105, 115, 116, 101, 114] : List UInt8)) = false := beq_eq_false_iff_ne.mpr c21
                                          have c21b1 : (a0.toList != ([114, 101, 103, 105, 115, 116, 101, 114] : List UInt8)) = true := bne_iff_ne.mpr c21
                                          by_cases c22 : a0.toList = ([114, 101, 115, 116, 114, 105, 99, 116] : List UInt8)
                                          · rw [if_pos c22] at H
                                            have c22b0 : (a0.toList == ([114, 101, 115, 116, 114, 105, 99, 116] : List UInt8)) = true := beq_iff_eq.mpr c22
                                            have c22b1 : (a0.toList != ([114, 101, 115, 116, 114, 105, 99, 116] : List UInt8)) = false := bne_eq_false_iff_eq.mpr c22
                                            clear c22
                                            obtain rfl := Option.some.inj H
                                            go_enter Tryd.func11, Tryd.ntmps11
                                            go_wp2
                                            go_ret
                                            exact ⟨by first | rfl | (simp; done) | (simp [*]; done), by repeat (first | exact Drawn0.refl _ | apply Drawn0.step)⟩
                                          · rw [if_neg c22] at H
                                            have c22b0 : (a0.toList == ([114, 101, 115, 116, 114, 105, 99, 116] : List UInt8)) = false := beq_eq_false_iff_ne.mpr c22
                                            have c22b1 : (a0.toList != ([114, 101, 115, 116, 114, 105, 99, 116] : List UInt8)) = true := bne_iff_ne.mpr c22
                                            by_cases c23 : a0.toList = ([114, 101, 116, 117, 114, 110] : List UInt8)
                                            · rw [if_pos c23] at H
                                              have c23b0 : (a0.toList == ([114, 101, 116, 117, 114, 110] : List UInt8)) = true := beq_iff_eq.mpr c23
                                              have c23b1 : (a0.toList != ([114, 101, 116, 117, 114, 110] : List UInt8)) = false := bne_eq_false_iff_eq.mpr c23
                                              clear c23
                                              obtain rfl := Option.some.inj H
                                              go_enter Tryd.func11, Tryd.ntmps11
                                              go_wp2
                                              go_ret
                                              exact ⟨by first | rfl | (simp; done) | (simp [*]; done), by repeat (first | exact Drawn0.refl _ | apply Drawn0.step)⟩
                                            · rw [if_neg c23] at H
                                              have c23b0 : (a0.toList == ([114, 101, 116, 117, 114, 110] : List UInt8)) = false := beq_eq_false_iff_ne.mpr c23
                                              have c23b1 : (a0.toList != ([114, 101, 116, 117, 114, 110] : List UInt8)) = true := bne_iff_ne.mpr c23
                                              by_cases c24 : a0.toList = ([115, 104, 111, 114, 116] : List UInt8)
                                              · rw [if_pos c24] at H
                                                have c24b0 : (a0.toList == ([115, 104, 111, 114, 116] : List UInt8)) = true := beq_iff_eq.mpr c24
                                                have c24b1 : (a0.toList != ([115, 104, 111, 114, 116] : List UInt8)) = false := bne_eq_false_iff_eq.mpr c24
                                                clear c24
                                                obtain rfl := Option.some.inj H
                                                go_enter Tryd.func11, Tryd.ntmps11
                                                go_wp2
                                                go_ret
                                                exact ⟨by first | rfl | (simp; done) | (simp [*]; done), by repeat (first | exact Drawn0.refl _ | apply Drawn0.step)⟩
                                              · rw [if_neg c24] at H
                                                have c24b0 : (a0.toList == ([115, 104, 111, 114, 116] : List UInt8)) = false := beq_eq_false_iff_ne.mpr c24
                                                have c24b1 : (a0.toList != ([115, 104, 111, 114, 116] : List UInt8)) = true := bne_iff_ne.mpr c24
                                                by_cases c25 : a0.toList = ([115, 105, 103, 110, 101, 100] : List UInt8)
                                                · rw [if_pos c25] at H
                                                  have c25b0 : (a0.toList == ([115, 105, 103, 110, 101, 100] : List UInt8)) = true := beq_iff_eq.mpr c25
                                                  have c25b1 : (a0.toList != ([115, 105, 103, 110, 101, 100] : List UInt8)) = false := bne_eq_false_iff_eq.mpr c25
                                                  clear c25
                                                  obtain rfl := Option.some.inj H
                                                  go_enter Tryd.func11, Tryd.ntmps11
                                                  go_wp2
                                                  go_ret
                                                  exact ⟨by first | rfl | (simp; done) | (simp [*]; done), by repeat (first | exact Drawn0.refl _ | apply Drawn0.step)⟩
                                                · rw [if_neg c25] at H
                                                  have c25b0 : (a0.toList == ([115, 105, 103, 110, 101, 100] : List UInt8)) = false := beq_eq_false_iff_ne.mpr c25
                                                  have c25b1 : (a0.toList != ([115, 105, 103, 110, 101, 100] : List UInt8)) = true := bne_iff_ne.mpr c25
                                                  by_cases c26 : a0.toList = ([115, 105, 122, 101, 111, 102] : List UInt8)
                                                  · rw [if_pos c26] at H
                                                    have c26b0 : (a0.toList == ([115, 105, 122, 101, 111, 102] : List UInt8)) = true := beq_iff_eq.mpr c26
                                                    have c26b1 : (a0.toList != ([115, 105, 122, 101, 111, 102] : List UInt8)) = false := bne_eq_false_iff_eq.mpr c26
                                                    clear c26
                                                    obtain rfl := Option.some.inj H
                                                    go_enter Tryd.func11, Tryd.ntmps11
                                                    go_wp2
                                                    go_ret
                                                    exact ⟨by first | rfl | (simp; done) | (simp [*]; done), by repeat (first | exact Drawn0.refl _ | apply Drawn0.step)⟩
                                                  · rw [if_neg c26] at H
                                                    have c26b0 : (a0.toList == ([115, 105, 122, 101, 111, 102] : List UInt8)) = false := beq_eq_false_iff_ne.mpr c26
                                                    have c26b1 : (a0.toList != ([115, 105, 122, 101, 111, 102] : List UInt8)) = true := bne_iff_ne.mpr c26
                                                    by_cases c27 : a0.toList = ([115, 116, 97, 116, 105, 99] : List UInt8)
                                                    · rw [if_pos c27] at H
                                                      have c27b0 : (a0.toList == ([115, 116, 97, 116, 105, 99] : List UInt8)) = true := beq_iff_eq.mpr c27
                                                      have c27b1 : (a0.toList != ([115, 116, 97, 116, 105, 99] : List UInt8)) = false := bne_eq_false_iff_eq.mpr c27
                                                      clear c27
                                                      obtain rfl := Option.some.inj H
                                                      go_enter Tryd.func11, Tryd.ntmps11
                                                      go_wp2
                                                      go_ret
                                                      exact ⟨by first | rfl | (simp; done) | (simp [*]; done), by repeat (first | exact Drawn0.refl _ | apply Drawn0.step)⟩
                                                    · rw [if_neg c27] at H
                                                      have c27b0 : (a0.toList == ([115, 116, 97, 116, 105, 99] : List UInt8)) = false := beq_eq_false_iff_ne.mpr c27
                                                      have c27b1 : (a0.toList != ([115, 116, 97, 116, 105, 99] : List UInt8)) = true := bne_iff_ne.mpr c27
                                                      by_cases c28 : a0.toList = ([115, 116, 114, 117, 99, 116] : List UInt8)
                                                      · rw [if_pos c28] at H
                                                        have c28b0 : (a0.toList == ([115, 116, 114, 117, 99, 116] : List UInt8)) = true := beq_iff_eq.mpr c28
                                                        have c28b1 : (a0.toList != ([115, 116, 114, 117, 99, 116] : List UInt8)) = false := bne_eq_false_iff_eq.mpr c28
                                                        clear c28
                                                        obtain rfl := Option.some.inj H
                                                        go_enter Tryd.func11, Tryd.ntmps11
                                                        go_wp2
                                                        go_ret
                                                        exact ⟨by first | rfl | (simp; done) | (simp [*]; done), by repeat (first | exact Drawn0.refl _ | apply Drawn0.step)⟩
                                                      · rw [if_neg c28] at H
                                                        have c28b0 : (a0.toList == ([115, 116, 114, 117, 99, 116] : List UInt8)) = false := beq_eq_false_iff_ne.mpr c28
                                                        have c28b1 : (a0.toList != ([115, 116, 114, 117, 99, 116] : List UInt8)) = true := bne_iff_ne.mpr c28
                                                        by_cases c29 : a0.toList = ([115, 119, 105, 116, 99, 104] : List UInt8)
                                                        · rw [if_pos c29] at H
                                                          have c29b0 : (a0.toList == ([115, 119, 105, 116, 99, 104] : List UInt8)) = true := beq_iff_eq.mpr c29
                                                          have c29b1 : (a0.toList != ([115, 119, 105, 116, 99, 104] : List UInt8)) = false := bne_eq_false_iff_eq.mpr c29
                                                          clear c29
                                                          obtain rfl := Option.some.inj H
                                                          go_enter Tryd.func11, Tryd.ntmps11
                                                          go_wp2
                                                          go_ret
                                                          exact ⟨by first | rfl | (simp; done) | (simp [*]; done), by repeat (first | exact Drawn0.refl _ | apply Drawn0.step)⟩
                                                        · rw [if_neg c29] at H
                                                          have c29b0 : (a0.toList == ([115, 119, 105, 116, 99, 104] : List UInt8)) = false := beq_eq_false_iff_ne.mpr c29
                                                          have c29b1 : (a0.toList != ([115, 119, 105, 116, 99, 104] : List UInt8)) = true := bne_iff_ne.mpr c29
                                                          by_cases c30 : a0.toList = ([116, 121, 112, 101, 100, 101, 102] : List UInt8)
                                                          · rw [if_pos c30] at H
                                                            have c30b0 : (a0.toList == ([116, 121, 112, 101, 100, 101, 102] : List UInt8)) = true := beq_iff_eq.mpr c30
                                                            have c30b1 : (a0.toList != ([116, 121, 112, 101, 100, 101, 102] : List UInt8)) = false := bne_eq_false_iff_eq.mpr c30
                                                            clear c30
                                                            obtain rfl := Option.some.inj H
                                                            go_enter Tryd.func11, Tryd.ntmps11
                                                            go_wp2
                                                            go_ret
                                                            exact ⟨by first | rfl | (simp; done) | (simp [*]; done), by repeat (first | exact Drawn0.refl _ | apply Drawn0.step)⟩
                                                          · rw [if_neg c30] at H
                                                            have c30b0 : (a0.toList == ([116, 121, 112, 101, 100, 101, 102] : List UInt8)) = false := beq_eq_false_iff_ne.mpr c30
                                                            have c30b1 : (a0.toList != ([116, 121, 112, 101, 100, 101, 102] : List UInt8)) = true := bne_iff_ne.mpr c30
                                                            by_cases c31 : a0.toList = ([117, 110, 105, 111, 110] : List UInt8)
                                                            · rw [if_pos c31] at H
                                                              have c31b0 : (a0.toList == ([117, 110, 105, 111, 110] : List UInt8)) = true := beq_iff_eq.mpr c31
                                                              have c31b1 : (a0.toList != ([117, 110, 105, 111, 110] : List UInt8)) = false := bne_eq_false_iff_eq.mpr c31
                                                              clear c31
                                                              obtain rfl := Option.some.inj H
                                                              go_enter Tryd.func11, Tryd.ntmps11
                                                              go_wp2
                                                              go_ret
                                                              exact ⟨by first | rfl | (simp; done) | (simp [*]; done), by repeat (first | exact Drawn0.refl _ | apply Drawn0.step)⟩
                                                            · rw [if_neg c31] at H
                                                              have c31b0 : (a0.toList == ([117, 110, 105, 111, 110] : List UInt8)) = false := beq_eq_false_iff_ne.mpr c31
                                                              have c31b1 : (a0.toList != ([117, 110, 105, 111, 110] : List UInt8)) = true := bne_iff_ne.mpr c31
                                                              by_cases c32 : a0.toList = ([117, 110, 115, 105, 103, 110, 101, 100] : List UInt8)
                                                              · rw [if_pos c32] at H
                                                                have c32b0 : (a0.toList == ([117, 110, 115, 105, 103, 110, 101, 100] : List UInt8)) = true := beq_iff_eq.mpr c32
                                                                have c32b1 : (a0.toList != ([117, 110, 115, 105, 103, 110, 101, 100] : List UInt8)) = false := bne_eq_false_iff_eq.mpr c32
                                                                clear c32
                                                                obtain rfl := Option.some.inj H
                                                                go_enter Tryd.func11, Tryd.ntmps11
                                                                go_wp2
                                                                go_ret
                                                                exact ⟨by first | rfl | (simp; done) | (simp [*]; done), by repeat (first | exact Drawn0.refl _ | apply Drawn0.step)⟩
                                                              · rw [if_neg c32] at H
                                                                have c32b0 : (a0.toList == ([117, 110, 115, 105, 103, 110, 101, 100] : List UInt8)) = false := beq_eq_false_iff_ne.mpr c32
                                                                have c32b1 : (a0.toList != ([117, 110, 115, 105, 103, 110, 101, 100] : List UInt8)) = true := bne_iff_ne.mpr c32
                                                                by_cases c33 : a0.toList = ([118, 111, 105, 100] : List UInt8)
                                                                · rw [if_pos c33] at H
                                                                  have c33b0 : (a0.toList == ([118, 111, 105, 100] : List UInt8)) = true := beq_iff_eq.mpr c33
                                                                  have c33b1 : (a0.toList != ([118, 111, 105, 100] : List UInt8)) = false := bne_eq_false_iff_eq.mpr c33
                                                                  clear c33
                                                                  obtain rfl := Option.some.inj H
                                                                  go_enter Tryd.func11, Tryd.ntmps11
                                                                  go_wp2
                                                                  go_ret
                                                                  exact ⟨by first | rfl | (simp; done) | (simp [*]; done), by repeat (first | exact Drawn0.refl _ | apply Drawn0.step)⟩
                                                                · rw [if_neg c33] at H
                                                                  have c33b0 : (a0.toList == ([118, 111, 105, 100] : List UInt8)) = false := beq_eq_false_iff_ne.mpr c33
                                                                  have c33b1 : (a0.toList != ([118, 111, 105, 100] : List UInt8)) = true := bne_iff_ne.mpr c33
                                                                  by_cases c34 : a0.toList = ([118, 111, 108, 97, 116, 105, 108, 101] : List UInt8)
                                                                  · rw [if_pos c34] at H
                                                                    have c34b0 : (a0.toList == ([118, 111, 108, 97, 116, 105, 108, 101] : List UInt8)) = true := beq_iff_eq.mpr c34
                                                                    have c34b1 : (a0.toList != ([118, 111, 108, 97, 116, 105, 108, 101] : List UInt8)) = false := bne_eq_false_iff_eq.mpr c34
                                                                    clear c34
                                                                    obtain rfl := Option.some.inj H
                                                                    go_enter Tryd.func11, Tryd.ntmps11
                                                                    go_wp2
                                                                    go_ret
                                                                    exact ⟨by first | rfl | (simp; done) | (simp [*]; done), by repeat (first | exact Drawn0.refl _ | apply Drawn0.step)⟩
                                                                  · rw [if_neg c34] at H
                                                                    have c34b0 : (a0.toList == ([118, 111, 108, 97, 116, 105, 108, 101] : List UInt8)) = false := beq_eq_false_iff_ne.mpr c34
                                                                    have c34b1 : (a0.toList != ([118, 111, 108, 97, 116, 105, 108, 101] : List UInt8)) = true := bne_iff_ne.mpr c34
                                                                    by_cases c35 : a0.toList = ([119, 104, 105, 108, 101] : List UInt8)
                                                                    · rw [if_pos c35] at H
                                                                      have c35b0 : (a0.toList == ([119, 104, 105, 108, 101] : List UInt8)) = true := beq_iff_eq.mpr c35
                                                                      have c35b1 : (a0.toList != ([119, 104, 105, 108, 101] : List UInt8)) = false := bne_eq_false_iff_eq.mpr c35
                                                                      clear c35
                                                                      obtain rfl := Option.some.inj H
                                                                      go_enter Tryd.func11, Tryd.ntmps11
                                                                      go_wp2
                                                                      go_ret
                                                                      exact ⟨by first | rfl | (simp; done) | (simp [*]; done), by repeat (first | exact Drawn0.refl _ | apply Drawn0.step)⟩
                                                                    · rw [if_neg c35] at H
                                                                      have c35b0 : (a0.toList == ([119, 104, 105, 108, 101] : List UInt8)) = false := beq_eq_false_iff_ne.mpr c35
                                                                      have c35b1 : (a0.toList != ([119, 104, 105, 108, 101] : List UInt8)) = true := bne_iff_ne.mpr c35
                                                                      by_cases c36 : a0.toList = ([95, 65, 108, 105, 103, 110, 97, 115] : List UInt8)
                                                                      · rw [if_pos c36] at H
                                                                        have c36b0 : (a0.toList == ([95, 65, 108, 105, 103, 110, 97, 115] : List UInt8)) = true := beq_iff_eq.mpr c36
                                                                        have c36b1 : (a0.toList != ([95, 65, 108, 105, 103, 110, 97, 115] : List UInt8)) = false := bne_eq_false_iff_eq.mpr c36
                                                                        clear c36
                                                                        obtain rfl := Option.some.inj H
                                                                        go_enter Tryd.func11, Tryd.ntmps11
                                                                        go_wp2
                                                                        go_ret
                                                                        exact ⟨by first | rfl | (simp; done) | (simp [*]; done), by repeat (first | exact Drawn0.refl _ | apply Drawn0.step)⟩
                                                                      · rw [if_neg c36] at H
                                                                        have c36b0 : (a0.toList == ([95, 65, 108, 105, 103, 110, 97, 115] : List UInt8)) = false := beq_eq_false_iff_ne.mpr c36
                                                                        have c36b1 : (a0.toList != ([95, 65, 108, 105, 103, 110, 97, 115] : List UInt8)) = true := bne_iff_ne.mpr c36
                                                                        by_cases c37 : a0.toList = ([95, 65, 108, 105, 103, 110, 111, 102] : List UInt8)
                                                                        · rw [if_pos c37] at H
                                                                          have c37b0 : (a0.toList == ([95, 65, 108, 105, 103, 110, 111, 102] : List UInt8)) = true := beq_iff_eq.mpr c37
                                                                          have c37b1 : (a0.toList != ([95, 65, 108, 105, 103, 110, 111, 102] : List UInt8)) = false := bne_eq_false_iff_eq.mpr c37
                                                                          clear c37
                                                                          obtain rfl := Option.some.inj H
                                                                          go_enter Tryd.func11, Tryd.ntmps11
                                                                          go_wp2
                                                                          go_ret
                                                                          exact ⟨by first | rfl | (simp; done) | (simp [*]; done), by repeat (first | exact Drawn0.refl _ | apply Drawn0.step)⟩
                                                                        · rw [if_neg c37] at H
                                                                          have c37b0 : (a0.toList == ([95, 65, 108, 105, 103, 110, 111, 102] : List UInt8)) = false := beq_eq_false_iff_ne.mpr c37
                                                                          have c37b1 : (a0.toList != ([95, 65, 108, 105, 103, 110, 111, 102] : List UInt8)) = true := bne_iff_ne.mpr c37
                                                                          by_cases c38 : a0.toList = ([95, 65, 116, 111, 109, 105, 99] : List UInt8)
                                                                          · rw [if_pos c38] at H
                                                                            have c38b0 : (a0.toList == ([95, 65, 116, 111, 109, 105, 99] : List UInt8)) = true := beq_iff_eq.mpr c38
                                                                            have c38b1 : (a0.toList != ([95, 65, 116, 111, 109, 105, 99] : List UInt8)) = false := bne_eq_false_iff_eq.mpr c38
                                                                            clear c38
                                                                            obtain rfl := Option.some.inj H
                                                                            go_enter Tryd.func11, Tryd.ntmps11
                                                                            go_wp2
                                                                            go_ret
                                                                            exact ⟨by first | rfl | (simp; done) | (simp [*]; done), by repeat (first | exact Drawn0.refl _ | apply Drawn0.step)⟩
                                                                          · rw [if_neg c38] at H
                                                                            have c38b0 : (a0.toList == ([95, 65, 116, 111, 109, 105, 99] : List UInt8)) = false := beq_eq_false_iff_ne.mpr c38
                                                                            have c38b1 : (a0.toList != ([95, 65, 116, 111, 109, 105, 99] : List UInt8)) = true := bne_iff_ne.mpr c38
                                                                            by_cases c39 : a0.toList = ([95, 66, 111, 111, 108] : List UInt8)
                                                                            · rw [if_pos c39] at H
                                                                              have c39b0 : (a0.toList == ([95, 66, 111, 111, 108] : List UInt8)) = true := beq_iff_eq.mpr c39
                                                                              have c39b1 : (a0.toList != ([95, 66, 111, 111, 108] : List UInt8)) = false := bne_eq_false_iff_eq.mpr c39
                                                                              clear c39
                                                                              obtain rfl := Option.some.inj H
                                                                              go_enter Tryd.func11, Tryd.ntmps11
                                                                              go_wp2
                                                                              go_ret
                                                                              exact ⟨by first | rfl | (simp; done) | (simp [*]; done), by repeat (first | exact Drawn0.refl _ | apply Drawn0.step)⟩
                                                                            · rw [if_neg c39] at H
                                                                              have c39b0 : (a0.toList == ([95, 66, 111, 111, 108] : List UInt8)) = false := beq_eq_false_iff_ne.mpr c39
                                                                              have c39b1 : (a0.toList != ([95, 66, 111, 111, 108] : List UInt8)) = true := bne_iff_ne.mpr c39
                                                                              by_cases c40 : a0.toList = ([95, 67, 111, 109, 112, 108, 101, 120] : List UInt8)
                                                                              · rw [if_pos c40] at H
                                                                                have c40b0 : (a0.toList == ([95, 67, 111, 109, 112, 108, 101, 120] : List UInt8)) = true := beq_iff_eq.mpr c40
                                                                                have c40b1 : (a0.toList != ([95, 67, 111, 109, 112, 108, 101, 120] : List UInt8)) = false := bne_eq_false_iff_eq.mpr c40
                                                                                clear c40
                                                                                obtain rfl := Option.some.inj H
                                                                                go_enter Tryd.func11, Tryd.ntmps11
                                                                                go_wp2
                                                                                go_ret
                                                                                exact ⟨by first | rfl | (simp; done) | (simp [*]; done), by repeat (first | exact Drawn0.refl _ | apply Drawn0.step)⟩
                                                                              · rw [if_neg c40] at H
                                                                                have c40b0 : (a0.toList == ([95, 67, 111, 109, 112, 108, 101, 120] : List UInt8)) = false := beq_eq_false_iff_ne.mpr c40
                                                                                have c40b1 : (a0.toList != ([95, 67, 111, 109, 112, 108, 101, 120] : List UInt8)) = true := bne_iff_ne.mpr c40
                                                                                by_cases c41 : a0.toList = ([95, 71, 101, 110, 101, 114, 105, 99] : List UInt8)
                                                                                · rw [if_pos c41] at H
                                                                                  have c41b0 : (a0.toList == ([95, 71, 101, 110, 101, 114, 105, 99] : List UInt8)) = true := beq_iff_eq.mpr c41
                                                                                  have c41b1 : (a0.toList != ([95, 71, 101, 110, 101, 114, 105, 99] : List UInt8)) = false := bne_eq_false_iff_eq.mpr c41
                                                                                  clear c41
                                                                                  obtain rfl := Option.some.inj H
                                                                                  go_enter Tryd.func11, Tryd.ntmps11
                                                                                  go_wp2
                                                                                  go_ret
                                                                                  exact ⟨by first | rfl | (simp; done) | (simp [*]; done), by repeat (first | exact Drawn0.refl _ | apply Drawn0.step)⟩
                                                                                · rw [if_neg c41] at H
                                                                                  have c41b0 : (a0.toList == ([95, 71, 101, 110, 101, 114, 105, 99] : List UInt8)) = false := beq_eq_false_iff_ne.mpr c41
                                                                                  have c41b1 : (a0.toList != ([95, 71, 101, 110, 101, 114, 105, 99] : List UInt8)) = true := bne_iff_ne.mpr c41
                                                                                  by_cases c42 : a0.toList = ([95, 73, 109, 97, 103, 105, 110, 97, 114, 121] : List UInt8)
                                                                                  · rw [if_pos c42] at H
                                                                                    have c42b0 : (a0.toList == ([95, 73, 109, 97, 103, 105, 110, 97, 114, 121] : List UInt8)) = true := beq_iff_eq.mpr c42
                                                                                    have c42b1 : (a0.toList != ([95, 73, 109, 97, 103, 105, 110, 97, 114, 121] : List UInt8)) = false := bne_eq_false_iff_eq.mpr c42
                                                                                    clear c42
                                                                                    obtain rfl := Option.some.inj H
                                                                                    go_enter Tryd.func11, Tryd.ntmps11
                                                                                    go_wp2
                                                                                    go_ret
                                                                                    exact ⟨by first | rfl | (simp; done) | (simp [*]; done), by repeat (first | exact Drawn0.refl _ | apply Drawn0.step)⟩
                                                                                  · rw [if_neg c42] at H
                                                                                    have c42b0 : (a0.toList == ([95, 73, 109, 97, 103, 105, 110, 97, 114, 121] : List UInt8)) = false := beq_eq_false_iff_ne.mpr c42
                                                                                    have c42b1 : (a0.toList != ([95, 73, 109, 97, 103, 105, 110, 97, 114, 121] : List UInt8)) = true := bne_iff_ne.mpr c42
                                                                                    by_cases c43 : a0.toList = ([95, 78, 111, 114, 101, 116, 117, 114, 110] : List UInt8)
                                                                                    · rw [if_pos c43] at H
                                                                                      have c43b0 : (a0.toList == ([95, 78, 111, 114, 101, 116, 117, 114, 110] : List UInt8)) = true := beq_iff_eq.mpr c43
                                                                                      have c43b1 : (a0.toList != ([95, 78, 111, 114, 101, 116, 117, 114, 110] : List UInt8)) = false := bne_eq_false_iff_eq.mpr c43
                                                                                      clear c43
                                                                                      obtain rfl := Option.some.inj H
                                                                                      go_enter Tryd.func11, Tryd.ntmps11
                                                                                      go_wp2
                                                                                      go_ret
                                                                                      exact ⟨by first | rfl | (simp; done) | (simp [*]; done), by repeat (first | exact Drawn0.refl _ | apply Drawn0.step)⟩
                                                                                    · rw [if_neg c43] at H
                                                                                      have c43b0 : (a0.toList == ([95, 78, 111, 114, 101, 116, 117, 114, 110] : List UInt8)) = false := beq_eq_false_iff_ne.mpr c43
                                                                                      have c43b1 : (a0.toList != ([95, 78, 111, 114, 101, 116, 117, 114, 110] : List UInt8)) = true := bne_iff_ne.mpr c43
                                                                                      by_cases c44 : a0.toList = ([95, 83, 116, 97, 116, 105, 99, 95, 97, 115, 115, 101, 114, 116] : List UInt8)
                                                                                      · rw [if_pos c44] at H
                                                                                        have c44b0 : (a0.toList == ([95, 83, 116, 97, 116, 105, 99, 95, 97, 115, 115, 101, 114, 116] : List UInt8)) = true := beq_iff_eq.mpr c44
                                                                                        have c44b1 : (a0.toList != ([95, 83, 116, 97, 116, 105, 99, 95, 97, 115, 115, 101, 114, 116] : List UInt8)) = false := bne_eq_false_iff_eq.mpr c44
                                                                                        clear c44
                                                                                        obtain rfl := Option.some.inj H
                                                                                        go_enter Tryd.func11, Tryd.ntmps11
                                                                                        go_wp2
                                                                                        go_ret
                                                                                        exact ⟨by first | rfl | (simp; done) | (simp [*]; done), by repeat (first | exact Drawn0.refl _ | apply Drawn0.step)⟩
                                                                                      · rw [if_neg c44] at H
                                                                                        have c44b0 : (a0.toList == ([95, 83, 116, 97, 116, 105, 99, 95, 97, 115, 115, 101, 114, 116] : List UInt8)) = false := beq_eq_false_iff_ne.mpr c44
                                                                                        have c44b1 : (a0.toList != ([95, 83, 116, 97, 116, 105, 99, 95, 97, 115, 115, 101, 114, 116] : List UInt8)) = true := bne_iff_ne.mpr c44
                                                                                        by_cases c45 : a0.toList = ([95, 84, 104, 114, 101, 97, 100, 95, 108, 111, 99, 97, 108] : List UInt8)
                                                                                        · rw [if_pos c45] at H
                                                                                          have c45b0 : (a0.toList == ([95, 84, 104, 114, 101, 97, 100, 95, 108, 111, 99, 97, 108] : List UInt8)) = true := beq_iff_eq.mpr c45
                                                                                          have c45b1 : (a0.toList != ([95, 84, 104, 114, 101, 97, 100, 95, 108, 111, 99, 97, 108] : List UInt8)) = false := bne_eq_false_iff_eq.mpr c45
                                                                                          clear c45
                                                                                          obtain rfl := Option.some.inj H
                                                                                          go_enter Tryd.func11, Tryd.ntmps11
                                                                                          go_wp2
                                                                                          go_ret
                                                                                          exact ⟨by first | rfl | (simp; done) | (simp [*]; done), by repeat (first | exact Drawn0.refl _ | apply Drawn0.step)⟩
                                                                                        · rw [if_neg c45] at H
                                                                                          have c45b0 : (a0.toList == ([95, 84, 104, 114, 101, 97, 100, 95, 108, 111, 99, 97, 108] : List UInt8)) = false := beq_eq_false_iff_ne.mpr c45
                                                                                          have c45b1 : (a0.toList != ([95, 84, 104, 114, 101, 97, 100, 95, 108, 111, 99, 97, 108] : List UInt8)) = true := bne_iff_ne.mpr c45
                                                                                          obtain rfl := Option.some.inj H
                                                                                          go_enter Tryd.func11, Tryd.ntmps11
                                                                                          go_wp2
                                                                                          go_ret
                                                                                          exact ⟨by first | rfl | (simp; done) | (simp [*]; done), by repeat (first | exact Drawn0.refl _ | apply Drawn0.step)⟩
def ctok_Canon.f (a0 : ByteArray) : Option (ByteArray) := if a0.toList = ([60, 58] : List UInt8) then (some (⟨#[91]⟩ : ByteArray)) else (if a0.toList = ([58, 62] : List UInt8) then (some (⟨#[93]⟩ : ByteArray)) else (if a0.toList = ([60, 37] : List UInt8) then (some (⟨#[123]⟩ : ByteArray)) else (if a0.toList = ([37, 62] : List UInt8) then (some (⟨#[125]⟩ : ByteArray)) else (if a0.toList = ([37, 58] : List UInt8) then (some (⟨#[35]⟩ : ByteArray)) else (if a0.toList = ([37, 58, 37, 58] : List UInt8) then (some (⟨#[35, 35]⟩ : ByteArray)) else (some a0))))))
set_option maxHeartbeats 8000000 in
set_option maxRecDepth 100000 in
theorem ctok_Canon.calls (a0 : ByteArray) (r : ByteArray) (w : World) (h : ctok_Canon.f a0 = some r) :
    Calls Tryd.prog 13 #[.string a0] w fun e w' => e = .returned (.string r) ∧ Drawn0 w w' := by
  have H : (if a0.toList = ([60, 58] : List UInt8) then (some (⟨#[91]⟩ : ByteArray)) else (if a0.toList = ([58, 62] : List UInt8) then (some (⟨#[93]⟩ : ByteArray)) else (if a0.toList = ([60, 37] : List UInt8) then (some (⟨#[123]⟩ : ByteArray)) else (if a0.toList = ([37, 62] : List UInt8) then (some (⟨#[125]⟩ : ByteArray)) else (if a0.toList = ([37, 58] : List UInt8) then (some (⟨#[35]⟩ : ByteArray)) else (if a0.toList = ([37, 58, 37, 58] : List UInt8) then (some (⟨#[35, 35]⟩ : ByteArray)) else (some a0))))))) = some r := h
  clear h
  by_cases c2 : a0.toList = ([60, 58] : List UInt8)
  · rw [if_pos c2] at H
    have c2b0 : (a0.toList == ([60, 58] : List UInt8)) = true := beq_iff_eq.mpr c2
    have c2b1 : (a0.toList != ([60, 58] : List UInt8)) = false := bne_eq_false_iff_eq.mpr c2
    clear c2
    obtain rfl := Option.some.inj H
    go_enter Tryd.func13, Tryd.ntmps13
    go_wp2
    go_ret
    exact ⟨by first | rfl | (simp; done) | (simp [*]; done), by repeat (first | exact Drawn0.refl _ | apply Drawn0.step)⟩
  · rw [if_neg c2] at H
    have c2b0 : (a0.toList == ([60, 58] : List UInt8)) = false := beq_eq_false_iff_ne.mpr c2
    have c2b1 : (a0.toList != ([60, 58] : List UInt8)) = true := bne_iff_ne.mpr c2
    by_cases c3 : a0.toList = ([58, 62] : List UInt8)
    · rw [if_pos c3] at H
      have c3b0 : (a0.toList == ([58, 62] : List UInt8)) = true := beq_iff_eq.mpr c3
      have c3b1 : (a0.toList != ([58, 62] : List UInt8)) = false := bne_eq_false_iff_eq.mpr c3
      clear c3
      obtain rfl := Option.some.inj H
      go_enter Tryd.func13, Tryd.ntmps13
      go_wp2
      go_ret
      exact ⟨by first | rfl | (simp; done) | (simp [*]; done), by repeat (first | exact Drawn0.refl _ | apply Drawn0.step)⟩
    · rw [if_neg c3] at H
      have c3b0 : (a0.toList == ([58, 62] : List UInt8)) = false := beq_eq_false_iff_ne.mpr c3
      have c3b1 : (a0.toList != ([58, 62] : List UInt8)) = true := bne_iff_ne.mpr c3
      by_cases c4 : a0.toList = ([60, 37] : List UInt8)
      · rw [if_pos c4] at H
        have c4b0 : (a0.toList == ([60, 37] : List UInt8)) = true := beq_iff_eq.mpr c4
        have c4b1 : (a0.toList != ([60, 37] : List UInt8)) = false := bne_eq_false_iff_eq.mpr c4
        clear c4
        obtain rfl := Option.some.inj H
        go_enter Tryd.func13, Tryd.ntmps13
        go_wp2
        go_ret
        exact ⟨by first | rfl | (simp; done) | (simp [*]; done), by repeat (first | exact Drawn0.refl _ | apply Drawn0.step)⟩
      · rw [if_neg c4] at H
        have c4b0 : (a0.toList == ([60, 37] : List UInt8)) = false := beq_eq_false_iff_ne.mpr c4
        have c4b1 : (a0.toList != ([60, 37] : List UInt8)) = true := bne_iff_ne.mpr c4
        by_cases c5 : a0.toList = ([37, 62] : List UInt8)
        · rw [if_pos c5] at H
          have c5b0 : (a0.toList == ([37, 62] : List UInt8)) = true := beq_iff_eq.mpr c5
          have c5b1 : (a0.toList != ([37, 62] : List UInt8)) = false := bne_eq_false_iff_eq.mpr c5
          clear c5
          obtain rfl := Option.some.inj H
          go_enter Tryd.func13, Tryd.ntmps13
          go_wp2
          go_ret
          exact ⟨by first | rfl | (simp; done) | (simp [*]; done), by repeat (first | exact Drawn0.refl _ | apply Drawn0.step)⟩
        · rw [if_neg c5] at H
          have c5b0 : (a0.toList == ([37, 62] : List UInt8)) = false := beq_eq_false_iff_ne.mpr c5
          have c5b1 : (a0.toList != ([37, 62] : List UInt8)) = true := bne_iff_ne.mpr c5
          by_cases c6 : a0.toList = ([37, 58] : List UInt8)
          · rw [if_pos c6] at H
            have c6b0 : (a0.toList == ([37, 58] : List UInt8)) = true := beq_iff_eq.mpr c6
            have c6b1 : (a0.toList != ([37, 58] : List UInt8)) = false := bne_eq_false_iff_eq.mpr c6
            clear c6
            obtain rfl := Option.some.inj H
            go_enter Tryd.func13, Tryd.ntmps13
            go_wp2
            go_ret
            exact ⟨by first | rfl | (simp; done) | (simp [*]; done), by repeat (first | exact Drawn0.refl _ | apply Drawn0.step)⟩
          · rw [if_neg c6] at H
            have c6b0 : (a0.toList == ([37, 58] : List UInt8)) = false := beq_eq_false_iff_ne.mpr c6
            have c6b1 : (a0.toList != ([37, 58] : List UInt8)) = true := bne_iff_ne.mpr c6
            by_cases c7 : a0.toList = ([37, 58, 37, 58] : List UInt8)
            · rw [if_pos c7] at H
              have c7b0 : (a0.toList == ([37, 58, 37, 58] : List UInt8)) = true := beq_iff_eq.mpr c7
              have c7b1 : (a0.toList != ([37, 58, 37, 58] : List UInt8)) = false := bne_eq_false_iff_eq.mpr c7
              clear c7
              obtain rfl := Option.some.inj H
              go_enter Tryd.func13, Tryd.ntmps13
              go_wp2
              go_ret
              exact ⟨by first | rfl | (simp; done) | (simp [*]; done), by repeat (first | exact Drawn0.refl _ | apply Drawn0.step)⟩
            · rw [if_neg c7] at H
              have c7b0 : (a0.toList == ([37, 58, 37, 58] : List UInt8)) = false := beq_eq_false_iff_ne.mpr c7
              have c7b1 : (a0.toList != ([37, 58, 37, 58] : List UInt8)) = true := bne_iff_ne.mpr c7
              obtain rfl := Option.some.inj H
              go_enter Tryd.func13, Tryd.ntmps13
              go_wp2
              go_ret
              exact ⟨by first | rfl | (simp; done) | (simp [*]; done), by repeat (first | exact Drawn0.refl _ | apply Drawn0.step)⟩
def stringslite_HasPrefix.f (a0 : ByteArray) (a1 : ByteArray) : Option (Bool) := if (a0.size : Int) ≥ (a1.size : Int) then (if 0 ≤ (a1.size : Int) then (if (a1.size : Int) ≤ (a0.size : Int) then (some ((a0.extract 0 ((a1.size : Int) : Int).toNat).toList == a1.toList)) else (none)) else (none)) else (some false)
set_option maxHeartbeats 8000000 in
set_option maxRecDepth 100000 in
theorem stringslite_HasPrefix.calls (a0 : ByteArray) (a1 : ByteArray) (r : Bool) (w : World) (h : stringslite_HasPrefix.f a0 a1 = some r) :
    Calls Tryd.prog 51 #[.string a0, .string a1] w fun e w' => e = .returned (.bool r) ∧ Drawn0 w w' := by
  have H : (if (a0.size : Int) ≥ (a1.size : Int) then (if 0 ≤ (a1.size : Int) then (if (a1.size : Int) ≤ (a0.size : Int) then (some ((a0.extract 0 ((a1.size : Int) : Int).toNat).toList == a1.toList)) else (none)) else (none)) else (some false)) = some r := h
  clear h
  by_cases c3 : (a0.size : Int) ≥ (a1.size : Int)
  · rw [if_pos c3] at H
    have c3b0 : decide ((a1.size : Int) ≤ (a0.size : Int)) = true := decide_eq_true c3
    have c3b1 : decide (a1.size ≤ a0.size) = true := decide_eq_true (Int.ofNat_le.mp c3)
    clear c3
    by_cases c4 : 0 ≤ (a1.size : Int)
    · rw [if_pos c4] at H
      have c4b0 := eq_true c4
      have c4b1 : decide (0 ≤ (a1.size : Int)) = true := decide_eq_true c4
      clear c4
      by_cases c5 : (a1.size : Int) ≤ (a0.size : Int)
      · rw [if_pos c5] at H
        have c5b0 := eq_true c5
        have c5b1 : decide ((a1.size : Int) ≤ (a0.size : Int)) = true := decide_eq_true c5
        clear c5
        obtain rfl := Option.some.inj H
        go_enter Tryd.func51, Tryd.ntmps51
        go_wp2
        go_ret
        exact ⟨by first | rfl | (simp; done) | (simp [*]; done), by repeat (first | exact Drawn0.refl _ | apply Drawn0.step)⟩
      · rw [if_neg c5] at H
        exact absurd H (by simp)
    · rw [if_neg c4] at H
      exact absurd H (by simp)
  · rw [if_neg c3] at H
    have c3b0 : decide ((a1.size : Int) ≤ (a0.size : Int)) = false := decide_eq_false c3
    have c3b1 : decide (a1.size ≤ a0.size) = false := decide_eq_false (fun h => c3 (Int.ofNat_le.mpr h))
    clear c3
    obtain rfl := Option.some.inj H
    go_enter Tryd.func51, Tryd.ntmps51
    go_wp2
    go_ret
    exact ⟨by first | rfl | (simp; done) | (simp [*]; done), by repeat (first | exact Drawn0.refl _ | apply Drawn0.step)⟩
def strings_HasPrefix.f (a0 : ByteArray) (a1 : ByteArray) : Option (Bool) := (stringslite_HasPrefix.f a0 a1).bind fun t101 => (some t101)
set_option maxHeartbeats 8000000 in
set_option maxRecDepth 100000 in
theorem strings_HasPrefix.calls (a0 : ByteArray) (a1 : ByteArray) (r : Bool) (w : World) (h : strings_HasPrefix.f a0 a1 = some r) :
    Calls Tryd.prog 41 #[.string a0, .string a1] w fun e w' => e = .returned (.bool r) ∧ Drawn0 w w' := by
  have H : ((stringslite_HasPrefix.f a0 a1).bind fun t101 => (some t101)) = some r := h
  clear h
  replace H := Option.bind_eq_some_iff.mp H
  obtain ⟨t101, A30, H⟩ := H
  replace H : (some t101) = some r := H
  have A3 := Aside0.mk A30
  clear A30
  obtain rfl := Option.some.inj H
  go_enter Tryd.func41, Tryd.ntmps41
  go_wp2_with (first | ((with_reducible refine gate_callee (f := 51) rfl ?_); refine goesL_ (some 7) rfl rfl Tryd.func51 (by kernel_rfl) rfl #[.string a0, .string a1] rfl (by (try simp only [List.map_toArray, List.map_cons, List.map_nil]); first | done | rfl | (simp only [List.length_drop, List.length_take]; rfl)) ?_; (with_reducible refine (stringslite_HasPrefix.calls a0 a1 t101 _ A3.out).mono ?_); rintro e w' ⟨rfl, ⟨nd, rfl⟩⟩; refine ⟨_, rfl, ?_⟩))
  go_ret
  exact ⟨by first | rfl | (simp; done) | (simp [*]; done), by repeat (first | exact Drawn0.refl _ | apply Drawn0.step)⟩
def ctok_hexed.f (a0 : ByteArray) : Option (Bool) := (strings_HasPrefix.f a0 (⟨#[48, 120]⟩ : ByteArray)).bind fun t102 => (if t102 = true then (some true) else ((strings_HasPrefix.f a0 (⟨#[48, 88]⟩ : ByteArray)).bind fun t103 => (some t103)))
set_option maxHeartbeats 8000000 in
set_option maxRecDepth 100000 in
theorem ctok_hexed.calls (a0 : ByteArray) (r : Bool) (w : World) (h : ctok_hexed.f a0 = some r) :
    Calls Tryd.prog 31 #[.string a0] w fun e w' => e = .returned (.bool r) ∧ Drawn0 w w' := by
  have H : ((strings_HasPrefix.f a0 (⟨#[48, 120]⟩ : ByteArray)).bind fun t102 => (if t102 = true then (some true) else ((strings_HasPrefix.f a0 (⟨#[48, 88]⟩ : ByteArray)).bind fun t103 => (some t103)))) = some r := h
  clear h
  replace H := Option.bind_eq_some_iff.mp H
  obtain ⟨t102, A20, H⟩ := H
  replace H : (if t102 = true then (some true) else ((strings_HasPrefix.f a0 (⟨#[48, 88]⟩ : ByteArray)).bind fun t103 => (some t103))) = some r := H
  have A2 := Aside0.mk A20
  clear A20
  by_cases c3 : t102 = true
  · subst c3
    have H1 : (some true) = some r := by rw [if_pos rfl] at H; exact H
    clear H
    have H := H1
    clear H1
    obtain rfl := Option.some.inj H
    go_enter Tryd.func31, Tryd.ntmps31
    go_wp2_with (first | ((with_reducible refine gate_callee (f := 41) rfl ?_); refine goesL_ (some 4) rfl rfl Tryd.func41 (by kernel_rfl) rfl #[.string a0, .string (⟨#[48, 120]⟩ : ByteArray)] rfl (by (try simp only [List.map_toArray, List.map_cons, List.map_nil]); first | done | rfl | (simp only [List.length_drop, List.length_take]; rfl)) ?_; (with_reducible refine (strings_HasPrefix.calls a0 (⟨#[48, 120]⟩ : ByteArray) true _ A2.out).mono ?_); rintro e w' ⟨rfl, ⟨nd, rfl⟩⟩; refine ⟨_, rfl, ?_⟩))
    go_ret
    exact ⟨by first | rfl | (simp; done) | (simp [*]; done), by repeat (first | exact Drawn0.refl _ | apply Drawn0.step)⟩
  · replace c3 := Bool.eq_false_iff.mpr c3
    subst c3
    have H1 : ((strings_HasPrefix.f a0 (⟨#[48, 88]⟩ : ByteArray)).bind fun t103 => (some t103)) = some r := by rw [if_neg (show ¬ (false = true) by decide)] at H; exact H
    clear H
    have H := H1
    clear H1
    replace H := Option.bind_eq_some_iff.mp H
    obtain ⟨t103, A40, H⟩ := H
    replace H : (some t103) = some r := H
    have A4 := Aside0.mk A40
    clear A40
    obtain rfl := Option.some.inj H
    go_enter Tryd.func31, Tryd.ntmps31
    go_wp2_with (first | ((with_reducible refine gate_callee (f := 41) rfl ?_); refine goesL_ (some 4) rfl rfl Tryd.func41 (by kernel_rfl) rfl #[.string a0, .string (⟨#[48, 120]⟩ : ByteArray)] rfl (by (try simp only [List.map_toArray, List.map_cons, List.map_nil]); first | done | rfl | (simp only [List.length_drop, List.length_take]; rfl)) ?_; (with_reducible refine (strings_HasPrefix.calls a0 (⟨#[48, 120]⟩ : ByteArray) false _ A2.out).mono ?_); rintro e w' ⟨rfl, ⟨nd, rfl⟩⟩; refine ⟨_, rfl, ?_⟩) | (go_at_call 41; (with_reducible refine (strings_HasPrefix.calls a0 (⟨#[48, 88]⟩ : ByteArray) t103 _ A4.out).mono ?_); rintro e w' ⟨rfl, ⟨nd, rfl⟩⟩))
    go_ret
    exact ⟨by first | rfl | (simp; done) | (simp [*]; done), by repeat (first | exact Drawn0.refl _ | apply Drawn0.step)⟩
end Go.Proofs.YtcdleippdegibaaDoor.PB
