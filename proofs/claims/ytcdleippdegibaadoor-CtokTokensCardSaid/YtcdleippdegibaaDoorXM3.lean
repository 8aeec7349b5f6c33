import Derived.Test.YtcdleippdegibaaDoorXM2
import Derived.Test.YtcdleippdegibaaDoorXM1
import Derived.Test.YtcdleippdegibaaDoorXM0
import Derived.Test.YtcdleippdegibaaDoorProg
import Derived.Below
import Derived.Deep.Draws
import Derived.Deep.AppendLies
import Derived.Maps.AppendAt
import Derived.OwnWalk
import Derived.Laws.BytesArg
import Derived.Laws.MakeOwn
import Derived.Laws.OwnMore
import Derived.Deep.OwnRows
import Derived.Tactics
import Derived.Lib.ConvBytes
import Derived.Laws.Slices
import Derived.WalkKit
import Derived.KernelRfl
import Derived.RowKit3
import Derived.Deep.LoopGhost
import Derived.Deep.QuietTactic
import Derived.BigQuiet
import Derived.WideLaws
import Derived.Deep.DeepCutAuto
import Derived.Deep.CutBlock
import Derived.Deep.RegionHeld3
import Derived.Laws.Rows
import Derived.Lib.AppendStr
import Derived.ArgAppend
import Derived.Laws.IdiomCopy
import Derived.OrdersHeld
import Derived.Laws.BitsLemmas
import Derived.RowKit
set_option maxHeartbeats 8000000
set_option maxRecDepth 100000
set_option linter.unusedVariables false
set_option linter.unusedSimpArgs false
set_option linter.unusedSectionVars false
namespace Go.Proofs.YtcdleippdegibaaDoor.PS
open Go.RowKit Go.Proofs.YtcdleippdegibaaDoorW.PrintWords Go.Proofs.YtcdleippdegibaaDoorW.PrintLast Go.Proofs.YtcdleippdegibaaDoorW.PrintMore
open Go.Proofs.YtcdleippdegibaaDoor.LibG (SH SH.below SH.drewN SH.drew SH.alloc)
open Go.Proofs.YtcdleippdegibaaDoor.PK
attribute [local go_sem] max2_int min2_int max_two min_two max_three min_three max_four min_four
def scan_punct.l0 : Nat → ByteArray → Int → Option (Int)
 | 0, _, _ => none
 | k + 1, x0, x3 => if x3 > 0 then (if 0 ≤ x3 then (if x3 ≤ (x0.size : Int) then (if (x0.extract 0 (x3 : Int).toNat).toList = ([37, 58, 37, 58] : List UInt8) then (some x3) else (if (x0.extract 0 (x3 : Int).toNat).toList = ([46, 46, 46] : List UInt8) then (some x3) else (if (x0.extract 0 (x3 : Int).toNat).toList = ([60, 60, 61] : List UInt8) then (some x3) else (if (x0.extract 0 (x3 : Int).toNat).toList = ([62, 62, 61] : List UInt8) then (some x3) else (if (x0.extract 0 (x3 : Int).toNat).toList = ([45, 62] : List UInt8) then (some x3) else (if (x0.extract 0 (x3 : Int).toNat).toList = ([43, 43] : List UInt8) then (some x3) else (if (x0.extract 0 (x3 : Int).toNat).toList = ([45, 45] : List UInt8) then (some x3) else (if (x0.extract 0 (x3 : Int).toNat).toList = ([60, 60] : List UInt8) then (some x3) else (if (x0.extract 0 (x3 : Int).toNat).toList = ([62, 62] : List UInt8) then (some x3) else (if (x0.extract 0 (x3 : Int).toNat).toList = ([60, 61] : List UInt8) then (some x3) else (if (x0.extract 0 (x3 : Int).toNat).toList = ([62, 61] : List UInt8) then (some x3) else (if (x0.extract 0 (x3 : Int).toNat).toList = ([61, 61] : List UInt8) then (some x3) else (if (x0.extract 0 (x3 : Int).toNat).toList = ([33, 61] : List UInt8) then (some x3) else (if (x0.extract 0 (x3 : Int).toNat).toList = ([38, 38] : List UInt8) then (some x3) else (if (x0.extract 0 (x3 : Int).toNat).toList = ([124, 124] : List UInt8) then (some x3) else (if (x0.extract 0 (x3 : Int).toNat).toList = ([42, 61] : List UInt8) then (some x3) else (if (x0.extract 0 (x3 : Int).toNat).toList = ([47, 61] : List UInt8) then (some x3) else (if (x0.extract 0 (x3 : Int).toNat).toList = ([37, 61] : List UInt8) then (some x3) else (if (x0.extract 0 (x3 : Int).toNat).toList = ([43, 61] : List UInt8) then (some x3) else (if (x0.extract 0 (x3 : Int).toNat).toList = ([45, 61] : List UInt8) then (some x3) else (if (x0.extract 0 (x3 : Int).toNat).toList = ([38, 61] : List UInt8) then (some x3) else (if (x0.extract 0 (x3 : Int).toNat).toList = ([94, 61] : List UInt8) then (some x3) else (if (x0.extract 0 (x3 : Int).toNat).toList = ([124, 61] : List UInt8) then (some x3) else (if (x0.extract 0 (x3 : Int).toNat).toList = ([35, 35] : List UInt8) then (some x3) else (if (x0.extract 0 (x3 : Int).toNat).toList = ([60, 58] : List UInt8) then (some x3) else (if (x0.extract 0 (x3 : Int).toNat).toList = ([58, 62] : List UInt8) then (some x3) else (if (x0.extract 0 (x3 : Int).toNat).toList = ([60, 37] : List UInt8) then (some x3) else (if (x0.extract 0 (x3 : Int).toNat).toList = ([37, 62] : List UInt8) then (some x3) else (if (x0.extract 0 (x3 : Int).toNat).toList = ([37, 58] : List UInt8) then (some x3) else (if (x0.extract 0 (x3 : Int).toNat).toList = ([91] : List UInt8) then (some x3) else (if (x0.extract 0 (x3 : Int).toNat).toList = ([93] : List UInt8) then (some x3) else (if (x0.extract 0 (x3 : Int).toNat).toList = ([40] : List UInt8) then (some x3) else (if (x0.extract 0 (x3 : Int).toNat).toList = ([41] : List UInt8) then (some x3) else (if (x0.extract 0 (x3 : Int).toNat).toList = ([123] : List UInt8) then (some x3) else (if (x0.extract 0 (x3 : Int).toNat).toList = ([125] : List UInt8) then (some x3) else (if (x0.extract 0 (x3 : Int).toNat).toList = ([46] : List UInt8) then (some x3) else (if (x0.extract 0 (x3 : Int).toNat).toList = ([38] : List UInt8) then (some x3) else (if (x0.extract 0 (x3 : Int).toNat).toList = ([42] : List UInt8) then (some x3) else (if (x0.extract 0 (x3 : Int).toNat).toList = ([43] : List UInt8) then (some x3) else (if (x0.extract 0 (x3 : Int).toNat).toList = ([45] : List UInt8) then (some x3) else (if (x0.extract 0 (x3 : Int).toNat).toList = ([126] : List UInt8) then (some x3) else (if (x0.extract 0 (x3 : Int).toNat).toList = ([33] : List UInt8) then (some x3) else (if (x0.extract 0 (x3 : Int).toNat).toList = ([47] : List UInt8) then (some x3) else (if (x0.extract 0 (x3 : Int).toNat).toList = ([37] : List UInt8) then (some x3) else (if (x0.extract 0 (x3 : Int).toNat).toList = ([60] : List UInt8) then (some x3) else (if (x0.extract 0 (x3 : Int).toNat).toList = ([62] : List UInt8) then (some x3) else (if (x0.extract 0 (x3 : Int).toNat).toList = ([94] : List UInt8) then (some x3) else (if (x0.extract 0 (x3 : Int).toNat).toList = ([124] : List UInt8) then (some x3) else (if (x0.extract 0 (x3 : Int).toNat).toList = ([63] : List UInt8) then (some x3) else (if (x0.extract 0 (x3 : Int).toNat).toList = ([58] : List UInt8) then (some x3) else (if (x0.extract 0 (x3 : Int).toNat).toList = ([59] : List UInt8) then (some x3) else (if (x0.extract 0 (x3 : Int).toNat).toList = ([61] : List UInt8) then (some x3) else (if (x0.extract 0 (x3 : Int).toNat).toList = ([44] : List UInt8) then (some x3) else (if (x0.extract 0 (x3 : Int).toNat).toList = ([35] : List UInt8) then (some x3) else (scan_punct.l0 k x0 (wrap64 (x3 - 1))))))))))))))))))))))))))))))))))))))))))))))))))))))))) else (none)) else (none)) else (some 0)
def scan_punct.f (k : Nat) (a0 : ByteArray) : Option (Int) := scan_punct.l0 k a0 (mn 4 (a0.size : Int))
theorem scan_punct.mono_l : ∀ k, (∀ y0 y1, LeO (scan_punct.l0 k y0 y1) (scan_punct.l0 (k + 1) y0 y1))
 | 0 => fun _ _ r h => by simp [scan_punct.l0] at h
 | k + 1 => by
  have ih0 := scan_punct.mono_l k
  intro y0 y1
  unfold scan_punct.l0
  repeat' first
  | (with_reducible exact ih0 _ _)
  | (with_reducible exact LeO.refl _)
  | (with_reducible exact LeO.none _)
  | (with_reducible refine LeO.ite ?_ ?_)
  | (with_reducible refine LeO.bind ?_ (fun _ => ?_))
theorem scan_punct.mono : ∀ a0 k, LeO (scan_punct.f k a0) (scan_punct.f (k + 1) a0) := by
 intro a0 k
 have ih0 := scan_punct.mono_l k
 unfold scan_punct.f
 repeat' first
   | (with_reducible exact ih0 _ _)
   | (with_reducible exact LeO.refl _)
   | (with_reducible exact LeO.none _)
   | (with_reducible refine LeO.ite ?_ ?_)
   | (with_reducible refine LeO.bind ?_ (fun _ => ?_))
theorem scan_punct.calls (k : Nat) (a0 : ByteArray) (r : Int) (w : World) (h : scan_punct.f k a0 = some r) :
  Calls Tryd.prog 77 #[.string a0] w fun e w' => e = .returned (.int .i64 r) ∧ Below w.heap.size w w' := by
 have HB := Aside0.mk (Below.refl w.heap.size w)
 have H : (scan_punct.l0 k a0 (mn 4 (a0.size : Int))) = some r := h
 clear h
 obtain ⟨ji2, hji2⟩ : ∃ j_ : Int, (mn 4 (a0.size : Int)) = j_ := ⟨_, rfl⟩
 replace H : (scan_punct.l0 k a0 ji2) = some r := by first | (rw [hji2] at H; exact H) | (simp only [hji2] at H ⊢; exact H)
 (try (have hji2h : ji2 ≤ 4 := by (rw [← hji2]; unfold mn; (repeat' split) <;> omega)))
 (try (have hji2g : ji2 ≤ 64 := by omega))
 (try (have hji2l : 0 ≤ ji2 := by (rw [← hji2]; unfold mn; (repeat' split) <;> omega)))
 (try (have hji2m : 0 ≤ ji2 := by omega))
 have hji2_ : (if (a0.size : Int) < 4 then (a0.size : Int) else 4) = ji2 := hji2
 have H' := Aside0.mk H
 clear H
 go_enter Tryd.func77, Tryd.ntmps77
 go_wp2
 go_loopg [3] k (fun kq v3 w' => ∃ (x3_1 : Int), v3 = .int .i64 x3_1 ∧ Aside0 (scan_punct.l0 kq a0 x3_1 = some r) ∧ Aside0 (kq ≤ k) ∧ Aside0 (Below w.heap.size w w'))
 case atStart => exact ⟨(ji2), (by first | rfl | (simp; done) | (simp only [← hji2] <;> (first | rfl | simp)) | (simp [*]; done)), H', ⟨Nat.le_refl _⟩, ⟨bl_⟩⟩
 case round =>
  clear H'
  obtain ⟨x3_1, rfl, HA, HK1, HB⟩ := hrel
  cases gk with
  | zero => exact absurd HA.out (by simp [scan_punct.l0])
  | succ k1 =>
   have H := HA.out
   clear HA
   simp only [scan_punct.l0] at H
   replace H := ib_ H
   obtain ⟨c3, H⟩ | ⟨c3, H⟩ := H
   ·have c3b0 : decide (0 < x3_1) = true := decide_eq_true c3
    clear c3
    replace H := id_ H
    obtain ⟨c4b0, c4b1, H⟩ | ⟨-, -, H⟩ := H
    ·replace H := id_ H
     obtain ⟨c5b0, c5b1, H⟩ | ⟨-, -, H⟩ := H
     ·replace H := ie_ H
      obtain ⟨c6b0, c6b1, H⟩ | ⟨c6b0, c6b1, c6, H⟩ := H
      ·obtain rfl := Option.some.inj H
       go_wp2
       go_ret
       exact ⟨by first | rfl | (simp [errW_none, errW_some] <;> rfl) | (simp only [← hji2]; first | rfl | (simp [errW_none, errW_some] <;> rfl)) | (simp [*, errW_none, errW_some] <;> rfl), bl_⟩
      replace H := ie_ H
      obtain ⟨c7b0, c7b1, H⟩ | ⟨c7b0, c7b1, c7, H⟩ := H
      ·obtain rfl := Option.some.inj H
       go_wp2
       go_ret
       exact ⟨by first | rfl | (simp [errW_none, errW_some] <;> rfl) | (simp only [← hji2]; first | rfl | (simp [errW_none, errW_some] <;> rfl)) | (simp [*, errW_none, errW_some] <;> rfl), bl_⟩
      replace H := ie_ H
      obtain ⟨c8b0, c8b1, H⟩ | ⟨c8b0, c8b1, c8, H⟩ := H
      ·obtain rfl := Option.some.inj H
       go_wp2
       go_ret
       exact ⟨by first | rfl | (simp [errW_none, errW_some] <;> rfl) | (simp only [← hji2]; first | rfl | (simp [errW_none, errW_some] <;> rfl)) | (simp [*, errW_none, errW_some] <;> rfl), bl_⟩
      replace H := ie_ H
      obtain ⟨c9b0, c9b1, H⟩ | ⟨c9b0, c9b1, c9, H⟩ := H
      ·obtain rfl := Option.some.inj H
       go_wp2
       go_ret
       exact ⟨by first | rfl | (simp [errW_none, errW_some] <;> rfl) | (simp only [← hji2]; first | rfl | (simp [errW_none, errW_some] <;> rfl)) | (simp [*, errW_none, errW_some] <;> rfl), bl_⟩
      replace H := ie_ H
      obtain ⟨c10b0, c10b1, H⟩ | ⟨c10b0, c10b1, c10, H⟩ := H
      ·obtain rfl := Option.some.inj H
       go_wp2
       go_ret
       exact ⟨by first | rfl | (simp [errW_none, errW_some] <;> rfl) | (simp only [← hji2]; first | rfl | (simp [errW_none, errW_some] <;> rfl)) | (simp [*, errW_none, errW_some] <;> rfl), bl_⟩
      replace H := ie_ H
      obtain ⟨c11b0, c11b1, H⟩ | ⟨c11b0, c11b1, c11, H⟩ := H
      ·obtain rfl := Option.some.inj H
       go_wp2
       go_ret
       exact ⟨by first | rfl | (simp [errW_none, errW_some] <;> rfl) | (simp only [← hji2]; first | rfl | (simp [errW_none, errW_some] <;> rfl)) | (simp [*, errW_none, errW_some] <;> rfl), bl_⟩
      replace H := ie_ H
      obtain ⟨c12b0, c12b1, H⟩ | ⟨c12b0, c12b1, c12, H⟩ := H
      ·obtain rfl := Option.some.inj H
       go_wp2
       go_ret
       exact ⟨by first | rfl | (simp [errW_none, errW_some] <;> rfl) | (simp only [← hji2]; first | rfl | (simp [errW_none, errW_some] <;> rfl)) | (simp [*, errW_none, errW_some] <;> rfl), bl_⟩
      replace H := ie_ H
      obtain ⟨c13b0, c13b1, H⟩ | ⟨c13b0, c13b1, c13, H⟩ := H
      ·obtain rfl := Option.some.inj H
       go_wp2
       go_ret
       exact ⟨by first | rfl | (simp [errW_none, errW_some] <;> rfl) | (simp only [← hji2]; first | rfl | (simp [errW_none, errW_some] <;> rfl)) | (simp [*, errW_none, errW_some] <;> rfl), bl_⟩
      replace H := ie_ H
      obtain ⟨c14b0, c14b1, H⟩ | ⟨c14b0, c14b1, c14, H⟩ := H
      ·obtain rfl := Option.some.inj H
       go_wp2
       go_ret
       exact ⟨by first | rfl | (simp [errW_none, errW_some] <;> rfl) | (simp only [← hji2]; first | rfl | (simp [errW_none, errW_some] <;> rfl)) | (simp [*, errW_none, errW_some] <;> rfl), bl_⟩
      replace H := ie_ H
      obtain ⟨c15b0, c15b1, H⟩ | ⟨c15b0, c15b1, c15, H⟩ := H
      ·obtain rfl := Option.some.inj H
       go_wp2
       go_ret
       exact ⟨by first | rfl | (simp [errW_none, errW_some] <;> rfl) | (simp only [← hji2]; first | rfl | (simp [errW_none, errW_some] <;> rfl)) | (simp [*, errW_none, errW_some] <;> rfl), bl_⟩
      replace H := ie_ H
      obtain ⟨c16b0, c16b1, H⟩ | ⟨c16b0, c16b1, c16, H⟩ := H
      ·obtain rfl := Option.some.inj H
       go_wp2
       go_ret
       exact ⟨by first | rfl | (simp [errW_none, errW_some] <;> rfl) | (simp only [← hji2]; first | rfl | (simp [errW_none, errW_some] <;> rfl)) | (simp [*, errW_none, errW_some] <;> rfl), bl_⟩
      replace H := ie_ H
      obtain ⟨c17b0, c17b1, H⟩ | ⟨c17b0, c17b1, c17, H⟩ := H
      ·obtain rfl := Option.some.inj H
       go_wp2
       go_ret
       exact ⟨by first | rfl | (simp [errW_none, errW_some] <;> rfl) | (simp only [← hji2]; first | rfl | (simp [errW_none, errW_some] <;> rfl)) | (simp [*, errW_none, errW_some] <;> rfl), bl_⟩
      replace H := ie_ H
      obtain ⟨c18b0, c18b1, H⟩ | ⟨c18b0, c18b1, c18, H⟩ := H
      ·obtain rfl := Option.some.inj H
       go_wp2
       go_ret
       exact ⟨by first | rfl | (simp [errW_none, errW_some] <;> rfl) | (simp only [← hji2]; first | rfl | (simp [errW_none, errW_some] <;> rfl)) | (simp [*, errW_none, errW_some] <;> rfl), bl_⟩
      replace H := ie_ H
      obtain ⟨c19b0, c19b1, H⟩ | ⟨c19b0, c19b1, c19, H⟩ := H
      ·obtain rfl := Option.some.inj H
       go_wp2
       go_ret
       exact ⟨by first | rfl | (simp [errW_none, errW_some] <;> rfl) | (simp only [← hji2]; first | rfl | (simp [errW_none, errW_some] <;> rfl)) | (simp [*, errW_none, errW_some] <;> rfl), bl_⟩
      replace H := ie_ H
      obtain ⟨c20b0, c20b1, H⟩ | ⟨c20b0, c20b1, c20, H⟩ := H
      ·obtain rfl := Option.some.inj H
       go_wp2
       go_ret
       exact ⟨by first | rfl | (simp [errW_none, errW_some] <;> rfl) | (simp only [← hji2]; first | rfl | (simp [errW_none, errW_some] <;> rfl)) | (simp [*, errW_none, errW_some] <;> rfl), bl_⟩
      replace H := ie_ H
      obtain ⟨c21b0, c21b1, H⟩ | ⟨c21b0, c21b1, c21, H⟩ := H
      ·obtain rfl := Option.some.inj H
       go_wp2
       go_ret
       exact ⟨by first | rfl | (simp [errW_none, errW_some] <;> rfl) | (simp only [← hji2]; first | rfl | (simp [errW_none, errW_some] <;> rfl)) | (simp [*, errW_none, errW_some] <;> rfl), bl_⟩
      replace H := ie_ H
      obtain ⟨c22b0, c22b1, H⟩ | ⟨c22b0, c22b1, c22, H⟩ := H
      ·obtain rfl := Option.some.inj H
       go_wp2
       go_ret
       exact ⟨by first | rfl | (simp [errW_none, errW_some] <;> rfl) | (simp only [← hji2]; first | rfl | (simp [errW_none, errW_some] <;> rfl)) | (simp [*, errW_none, errW_some] <;> rfl), bl_⟩
      replace H := ie_ H
      obtain ⟨c23b0, c23b1, H⟩ | ⟨c23b0, c23b1, c23, H⟩ := H
      ·obtain rfl := Option.some.inj H
       go_wp2
       go_ret
       exact ⟨by first | rfl | (simp [errW_none, errW_some] <;> rfl) | (simp only [← hji2]; first | rfl | (simp [errW_none, errW_some] <;> rfl)) | (simp [*, errW_none, errW_some] <;> rfl), bl_⟩
      replace H := ie_ H
      obtain ⟨c24b0, c24b1, H⟩ | ⟨c24b0, c24b1, c24, H⟩ := H
      ·obtain rfl := Option.some.inj H
       go_wp2
       go_ret
       exact ⟨by first | rfl | (simp [errW_none, errW_some] <;> rfl) | (simp only [← hji2]; first | rfl | (simp [errW_none, errW_some] <;> rfl)) | (simp [*, errW_none, errW_some] <;> rfl), bl_⟩
      replace H := ie_ H
      obtain ⟨c25b0, c25b1, H⟩ | ⟨c25b0, c25b1, c25, H⟩ := H
      ·obtain rfl := Option.some.inj H
       go_wp2
       go_ret
       exact ⟨by first | rfl | (simp [errW_none, errW_some] <;> rfl) | (simp only [← hji2]; first | rfl | (simp [errW_none, errW_some] <;> rfl)) | (simp [*, errW_none, errW_some] <;> rfl), bl_⟩
      replace H := ie_ H
      obtain ⟨c26b0, c26b1, H⟩ | ⟨c26b0, c26b1, c26, H⟩ := H
      ·obtain rfl := Option.some.inj H
       go_wp2
       go_ret
       exact ⟨by first | rfl | (simp [errW_none, errW_some] <;> rfl) | (simp only [← hji2]; first | rfl | (simp [errW_none, errW_some] <;> rfl)) | (simp [*, errW_none, errW_some] <;> rfl), bl_⟩
      replace H := ie_ H
      obtain ⟨c27b0, c27b1, H⟩ | ⟨c27b0, c27b1, c27, H⟩ := H
      ·obtain rfl := Option.some.inj H
       go_wp2
       go_ret
       exact ⟨by first | rfl | (simp [errW_none, errW_some] <;> rfl) | (simp only [← hji2]; first | rfl | (simp [errW_none, errW_some] <;> rfl)) | (simp [*, errW_none, errW_some] <;> rfl), bl_⟩
      replace H := ie_ H
      obtain ⟨c28b0, c28b1, H⟩ | ⟨c28b0, c28b1, c28, H⟩ := H
      ·obtain rfl := Option.some.inj H
       go_wp2
       go_ret
       exact ⟨by first | rfl | (simp [errW_none, errW_some] <;> rfl) | (simp only [← hji2]; first | rfl | (simp [errW_none, errW_some] <;> rfl)) | (simp [*, errW_none, errW_some] <;> rfl), bl_⟩
      replace H := ie_ H
      obtain ⟨c29b0, c29b1, H⟩ | ⟨c29b0, c29b1, c29, H⟩ := H
      ·obtain rfl := Option.some.inj H
       go_wp2
       go_ret
       exact ⟨by first | rfl | (simp [errW_none, errW_some] <;> rfl) | (simp only [← hji2]; first | rfl | (simp [errW_none, errW_some] <;> rfl)) | (simp [*, errW_none, errW_some] <;> rfl), bl_⟩
      replace H := ie_ H
      obtain ⟨c30b0, c30b1, H⟩ | ⟨c30b0, c30b1, c30, H⟩ := H
      ·obtain rfl := Option.some.inj H
       go_wp2
       go_ret
       exact ⟨by first | rfl | (simp [errW_none, errW_some] <;> rfl) | (simp only [← hji2]; first | rfl | (simp [errW_none, errW_some] <;> rfl)) | (simp [*, errW_none, errW_some] <;> rfl), bl_⟩
      replace H := ie_ H
      obtain ⟨c31b0, c31b1, H⟩ | ⟨c31b0, c31b1, c31, H⟩ := H
      ·obtain rfl := Option.some.inj H
       go_wp2
       go_ret
       exact ⟨by first | rfl | (simp [errW_none, errW_some] <;> rfl) | (simp only [← hji2]; first | rfl | (simp [errW_none, errW_some] <;> rfl)) | (simp [*, errW_none, errW_some] <;> rfl), bl_⟩
      replace H := ie_ H
      obtain ⟨c32b0, c32b1, H⟩ | ⟨c32b0, c32b1, c32, H⟩ := H
      ·obtain rfl := Option.some.inj H
       go_wp2
       go_ret
       exact ⟨by first | rfl | (simp [errW_none, errW_some] <;> rfl) | (simp only [← hji2]; first | rfl | (simp [errW_none, errW_some] <;> rfl)) | (simp [*, errW_none, errW_some] <;> rfl), bl_⟩
      replace H := ie_ H
      obtain ⟨c33b0, c33b1, H⟩ | ⟨c33b0, c33b1, c33, H⟩ := H
      ·obtain rfl := Option.some.inj H
       go_wp2
       go_ret
       exact ⟨by first | rfl | (simp [errW_none, errW_some] <;> rfl) | (simp only [← hji2]; first | rfl | (simp [errW_none, errW_some] <;> rfl)) | (simp [*, errW_none, errW_some] <;> rfl), bl_⟩
      replace H := ie_ H
      obtain ⟨c34b0, c34b1, H⟩ | ⟨c34b0, c34b1, c34, H⟩ := H
      ·obtain rfl := Option.some.inj H
       go_wp2
       go_ret
       exact ⟨by first | rfl | (simp [errW_none, errW_some] <;> rfl) | (simp only [← hji2]; first | rfl | (simp [errW_none, errW_some] <;> rfl)) | (simp [*, errW_none, errW_some] <;> rfl), bl_⟩
      replace H := ie_ H
      obtain ⟨c35b0, c35b1, H⟩ | ⟨c35b0, c35b1, c35, H⟩ := H
      ·obtain rfl := Option.some.inj H
       go_wp2
       go_ret
       exact ⟨by first | rfl | (simp [errW_none, errW_some] <;> rfl) | (simp only [← hji2]; first | rfl | (simp [errW_none, errW_some] <;> rfl)) | (simp [*, errW_none, errW_some] <;> rfl), bl_⟩
      replace H := ie_ H
      obtain ⟨c36b0, c36b1, H⟩ | ⟨c36b0, c36b1, c36, H⟩ := H
      ·obtain rfl := Option.some.inj H
       go_wp2
       go_ret
       exact ⟨by first | rfl | (simp [errW_none, errW_some] <;> rfl) | (simp only [← hji2]; first | rfl | (simp [errW_none, errW_some] <;> rfl)) | (simp [*, errW_none, errW_some] <;> rfl), bl_⟩
      replace H := ie_ H
      obtain ⟨c37b0, c37b1, H⟩ | ⟨c37b0, c37b1, c37, H⟩ := H
      ·obtain rfl := Option.some.inj H
       go_wp2
       go_ret
       exact ⟨by first | rfl | (simp [errW_none, errW_some] <;> rfl) | (simp only [← hji2]; first | rfl | (simp [errW_none, errW_some] <;> rfl)) | (simp [*, errW_none, errW_some] <;> rfl), bl_⟩
      replace H := ie_ H
      obtain ⟨c38b0, c38b1, H⟩ | ⟨c38b0, c38b1, c38, H⟩ := H
      ·obtain rfl := Option.some.inj H
       go_wp2
       go_ret
       exact ⟨by first | rfl | (simp [errW_none, errW_some] <;> rfl) | (simp only [← hji2]; first | rfl | (simp [errW_none, errW_some] <;> rfl)) | (simp [*, errW_none, errW_some] <;> rfl), bl_⟩
      replace H := ie_ H
      obtain ⟨c39b0, c39b1, H⟩ | ⟨c39b0, c39b1, c39, H⟩ := H
      ·obtain rfl := Option.some.inj H
       go_wp2
       go_ret
       exact ⟨by first | rfl | (simp [errW_none, errW_some] <;> rfl) | (simp only [← hji2]; first | rfl | (simp [errW_none, errW_some] <;> rfl)) | (simp [*, errW_none, errW_some] <;> rfl), bl_⟩
      replace H := ie_ H
      obtain ⟨c40b0, c40b1, H⟩ | ⟨c40b0, c40b1, c40, H⟩ := H
      ·obtain rfl := Option.some.inj H
       go_wp2
       go_ret
       exact ⟨by first | rfl | (simp [errW_none, errW_some] <;> rfl) | (simp only [← hji2]; first | rfl | (simp [errW_none, errW_some] <;> rfl)) | (simp [*, errW_none, errW_some] <;> rfl), bl_⟩
      replace H := ie_ H
      obtain ⟨c41b0, c41b1, H⟩ | ⟨c41b0, c41b1, c41, H⟩ := H
      ·obtain rfl := Option.some.inj H
       go_wp2
       go_ret
       exact ⟨by first | rfl | (simp [errW_none, errW_some] <;> rfl) | (simp only [← hji2]; first | rfl | (simp [errW_none, errW_some] <;> rfl)) | (simp [*, errW_none, errW_some] <;> rfl), bl_⟩
      replace H := ie_ H
      obtain ⟨c42b0, c42b1, H⟩ | ⟨c42b0, c42b1, c42, H⟩ := H
      ·obtain rfl := Option.some.inj H
       go_wp2
       go_ret
       exact ⟨by first | rfl | (simp [errW_none, errW_some] <;> rfl) | (simp only [← hji2]; first | rfl | (simp [errW_none, errW_some] <;> rfl)) | (simp [*, errW_none, errW_some] <;> rfl), bl_⟩
      replace H := ie_ H
      obtain ⟨c43b0, c43b1, H⟩ | ⟨c43b0, c43b1, c43, H⟩ := H
      ·obtain rfl := Option.some.inj H
       go_wp2
       go_ret
       exact ⟨by first | rfl | (simp [errW_none, errW_some] <;> rfl) | (simp only [← hji2]; first | rfl | (simp [errW_none, errW_some] <;> rfl)) | (simp [*, errW_none, errW_some] <;> rfl), bl_⟩
      replace H := ie_ H
      obtain ⟨c44b0, c44b1, H⟩ | ⟨c44b0, c44b1, c44, H⟩ := H
      ·obtain rfl := Option.some.inj H
       go_wp2
       go_ret
       exact ⟨by first | rfl | (simp [errW_none, errW_some] <;> rfl) | (simp only [← hji2]; first | rfl | (simp [errW_none, errW_some] <;> rfl)) | (simp [*, errW_none, errW_some] <;> rfl), bl_⟩
      replace H := ie_ H
      obtain ⟨c45b0, c45b1, H⟩ | ⟨c45b0, c45b1, c45, H⟩ := H
      ·obtain rfl := Option.some.inj H
       go_wp2
       go_ret
       exact ⟨by first | rfl | (simp [errW_none, errW_some] <;> rfl) | (simp only [← hji2]; first | rfl | (simp [errW_none, errW_some] <;> rfl)) | (simp [*, errW_none, errW_some] <;> rfl), bl_⟩
      replace H := ie_ H
      obtain ⟨c46b0, c46b1, H⟩ | ⟨c46b0, c46b1, c46, H⟩ := H
      ·obtain rfl := Option.some.inj H
       go_wp2
       go_ret
       exact ⟨by first | rfl | (simp [errW_none, errW_some] <;> rfl) | (simp only [← hji2]; first | rfl | (simp [errW_none, errW_some] <;> rfl)) | (simp [*, errW_none, errW_some] <;> rfl), bl_⟩
      replace H := ie_ H
      obtain ⟨c47b0, c47b1, H⟩ | ⟨c47b0, c47b1, c47, H⟩ := H
      ·obtain rfl := Option.some.inj H
       go_wp2
       go_ret
       exact ⟨by first | rfl | (simp [errW_none, errW_some] <;> rfl) | (simp only [← hji2]; first | rfl | (simp [errW_none, errW_some] <;> rfl)) | (simp [*, errW_none, errW_some] <;> rfl), bl_⟩
      replace H := ie_ H
      obtain ⟨c48b0, c48b1, H⟩ | ⟨c48b0, c48b1, c48, H⟩ := H
      ·obtain rfl := Option.some.inj H
       go_wp2
       go_ret
       exact ⟨by first | rfl | (simp [errW_none, errW_some] <;> rfl) | (simp only [← hji2]; first | rfl | (simp [errW_none, errW_some] <;> rfl)) | (simp [*, errW_none, errW_some] <;> rfl), bl_⟩
      replace H := ie_ H
      obtain ⟨c49b0, c49b1, H⟩ | ⟨c49b0, c49b1, c49, H⟩ := H
      ·obtain rfl := Option.some.inj H
       go_wp2
       go_ret
       exact ⟨by first | rfl | (simp [errW_none, errW_some] <;> rfl) | (simp only [← hji2]; first | rfl | (simp [errW_none, errW_some] <;> rfl)) | (simp [*, errW_none, errW_some] <;> rfl), bl_⟩
      replace H := ie_ H
      obtain ⟨c50b0, c50b1, H⟩ | ⟨c50b0, c50b1, c50, H⟩ := H
      ·obtain rfl := Option.some.inj H
       go_wp2
       go_ret
       exact ⟨by first | rfl | (simp [errW_none, errW_some] <;> rfl) | (simp only [← hji2]; first | rfl | (simp [errW_none, errW_some] <;> rfl)) | (simp [*, errW_none, errW_some] <;> rfl), bl_⟩
      replace H := ie_ H
      obtain ⟨c51b0, c51b1, H⟩ | ⟨c51b0, c51b1, c51, H⟩ := H
      ·obtain rfl := Option.some.inj H
       go_wp2
       go_ret
       exact ⟨by first | rfl | (simp [errW_none, errW_some] <;> rfl) | (simp only [← hji2]; first | rfl | (simp [errW_none, errW_some] <;> rfl)) | (simp [*, errW_none, errW_some] <;> rfl), bl_⟩
      replace H := ie_ H
      obtain ⟨c52b0, c52b1, H⟩ | ⟨c52b0, c52b1, c52, H⟩ := H
      ·obtain rfl := Option.some.inj H
       go_wp2
       go_ret
       exact ⟨by first | rfl | (simp [errW_none, errW_some] <;> rfl) | (simp only [← hji2]; first | rfl | (simp [errW_none, errW_some] <;> rfl)) | (simp [*, errW_none, errW_some] <;> rfl), bl_⟩
      replace H := ie_ H
      obtain ⟨c53b0, c53b1, H⟩ | ⟨c53b0, c53b1, c53, H⟩ := H
      ·obtain rfl := Option.some.inj H
       go_wp2
       go_ret
       exact ⟨by first | rfl | (simp [errW_none, errW_some] <;> rfl) | (simp only [← hji2]; first | rfl | (simp [errW_none, errW_some] <;> rfl)) | (simp [*, errW_none, errW_some] <;> rfl), bl_⟩
      replace H := ie_ H
      obtain ⟨c54b0, c54b1, H⟩ | ⟨c54b0, c54b1, c54, H⟩ := H
      ·obtain rfl := Option.some.inj H
       go_wp2
       go_ret
       exact ⟨by first | rfl | (simp [errW_none, errW_some] <;> rfl) | (simp only [← hji2]; first | rfl | (simp [errW_none, errW_some] <;> rfl)) | (simp [*, errW_none, errW_some] <;> rfl), bl_⟩
      replace H := ie_ H
      obtain ⟨c55b0, c55b1, H⟩ | ⟨c55b0, c55b1, c55, H⟩ := H
      ·obtain rfl := Option.some.inj H
       go_wp2
       go_ret
       exact ⟨by first | rfl | (simp [errW_none, errW_some] <;> rfl) | (simp only [← hji2]; first | rfl | (simp [errW_none, errW_some] <;> rfl)) | (simp [*, errW_none, errW_some] <;> rfl), bl_⟩
      replace H := ie_ H
      obtain ⟨c56b0, c56b1, H⟩ | ⟨c56b0, c56b1, c56, H⟩ := H
      ·obtain rfl := Option.some.inj H
       go_wp2
       go_ret
       exact ⟨by first | rfl | (simp [errW_none, errW_some] <;> rfl) | (simp only [← hji2]; first | rfl | (simp [errW_none, errW_some] <;> rfl)) | (simp [*, errW_none, errW_some] <;> rfl), bl_⟩
      replace H := ie_ H
      obtain ⟨c57b0, c57b1, H⟩ | ⟨c57b0, c57b1, c57, H⟩ := H
      ·obtain rfl := Option.some.inj H
       go_wp2
       go_ret
       exact ⟨by first | rfl | (simp [errW_none, errW_some] <;> rfl) | (simp only [← hji2]; first | rfl | (simp [errW_none, errW_some] <;> rfl)) | (simp [*, errW_none, errW_some] <;> rfl), bl_⟩
      replace H := ie_ H
      obtain ⟨c58b0, c58b1, H⟩ | ⟨c58b0, c58b1, c58, H⟩ := H
      ·obtain rfl := Option.some.inj H
       go_wp2
       go_ret
       exact ⟨by first | rfl | (simp [errW_none, errW_some] <;> rfl) | (simp only [← hji2]; first | rfl | (simp [errW_none, errW_some] <;> rfl)) | (simp [*, errW_none, errW_some] <;> rfl), bl_⟩
      replace H := ie_ H
      obtain ⟨c59b0, c59b1, H⟩ | ⟨c59b0, c59b1, c59, H⟩ := H
      ·obtain rfl := Option.some.inj H
       go_wp2
       go_ret
       exact ⟨by first | rfl | (simp [errW_none, errW_some] <;> rfl) | (simp only [← hji2]; first | rfl | (simp [errW_none, errW_some] <;> rfl)) | (simp [*, errW_none, errW_some] <;> rfl), bl_⟩
      have H' := Aside0.mk H
      clear H
      go_wp2
      go_roundg k1
      case measure => have := HK1.out; omega
      case rel => exact ⟨(wrap64 (x3_1 - 1)), er_, H', ⟨by have := HK1.out; omega⟩, ⟨bl_⟩⟩
     exact absurd H (by simp)
    exact absurd H (by simp)
   have c3b0 : decide (0 < x3_1) = false := decide_eq_false c3
   clear c3
   obtain rfl := Option.some.inj H
   go_wp2
   go_ret
   exact ⟨by first | rfl | (simp [errW_none, errW_some] <;> rfl) | (simp only [← hji2]; first | rfl | (simp [errW_none, errW_some] <;> rfl)) | (simp [*, errW_none, errW_some] <;> rfl), bl_⟩
def scan_first.j0 : Nat → ByteArray → Int → Bool → Option (Int × Int × Int)
 | 0, _, _, _ => none
 | k + 1, x0, x7, x20 => if x20 = true then (some (7, x7, 0)) else ((scan_comment.f x0).bind fun t122 => (if t122 < 0 then (some (0, 0, 20)) else (if t122 > 0 then (some (8, t122, 0)) else (if 0 < (x0.size : Int) then (if (bt x0 0) = 10 then (some (9, 1, 0)) else ((scan_quoted.f k x0).bind fun bt123 => (if bt123.2 > 0 then (some (bt123.1, bt123.2, 0)) else ((scan_word.f k x0).bind fun t125 => (if t125 > 0 then (some (1, t125, 0)) else ((scan_number.f k x0).bind fun t126 => (if t126 > 0 then (some (2, t126, 0)) else ((scan_punct.f k x0).bind fun t127 => (if t127 > 0 then (some (5, t127, 0)) else (if (bt x0 0) = 39 then (some (0, 0, 21)) else (if (bt x0 0) = 34 then (some (0, 0, 21)) else (some (6, 1, 0))))))))))))) else (none)))))
def scan_first.f (k : Nat) (a0 : ByteArray) (a1 : Bool) : Option (Int × Int × Int) := (scan_header.f k a0).bind fun t121 => (if a1 = true then (scan_first.j0 k a0 t121 (decide (t121 > 0))) else (scan_first.j0 k a0 t121 false))
theorem scan_first.mono_l : ∀ k, (∀ y0 y1 y2, LeO (scan_first.j0 k y0 y1 y2) (scan_first.j0 (k + 1) y0 y1 y2))
 | 0 => fun _ _ _ r h => by simp [scan_first.j0] at h
 | k + 1 => by
  have ih0 := scan_first.mono_l k
  intro y0 y1 y2
  unfold scan_first.j0
  repeat' first
  | (with_reducible exact ih0 _ _ _)
  | (with_reducible exact scan_header.mono _ _)
  | (with_reducible exact scan_number.mono _ _)
  | (with_reducible exact scan_punct.mono _ _)
  | (with_reducible exact scan_quoted.mono _ _)
  | (with_reducible exact scan_word.mono _ _)
  | (with_reducible exact LeO.refl _)
  | (with_reducible exact LeO.none _)
  | (with_reducible refine LeO.ite ?_ ?_)
  | (with_reducible refine LeO.bind ?_ (fun _ => ?_))
theorem scan_first.mono : ∀ a0 a1 k, LeO (scan_first.f k a0 a1) (scan_first.f (k + 1) a0 a1) := by
 intro a0 a1 k
 have ih0 := scan_first.mono_l k
 unfold scan_first.f
 repeat' first
   | (with_reducible exact ih0 _ _ _)
   | (with_reducible exact scan_header.mono _ _)
   | (with_reducible exact scan_number.mono _ _)
   | (with_reducible exact scan_punct.mono _ _)
   | (with_reducible exact scan_quoted.mono _ _)
   | (with_reducible exact scan_word.mono _ _)
   | (with_reducible exact LeO.refl _)
   | (with_reducible exact LeO.none _)
   | (with_reducible refine LeO.ite ?_ ?_)
   | (with_reducible refine LeO.bind ?_ (fun _ => ?_))
theorem scan_first.calls (k : Nat) (a0 : ByteArray) (a1 : Bool) (r1 : Int) (r2 : Int) (r3 : Int) (w : World) (hsh : SH w) (h : scan_first.f k a0 a1 = some (r1, r2, r3)) :
  Calls Tryd.prog 61 #[.string a0, .bool a1] w fun e w' => e = .returned (.tuple #[.int .i64 r1, .int .i64 r2, .int .i64 r3]) ∧ Below w.heap.size w w' := by
 have HSH := Aside0.mk hsh
 clear hsh
 have HB := Aside0.mk (Below.refl w.heap.size w)
 have H : ((scan_header.f k a0).bind fun t121 => (if a1 = true then (scan_first.j0 k a0 t121 (decide (t121 > 0))) else (scan_first.j0 k a0 t121 false))) = some (r1, r2, r3) := h
 clear h
 replace H := Option.bind_eq_some_iff.mp H
 obtain ⟨t121, A30, H⟩ := H
 replace H : (if a1 = true then (scan_first.j0 k a0 t121 (decide (t121 > 0))) else (scan_first.j0 k a0 t121 false)) = some (r1, r2, r3) := H
 have A3 := Aside0.mk A30
 clear A30
 have HC4 := Aside0.mk H
 clear H
 go_enter Tryd.func61, Tryd.ntmps61
 go_upto_region 2 with (first | ((with_reducible refine gate_callee (f := 72) rfl ?_); refine goesL_ (some 15) rfl rfl Tryd.func72 (by kernel_rfl) rfl #[.string a0] rfl ar_ ?_; (with_reducible refine (scan_header.calls k a0 t121 _ A3.out).mono ?_); rintro e w' ⟨rfl, ⟨nd, rfl⟩⟩; refine ⟨_, rfl, ?_⟩))
 (try simp only [Act.put, List.setIfInBounds_toArray, List.set_cons_zero, List.set_cons_succ])
 go_cut [20] (fun v20 wc => ∃ (kq : Nat) (x20_3 : Bool), v20 = .bool x20_3 ∧ Aside0 (scan_first.j0 kq a0 t121 x20_3 = some (r1, r2, r3)) ∧ Aside0 (kq ≤ k) ∧ Aside0 (Below w.heap.size w wc))
 case first =>
  have H := HC4.out
  clear HC4
  by_cases c5 : a1 = true
  ·subst c5
   have H1 : (scan_first.j0 k a0 t121 (decide (t121 > 0))) = some (r1, r2, r3) := by rw [if_pos rfl] at H; exact H
   clear H
   have H := H1
   clear H1
   have H' := Aside0.mk H
   clear H
   go_wp2
   go_meet
   case rel => exact ⟨_, (decide (t121 > 0)), er_, H', ⟨om_⟩, ⟨bl_⟩⟩
  replace c5 := Bool.eq_false_iff.mpr c5
  subst c5
  have H1 : (scan_first.j0 k a0 t121 false) = some (r1, r2, r3) := by rw [if_neg (show ¬ (false = true) by decide)] at H; exact H
  clear H
  have H := H1
  clear H1
  have H' := Aside0.mk H
  clear H
  go_wp2
  go_meet
  case rel => exact ⟨_, (false), er_, H', ⟨om_⟩, ⟨bl_⟩⟩
 case rest =>
  clear HC4
  try clear c5
  obtain ⟨kq, x20_3, rfl, HA, HJ3, HB⟩ := hcut
  cases kq with
  | zero => exact absurd HA.out (by simp [scan_first.j0])
  | succ kj3 =>
   have H := HA.out
   clear HA
   simp only [scan_first.j0] at H
   by_cases c6 : x20_3 = true
   ·subst c6
    have H1 : (some (7, t121, 0)) = some (r1, r2, r3) := by rw [if_pos rfl] at H; exact H
    clear H
    have H := H1
    clear H1
    simp only [Option.some.injEq, Prod.mk.injEq] at H
    obtain ⟨rfl, rfl, rfl⟩ := H
    go_wp2
    go_ret3
    exact ⟨es_, bl_⟩
   replace c6 := Bool.eq_false_iff.mpr c6
   subst c6
   have H1 : ((scan_comment.f a0).bind fun t122 => (if t122 < 0 then (some (0, 0, 20)) else (if t122 > 0 then (some (8, t122, 0)) else (if 0 < (a0.size : Int) then (if (bt a0 0) = 10 then (some (9, 1, 0)) else ((scan_quoted.f kj3 a0).bind fun bt123 => (if bt123.2 > 0 then (some (bt123.1, bt123.2, 0)) else ((scan_word.f kj3 a0).bind fun t125 => (if t125 > 0 then (some (1, t125, 0)) else ((scan_number.f kj3 a0).bind fun t126 => (if t126 > 0 then (some (2, t126, 0)) else ((scan_punct.f kj3 a0).bind fun t127 => (if t127 > 0 then (some (5, t127, 0)) else (if (bt a0 0) = 39 then (some (0, 0, 21)) else (if (bt a0 0) = 34 then (some (0, 0, 21)) else (some (6, 1, 0))))))))))))) else (none))))) = some (r1, r2, r3) := by rw [if_neg (show ¬ (false = true) by decide)] at H; exact H
   clear H
   have H := H1
   clear H1
   replace H := Option.bind_eq_some_iff.mp H
   obtain ⟨t122, A70, H⟩ := H
   replace H : (if t122 < 0 then (some (0, 0, 20)) else (if t122 > 0 then (some (8, t122, 0)) else (if 0 < (a0.size : Int) then (if (bt a0 0) = 10 then (some (9, 1, 0)) else ((scan_quoted.f kj3 a0).bind fun bt123 => (if bt123.2 > 0 then (some (bt123.1, bt123.2, 0)) else ((scan_word.f kj3 a0).bind fun t125 => (if t125 > 0 then (some (1, t125, 0)) else ((scan_number.f kj3 a0).bind fun t126 => (if t126 > 0 then (some (2, t126, 0)) else ((scan_punct.f kj3 a0).bind fun t127 => (if t127 > 0 then (some (5, t127, 0)) else (if (bt a0 0) = 39 then (some (0, 0, 21)) else (if (bt a0 0) = 34 then (some (0, 0, 21)) else (some (6, 1, 0))))))))))))) else (none)))) = some (r1, r2, r3) := H
   have A7 := Aside0.mk A70
   clear A70
   replace H := id_ H
   obtain ⟨-, c8b0, H⟩ | ⟨-, c8b0, H⟩ := H
   ·simp only [Option.some.injEq, Prod.mk.injEq] at H
    obtain ⟨rfl, rfl, rfl⟩ := H
    go_wp2_with (first | ((with_reducible refine gate_callee (f := 73) rfl ?_); refine goesL_ (some 23) rfl rfl Tryd.func73 (by kernel_rfl) rfl #[.string a0] rfl ar_ ?_; (with_reducible refine (scan_comment.calls a0 t122 _ ?side1 A7.out).mono ?_); (case side1 => first | exact SH.below HSH.out bl_ | (repeat (first | exact HSH.out | (with_reducible refine SH.drewN ?_ _) | (with_reducible refine SH.drew ?_) | (with_reducible refine SH.alloc ?_ _)))); rintro e w' ⟨rfl, ⟨nd, rfl⟩⟩; refine ⟨_, rfl, ?_⟩))
    go_ret3
    exact ⟨es_, bl_⟩
   replace H := ib_ H
   obtain ⟨c9, H⟩ | ⟨c9, H⟩ := H
   ·have c9b0 : decide (0 < t122) = true := decide_eq_true c9
    clear c9
    simp only [Option.some.injEq, Prod.mk.injEq] at H
    obtain ⟨rfl, rfl, rfl⟩ := H
    go_wp2_with (first | ((with_reducible refine gate_callee (f := 73) rfl ?_); refine goesL_ (some 23) rfl rfl Tryd.func73 (by kernel_rfl) rfl #[.string a0] rfl ar_ ?_; (with_reducible refine (scan_comment.calls a0 t122 _ ?side1 A7.out).mono ?_); (case side1 => first | exact SH.below HSH.out bl_ | (repeat (first | exact HSH.out | (with_reducible refine SH.drewN ?_ _) | (with_reducible refine SH.drew ?_) | (with_reducible refine SH.alloc ?_ _)))); rintro e w' ⟨rfl, ⟨nd, rfl⟩⟩; refine ⟨_, rfl, ?_⟩))
    go_ret3
    exact ⟨es_, bl_⟩
   have c9b0 : decide (0 < t122) = false := decide_eq_false c9
   clear c9
   replace H := ib_ H
   obtain ⟨c10, H⟩ | ⟨c10, H⟩ := H
   ·have c10b0 := decide_eq_true c10
    have c10b1 : decide (0 < a0.size) = true := decide_eq_true (by omega)
    clear c10
    replace H := ie_ H
    obtain ⟨c12b0, c12b1, H⟩ | ⟨c12b0, c12b1, c12, H⟩ := H
    ·simp only [Option.some.injEq, Prod.mk.injEq] at H
     obtain ⟨rfl, rfl, rfl⟩ := H
     go_wp2_with (first | ((with_reducible refine gate_callee (f := 73) rfl ?_); refine goesL_ (some 23) rfl rfl Tryd.func73 (by kernel_rfl) rfl #[.string a0] rfl ar_ ?_; (with_reducible refine (scan_comment.calls a0 t122 _ ?side1 A7.out).mono ?_); (case side1 => first | exact SH.below HSH.out bl_ | (repeat (first | exact HSH.out | (with_reducible refine SH.drewN ?_ _) | (with_reducible refine SH.drew ?_) | (with_reducible refine SH.alloc ?_ _)))); rintro e w' ⟨rfl, ⟨nd, rfl⟩⟩; refine ⟨_, rfl, ?_⟩; have p11 : 0 ≤ (0 : Int) := (by omega); have q11 : 0 < a0.size := (by have : (0 : Int) < (a0.size : Int) := da_; omega); have hx11 : ∀ h : 0 < a0.size, ((a0[0]'h).toNat : Int) = bt a0 0 := bt_at a0 0; clear p11; have qi11 : (0 < (a0.size : Int)) = True := eq_true da_; replace q11 := eq_true q11))
     go_ret3
     exact ⟨es_, bl_⟩
    replace H := Option.bind_eq_some_iff.mp H
    obtain ⟨⟨t123, t124⟩, A130, H⟩ := H
    replace H : (if t124 > 0 then (some (t123, t124, 0)) else ((scan_word.f kj3 a0).bind fun t125 => (if t125 > 0 then (some (1, t125, 0)) else ((scan_number.f kj3 a0).bind fun t126 => (if t126 > 0 then (some (2, t126, 0)) else ((scan_punct.f kj3 a0).bind fun t127 => (if t127 > 0 then (some (5, t127, 0)) else (if (bt a0 0) = 39 then (some (0, 0, 21)) else (if (bt a0 0) = 34 then (some (0, 0, 21)) else (some (6, 1, 0))))))))))) = some (r1, r2, r3) := H
    have A13 := Aside0.mk A130
    clear A130
    replace H := ib_ H
    obtain ⟨c14, H⟩ | ⟨c14, H⟩ := H
    ·have c14b0 : decide (0 < t124) = true := decide_eq_true c14
     clear c14
     simp only [Option.some.injEq, Prod.mk.injEq] at H
     obtain ⟨rfl, rfl, rfl⟩ := H
     go_wp2_with (first | ((with_reducible refine gate_callee (f := 73) rfl ?_); refine goesL_ (some 23) rfl rfl Tryd.func73 (by kernel_rfl) rfl #[.string a0] rfl ar_ ?_; (with_reducible refine (scan_comment.calls a0 t122 _ ?side1 A7.out).mono ?_); (case side1 => first | exact SH.below HSH.out bl_ | (repeat (first | exact HSH.out | (with_reducible refine SH.drewN ?_ _) | (with_reducible refine SH.drew ?_) | (with_reducible refine SH.alloc ?_ _)))); rintro e w' ⟨rfl, ⟨nd, rfl⟩⟩; refine ⟨_, rfl, ?_⟩; have p11 : 0 ≤ (0 : Int) := (by omega); have q11 : 0 < a0.size := (by have : (0 : Int) < (a0.size : Int) := da_; omega); have hx11 : ∀ h : 0 < a0.size, ((a0[0]'h).toNat : Int) = bt a0 0 := bt_at a0 0; clear p11; have qi11 : (0 < (a0.size : Int)) = True := eq_true da_; replace q11 := eq_true q11) | ((with_reducible refine gate_callee (f := 74) rfl ?_); refine goesL_ (some 36) rfl rfl Tryd.func74 (by kernel_rfl) rfl #[.string a0] rfl ar_ ?_; (with_reducible refine (scan_quoted.calls kj3 a0 t123 t124 _ A13.out).mono ?_); rintro e w15 ⟨rfl, hb⟩; refine ⟨_, rfl, ?_⟩; have n0_ := Aside0.mk (below_step bl_ hb); clear HB; have HB := n0_; clear n0_; (try clear hb); (try clear hb2); (try clear hk); (try clear hi)))
     go_ret3
     exact ⟨es_, bl_⟩
    have c14b0 : decide (0 < t124) = false := decide_eq_false c14
    clear c14
    replace H := Option.bind_eq_some_iff.mp H
    obtain ⟨t125, A160, H⟩ := H
    replace H : (if t125 > 0 then (some (1, t125, 0)) else ((scan_number.f kj3 a0).bind fun t126 => (if t126 > 0 then (some (2, t126, 0)) else ((scan_punct.f kj3 a0).bind fun t127 => (if t127 > 0 then (some (5, t127, 0)) else (if (bt a0 0) = 39 then (some (0, 0, 21)) else (if (bt a0 0) = 34 then (some (0, 0, 21)) else (some (6, 1, 0))))))))) = some (r1, r2, r3) := H
    have A16 := Aside0.mk A160
    clear A160
    replace H := ib_ H
    obtain ⟨c17, H⟩ | ⟨c17, H⟩ := H
    ·have c17b0 : decide (0 < t125) = true := decide_eq_true c17
     clear c17
     simp only [Option.some.injEq, Prod.mk.injEq] at H
     obtain ⟨rfl, rfl, rfl⟩ := H
     go_wp2_with (first | ((with_reducible refine gate_callee (f := 73) rfl ?_); refine goesL_ (some 23) rfl rfl Tryd.func73 (by kernel_rfl) rfl #[.string a0] rfl ar_ ?_; (with_reducible refine (scan_comment.calls a0 t122 _ ?side1 A7.out).mono ?_); (case side1 => first | exact SH.below HSH.out bl_ | (repeat (first | exact HSH.out | (with_reducible refine SH.drewN ?_ _) | (with_reducible refine SH.drew ?_) | (with_reducible refine SH.alloc ?_ _)))); rintro e w' ⟨rfl, ⟨nd, rfl⟩⟩; refine ⟨_, rfl, ?_⟩; have p11 : 0 ≤ (0 : Int) := (by omega); have q11 : 0 < a0.size := (by have : (0 : Int) < (a0.size : Int) := da_; omega); have hx11 : ∀ h : 0 < a0.size, ((a0[0]'h).toNat : Int) = bt a0 0 := bt_at a0 0; clear p11; have qi11 : (0 < (a0.size : Int)) = True := eq_true da_; replace q11 := eq_true q11) | ((with_reducible refine gate_callee (f := 74) rfl ?_); refine goesL_ (some 36) rfl rfl Tryd.func74 (by kernel_rfl) rfl #[.string a0] rfl ar_ ?_; (with_reducible refine (scan_quoted.calls kj3 a0 t123 t124 _ A13.out).mono ?_); rintro e w18 ⟨rfl, hb⟩; refine ⟨_, rfl, ?_⟩; have n0_ := Aside0.mk (below_step bl_ hb); clear HB; have HB := n0_; clear n0_; (try clear hb); (try clear hb2); (try clear hk); (try clear hi)) | ((with_reducible refine gate_callee (f := 75) rfl ?_); refine goesL_ (some 44) rfl rfl Tryd.func75 (by kernel_rfl) rfl #[.string a0] rfl ar_ ?_; (with_reducible refine (scan_word.calls kj3 a0 t125 _ A16.out).mono ?_); rintro e w' ⟨rfl, ⟨nd, rfl⟩⟩; refine ⟨_, rfl, ?_⟩))
     go_ret3
     exact ⟨es_, bl_⟩
    have c17b0 : decide (0 < t125) = false := decide_eq_false c17
    clear c17
    replace H := Option.bind_eq_some_iff.mp H
    obtain ⟨t126, A190, H⟩ := H
    replace H : (if t126 > 0 then (some (2, t126, 0)) else ((scan_punct.f kj3 a0).bind fun t127 => (if t127 > 0 then (some (5, t127, 0)) else (if (bt a0 0) = 39 then (some (0, 0, 21)) else (if (bt a0 0) = 34 then (some (0, 0, 21)) else (some (6, 1, 0))))))) = some (r1, r2, r3) := H
    have A19 := Aside0.mk A190
    clear A190
    replace H := ib_ H
    obtain ⟨c20, H⟩ | ⟨c20, H⟩ := H
    ·have c20b0 : decide (0 < t126) = true := decide_eq_true c20
     clear c20
     simp only [Option.some.injEq, Prod.mk.injEq] at H
     obtain ⟨rfl, rfl, rfl⟩ := H
     go_wp2_with (first | ((with_reducible refine gate_callee (f := 73) rfl ?_); refine goesL_ (some 23) rfl rfl Tryd.func73 (by kernel_rfl) rfl #[.string a0] rfl ar_ ?_; (with_reducible refine (scan_comment.calls a0 t122 _ ?side1 A7.out).mono ?_); (case side1 => first | exact SH.below HSH.out bl_ | (repeat (first | exact HSH.out | (with_reducible refine SH.drewN ?_ _) | (with_reducible refine SH.drew ?_) | (with_reducible refine SH.alloc ?_ _)))); rintro e w' ⟨rfl, ⟨nd, rfl⟩⟩; refine ⟨_, rfl, ?_⟩; have p11 : 0 ≤ (0 : Int) := (by omega); have q11 : 0 < a0.size := (by have : (0 : Int) < (a0.size : Int) := da_; omega); have hx11 : ∀ h : 0 < a0.size, ((a0[0]'h).toNat : Int) = bt a0 0 := bt_at a0 0; clear p11; have qi11 : (0 < (a0.size : Int)) = True := eq_true da_; replace q11 := eq_true q11) | ((with_reducible refine gate_callee (f := 74) rfl ?_); refine goesL_ (some 36) rfl rfl Tryd.func74 (by kernel_rfl) rfl #[.string a0] rfl ar_ ?_; (with_reducible refine (scan_quoted.calls kj3 a0 t123 t124 _ A13.out).mono ?_); rintro e w21 ⟨rfl, hb⟩; refine ⟨_, rfl, ?_⟩; have n0_ := Aside0.mk (below_step bl_ hb); clear HB; have HB := n0_; clear n0_; (try clear hb); (try clear hb2); (try clear hk); (try clear hi)) | ((with_reducible refine gate_callee (f := 75) rfl ?_); refine goesL_ (some 44) rfl rfl Tryd.func75 (by kernel_rfl) rfl #[.string a0] rfl ar_ ?_; (with_reducible refine (scan_word.calls kj3 a0 t125 _ A16.out).mono ?_); rintro e w' ⟨rfl, ⟨nd, rfl⟩⟩; refine ⟨_, rfl, ?_⟩) | ((with_reducible refine gate_callee (f := 76) rfl ?_); refine goesL_ (some 49) rfl rfl Tryd.func76 (by kernel_rfl) rfl #[.string a0] rfl ar_ ?_; (with_reducible refine (scan_number.calls kj3 a0 t126 _ A19.out).mono ?_); rintro e w' ⟨rfl, ⟨nd, rfl⟩⟩; refine ⟨_, rfl, ?_⟩))
     go_ret3
     exact ⟨es_, bl_⟩
    have c20b0 : decide (0 < t126) = false := decide_eq_false c20
    clear c20
    replace H := Option.bind_eq_some_iff.mp H
    obtain ⟨t127, A220, H⟩ := H
    replace H : (if t127 > 0 then (some (5, t127, 0)) else (if (bt a0 0) = 39 then (some (0, 0, 21)) else (if (bt a0 0) = 34 then (some (0, 0, 21)) else (some (6, 1, 0))))) = some (r1, r2, r3) := H
    have A22 := Aside0.mk A220
    clear A220
    replace H := ib_ H
    obtain ⟨c23, H⟩ | ⟨c23, H⟩ := H
    ·have c23b0 : decide (0 < t127) = true := decide_eq_true c23
     clear c23
     simp only [Option.some.injEq, Prod.mk.injEq] at H
     obtain ⟨rfl, rfl, rfl⟩ := H
     go_wp2_with (first | ((with_reducible refine gate_callee (f := 73) rfl ?_); refine goesL_ (some 23) rfl rfl Tryd.func73 (by kernel_rfl) rfl #[.string a0] rfl ar_ ?_; (with_reducible refine (scan_comment.calls a0 t122 _ ?side1 A7.out).mono ?_); (case side1 => first | exact SH.below HSH.out bl_ | (repeat (first | exact HSH.out | (with_reducible refine SH.drewN ?_ _) | (with_reducible refine SH.drew ?_) | (with_reducible refine SH.alloc ?_ _)))); rintro e w' ⟨rfl, ⟨nd, rfl⟩⟩; refine ⟨_, rfl, ?_⟩; have p11 : 0 ≤ (0 : Int) := (by omega); have q11 : 0 < a0.size := (by have : (0 : Int) < (a0.size : Int) := da_; omega); have hx11 : ∀ h : 0 < a0.size, ((a0[0]'h).toNat : Int) = bt a0 0 := bt_at a0 0; clear p11; have qi11 : (0 < (a0.size : Int)) = True := eq_true da_; replace q11 := eq_true q11) | ((with_reducible refine gate_callee (f := 74) rfl ?_); refine goesL_ (some 36) rfl rfl Tryd.func74 (by kernel_rfl) rfl #[.string a0] rfl ar_ ?_; (with_reducible refine (scan_quoted.calls kj3 a0 t123 t124 _ A13.out).mono ?_); rintro e w24 ⟨rfl, hb⟩; refine ⟨_, rfl, ?_⟩; have n0_ := Aside0.mk (below_step bl_ hb); clear HB; have HB := n0_; clear n0_; (try clear hb); (try clear hb2); (try clear hk); (try clear hi)) | ((with_reducible refine gate_callee (f := 75) rfl ?_); refine goesL_ (some 44) rfl rfl Tryd.func75 (by kernel_rfl) rfl #[.string a0] rfl ar_ ?_; (with_reducible refine (scan_word.calls kj3 a0 t125 _ A16.out).mono ?_); rintro e w' ⟨rfl, ⟨nd, rfl⟩⟩; refine ⟨_, rfl, ?_⟩) | ((with_reducible refine gate_callee (f := 76) rfl ?_); refine goesL_ (some 49) rfl rfl Tryd.func76 (by kernel_rfl) rfl #[.string a0] rfl ar_ ?_; (with_reducible refine (scan_number.calls kj3 a0 t126 _ A19.out).mono ?_); rintro e w' ⟨rfl, ⟨nd, rfl⟩⟩; refine ⟨_, rfl, ?_⟩) | ((with_reducible refine gate_callee (f := 77) rfl ?_); refine goesL_ (some 54) rfl rfl Tryd.func77 (by kernel_rfl) rfl #[.string a0] rfl ar_ ?_; (with_reducible refine (scan_punct.calls kj3 a0 t127 _ A22.out).mono ?_); rintro e w25 ⟨rfl, hb⟩; refine ⟨_, rfl, ?_⟩; have n0_ := Aside0.mk (below_step bl_ hb); clear HB; have HB := n0_; clear n0_; (try clear hb); (try clear hb2); (try clear hk); (try clear hi)))
     go_ret3
     exact ⟨es_, bl_⟩
    have c23b0 : decide (0 < t127) = false := decide_eq_false c23
    clear c23
    replace H := ie_ H
    obtain ⟨c27b0, c27b1, H⟩ | ⟨c27b0, c27b1, c27, H⟩ := H
    ·simp only [Option.some.injEq, Prod.mk.injEq] at H
     obtain ⟨rfl, rfl, rfl⟩ := H
     go_wp2_with (first | ((with_reducible refine gate_callee (f := 73) rfl ?_); refine goesL_ (some 23) rfl rfl Tryd.func73 (by kernel_rfl) rfl #[.string a0] rfl ar_ ?_; (with_reducible refine (scan_comment.calls a0 t122 _ ?side1 A7.out).mono ?_); (case side1 => first | exact SH.below HSH.out bl_ | (repeat (first | exact HSH.out | (with_reducible refine SH.drewN ?_ _) | (with_reducible refine SH.drew ?_) | (with_reducible refine SH.alloc ?_ _)))); rintro e w' ⟨rfl, ⟨nd, rfl⟩⟩; refine ⟨_, rfl, ?_⟩; have p11 : 0 ≤ (0 : Int) := (by omega); have q11 : 0 < a0.size := (by have : (0 : Int) < (a0.size : Int) := da_; omega); have hx11 : ∀ h : 0 < a0.size, ((a0[0]'h).toNat : Int) = bt a0 0 := bt_at a0 0; clear p11; have qi11 : (0 < (a0.size : Int)) = True := eq_true da_; replace q11 := eq_true q11) | ((with_reducible refine gate_callee (f := 74) rfl ?_); refine goesL_ (some 36) rfl rfl Tryd.func74 (by kernel_rfl) rfl #[.string a0] rfl ar_ ?_; (with_reducible refine (scan_quoted.calls kj3 a0 t123 t124 _ A13.out).mono ?_); rintro e w28 ⟨rfl, hb⟩; refine ⟨_, rfl, ?_⟩; have n0_ := Aside0.mk (below_step bl_ hb); clear HB; have HB := n0_; clear n0_; (try clear hb); (try clear hb2); (try clear hk); (try clear hi)) | ((with_reducible refine gate_callee (f := 75) rfl ?_); refine goesL_ (some 44) rfl rfl Tryd.func75 (by kernel_rfl) rfl #[.string a0] rfl ar_ ?_; (with_reducible refine (scan_word.calls kj3 a0 t125 _ A16.out).mono ?_); rintro e w' ⟨rfl, ⟨nd, rfl⟩⟩; refine ⟨_, rfl, ?_⟩) | ((with_reducible refine gate_callee (f := 76) rfl ?_); refine goesL_ (some 49) rfl rfl Tryd.func76 (by kernel_rfl) rfl #[.string a0] rfl ar_ ?_; (with_reducible refine (scan_number.calls kj3 a0 t126 _ A19.out).mono ?_); rintro e w' ⟨rfl, ⟨nd, rfl⟩⟩; refine ⟨_, rfl, ?_⟩) | ((with_reducible refine gate_callee (f := 77) rfl ?_); refine goesL_ (some 54) rfl rfl Tryd.func77 (by kernel_rfl) rfl #[.string a0] rfl ar_ ?_; (with_reducible refine (scan_punct.calls kj3 a0 t127 _ A22.out).mono ?_); rintro e w29 ⟨rfl, hb⟩; refine ⟨_, rfl, ?_⟩; have n0_ := Aside0.mk (below_step bl_ hb); clear HB; have HB := n0_; clear n0_; (try clear hb); (try clear hb2); (try clear hk); (try clear hi); have p26 : 0 ≤ (0 : Int) := (by omega); have q26 : 0 < a0.size := (by have : (0 : Int) < (a0.size : Int) := da_; omega); have hx26 : ∀ h : 0 < a0.size, ((a0[0]'h).toNat : Int) = bt a0 0 := bt_at a0 0; clear p26; have qi26 : (0 < (a0.size : Int)) = True := eq_true da_; replace q26 := eq_true q26))
     go_ret3
     exact ⟨es_, bl_⟩
    replace H := ie_ H
    obtain ⟨c31b0, c31b1, H⟩ | ⟨c31b0, c31b1, c31, H⟩ := H
    ·simp only [Option.some.injEq, Prod.mk.injEq] at H
     obtain ⟨rfl, rfl, rfl⟩ := H
     go_wp2_with (first | ((with_reducible refine gate_callee (f := 73) rfl ?_); refine goesL_ (some 23) rfl rfl Tryd.func73 (by kernel_rfl) rfl #[.string a0] rfl ar_ ?_; (with_reducible refine (scan_comment.calls a0 t122 _ ?side1 A7.out).mono ?_); (case side1 => first | exact SH.below HSH.out bl_ | (repeat (first | exact HSH.out | (with_reducible refine SH.drewN ?_ _) | (with_reducible refine SH.drew ?_) | (with_reducible refine SH.alloc ?_ _)))); rintro e w' ⟨rfl, ⟨nd, rfl⟩⟩; refine ⟨_, rfl, ?_⟩; have p11 : 0 ≤ (0 : Int) := (by omega); have q11 : 0 < a0.size := (by have : (0 : Int) < (a0.size : Int) := da_; omega); have hx11 : ∀ h : 0 < a0.size, ((a0[0]'h).toNat : Int) = bt a0 0 := bt_at a0 0; clear p11; have qi11 : (0 < (a0.size : Int)) = True := eq_true da_; replace q11 := eq_true q11) | ((with_reducible refine gate_callee (f := 74) rfl ?_); refine goesL_ (some 36) rfl rfl Tryd.func74 (by kernel_rfl) rfl #[.string a0] rfl ar_ ?_; (with_reducible refine (scan_quoted.calls kj3 a0 t123 t124 _ A13.out).mono ?_); rintro e w32 ⟨rfl, hb⟩; refine ⟨_, rfl, ?_⟩; have n0_ := Aside0.mk (below_step bl_ hb); clear HB; have HB := n0_; clear n0_; (try clear hb); (try clear hb2); (try clear hk); (try clear hi)) | ((with_reducible refine gate_callee (f := 75) rfl ?_); refine goesL_ (some 44) rfl rfl Tryd.func75 (by kernel_rfl) rfl #[.string a0] rfl ar_ ?_; (with_reducible refine (scan_word.calls kj3 a0 t125 _ A16.out).mono ?_); rintro e w' ⟨rfl, ⟨nd, rfl⟩⟩; refine ⟨_, rfl, ?_⟩) | ((with_reducible refine gate_callee (f := 76) rfl ?_); refine goesL_ (some 49) rfl rfl Tryd.func76 (by kernel_rfl) rfl #[.string a0] rfl ar_ ?_; (with_reducible refine (scan_number.calls kj3 a0 t126 _ A19.out).mono ?_); rintro e w' ⟨rfl, ⟨nd, rfl⟩⟩; refine ⟨_, rfl, ?_⟩) | ((with_reducible refine gate_callee (f := 77) rfl ?_); refine goesL_ (some 54) rfl rfl Tryd.func77 (by kernel_rfl) rfl #[.string a0] rfl ar_ ?_; (with_reducible refine (scan_punct.calls kj3 a0 t127 _ A22.out).mono ?_); rintro e w33 ⟨rfl, hb⟩; refine ⟨_, rfl, ?_⟩; have n0_ := Aside0.mk (below_step bl_ hb); clear HB; have HB := n0_; clear n0_; (try clear hb); (try clear hb2); (try clear hk); (try clear hi); have p26 : 0 ≤ (0 : Int) := (by omega); have q26 : 0 < a0.size := (by have : (0 : Int) < (a0.size : Int) := da_; omega); have hx26 : ∀ h : 0 < a0.size, ((a0[0]'h).toNat : Int) = bt a0 0 := bt_at a0 0; clear p26; have qi26 : (0 < (a0.size : Int)) = True := eq_true da_; replace q26 := eq_true q26; have p30 : 0 ≤ (0 : Int) := (by omega); have q30 : 0 < a0.size := (by have : (0 : Int) < (a0.size : Int) := da_; omega); have hx30 : ∀ h : 0 < a0.size, ((a0[0]'h).toNat : Int) = bt a0 0 := bt_at a0 0; clear p30; have qi30 : (0 < (a0.size : Int)) = True := eq_true da_; replace q30 := eq_true q30))
     go_ret3
     exact ⟨es_, bl_⟩
    simp only [Option.some.injEq, Prod.mk.injEq] at H
    obtain ⟨rfl, rfl, rfl⟩ := H
    go_wp2_with (first | ((with_reducible refine gate_callee (f := 73) rfl ?_); refine goesL_ (some 23) rfl rfl Tryd.func73 (by kernel_rfl) rfl #[.string a0] rfl ar_ ?_; (with_reducible refine (scan_comment.calls a0 t122 _ ?side1 A7.out).mono ?_); (case side1 => first | exact SH.below HSH.out bl_ | (repeat (first | exact HSH.out | (with_reducible refine SH.drewN ?_ _) | (with_reducible refine SH.drew ?_) | (with_reducible refine SH.alloc ?_ _)))); rintro e w' ⟨rfl, ⟨nd, rfl⟩⟩; refine ⟨_, rfl, ?_⟩; have p11 : 0 ≤ (0 : Int) := (by omega); have q11 : 0 < a0.size := (by have : (0 : Int) < (a0.size : Int) := da_; omega); have hx11 : ∀ h : 0 < a0.size, ((a0[0]'h).toNat : Int) = bt a0 0 := bt_at a0 0; clear p11; have qi11 : (0 < (a0.size : Int)) = True := eq_true da_; replace q11 := eq_true q11) | ((with_reducible refine gate_callee (f := 74) rfl ?_); refine goesL_ (some 36) rfl rfl Tryd.func74 (by kernel_rfl) rfl #[.string a0] rfl ar_ ?_; (with_reducible refine (scan_quoted.calls kj3 a0 t123 t124 _ A13.out).mono ?_); rintro e w34 ⟨rfl, hb⟩; refine ⟨_, rfl, ?_⟩; have n0_ := Aside0.mk (below_step bl_ hb); clear HB; have HB := n0_; clear n0_; (try clear hb); (try clear hb2); (try clear hk); (try clear hi)) | ((with_reducible refine gate_callee (f := 75) rfl ?_); refine goesL_ (some 44) rfl rfl Tryd.func75 (by kernel_rfl) rfl #[.string a0] rfl ar_ ?_; (with_reducible refine (scan_word.calls kj3 a0 t125 _ A16.out).mono ?_); rintro e w' ⟨rfl, ⟨nd, rfl⟩⟩; refine ⟨_, rfl, ?_⟩) | ((with_reducible refine gate_callee (f := 76) rfl ?_); refine goesL_ (some 49) rfl rfl Tryd.func76 (by kernel_rfl) rfl #[.string a0] rfl ar_ ?_; (with_reducible refine (scan_number.calls kj3 a0 t126 _ A19.out).mono ?_); rintro e w' ⟨rfl, ⟨nd, rfl⟩⟩; refine ⟨_, rfl, ?_⟩) | ((with_reducible refine gate_callee (f := 77) rfl ?_); refine goesL_ (some 54) rfl rfl Tryd.func77 (by kernel_rfl) rfl #[.string a0] rfl ar_ ?_; (with_reducible refine (scan_punct.calls kj3 a0 t127 _ A22.out).mono ?_); rintro e w35 ⟨rfl, hb⟩; refine ⟨_, rfl, ?_⟩; have n0_ := Aside0.mk (below_step bl_ hb); clear HB; have HB := n0_; clear n0_; (try clear hb); (try clear hb2); (try clear hk); (try clear hi); have p26 : 0 ≤ (0 : Int) := (by omega); have q26 : 0 < a0.size := (by have : (0 : Int) < (a0.size : Int) := da_; omega); have hx26 : ∀ h : 0 < a0.size, ((a0[0]'h).toNat : Int) = bt a0 0 := bt_at a0 0; clear p26; have qi26 : (0 < (a0.size : Int)) = True := eq_true da_; replace q26 := eq_true q26; have p30 : 0 ≤ (0 : Int) := (by omega); have q30 : 0 < a0.size := (by have : (0 : Int) < (a0.size : Int) := da_; omega); have hx30 : ∀ h : 0 < a0.size, ((a0[0]'h).toNat : Int) = bt a0 0 := bt_at a0 0; clear p30; have qi30 : (0 < (a0.size : Int)) = True := eq_true da_; replace q30 := eq_true q30))
    go_ret3
    exact ⟨es_, bl_⟩
   exact absurd H (by simp)
end Go.Proofs.YtcdleippdegibaaDoor.PS
namespace Go.Proofs.YtcdleippdegibaaDoor.PH
open Go.RowKit Go.Proofs.YtcdleippdegibaaDoorW.PrintWords Go.Proofs.YtcdleippdegibaaDoorW.PrintLast Go.Proofs.YtcdleippdegibaaDoorW.PrintMore
open Go.Proofs.YtcdleippdegibaaDoor.PK
attribute [local go_sem] max2_int min2_int max_two min_two max_three min_three max_four min_four
def errW : Option Int → Value
 | none => .nilIface
 | some c => .iface 0 (.int .i64 c)
theorem errW_none : errW none = .nilIface := rfl
theorem errW_some (c : Int) : errW (some c) = .iface 0 (.int .i64 c) := rfl
def scan_white.f (a0 : Int) : Option (Bool) := if a0 = 32 then (some true) else (if a0 = 9 then (some true) else (if a0 = 11 then (some true) else (some (a0 == 12))))
theorem scan_white.calls (a0 : Int) (r : Bool) (w : World) (h : scan_white.f a0 = some r) :
  Calls Tryd.prog 60 #[.int .u8 a0] w fun e w' => e = .returned (.bool r) ∧ Drawn0 w w' := by
 have H : (if a0 = 32 then (some true) else (if a0 = 9 then (some true) else (if a0 = 11 then (some true) else (some (a0 == 12))))) = some r := h
 clear h
 replace H := ie_ H
 obtain ⟨c2b0, c2b1, H⟩ | ⟨c2b0, c2b1, c2, H⟩ := H
 ·obtain rfl := Option.some.inj H
  go_enter Tryd.func60, Tryd.ntmps60
  go_wp2
  go_ret
  exact ⟨er_, dr_⟩
 replace H := ie_ H
 obtain ⟨c3b0, c3b1, H⟩ | ⟨c3b0, c3b1, c3, H⟩ := H
 ·obtain rfl := Option.some.inj H
  go_enter Tryd.func60, Tryd.ntmps60
  go_wp2
  go_ret
  exact ⟨er_, dr_⟩
 replace H := ie_ H
 obtain ⟨c4b0, c4b1, H⟩ | ⟨c4b0, c4b1, c4, H⟩ := H
 ·obtain rfl := Option.some.inj H
  go_enter Tryd.func60, Tryd.ntmps60
  go_wp2
  go_ret
  exact ⟨er_, dr_⟩
 obtain rfl := Option.some.inj H
 go_enter Tryd.func60, Tryd.ntmps60
 go_wp2
 go_ret
 exact ⟨er_, dr_⟩
end Go.Proofs.YtcdleippdegibaaDoor.PH
namespace Go.Proofs.YtcdleippdegibaaDoor.One
open Go.RowKit Go.Shelf Go.Proofs Go.Proofs.YtcdleippdegibaaDoorW.PrintWords Go.Proofs.YtcdleippdegibaaDoor.Iter Go.Proofs.YtcdleippdegibaaDoor.PS Go.Proofs.YtcdleippdegibaaDoor.PH Go.Proofs.YtcdleippdegibaaDoor.LibG Go.Proofs.YtcdleippdegibaaDoor.First
attribute [local go_sem] Oper.semAt_some
def whiteB (b : UInt8) : Bool := b == 32 || b == 9 || b == 11 || b == 12
def wsk (l : List UInt8) : Nat := (l.takeWhile whiteB).length
theorem white_f (b : UInt8) : scan_white.f (b.toNat : Int) = some (whiteB b) := by
 have h : ∀ q : UInt8, ((b.toNat : Int) = (q.toNat : Int)) ↔ b = q := fun q => by rw [← UInt8.toNat_inj]; omega
 unfold scan_white.f whiteB
 have h32 := h 32
 have h9 := h 9
 have h11 := h 11
 have h12 := h 12
 simp only [show (((32 : UInt8).toNat : Int)) = 32 from rfl, show (((9 : UInt8).toNat : Int)) = 9 from rfl, show (((11 : UInt8).toNat : Int)) = 11 from rfl, show (((12 : UInt8).toNat : Int)) = 12 from rfl] at h32 h9 h11 h12
 by_cases e1 : b = 32
 ·rw [if_pos (h32.2 e1)]; simp [e1]
 rw [if_neg (fun q => e1 (h32.1 q))]
 by_cases e2 : b = 9
 ·rw [if_pos (h9.2 e2)]; simp [e2]
 rw [if_neg (fun q => e2 (h9.1 q))]
 by_cases e3 : b = 11
 ·rw [if_pos (h11.2 e3)]; simp [e3]
 rw [if_neg (fun q => e3 (h11.1 q))]
 by_cases e4 : b = 12
 ·subst e4; rfl
 have : ¬ ((b.toNat : Int) = 12) := fun q => e4 (h12.1 q)
 rw [beq_eq_false_iff_ne.mpr this, beq_eq_false_iff_ne.mpr e1, beq_eq_false_iff_ne.mpr e2, beq_eq_false_iff_ne.mpr e3, beq_eq_false_iff_ne.mpr e4]
 rfl
theorem wsk_le : ∀ l : List UInt8, wsk l ≤ l.length := fun _ => (List.takeWhile_sublist _).length_le
theorem wsk_before : ∀ (l : List UInt8) (j : Nat), j < wsk l → ∃ h : j < l.length, whiteB l[j] = true
 | [], j, h => by simp [wsk] at h
 | b :: r, j, h => by
  unfold wsk at h
  rw [List.takeWhile_cons] at h
  split at h
  ·rename_i hb
   cases j with
   | zero => exact ⟨by simp, hb⟩
   | succ j =>
    obtain ⟨h1, h2⟩ := wsk_before r j (by simpa [wsk] using h)
    exact ⟨by simpa using h1, by simpa using h2⟩
  simp at h
theorem wsk_at : ∀ (l : List UInt8) (h : wsk l < l.length), whiteB (l[wsk l]) = false
 | [], h => by simp at h
 | b :: r, h => by
  by_cases hb : whiteB b = true
  ·have e : wsk (b :: r) = wsk r + 1 := by unfold wsk; rw [List.takeWhile_cons, if_pos hb]; rfl
   simp only [e, List.getElem_cons_succ]
   exact wsk_at r (by simp [e] at h; omega)
  have e : wsk (b :: r) = 0 := by unfold wsk; rw [List.takeWhile_cons, if_neg hb]; rfl
  simp only [e, List.getElem_cons_zero]
  simpa using hb
def firstTok (k : Nat) (t : ByteArray) : Option (Option (Value × Value)) :=
 if wsk t.data.toList < t.size then (scan_first.f k (t.extract (wsk t.data.toList) t.size) false).bind fun r =>
  if 0 ≤ r.2.1 ∧ r.2.1 ≤ (t.size : Int) - wsk t.data.toList then some (some (.agg #[.int .i64 r.1, .string (t.extract (wsk t.data.toList) ((wsk t.data.toList : Int) + r.2.1).toNat), .int .i64 (wsk t.data.toList : Int), .int .i64 ((wsk t.data.toList : Int) + r.2.1), .bool (decide (0 < wsk t.data.toList))], .int .i64 r.2.2)) else none
 else some none
set_option maxHeartbeats 4000000 in
theorem tokens1_first (n : Nat) (hn : 1 ≤ n) (Bs k : Nat) (t : ByteArray) (hs : t.size ≤ maxLen) (D : Option (Value × Value)) (hD : firstTok k t = some D) (w : World) (hsh : SH w) (hBs : w.cell? ⟨Bs, 0, none⟩ = some (.string t)) :
  SeqFirst Fence.wide n Tryd.prog 59 #[.pointer (some ⟨Bs, 0, none⟩)] (fun x : Value × Value => #[x.1, x.2]) D w := by
 intro l J Jx W hW hJ hJx hY h0
 unfold maxLen at hs
 have hcs0 : W.cell? ⟨Bs, 0, none⟩ = some (.string t) := (hW.cell (p := ⟨Bs, 0, none⟩) (World.block_lt_of_cell? _ _ hBs)).trans hBs
 have hsh0 := hsh.below hW
 have hws := wsk_le t.data.toList
 have hsz : t.data.toList.length = t.size := by simp
 have hbef := wsk_before t.data.toList
 have hat := wsk_at t.data.toList
 unfold firstTok at hD
 obtain ⟨ws, hwse⟩ : ∃ ws, wsk t.data.toList = ws := ⟨_, rfl⟩
 simp only [hwse] at hD hws hbef hat
 refine callsIn_of_wp Tryd.func59 rfl trivial ?_ rfl
 simp only [Tryd.ntmps59, List.size_toArray, List.length_cons, List.length_nil, Nat.reduceAdd, Nat.reduceSub, Array.replicate_succ, Array.replicate_zero, List.push_toArray, List.append_toArray, List.nil_append, List.cons_append]
 gi_wp2
 gi_loopw [3, 4, 5] (fun ln at_ sp wr => ∃ i : Nat, i ≤ ws ∧ ln = .slice none 0 0 ∧ at_ = .int .i64 i ∧ sp = .bool (decide (0 < i)) ∧ Below W.heap.size W wr)
  (fun _ i _ _ => t.size - (intOf i).toNat)
 case atStart => exact ⟨0, Nat.zero_le _, rfl, rfl, rfl, Below.refl _ _⟩
 case round =>
  obtain ⟨i, hi, rfl, rfl, rfl, hB⟩ := hrel
  have hcs : wr.cell? ⟨Bs, 0, none⟩ = some (.string t) := (hB.cell (p := ⟨Bs, 0, none⟩) (World.block_lt_of_cell? _ _ hcs0)).trans hcs0
  by_cases hlt : i < t.size
  ·by_cases hiw : i < ws
   ·obtain ⟨hl, hwb⟩ := hbef i hiw
    have hwf : scan_white.f ((t[i]'hlt).toNat : Int) = some true := by rw [white_f]; exact congrArg some hwb
    gi_wp2_with (refine ⟨trivial, ?_⟩; gi_at_call 60; refine (callsIn_wide.2 (scan_white.calls _ _ _ hwf)).mono ?_; rintro e w' ⟨rfl, ⟨nd, rfl⟩⟩)
    go_roundw
    case rel => exact ⟨i + 1, by omega, rfl, by simp, by simp, pw_below_drewN hB nd⟩
    case measure => simp [intOf]; omega
   have hie : i = ws := by omega
   subst hie
   have hwf : scan_white.f ((t[i]'hlt).toNat : Int) = some false := by rw [white_f]; exact congrArg some (hat (by rw [hsz]; exact hlt))
   rw [if_pos hlt] at hD
   obtain ⟨⟨kd, m, er⟩, hf, hD⟩ := Option.bind_eq_some_iff.1 hD
   simp only at hD
   split at hD
   ·rename_i hm
    obtain ⟨hm0, hm1⟩ := hm
    obtain rfl := Option.some.inj hD
    have HF := Lib.hid hf
    clear hf hD hat hbef hwse hws hi hiw
    have shr := (hsh0.below hB)
    have h1 : 0 ≤ (i : Int) + m := by omega
    have h3 : (i : Int) + m ≤ (t.size : Int) := by omega
    have hsl : ∀ w, (Instr.slice 9 (.string t) (some (.int .i64 (i : Int))) (some (.int .i64 ((i : Int) + m))) none).run Tryd.prog w = .ok (.string (t.extract i ((i : Int) + m).toNat)) w := fun w => by
     have := run_slice_string (P := Tryd.prog) w 9 t .i64 .i64 (i : Int) ((i : Int) + m) Tryd.underlying9 (by omega) (by omega) h3
     rwa [Int.toNat_natCast] at this
    gi_wp2_with (first | (refine ⟨trivial, ?_⟩; gi_at_call 60; refine (callsIn_wide.2 (scan_white.calls _ _ _ hwf)).mono ?_; rintro e w' ⟨rfl, ⟨nd, rfl⟩⟩) | (refine ⟨trivial, ?_⟩; gi_at_call 61; refine (callsIn_wide.2 (scan_first.calls k _ _ _ _ _ _ (shr.drewN _) HF.out)).mono ?_; rintro e w2 ⟨rfl, hb2⟩; have hcs2 : w2.cell? ⟨Bs, 0, none⟩ = some (.string t) := (hb2.cell (p := ⟨Bs, 0, none⟩) (World.block_lt_of_cell? _ _ (show (wr.drewN nd).cell? ⟨Bs, 0, none⟩ = some (.string t) from hcs))).trans hcs))
    have hB2 : Below W.heap.size W w2 := (pw_below_drewN hB nd).trans (hb2.mono (show W.heap.size ≤ (wr.drewN nd).heap.size from hB.size))
    have hB3 := hB2.alloc hB2.size (.cells #[.int .i64 kd, .string (t.extract i ((i : Int) + m).toNat), .int .i64 (i : Int), .int .i64 ((i : Int) + m), .bool (decide (0 < i))] 44)
    obtain ⟨fn, tmps, assign, body, hy, hR⟩ := hY _ _ rfl (hJ _ _ h0 hB3) hB3
    simp only at hy
    clear hY hD
    rw [hy]
    gi_wp2
    refine hR.mono ?_
    rintro e W3 ⟨rfl, hx3⟩
    gi_wp2
    refine bodyPost_ret (results_none rfl _ _ _) rfl ?_
    exact ⟨⟨_, rfl⟩, .inr ⟨_, rfl, hx3⟩⟩
   cases hD
  have hie : i = ws := by omega
  rw [if_neg (by omega)] at hD
  obtain rfl := Option.some.inj hD
  have hJw := hJ _ _ h0 hB
  clear hat hbef
  gi_wp2
  go_end0
  first | exact ⟨⟨_, rfl⟩, .inl ⟨rfl, hJw⟩⟩ | exact ⟨⟨_, rfl⟩, hJw⟩ | trace_state
set_option maxHeartbeats 1000000 in
theorem tokens_calls (t : ByteArray) (w : World) :
  Calls Tryd.prog 48 #[.string t] w fun e w' => e = .returned (.func (.func 59) #[] #[.pointer (some ⟨w.heap.size, 0, none⟩)]) ∧ w' = w.alloc (.cells #[.string t] 9) := by
 refine (callsIn_wide (n := 3)).1 ?_
 refine callsIn_of_wp Tryd.func48 rfl trivial ?_ rfl
 simp only [Tryd.ntmps48, List.size_toArray, List.length_cons, List.length_nil, Nat.reduceAdd, Nat.reduceSub, Array.replicate_succ, Array.replicate_zero, List.push_toArray, List.append_toArray, List.nil_append, List.cons_append]
 gi_wp2
 go_ret
 exact ⟨by simp, rfl⟩
theorem put_two {w W : World} {n0 : Nat} (_hn : w.heap.size = n0) (hBW : Below n0 w W) (q2 : W.heap[n0 + 1]? = some (.cells #[.int .i64 0] 3)) (q3 : W.heap[n0 + 1 + 1]? = some (.cells #[.bool false] 4)) (X : Int) (bb : Bool) :
  KeepsOthers W ((W.setCell ⟨n0 + 1, 0, none⟩ (.int .i64 X)).setCell ⟨n0 + 1 + 1, 0, none⟩ (.bool bb)) ∧ Below n0 w ((W.setCell ⟨n0 + 1, 0, none⟩ (.int .i64 X)).setCell ⟨n0 + 1 + 1, 0, none⟩ (.bool bb)) ∧
   ((W.setCell ⟨n0 + 1, 0, none⟩ (.int .i64 X)).setCell ⟨n0 + 1 + 1, 0, none⟩ (.bool bb)).heap[n0 + 1]? = some (.cells #[.int .i64 X] 3) ∧
   ((W.setCell ⟨n0 + 1, 0, none⟩ (.int .i64 X)).setCell ⟨n0 + 1 + 1, 0, none⟩ (.bool bb)).heap[n0 + 1 + 1]? = some (.cells #[.bool bb] 4) :=
 ⟨(KeepsOthers.setCell _ _ _).trans (KeepsOthers.setCell _ _ _), (hBW.setCell (p := ⟨n0 + 1, 0, none⟩) (by simp) _).setCell (p := ⟨n0 + 1 + 1, 0, none⟩) (by simp; omega) _,
  blk_far (blk_put (cs := #[.int .i64 0]) q2 0 _ rfl) (by simp) _, blk_put (cs := #[.bool false]) (blk_far q3 (by simp) _) 0 _ rfl⟩
set_option maxHeartbeats 4000000 in
theorem one_any (k : Nat) (t : ByteArray) (hs : t.size ≤ maxLen) (D : Option (Value × Value)) (hD : firstTok k t = some D) (R : Int × Bool)
  (hR0 : D = none → R = (0, false)) (hR1 : ∀ (kd : Int) (x : ByteArray) (a b : Int) (c : Bool) (er : Int), D = some (.agg #[.int .i64 kd, .string x, .int .i64 a, .int .i64 b, .bool c], .int .i64 er) → R = if er ≠ 0 ∨ x ≠ t then (0, false) else (kd, true))
  (hDs : D = none ∨ ∃ (kd : Int) (x : ByteArray) (a b : Int) (c : Bool) (er : Int), D = some (.agg #[.int .i64 kd, .string x, .int .i64 a, .int .i64 b, .bool c], .int .i64 er)) (w : World) (hsh : SH w) :
  Calls Tryd.prog 37 #[.string t] w fun e w' => e = .returned (.tuple #[.int .i64 R.1, .bool R.2]) ∧ Below w.heap.size w w' := by
 refine calls_marks (callsIn_of_wp_marks Tryd.func37 rfl trivial ?_ rfl)
 simp only [Tryd.ntmps37, List.size_toArray, List.length_cons, List.length_nil, Nat.reduceAdd, Nat.reduceSub, Array.replicate_succ, Array.replicate_zero, List.push_toArray, List.append_toArray, List.nil_append, List.cons_append]
 gi_wp2_with (refine ⟨trivial, ?_⟩; gi_at_call 48; refine (callsIn_wide.2 (tokens_calls _ _)).mono ?_; rintro e w' ⟨rfl, rfl⟩)
 obtain ⟨W0, hW0⟩ : ∃ W0, (((w.alloc (.cells #[.string t] 9)).alloc (.cells #[.int .i64 0] 3)).alloc (.cells #[.bool false] 4)).alloc (.cells #[.string t] 9) = W0 := ⟨_, rfl⟩
 have pt : W0.heap[w.heap.size]? = some (.cells #[.string t] 9) := by rw [← hW0]; exact blk_alloc (blk_alloc (blk_alloc (blk_new _ _) _) _) _
 have p2 : W0.heap[w.heap.size + 1]? = some (.cells #[.int .i64 0] 3) := by rw [← hW0]; exact blk_alloc (blk_alloc (by simpa using blk_new (w.alloc (.cells #[.string t] 9)) (.cells #[.int .i64 0] 3)) _) _
 have p3 : W0.heap[w.heap.size + 1 + 1]? = some (.cells #[.bool false] 4) := by rw [← hW0]; exact blk_alloc (by simpa using blk_new ((w.alloc (.cells #[.string t] 9)).alloc (.cells #[.int .i64 0] 3)) (.cells #[.bool false] 4)) _
 have ps : W0.heap[w.heap.size + 1 + 1 + 1]? = some (.cells #[.string t] 9) := by rw [← hW0]; simpa using blk_new (((w.alloc (.cells #[.string t] 9)).alloc (.cells #[.int .i64 0] 3)).alloc (.cells #[.bool false] 4)) (.cells #[.string t] 9)
 have hz : W0.heap.size = w.heap.size + 4 := by rw [← hW0]; simp
 have hB0 : Below w.heap.size w W0 := by rw [← hW0]; exact ((((Below.refl _ _).alloc (Nat.le_refl _) _).alloc (by simp) _).alloc (by simp; omega) _).alloc (by simp; omega) _
 rw [hW0]
 clear hW0
 have sh0 := hsh.below hB0
 refine wpIn_rangeFunc_first rfl (by omega) (gf := 59) (lb := #[.pointer (some ⟨w.heap.size + 1 + 1 + 1, 0, none⟩)]) rfl trivial (enters_of Tryd.func59 (by kernel_rfl) rfl)
  (tokens1_first _ (by omega) (w.heap.size + 1 + 1 + 1) k t hs D hD W0 sh0 (cell_of_box_l ps).1) (fun _ => rfl)
  (fun W => Below w.heap.size w W ∧ W0.heap.size ≤ W.heap.size ∧ W.heap[w.heap.size]? = some (.cells #[.string t] 9) ∧ W.heap[w.heap.size + 1]? = some (.cells #[.int .i64 0] 3) ∧ W.heap[w.heap.size + 1 + 1]? = some (.cells #[.bool false] 4))
  (fun W => Below w.heap.size w W ∧ W.heap[w.heap.size + 1]? = some (.cells #[.int .i64 R.1] 3) ∧ W.heap[w.heap.size + 1 + 1]? = some (.cells #[.bool R.2] 4))
  (fun A B h hb => ⟨h.1.trans (hb.mono h.1.size), Nat.le_trans h.2.1 hb.size, blk_below h.2.2.1 hb, blk_below h.2.2.2.1 hb, blk_below h.2.2.2.2 hb⟩)
  (fun A l o o' h hl ho hc hw => ⟨h.1.trans (belowK_b (w := W0) (by omega) A l o o' hl ho hc hw), Nat.le_trans h.2.1 (belowK_b (n₀ := 0) (w := W0) (by omega) A l o o' hl ho hc hw).size, (World.putObj_heap_other (by omega)).trans h.2.2.1, (World.putObj_heap_other (by omega)).trans h.2.2.2.1, (World.putObj_heap_other (by omega)).trans h.2.2.2.2⟩)
  (fun A B h hb => ⟨h.1.trans (hb.mono h.1.size), blk_below h.2.1 hb, blk_below h.2.2 hb⟩)
  (fun A l o o' h hl ho hc hw => ⟨h.1.trans (belowK_b (w := W0) (by omega) A l o o' hl ho hc hw), (World.putObj_heap_other (by omega)).trans h.2.1, (World.putObj_heap_other (by omega)).trans h.2.2⟩)
  ⟨hB0, Nat.le_refl _, pt, p2, p3⟩
  (fun x a1 W => ∃ (b : Nat) (cs : Array Value), x.1 = .agg cs ∧ w.heap.size + 4 ≤ b ∧ W.heap[b]? = some (.cells cs 44) ∧ a1 = { tmps := #[.string t, .pointer (some ⟨w.heap.size, 0, none⟩), .pointer (some ⟨w.heap.size + 1, 0, none⟩), .pointer (some ⟨w.heap.size + 1 + 1, 0, none⟩), .pointer (some ⟨b, 0, none⟩), x.2, .string t, .func (.func 59) #[] #[.pointer (some ⟨w.heap.size + 1 + 1 + 1, 0, none⟩)], x.1, x.2, undef, undef, undef, undef, undef, undef, undef, undef, undef, undef], defers := [] })
  ?ao ?assign ?body ?done ?stop
 case ao =>
  rintro x a1 B l o o' ⟨b, cs, h1, h2, h3, h4⟩ ho hc hw
  refine ⟨b, cs, h1, h2, ?_, h4⟩
  by_cases e : b = l
  ·subst e
   rw [h3] at ho
   cases ho
   cases hc
  exact (World.putObj_heap_other e).trans h3
 case assign =>
  intro l x W K hDx hI hK
  rcases hDs with h | ⟨kd, y, a, b, c, er, h⟩
  ·rw [h] at hDx; cases hDx
  rw [hDx] at h
  obtain rfl := Option.some.inj h
  gi_wp2
  exact hK _ _ ⟨W.heap.size, _, rfl, by omega, blk_new _ _, rfl⟩ ((Below.refl _ _).alloc (Nat.le_refl _) _)
 case body =>
  rintro l x a1 W hDx ⟨hBW, hzW, q1, q2, q3⟩ ⟨b, cs, h1, h2, h3, rfl⟩
  rcases hDs with h | ⟨kd, y, aa, bb, cc, er, h⟩
  ·rw [h] at hDx; cases hDx
  have hRR := hR1 _ _ _ _ _ _ h
  rw [hDx] at h
  obtain rfl := Option.some.inj h
  simp only [Value.agg.injEq] at h1
  subst h1
  clear h hDx hD hR1 hR0
  have c1 : W.cell? ⟨w.heap.size, 0, none⟩ = some (.string t) := (cell_of_box_l q1).1
  have c2 := (cell_of_box_l q2).1
  have f2 := (cell_of_box_l q2).2
  have c3 := (cell_of_box_l q3).1
  have f3 := (cell_of_box_l q3).2
  have d0 : W.cell? ⟨b, 0, none⟩ = some (.int .i64 kd) := blk_cell h3 0
  have d1 : W.cell? ⟨b, 1, none⟩ = some (.string y) := blk_cell h3 1
  have hmx : Tryd.prog.follows .mixedOrders = true := by kernel_rfl
  by_cases he : er = 0
  ·subst he
   have e0 : ((0 : Int) != 0) = false := rfl
   by_cases hy : y = t
   ·subst hy
    rw [if_neg (by simp)] at hRR
    subst hRR
    gi_wp2
    exact put_two rfl hBW q2 q3 _ _
   have hyb : (y.toList == t.toList) = false := beq_eq_false_iff_ne.mpr fun h => hy (ByteArray.ext (Array.toList_inj.1 (by simpa [ByteArray.toList_eq] using h)))
   rw [if_pos (.inr hy)] at hRR
   subst hRR
   gi_wp2
   exact put_two rfl hBW q2 q3 _ _
  have e0 : (er == 0) = false := beq_eq_false_iff_ne.mpr he
  have e1 : (er != 0) = true := bne_iff_ne.mpr he
  rw [if_pos (.inl he)] at hRR
  subst hRR
  gi_wp2
  exact put_two rfl hBW q2 q3 _ _
 case done =>
  rintro K W hKz hDn ⟨hBW, hzW, q1, q2, q3⟩ hK
  have hRR := hR0 hDn
  subst hRR
  obtain ⟨k1, k2, k3, k4⟩ := put_two rfl hBW q2 q3 0 false
  have hK' := k1.same _ _ hK rfl
  have e2 := (cell_of_box_l k3).1
  have e3 := (cell_of_box_l k4).1
  have hBl := k2.trans (belowK_b (w := w) (Nat.le_refl _) _ K _ (.deferred none) (by omega) hK' rfl rfl)
  have g2 := cell_kept e2 (grownBy_putObj' _ K (.deferred none)) (fun r e => by cases e; exact ⟨_, hK', rfl⟩)
  have g3 := cell_kept e3 (grownBy_putObj' _ K (.deferred none)) (fun r e => by cases e; exact ⟨_, hK', rfl⟩)
  clear e2 e3 k1 k2 k3 k4 hR0 hR1 hDs
  have c2 := (cell_of_box_l q2).1
  have f2 := (cell_of_box_l q2).2
  have c3 := (cell_of_box_l q3).1
  have f3 := (cell_of_box_l q3).2
  gi_wp2
  refine ⟨by simp, .inl ⟨_, _, rfl, run_takeDeferred hK', ?_⟩⟩
  refine ⟨_, ?_, rfl, hBl⟩
  simp [results, Tryd.results37, go_sem, g2, g3]
 case stop =>
  rintro K x W hKz hDx ⟨hBW, q2, q3⟩ hK
  have c2 := (cell_of_box_l q2).1
  have f2 := (cell_of_box_l q2).2
  have c3 := (cell_of_box_l q3).1
  have f3 := (cell_of_box_l q3).2
  have hBl := hBW.trans (belowK_b (w := w) (Nat.le_refl _) _ K _ (.deferred none) (by omega) hK rfl rfl)
  have g2 := cell_kept c2 (grownBy_putObj' _ K (.deferred none)) (fun r e => by cases e; exact ⟨_, hK, rfl⟩)
  have g3 := cell_kept c3 (grownBy_putObj' _ K (.deferred none)) (fun r e => by cases e; exact ⟨_, hK, rfl⟩)
  clear hR0 hR1 hDs
  gi_wp2
  refine ⟨by simp, .inl ⟨_, _, rfl, run_takeDeferred hK, ?_⟩⟩
  refine ⟨_, ?_, rfl, hBl⟩
  simp [results, Tryd.results37, go_sem, g2, g3]
def scan_One.f (k : Nat) (a0 : ByteArray) : Option (Int × Bool) :=
 if a0.size ≤ 140737488355328 then
  (if wsk a0.data.toList < a0.size then (scan_first.f k (a0.extract (wsk a0.data.toList) a0.size) false).bind fun r =>
   if 0 ≤ r.2.1 ∧ r.2.1 ≤ (a0.size : Int) - wsk a0.data.toList then some (if r.2.2 ≠ 0 ∨ a0.extract (wsk a0.data.toList) ((wsk a0.data.toList : Int) + r.2.1).toNat ≠ a0 then (0, false) else (r.1, true)) else none
  else some (0, false))
 else none
theorem scan_One.mono : ∀ a0 k, LeO (scan_One.f k a0) (scan_One.f (k + 1) a0) := by
 intro a0 k r h
 unfold scan_One.f at h ⊢
 split at h
 ·rename_i h1
  rw [if_pos h1]
  split at h
  ·rename_i h2
   rw [if_pos h2]
   obtain ⟨q, hq, h⟩ := Option.bind_eq_some_iff.1 h
   rw [scan_first.mono _ _ _ _ hq]
   exact h
  rename_i h2
  rw [if_neg h2]
  exact h
 cases h
theorem scan_One.calls (k : Nat) (a0 : ByteArray) (r1 : Int) (r2 : Bool) (w : World) (hsh : SH w) (h : scan_One.f k a0 = some (r1, r2)) :
  Calls Tryd.prog 37 #[.string a0] w fun e w' => e = .returned (.tuple #[.int .i64 r1, .bool r2]) ∧ Below w.heap.size w w' := by
 unfold scan_One.f at h
 split at h
 ·rename_i hs
  have hs' : a0.size ≤ maxLen := by unfold maxLen; omega
  split at h
  ·rename_i h2
   obtain ⟨⟨kd, m, er⟩, hq, h⟩ := Option.bind_eq_some_iff.1 h
   simp only at h
   split at h
   ·rename_i hm
    have hD : firstTok k a0 = some (some (.agg #[.int .i64 kd, .string (a0.extract (wsk a0.data.toList) ((wsk a0.data.toList : Int) + m).toNat), .int .i64 (wsk a0.data.toList : Int), .int .i64 ((wsk a0.data.toList : Int) + m), .bool (decide (0 < wsk a0.data.toList))], .int .i64 er)) := by
     unfold firstTok
     rw [if_pos h2, hq, Option.bind_some, if_pos hm]
    refine one_any k a0 hs' _ hD (r1, r2) (fun h => by cases h) ?_ (.inr ⟨_, _, _, _, _, _, rfl⟩) w hsh
    intro kd' x a b c er' e
    have e' := Option.some.inj e
    simp only [Prod.mk.injEq, Value.agg.injEq, Array.mk.injEq, List.cons.injEq, Value.int.injEq, Value.string.injEq, true_and] at e'
    obtain ⟨⟨rfl, rfl, _⟩, rfl⟩ := e'
    exact (Option.some.inj h).symm
   cases h
  rename_i h2
  have hD : firstTok k a0 = some none := by unfold firstTok; rw [if_neg h2]
  exact one_any k a0 hs' _ hD (r1, r2) (fun _ => (Option.some.inj h).symm) (fun _ _ _ _ _ _ e => by cases e) (.inl rfl) w hsh
 cases h
end Go.Proofs.YtcdleippdegibaaDoor.One
set_option autoImplicit false
set_option relaxedAutoImplicit false
namespace Go.Proofs.YtcdleippdegibaaDoor.Alive
open Go Go.RowKit Go.Proofs Go.Proofs.YtcdleippdegibaaDoorW.PrintWords Go.Proofs.YtcdleippdegibaaDoor Go.Proofs.YtcdleippdegibaaDoor.PB Go.Proofs.YtcdleippdegibaaDoor.Digits Go.Proofs.YtcdleippdegibaaDoor.LibG
theorem class5 (w : World) : Calls Tryd.prog 9 #[.int .i64 5, .string ⟨#[60, 37]⟩] w fun e w' => e = .returned (.tuple #[.agg #[.int .i64 7, .string ⟨#[123]⟩], .int .i64 0]) ∧ Below w.heap.size w w' := by
 have HB := Aside0.mk (Below.refl w.heap.size w)
 go_enter Tryd.func9, Tryd.ntmps9
 go_wp2
 refine bodyPost_ret (v := .tuple #[.agg #[.int .i64 7, .string ⟨#[123]⟩], .int .i64 0]) ?_ rfl ?_
 ·simp [results, Tryd.results9, go_sem]
 exact ⟨er_, bl_⟩
theorem hI : ctok_Int.f ⟨#[48, 120, 49, 70]⟩ = some (31, false, 0) := by
  kernel_rfl
end Go.Proofs.YtcdleippdegibaaDoor.Alive
namespace Go.Proofs.YtcdleippdegibaaDoor.PE
open Go.RowKit Go.Proofs.YtcdleippdegibaaDoorW.PrintWords Go.Proofs.YtcdleippdegibaaDoorW.PrintLast Go.Proofs.YtcdleippdegibaaDoorW.PrintMore
open Go.Proofs.YtcdleippdegibaaDoor.LibG (SH SH.below SH.drewN SH.drew SH.alloc)
open Go.Proofs.YtcdleippdegibaaDoor.PK
attribute [local go_sem] max2_int min2_int max_two min_two max_three min_three max_four min_four
def errW : Option Int → Value
 | none => .nilIface
 | some c => .iface 0 (.int .i64 c)
theorem errW_none : errW none = .nilIface := rfl
theorem errW_some (c : Int) : errW (some c) = .iface 0 (.int .i64 c) := rfl
theorem info2 : (Tryd.prog.info? 2).map (fun i => (i.zero, i.size, i.bytes)) = some (some (.int .i64 0), 1, 8) := by kernel_rfl
theorem info23 : (Tryd.prog.info? 23).map (fun i => (i.zero, i.size, i.bytes)) = some (some (.agg #[(.int .i64 0), (.string ⟨#[]⟩)]), 2, 24) := by kernel_rfl
theorem info44 : (Tryd.prog.info? 44).map (fun i => (i.zero, i.size, i.bytes)) = some (some (.agg #[(.int .i64 0), (.string ⟨#[]⟩), (.int .i64 0), (.int .i64 0), (.bool false)]), 5, 48) := by kernel_rfl
mutual
def ctok_elements.j0 : Nat → ByteArray → ByteArray → Bool → Int → Option (List Int × ByteArray × Int)
 | 0, _, _, _, _ => none
 | k + 1, x7, x8, x9, x10 => if x9 = true then (if 0 ≤ (wrap64 ((x8.size : Int) - 1)) then (if (wrap64 ((x8.size : Int) - 1)) ≤ (x8.size : Int) then (ctok_elements.l0 k x7 (x8.extract 0 ((wrap64 ((x8.size : Int) - 1)) : Int).toNat) x10 ([] : List Int)) else (none)) else (none)) else (some (([] : List Int), (⟨#[]⟩ : ByteArray), 40))
def ctok_elements.l0 : Nat → ByteArray → ByteArray → Int → List Int → Option (List Int × ByteArray × Int)
 | 0, _, _, _, _ => none
 | k + 1, x7, x8, x10, x11 => if x8.toList = ([] : List UInt8) then (some (x11, x7, 0)) else (if 0 < (x8.size : Int) then (if (bt x8 0) = 92 then ((Digits.ctok_escape.f x8).bind fun bt104 => (if bt104.2 = 0 then (some (([] : List Int), (⟨#[]⟩ : ByteArray), 40)) else (if bt104.1 > x10 then (some (([] : List Int), (⟨#[]⟩ : ByteArray), 40)) else (if x11.length < 17592186044416 then (if 0 ≤ bt104.2 then (if bt104.2 ≤ (x8.size : Int) then (ctok_elements.l0 k x7 (x8.extract (bt104.2 : Int).toNat x8.size) x10 (x11 ++ [wrap64 (bt104.1)])) else (none)) else (none)) else (none))))) else (if 1 = 0 then (some (([] : List Int), (⟨#[]⟩ : ByteArray), 40)) else (if (IntKind.u64.wrap (bt x8 0)) > x10 then (some (([] : List Int), (⟨#[]⟩ : ByteArray), 40)) else (if x11.length < 17592186044416 then (if 1 ≤ (x8.size : Int) then (ctok_elements.l0 k x7 (x8.extract 1 x8.size) x10 (x11 ++ [wrap64 (IntKind.u64.wrap (bt x8 0))])) else (none)) else (none))))) else (none))
end
def ctok_elements.f (k : Nat) (a0 : ByteArray) (a1 : ByteArray) : Option (List Int × ByteArray × Int) := (LibG.strings_Cut.f a0 a1).bind fun bt101 => (if bt101.1.toList = ([117] : List UInt8) then (ctok_elements.j0 k bt101.1 bt101.2.1 bt101.2.2 65535) else (if bt101.1.toList = ([85] : List UInt8) then (ctok_elements.j0 k bt101.1 bt101.2.1 bt101.2.2 4294967295) else (if bt101.1.toList = ([76] : List UInt8) then (ctok_elements.j0 k bt101.1 bt101.2.1 bt101.2.2 4294967295) else (ctok_elements.j0 k bt101.1 bt101.2.1 bt101.2.2 255))))
theorem ctok_elements.mono_l : ∀ k, (∀ y0 y1 y2 y3, LeO (ctok_elements.j0 k y0 y1 y2 y3) (ctok_elements.j0 (k + 1) y0 y1 y2 y3)) ∧ (∀ y0 y1 y2 y3, LeO (ctok_elements.l0 k y0 y1 y2 y3) (ctok_elements.l0 (k + 1) y0 y1 y2 y3))
 | 0 => ⟨fun _ _ _ _ r h => by simp [ctok_elements.j0] at h, fun _ _ _ _ r h => by simp [ctok_elements.l0] at h⟩
 | k + 1 => by
  obtain ⟨ih0, ih1⟩ := ctok_elements.mono_l k
  refine ⟨?_, ?_⟩
  ·intro y0 y1 y2 y3
   unfold ctok_elements.j0
   repeat' first
   | (with_reducible exact ih0 _ _ _ _)
   | (with_reducible exact ih1 _ _ _ _)
   | (with_reducible exact LeO.refl _)
   | (with_reducible exact LeO.none _)
   | (with_reducible refine LeO.ite ?_ ?_)
   | (with_reducible refine LeO.bind ?_ (fun _ => ?_))
  intro y0 y1 y2 y3
  unfold ctok_elements.l0
  repeat' first
  | (with_reducible exact ih0 _ _ _ _)
  | (with_reducible exact ih1 _ _ _ _)
  | (with_reducible exact LeO.refl _)
  | (with_reducible exact LeO.none _)
  | (with_reducible refine LeO.ite ?_ ?_)
  | (with_reducible refine LeO.bind ?_ (fun _ => ?_))
theorem ctok_elements.mono : ∀ a0 a1 k, LeO (ctok_elements.f k a0 a1) (ctok_elements.f (k + 1) a0 a1) := by
 intro a0 a1 k
 obtain ⟨ih0, ih1⟩ := ctok_elements.mono_l k
 unfold ctok_elements.f
 repeat' first
   | (with_reducible exact ih0 _ _ _ _)
   | (with_reducible exact ih1 _ _ _ _)
   | (with_reducible exact LeO.refl _)
   | (with_reducible exact LeO.none _)
   | (with_reducible refine LeO.ite ?_ ?_)
   | (with_reducible refine LeO.bind ?_ (fun _ => ?_))
theorem ctok_elements.calls (k : Nat) (a0 : ByteArray) (a1 : ByteArray) (r1 : List Int) (r2 : ByteArray) (r3 : Int) (w : World) (hsh : SH w) (h : ctok_elements.f k a0 a1 = some (r1, r2, r3)) :
  Calls Tryd.prog 38 #[.string a0, .string a1] w fun e w' => ∃ v0_ : Value, e = .returned (.tuple #[v0_, .string r2, .int .i64 r3]) ∧ Kd.R (Kd.int .i64) 2 w' w.heap.size (fun _ => True) v0_ r1 ∧ Below w.heap.size w w' := by
 have HSH := Aside0.mk hsh
 clear hsh
 have HB := Aside0.mk (Below.refl w.heap.size w)
 have H : ((LibG.strings_Cut.f a0 a1).bind fun bt101 => (if bt101.1.toList = ([117] : List UInt8) then (ctok_elements.j0 k bt101.1 bt101.2.1 bt101.2.2 65535) else (if bt101.1.toList = ([85] : List UInt8) then (ctok_elements.j0 k bt101.1 bt101.2.1 bt101.2.2 4294967295) else (if bt101.1.toList = ([76] : List UInt8) then (ctok_elements.j0 k bt101.1 bt101.2.1 bt101.2.2 4294967295) else (ctok_elements.j0 k bt101.1 bt101.2.1 bt101.2.2 255))))) = some (r1, r2, r3) := h
 clear h
 replace H := Option.bind_eq_some_iff.mp H
 obtain ⟨⟨t101, t102, t103⟩, A30, H⟩ := H
 replace H : (if t101.toList = ([117] : List UInt8) then (ctok_elements.j0 k t101 t102 t103 65535) else (if t101.toList = ([85] : List UInt8) then (ctok_elements.j0 k t101 t102 t103 4294967295) else (if t101.toList = ([76] : List UInt8) then (ctok_elements.j0 k t101 t102 t103 4294967295) else (ctok_elements.j0 k t101 t102 t103 255)))) = some (r1, r2, r3) := H
 have A3 := Aside0.mk A30
 clear A30
 have HC4 := Aside0.mk H
 clear H
 go_enter Tryd.func38, Tryd.ntmps38
 go_upto_block 0 with (first | ((with_reducible refine gate_callee (f := 49) rfl ?_); refine goesL_ (some 17) rfl rfl Tryd.func49 (by kernel_rfl) rfl #[.string a0, .string a1] rfl ar_ ?_; (with_reducible refine (LibG.strings_Cut.calls a0 a1 t101 t102 t103 _ ?side1 A3.out).mono ?_); (case side1 => first | exact SH.below HSH.out bl_ | (repeat (first | exact HSH.out | (with_reducible refine SH.drewN ?_ _) | (with_reducible refine SH.drew ?_) | (with_reducible refine SH.alloc ?_ _)))); rintro e w' ⟨rfl, ⟨nd, rfl⟩⟩; refine ⟨_, rfl, ?_⟩))
 (try simp only [Act.put, List.setIfInBounds_toArray, List.set_cons_zero, List.set_cons_succ])
 go_cut [10] (fun v10 wc => ∃ (kq : Nat) (x10_3 : Int), v10 = .int .u64 x10_3 ∧ Aside0 (ctok_elements.j0 kq t101 t102 t103 x10_3 = some (r1, r2, r3)) ∧ Aside0 (kq ≤ k) ∧ Aside0 (Below w.heap.size w wc))
 case first =>
  have H := HC4.out
  clear HC4
  replace H := ie_ H
  obtain ⟨c5b0, c5b1, H⟩ | ⟨c5b0, c5b1, c5, H⟩ := H
  ·(first | rw [c5b0] | (simp only [i64_w, i32_w]; rw [c5b0]) | skip)
   have H' := Aside0.mk H
   clear H
   go_wp2
   go_meet
   case rel => exact ⟨_, (65535), er_, H', ⟨om_⟩, ⟨bl_⟩⟩
  (first | rw [c5b0] | (simp only [i64_w, i32_w]; rw [c5b0]) | skip)
  replace H := ie_ H
  obtain ⟨c6b0, c6b1, H⟩ | ⟨c6b0, c6b1, c6, H⟩ := H
  ·have H' := Aside0.mk H
   clear H
   go_wp2
   go_meet
   case rel => exact ⟨_, (4294967295), er_, H', ⟨om_⟩, ⟨bl_⟩⟩
  replace H := ie_ H
  obtain ⟨c7b0, c7b1, H⟩ | ⟨c7b0, c7b1, c7, H⟩ := H
  ·have H' := Aside0.mk H
   clear H
   go_wp2
   go_meet
   case rel => exact ⟨_, (4294967295), er_, H', ⟨om_⟩, ⟨bl_⟩⟩
  have H' := Aside0.mk H
  clear H
  go_wp2
  go_meet
  case rel => exact ⟨_, (255), er_, H', ⟨om_⟩, ⟨bl_⟩⟩
 case rest =>
  clear HC4
  try clear c5
  try clear c5b0
  try clear c5b1
  try clear c6
  try clear c6b0
  try clear c6b1
  try clear c7
  try clear c7b0
  try clear c7b1
  obtain ⟨kq, x10_3, rfl, HA, HJ3, HB⟩ := hcut
  cases kq with
  | zero => exact absurd HA.out (by simp [ctok_elements.j0])
  | succ kj3 =>
   have H := HA.out
   clear HA
   simp only [ctok_elements.j0] at H
   by_cases c8 : t103 = true
   ·subst c8
    have H1 : (if 0 ≤ (wrap64 ((t102.size : Int) - 1)) then (if (wrap64 ((t102.size : Int) - 1)) ≤ (t102.size : Int) then (ctok_elements.l0 kj3 t101 (t102.extract 0 ((wrap64 ((t102.size : Int) - 1)) : Int).toNat) x10_3 ([] : List Int)) else (none)) else (none)) = some (r1, r2, r3) := by rw [if_pos rfl] at H; exact H
    clear H
    have H := H1
    clear H1
    obtain ⟨ji9, hji9⟩ : ∃ j_ : Int, (wrap64 ((t102.size : Int) - 1)) = j_ := ⟨_, rfl⟩
    replace H : (if 0 ≤ (ji9) then (if (ji9) ≤ (t102.size : Int) then (ctok_elements.l0 kj3 t101 (t102.extract 0 ((ji9) : Int).toNat) x10_3 ([] : List Int)) else (none)) else (none)) = some (r1, r2, r3) := by first | (rw [hji9] at H; exact H) | (simp only [hji9] at H ⊢; exact H)
    have hji9w : (IntKind.i64.wrap ((t102.size : Int) - 1)) = ji9 := (i64_w _).trans hji9
    replace H := ib_ H
    obtain ⟨c10, H⟩ | ⟨c10, H⟩ := H
    ·have c10b0 := eq_true c10
     have c10b1 := decide_eq_true c10
     clear c10
     replace H := ib_ H
     obtain ⟨c11, H⟩ | ⟨c11, H⟩ := H
     ·have c11b0 := eq_true c11
      have c11b1 := decide_eq_true c11
      clear c11
      have H' := Aside0.mk H
      clear H
      go_wp2
      go_loopg [8, 11] kj3 (fun kq v8 v11 w' => ∃ (x8_2 : ByteArray) (x11_2 : List Int), v8 = .string x8_2 ∧ Aside0 (ctok_elements.l0 kq t101 x8_2 x10_3 x11_2 = some (r1, r2, r3)) ∧ Aside0 (kq ≤ kj3) ∧ Aside0 (Kd.R (Kd.int .i64) 2 w' w.heap.size (fun _ => True) v11 x11_2) ∧ Aside0 (Below w.heap.size w w'))
      case atStart => exact ⟨(t102.extract 0 ((ji9) : Int).toNat), (([] : List Int)), (by first | rfl | (simp; done) | (simp only [← hji9] <;> (first | rfl | simp)) | (simp [*]; done)), H', ⟨Nat.le_refl _⟩, ⟨by first | exact Kd.R_nil _ _ _ _ _ | exact Kd.N_nil _ _ _ _ _ | exact Kd.V_nil _ _ _ _ _ | exact Kd.Q_nil _ _ _ _ _ | exact Kd.S_nil _ _ _ _ _⟩, ⟨bl_⟩⟩
      case round =>
       clear H'
       try clear c5
       try clear c5b0
       try clear c5b1
       try clear c6
       try clear c6b0
       try clear c6b1
       try clear c7
       try clear c7b0
       try clear c7b1
       try clear c8
       try clear c10
       try clear c10b0
       try clear c10b1
       try clear c11
       try clear c11b0
       try clear c11b1
       obtain ⟨x8_2, x11_2, rfl, HA, HK2, HO_11, HB⟩ := hrel
       cases gk with
       | zero => exact absurd HA.out (by simp [ctok_elements.l0])
       | succ k2 =>
        have H := HA.out
        clear HA
        simp only [ctok_elements.l0] at H
        replace H := ie_ H
        obtain ⟨c12b0, c12b1, H⟩ | ⟨c12b0, c12b1, c12, H⟩ := H
        ·simp only [Option.some.injEq, Prod.mk.injEq] at H
         obtain ⟨rfl, rfl, rfl⟩ := H
         go_wp2
         go_ret3
         exact ⟨_, by first | rfl | (simp [errW_none, errW_some] <;> rfl) | (simp only [← hji9]; first | rfl | (simp [errW_none, errW_some] <;> rfl)) | (simp [*, errW_none, errW_some] <;> rfl), by (with_reducible repeat (first | apply Kd.R_alloc | apply Kd.R_drewN | apply Kd.R_drew)); exact HO_11.out, bl_⟩
        replace H := ib_ H
        obtain ⟨c13, H⟩ | ⟨c13, H⟩ := H
        ·have c13b0 := decide_eq_true c13
         have c13b1 : decide (0 < x8_2.size) = true := decide_eq_true (by omega)
         clear c13
         replace H := ie_ H
         obtain ⟨c16b0, c16b1, H⟩ | ⟨c16b0, c16b1, c16, H⟩ := H
         ·replace H := Option.bind_eq_some_iff.mp H
          obtain ⟨⟨t104, t105⟩, A170, H⟩ := H
          replace H : (if t105 = 0 then (some (([] : List Int), (⟨#[]⟩ : ByteArray), 40)) else (if t104 > x10_3 then (some (([] : List Int), (⟨#[]⟩ : ByteArray), 40)) else (if x11_2.length < 17592186044416 then (if 0 ≤ t105 then (if t105 ≤ (x8_2.size : Int) then (ctok_elements.l0 k2 t101 (x8_2.extract (t105 : Int).toNat x8_2.size) x10_3 (x11_2 ++ [wrap64 (t104)])) else (none)) else (none)) else (none)))) = some (r1, r2, r3) := H
          have A17 := Aside0.mk A170
          clear A170
          replace H := ie_ H
          obtain ⟨c18b0, c18b1, H⟩ | ⟨c18b0, c18b1, c18, H⟩ := H
          ·simp only [Option.some.injEq, Prod.mk.injEq] at H
           obtain ⟨rfl, rfl, rfl⟩ := H
           have p14 : 0 ≤ (0 : Int) := (by omega)
           have q14 : 0 < x8_2.size := (by have : (0 : Int) < (x8_2.size : Int) := da_; omega)
           have hx14 : ∀ h : 0 < x8_2.size, ((x8_2[0]'h).toNat : Int) = bt x8_2 0 := bt_at x8_2 0
           clear p14
           have qi14 : (0 < (x8_2.size : Int)) = True := eq_true da_
           replace q14 := eq_true q14
           have p15 : 0 ≤ (0 : Int) := (by omega)
           have q15 : 0 < x8_2.size := (by have : (0 : Int) < (x8_2.size : Int) := da_; omega)
           have hx15 : ∀ h : 0 < x8_2.size, ((x8_2[0]'h).toNat : Int) = bt x8_2 0 := bt_at x8_2 0
           clear p15
           have qi15 : (0 < (x8_2.size : Int)) = True := eq_true da_
           replace q15 := eq_true q15
           go_wp2_with (first | ((with_reducible refine gate_callee (f := 50) rfl ?_); refine goesL_ (some 44) rfl rfl Tryd.func50 (by kernel_rfl) rfl #[.string x8_2] rfl ar_ ?_; (with_reducible refine (Digits.ctok_escape.calls x8_2 t104 t105 _ A17.out).mono ?_); rintro e w19 ⟨rfl, hb⟩; refine ⟨_, rfl, ?_⟩; have n0_ := Aside0.mk (Kd.R_below (by (with_reducible repeat (first | apply Kd.R_alloc | apply Kd.R_drewN | apply Kd.R_drew)); exact HO_11.out) hb); have n1_ := Aside0.mk (below_step bl_ hb); clear HO_11; clear HB; have HO_11 := n0_; have HB := n1_; clear n0_ n1_; (try clear hb); (try clear hb2); (try clear hk); (try clear hi)))
           go_ret3
           exact ⟨_, by first | rfl | (simp [errW_none, errW_some] <;> rfl) | (simp only [← hji9]; first | rfl | (simp [errW_none, errW_some] <;> rfl)) | (simp [*, errW_none, errW_some] <;> rfl), by first | exact Kd.R_nil _ _ _ _ _ | exact Kd.N_nil _ _ _ _ _ | exact Kd.V_nil _ _ _ _ _ | exact Kd.Q_nil _ _ _ _ _ | exact Kd.S_nil _ _ _ _ _, bl_⟩
          replace H := ib_ H
          obtain ⟨c20, H⟩ | ⟨c20, H⟩ := H
          ·have c20b0 : decide (x10_3 < t104) = true := decide_eq_true c20
           clear c20
           simp only [Option.some.injEq, Prod.mk.injEq] at H
           obtain ⟨rfl, rfl, rfl⟩ := H
           have p14 : 0 ≤ (0 : Int) := (by omega)
           have q14 : 0 < x8_2.size := (by have : (0 : Int) < (x8_2.size : Int) := da_; omega)
           have hx14 : ∀ h : 0 < x8_2.size, ((x8_2[0]'h).toNat : Int) = bt x8_2 0 := bt_at x8_2 0
           clear p14
           have qi14 : (0 < (x8_2.size : Int)) = True := eq_true da_
           replace q14 := eq_true q14
           have p15 : 0 ≤ (0 : Int) := (by omega)
           have q15 : 0 < x8_2.size := (by have : (0 : Int) < (x8_2.size : Int) := da_; omega)
           have hx15 : ∀ h : 0 < x8_2.size, ((x8_2[0]'h).toNat : Int) = bt x8_2 0 := bt_at x8_2 0
           clear p15
           have qi15 : (0 < (x8_2.size : Int)) = True := eq_true da_
           replace q15 := eq_true q15
           go_wp2_with (first | ((with_reducible refine gate_callee (f := 50) rfl ?_); refine goesL_ (some 44) rfl rfl Tryd.func50 (by kernel_rfl) rfl #[.string x8_2] rfl ar_ ?_; (with_reducible refine (Digits.ctok_escape.calls x8_2 t104 t105 _ A17.out).mono ?_); rintro e w21 ⟨rfl, hb⟩; refine ⟨_, rfl, ?_⟩; have n0_ := Aside0.mk (Kd.R_below (by (with_reducible repeat (first | apply Kd.R_alloc | apply Kd.R_drewN | apply Kd.R_drew)); exact HO_11.out) hb); have n1_ := Aside0.mk (below_step bl_ hb); clear HO_11; clear HB; have HO_11 := n0_; have HB := n1_; clear n0_ n1_; (try clear hb); (try clear hb2); (try clear hk); (try clear hi)))
           go_ret3
           exact ⟨_, by first | rfl | (simp [errW_none, errW_some] <;> rfl) | (simp only [← hji9]; first | rfl | (simp [errW_none, errW_some] <;> rfl)) | (simp [*, errW_none, errW_some] <;> rfl), by first | exact Kd.R_nil _ _ _ _ _ | exact Kd.N_nil _ _ _ _ _ | exact Kd.V_nil _ _ _ _ _ | exact Kd.Q_nil _ _ _ _ _ | exact Kd.S_nil _ _ _ _ _, bl_⟩
          have c20b0 : decide (x10_3 < t104) = false := decide_eq_false c20
          clear c20
          replace H := ib_ H
          obtain ⟨c22, H⟩ | ⟨c22, H⟩ := H
          ·have LMc22 := Aside0.mk c22
           clear c22
           obtain ⟨y106, hy106⟩ : ∃ y_ : List Int, y_ = (x11_2 ++ [wrap64 (t104)]) := ⟨_, rfl⟩
           replace H : (if 0 ≤ t105 then (if t105 ≤ (x8_2.size : Int) then (ctok_elements.l0 k2 t101 (x8_2.extract (t105 : Int).toNat x8_2.size) x10_3 y106) else (none)) else (none)) = some (r1, r2, r3) := by first | (rw [hy106]; with_reducible exact H) | (have H2_ := (Option.bind_some _ _).symm.trans H; rw [hy106]; with_reducible exact H2_) | (have H2_ := (Option.bind_some _ _).symm.trans H; with_reducible exact H2_) | with_reducible exact H | (rw [hy106]; exact H) | exact H
           have Ny106 := Aside0.mk hy106
           clear hy106
           replace H := id_ H
           obtain ⟨c23b0, c23b1, H⟩ | ⟨-, -, H⟩ := H
           ·replace H := id_ H
            obtain ⟨c24b0, c24b1, H⟩ | ⟨-, -, H⟩ := H
            ·have H' := Aside0.mk H
             clear H
             have p14 : 0 ≤ (0 : Int) := (by omega)
             have q14 : 0 < x8_2.size := (by have : (0 : Int) < (x8_2.size : Int) := da_; omega)
             have hx14 : ∀ h : 0 < x8_2.size, ((x8_2[0]'h).toNat : Int) = bt x8_2 0 := bt_at x8_2 0
             clear p14
             have qi14 : (0 < (x8_2.size : Int)) = True := eq_true da_
             replace q14 := eq_true q14
             have p15 : 0 ≤ (0 : Int) := (by omega)
             have q15 : 0 < x8_2.size := (by have : (0 : Int) < (x8_2.size : Int) := da_; omega)
             have hx15 : ∀ h : 0 < x8_2.size, ((x8_2[0]'h).toNat : Int) = bt x8_2 0 := bt_at x8_2 0
             clear p15
             have qi15 : (0 < (x8_2.size : Int)) = True := eq_true da_
             replace q15 := eq_true q15
             go_wp2_with (first | ((with_reducible refine gate_callee (f := 50) rfl ?_); refine goesL_ (some 44) rfl rfl Tryd.func50 (by kernel_rfl) rfl #[.string x8_2] rfl ar_ ?_; (with_reducible refine (Digits.ctok_escape.calls x8_2 t104 t105 _ A17.out).mono ?_); rintro e w25 ⟨rfl, hb⟩; refine ⟨_, rfl, ?_⟩; have n0_ := Aside0.mk (Kd.R_below (by (with_reducible repeat (first | apply Kd.R_alloc | apply Kd.R_drewN | apply Kd.R_drew)); exact HO_11.out) hb); have n1_ := Aside0.mk (below_step bl_ hb); clear HO_11; clear HB; have HO_11 := n0_; have HB := n1_; clear n0_ n1_; (try clear hb); (try clear hb2); (try clear hk); (try clear hi)) | ((with_reducible refine gate_builtin (b := .append) (xs := #[.tmp 54, .tmp 57]) rfl ?_); at_builtin; refine Kd.R_append (Kd.int .i64) (w0 := w) w.heap.size rfl (.tmp 54) (.tmp 57) 38 2 (.int .i64 0) 8 rfl Tryd.underlying38 info2 rfl (by decide) (by omega) u11 x11_2 (wrap64 (t104)) [.int .i64 (wrap64 (t104))] (fun _ => True) (fun _ => False) rfl rfl ?aP (fun _ hk => hk.elim) ?aF ?aO ?aB ?aS ?aL ?_; (case aP => exact rfl); (case aB => exact bl_); (case aF => exact (fun _ _ => trivial)); (case aO => exact (by (with_reducible repeat (first | apply Kd.R_alloc | apply Kd.R_drewN | apply Kd.R_drew)); exact HO_11.out)); (case aS => exact (below_size bl_)); (case aL => have := LMc22.out; omega); intro v107 w26 ho hb hg hat; rw [← Ny106.out] at ho; have n0_ := Aside0.mk (hb); have n1_ := Aside0.mk (ho); clear HB; clear HO_11; have HB := n0_; have HO108 := n1_; clear n0_ n1_; clear ho hb hg hat))
             go_roundg k2
             case measure => have := HJ3.out; have := HK2.out; omega
             case rel => exact ⟨(x8_2.extract (t105 : Int).toNat x8_2.size), (y106), er_, H', ⟨by have := HJ3.out; have := HK2.out; omega⟩, ⟨by (with_reducible repeat (first | apply Kd.R_alloc | apply Kd.R_drewN | apply Kd.R_drew)); exact HO108.out⟩, ⟨bl_⟩⟩
            exact absurd H (by simp)
           exact absurd H (by simp)
          exact absurd H (by simp)
         by_cases c27 : 1 = 0
         ·exact absurd c27 (by decide)
         rw [if_neg c27] at H
         have c27b0 := beq_eq_false_iff_ne.mpr c27
         have c27b1 := bne_iff_ne.mpr c27
         replace H := ib_ H
         obtain ⟨c28, H⟩ | ⟨c28, H⟩ := H
         ·have c28b0 : decide (x10_3 < (IntKind.u64.wrap (bt x8_2 0))) = true := decide_eq_true c28
          clear c28
          simp only [Option.some.injEq, Prod.mk.injEq] at H
          obtain ⟨rfl, rfl, rfl⟩ := H
          have p14 : 0 ≤ (0 : Int) := (by omega)
          have q14 : 0 < x8_2.size := (by have : (0 : Int) < (x8_2.size : Int) := da_; omega)
          have hx14 : ∀ h : 0 < x8_2.size, ((x8_2[0]'h).toNat : Int) = bt x8_2 0 := bt_at x8_2 0
          clear p14
          have qi14 : (0 < (x8_2.size : Int)) = True := eq_true da_
          replace q14 := eq_true q14
          have p15 : 0 ≤ (0 : Int) := (by omega)
          have q15 : 0 < x8_2.size := (by have : (0 : Int) < (x8_2.size : Int) := da_; omega)
          have hx15 : ∀ h : 0 < x8_2.size, ((x8_2[0]'h).toNat : Int) = bt x8_2 0 := bt_at x8_2 0
          clear p15
          have qi15 : (0 < (x8_2.size : Int)) = True := eq_true da_
          replace q15 := eq_true q15
          go_wp2
          go_ret3
          exact ⟨_, by first | rfl | (simp [errW_none, errW_some] <;> rfl) | (simp only [← hji9]; first | rfl | (simp [errW_none, errW_some] <;> rfl)) | (simp [*, errW_none, errW_some] <;> rfl), by first | exact Kd.R_nil _ _ _ _ _ | exact Kd.N_nil _ _ _ _ _ | exact Kd.V_nil _ _ _ _ _ | exact Kd.Q_nil _ _ _ _ _ | exact Kd.S_nil _ _ _ _ _, bl_⟩
         have c28b0 : decide (x10_3 < (IntKind.u64.wrap (bt x8_2 0))) = false := decide_eq_false c28
         clear c28
         replace H := ib_ H
         obtain ⟨c29, H⟩ | ⟨c29, H⟩ := H
         ·have LMc29 := Aside0.mk c29
          clear c29
          obtain ⟨y109, hy109⟩ : ∃ y_ : List Int, y_ = (x11_2 ++ [wrap64 (IntKind.u64.wrap (bt x8_2 0))]) := ⟨_, rfl⟩
          replace H : (if 1 ≤ (x8_2.size : Int) then (ctok_elements.l0 k2 t101 (x8_2.extract 1 x8_2.size) x10_3 y109) else (none)) = some (r1, r2, r3) := by first | (rw [hy109]; with_reducible exact H) | (have H2_ := (Option.bind_some _ _).symm.trans H; rw [hy109]; with_reducible exact H2_) | (have H2_ := (Option.bind_some _ _).symm.trans H; with_reducible exact H2_) | with_reducible exact H | (rw [hy109]; exact H) | exact H
          have Ny109 := Aside0.mk hy109
          clear hy109
          replace H := id_ H
          obtain ⟨c30b0, c30b1, H⟩ | ⟨-, -, H⟩ := H
          ·have H' := Aside0.mk H
           clear H
           have p14 : 0 ≤ (0 : Int) := (by omega)
           have q14 : 0 < x8_2.size := (by have : (0 : Int) < (x8_2.size : Int) := da_; omega)
           have hx14 : ∀ h : 0 < x8_2.size, ((x8_2[0]'h).toNat : Int) = bt x8_2 0 := bt_at x8_2 0
           clear p14
           have qi14 : (0 < (x8_2.size : Int)) = True := eq_true da_
           replace q14 := eq_true q14
           have p15 : 0 ≤ (0 : Int) := (by omega)
           have q15 : 0 < x8_2.size := (by have : (0 : Int) < (x8_2.size : Int) := da_; omega)
           have hx15 : ∀ h : 0 < x8_2.size, ((x8_2[0]'h).toNat : Int) = bt x8_2 0 := bt_at x8_2 0
           clear p15
           have qi15 : (0 < (x8_2.size : Int)) = True := eq_true da_
           replace q15 := eq_true q15
           go_wp2_with (first | ((with_reducible refine gate_builtin (b := .append) (xs := #[.tmp 54, .tmp 57]) rfl ?_); at_builtin; refine Kd.R_append (Kd.int .i64) (w0 := w) w.heap.size rfl (.tmp 54) (.tmp 57) 38 2 (.int .i64 0) 8 rfl Tryd.underlying38 info2 rfl (by decide) (by omega) u11 x11_2 (wrap64 (IntKind.u64.wrap (bt x8_2 0))) [.int .i64 (wrap64 (IntKind.u64.wrap (bt x8_2 0)))] (fun _ => True) (fun _ => False) rfl rfl ?aP (fun _ hk => hk.elim) ?aF ?aO ?aB ?aS ?aL ?_; (case aP => exact rfl); (case aB => exact bl_); (case aF => exact (fun _ _ => trivial)); (case aO => exact (by (with_reducible repeat (first | apply Kd.R_alloc | apply Kd.R_drewN | apply Kd.R_drew)); exact HO_11.out)); (case aS => exact (below_size bl_)); (case aL => have := LMc29.out; omega); intro v110 w31 ho hb hg hat; rw [← Ny109.out] at ho; have n0_ := Aside0.mk (hb); have n1_ := Aside0.mk (ho); clear HB; clear HO_11; have HB := n0_; have HO111 := n1_; clear n0_ n1_; clear ho hb hg hat))
           go_roundg k2
           case measure => have := HJ3.out; have := HK2.out; omega
           case rel => exact ⟨(x8_2.extract 1 x8_2.size), (y109), er_, H', ⟨by have := HJ3.out; have := HK2.out; omega⟩, ⟨by (with_reducible repeat (first | apply Kd.R_alloc | apply Kd.R_drewN | apply Kd.R_drew)); exact HO111.out⟩, ⟨bl_⟩⟩
          exact absurd H (by simp)
         exact absurd H (by simp)
        exact absurd H (by simp)
     exact absurd H (by simp)
    exact absurd H (by simp)
   replace c8 := Bool.eq_false_iff.mpr c8
   subst c8
   have H1 : (some (([] : List Int), (⟨#[]⟩ : ByteArray), 40)) = some (r1, r2, r3) := by rw [if_neg (show ¬ (false = true) by decide)] at H; exact H
   clear H
   have H := H1
   clear H1
   simp only [Option.some.injEq, Prod.mk.injEq] at H
   obtain ⟨rfl, rfl, rfl⟩ := H
   go_wp2
   go_ret3
   exact ⟨_, es_, by first | exact Kd.R_nil _ _ _ _ _ | exact Kd.N_nil _ _ _ _ _ | exact Kd.V_nil _ _ _ _ _ | exact Kd.Q_nil _ _ _ _ _ | exact Kd.S_nil _ _ _ _ _, bl_⟩
def ctok_Str.f (k : Nat) (a0 : ByteArray) : Option (List Int × Int) := (One.scan_One.f k a0).bind fun bt112 => (if bt112.2 = true then (if bt112.1 = 4 then ((ctok_elements.f k a0 (⟨#[34]⟩ : ByteArray)).bind fun bt114 => (some (bt114.1, bt114.2.2))) else (some (([] : List Int), 40))) else (some (([] : List Int), 40)))
theorem ctok_Str.mono : ∀ a0 k, LeO (ctok_Str.f k a0) (ctok_Str.f (k + 1) a0) := by
 intro a0 k
 unfold ctok_Str.f
 repeat' first
   | (with_reducible exact One.scan_One.mono _ _)
   | (with_reducible exact ctok_elements.mono _ _ _)
   | (with_reducible exact LeO.refl _)
   | (with_reducible exact LeO.none _)
   | (with_reducible refine LeO.ite ?_ ?_)
   | (with_reducible refine LeO.bind ?_ (fun _ => ?_))
theorem ctok_Str.calls (k : Nat) (a0 : ByteArray) (r1 : List Int) (r2 : Int) (w : World) (hsh : SH w) (h : ctok_Str.f k a0 = some (r1, r2)) :
  Calls Tryd.prog 21 #[.string a0] w fun e w' => ∃ v0_ : Value, e = .returned (.tuple #[v0_, .int .i64 r2]) ∧ Kd.R (Kd.int .i64) 2 w' w.heap.size (fun _ => True) v0_ r1 ∧ Below w.heap.size w w' := by
 have HSH := Aside0.mk hsh
 clear hsh
 have HB := Aside0.mk (Below.refl w.heap.size w)
 have H : ((One.scan_One.f k a0).bind fun bt112 => (if bt112.2 = true then (if bt112.1 = 4 then ((ctok_elements.f k a0 (⟨#[34]⟩ : ByteArray)).bind fun bt114 => (some (bt114.1, bt114.2.2))) else (some (([] : List Int), 40))) else (some (([] : List Int), 40)))) = some (r1, r2) := h
 clear h
 replace H := Option.bind_eq_some_iff.mp H
 obtain ⟨⟨t112, t113⟩, A20, H⟩ := H
 replace H : (if t113 = true then (if t112 = 4 then ((ctok_elements.f k a0 (⟨#[34]⟩ : ByteArray)).bind fun bt114 => (some (bt114.1, bt114.2.2))) else (some (([] : List Int), 40))) else (some (([] : List Int), 40))) = some (r1, r2) := H
 have A2 := Aside0.mk A20
 clear A20
 by_cases c3 : t113 = true
 ·subst c3
  have H1 : (if t112 = 4 then ((ctok_elements.f k a0 (⟨#[34]⟩ : ByteArray)).bind fun bt114 => (some (bt114.1, bt114.2.2))) else (some (([] : List Int), 40))) = some (r1, r2) := by rw [if_pos rfl] at H; exact H
  clear H
  have H := H1
  clear H1
  replace H := ie_ H
  obtain ⟨c4b0, c4b1, H⟩ | ⟨c4b0, c4b1, c4, H⟩ := H
  ·replace H := Option.bind_eq_some_iff.mp H
   obtain ⟨⟨t114, t115, t116⟩, A50, H⟩ := H
   replace H : (some (t114, t116)) = some (r1, r2) := H
   have A5 := Aside0.mk A50
   clear A50
   simp only [Option.some.injEq, Prod.mk.injEq] at H
   obtain ⟨rfl, rfl⟩ := H
   go_enter Tryd.func21, Tryd.ntmps21
   go_wp2_with (first | ((with_reducible refine gate_callee (f := 37) rfl ?_); refine goesL_ (some 11) rfl rfl Tryd.func37 (by kernel_rfl) rfl #[.string a0] rfl ar_ ?_; (with_reducible refine (One.scan_One.calls k a0 t112 true _ ?side1 A2.out).mono ?_); (case side1 => first | exact SH.below HSH.out bl_ | (repeat (first | exact HSH.out | (with_reducible refine SH.drewN ?_ _) | (with_reducible refine SH.drew ?_) | (with_reducible refine SH.alloc ?_ _)))); rintro e w6 ⟨rfl, hb⟩; refine ⟨_, rfl, ?_⟩; have n0_ := Aside0.mk (below_step bl_ hb); clear HB; have HB := n0_; clear n0_; (try clear hb); (try clear hb2); (try clear hk); (try clear hi)) | ((with_reducible refine gate_callee (f := 38) rfl ?_); refine goesL_ (some 22) rfl rfl Tryd.func38 (by kernel_rfl) rfl #[.string a0, .string (⟨#[34]⟩ : ByteArray)] rfl ar_ ?_; (with_reducible refine (ctok_elements.calls k a0 (⟨#[34]⟩ : ByteArray) t114 t115 t116 _ ?side1 A5.out).mono ?_); (case side1 => first | exact SH.below HSH.out bl_ | (repeat (first | exact HSH.out | (with_reducible refine SH.drewN ?_ _) | (with_reducible refine SH.drew ?_) | (with_reducible refine SH.alloc ?_ _)))); rintro e w7 ⟨v117, rfl, ho0, hb⟩; refine ⟨_, rfl, ?_⟩; have n0_ := Aside0.mk (Kd.R_lower ho0 (below_size bl_)); have n1_ := Aside0.mk (below_step bl_ hb); clear HB; have HO118 := n0_; have HB := n1_; clear n0_ n1_; (try clear hb); (try clear hb2); (try clear hk); (try clear hi); (try clear ho0)))
   go_ret2
   exact ⟨_, es_, by (with_reducible repeat (first | apply Kd.R_alloc | apply Kd.R_drewN | apply Kd.R_drew)); exact HO118.out, bl_⟩
  simp only [Option.some.injEq, Prod.mk.injEq] at H
  obtain ⟨rfl, rfl⟩ := H
  go_enter Tryd.func21, Tryd.ntmps21
  go_wp2_with (first | ((with_reducible refine gate_callee (f := 37) rfl ?_); refine goesL_ (some 11) rfl rfl Tryd.func37 (by kernel_rfl) rfl #[.string a0] rfl ar_ ?_; (with_reducible refine (One.scan_One.calls k a0 t112 true _ ?side1 A2.out).mono ?_); (case side1 => first | exact SH.below HSH.out bl_ | (repeat (first | exact HSH.out | (with_reducible refine SH.drewN ?_ _) | (with_reducible refine SH.drew ?_) | (with_reducible refine SH.alloc ?_ _)))); rintro e w8 ⟨rfl, hb⟩; refine ⟨_, rfl, ?_⟩; have n0_ := Aside0.mk (below_step bl_ hb); clear HB; have HB := n0_; clear n0_; (try clear hb); (try clear hb2); (try clear hk); (try clear hi)))
  go_ret2
  exact ⟨_, es_, by first | exact Kd.R_nil _ _ _ _ _ | exact Kd.N_nil _ _ _ _ _ | exact Kd.V_nil _ _ _ _ _ | exact Kd.Q_nil _ _ _ _ _ | exact Kd.S_nil _ _ _ _ _, bl_⟩
 replace c3 := Bool.eq_false_iff.mpr c3
 subst c3
 have H1 : (some (([] : List Int), 40)) = some (r1, r2) := by rw [if_neg (show ¬ (false = true) by decide)] at H; exact H
 clear H
 have H := H1
 clear H1
 simp only [Option.some.injEq, Prod.mk.injEq] at H
 obtain ⟨rfl, rfl⟩ := H
 go_enter Tryd.func21, Tryd.ntmps21
 go_wp2_with (first | ((with_reducible refine gate_callee (f := 37) rfl ?_); refine goesL_ (some 11) rfl rfl Tryd.func37 (by kernel_rfl) rfl #[.string a0] rfl ar_ ?_; (with_reducible refine (One.scan_One.calls k a0 t112 false _ ?side1 A2.out).mono ?_); (case side1 => first | exact SH.below HSH.out bl_ | (repeat (first | exact HSH.out | (with_reducible refine SH.drewN ?_ _) | (with_reducible refine SH.drew ?_) | (with_reducible refine SH.alloc ?_ _)))); rintro e w9 ⟨rfl, hb⟩; refine ⟨_, rfl, ?_⟩; have n0_ := Aside0.mk (below_step bl_ hb); clear HB; have HB := n0_; clear n0_; (try clear hb); (try clear hb2); (try clear hk); (try clear hi)))
 go_ret2
 exact ⟨_, es_, by first | exact Kd.R_nil _ _ _ _ _ | exact Kd.N_nil _ _ _ _ _ | exact Kd.V_nil _ _ _ _ _ | exact Kd.Q_nil _ _ _ _ _ | exact Kd.S_nil _ _ _ _ _, bl_⟩
mutual
def ctok_Char.j0 : Nat → ByteArray → Bool → Option (Int × Int)
 | 0, _, _ => none
 | k + 1, x0, x23 => if x23 = true then (some (0, 40)) else ((ctok_elements.f k x0 (⟨#[39]⟩ : ByteArray)).bind fun bt121 => (if bt121.2.2 = 0 then (if (bt121.1.length : Int) = 0 then (ctok_Char.j1 k bt121.1 bt121.2.1 true) else (if (bt121.1.length : Int) > 4 then (ctok_Char.j1 k bt121.1 bt121.2.1 true) else (if bt121.2.1.toList = ([] : List UInt8) then (ctok_Char.j1 k bt121.1 bt121.2.1 false) else (ctok_Char.j1 k bt121.1 bt121.2.1 (decide ((bt121.1.length : Int) > 1)))))) else (ctok_Char.j1 k bt121.1 bt121.2.1 true)))
def ctok_Char.j1 : Nat → List Int → ByteArray → Bool → Option (Int × Int)
 | 0, _, _, _ => none
 | k + 1, x6, x7, x30 => if x30 = true then (some (0, 40)) else (if x7.toList = ([] : List UInt8) then (ctok_Char.l0 k x6 0 x6 (x6.length : Int) 0) else (if 0 < (x6.length : Int) then (some (rd x6 0, 0)) else (none)))
def ctok_Char.l0 : Nat → List Int → Int → List Int → Int → Int → Option (Int × Int)
 | 0, _, _, _, _, _ => none
 | k + 1, x6, x9, x58, x59, x60 => if x60 < x59 then (if 0 ≤ x60 then (if x60 < (x58.length : Int) then (ctok_Char.l0 k x6 (Go.bits .or .i64 (wrap64 (x9 * 256)) (rd x58 x60)) x58 x59 (wrap64 (x60 + 1))) else (none)) else (none)) else (if 0 ≤ (wrap64 ((wrap64 (8 * (x6.length : Int))) - 1)) then (if (shr .i64 x9 (wrap64 ((wrap64 (8 * (x6.length : Int))) - 1))) = 1 then (if 0 ≤ (wrap64 (8 * (x6.length : Int))) then (some (wrap64 (x9 - (shl .i64 1 (wrap64 (8 * (x6.length : Int))))), 0)) else (none)) else (some (x9, 0))) else (none))
end
def ctok_Char.f (k : Nat) (a0 : ByteArray) : Option (Int × Int) := (One.scan_One.f k a0).bind fun bt119 => (if bt119.2 = true then (ctok_Char.j0 k a0 (bt119.1 != 3)) else (ctok_Char.j0 k a0 true))
theorem ctok_Char.mono_l : ∀ k, (∀ y0 y1, LeO (ctok_Char.j0 k y0 y1) (ctok_Char.j0 (k + 1) y0 y1)) ∧ (∀ y0 y1 y2, LeO (ctok_Char.j1 k y0 y1 y2) (ctok_Char.j1 (k + 1) y0 y1 y2)) ∧ (∀ y0 y1 y2 y3 y4, LeO (ctok_Char.l0 k y0 y1 y2 y3 y4) (ctok_Char.l0 (k + 1) y0 y1 y2 y3 y4))
 | 0 => ⟨fun _ _ r h => by simp [ctok_Char.j0] at h, fun _ _ _ r h => by simp [ctok_Char.j1] at h, fun _ _ _ _ _ r h => by simp [ctok_Char.l0] at h⟩
 | k + 1 => by
  obtain ⟨ih0, ih1, ih2⟩ := ctok_Char.mono_l k
  refine ⟨?_, ?_, ?_⟩
  ·intro y0 y1
   unfold ctok_Char.j0
   repeat' first
   | (with_reducible exact ih0 _ _)
   | (with_reducible exact ih1 _ _ _)
   | (with_reducible exact ih2 _ _ _ _ _)
   | (with_reducible exact One.scan_One.mono _ _)
   | (with_reducible exact ctok_elements.mono _ _ _)
   | (with_reducible exact LeO.refl _)
   | (with_reducible exact LeO.none _)
   | (with_reducible refine LeO.ite ?_ ?_)
   | (with_reducible refine LeO.bind ?_ (fun _ => ?_))
  ·intro y0 y1 y2
   unfold ctok_Char.j1
   repeat' first
   | (with_reducible exact ih0 _ _)
   | (with_reducible exact ih1 _ _ _)
   | (with_reducible exact ih2 _ _ _ _ _)
   | (with_reducible exact One.scan_One.mono _ _)
   | (with_reducible exact ctok_elements.mono _ _ _)
   | (with_reducible exact LeO.refl _)
   | (with_reducible exact LeO.none _)
   | (with_reducible refine LeO.ite ?_ ?_)
   | (with_reducible refine LeO.bind ?_ (fun _ => ?_))
  intro y0 y1 y2 y3 y4
  unfold ctok_Char.l0
  repeat' first
  | (with_reducible exact ih0 _ _)
  | (with_reducible exact ih1 _ _ _)
  | (with_reducible exact ih2 _ _ _ _ _)
  | (with_reducible exact One.scan_One.mono _ _)
  | (with_reducible exact ctok_elements.mono _ _ _)
  | (with_reducible exact LeO.refl _)
  | (with_reducible exact LeO.none _)
  | (with_reducible refine LeO.ite ?_ ?_)
  | (with_reducible refine LeO.bind ?_ (fun _ => ?_))
theorem ctok_Char.mono : ∀ a0 k, LeO (ctok_Char.f k a0) (ctok_Char.f (k + 1) a0) := by
 intro a0 k
 obtain ⟨ih0, ih1, ih2⟩ := ctok_Char.mono_l k
 unfold ctok_Char.f
 repeat' first
   | (with_reducible exact ih0 _ _)
   | (with_reducible exact ih1 _ _ _)
   | (with_reducible exact ih2 _ _ _ _ _)
   | (with_reducible exact One.scan_One.mono _ _)
   | (with_reducible exact ctok_elements.mono _ _ _)
   | (with_reducible exact LeO.refl _)
   | (with_reducible exact LeO.none _)
   | (with_reducible refine LeO.ite ?_ ?_)
   | (with_reducible refine LeO.bind ?_ (fun _ => ?_))
theorem ctok_Char.calls (k : Nat) (a0 : ByteArray) (r1 : Int) (r2 : Int) (w : World) (hsh : SH w) (h : ctok_Char.f k a0 = some (r1, r2)) :
  Calls Tryd.prog 29 #[.string a0] w fun e w' => e = .returned (.tuple #[.int .i64 r1, .int .i64 r2]) ∧ Below w.heap.size w w' := by
 have HSH := Aside0.mk hsh
 clear hsh
 have HB := Aside0.mk (Below.refl w.heap.size w)
 have H : ((One.scan_One.f k a0).bind fun bt119 => (if bt119.2 = true then (ctok_Char.j0 k a0 (bt119.1 != 3)) else (ctok_Char.j0 k a0 true))) = some (r1, r2) := h
 clear h
 replace H := Option.bind_eq_some_iff.mp H
 obtain ⟨⟨t119, t120⟩, A20, H⟩ := H
 replace H : (if t120 = true then (ctok_Char.j0 k a0 (t119 != 3)) else (ctok_Char.j0 k a0 true)) = some (r1, r2) := H
 have A2 := Aside0.mk A20
 clear A20
 have HC3 := Aside0.mk H
 clear H
 go_enter Tryd.func29, Tryd.ntmps29
 go_upto_region 2 with (first | ((with_reducible refine gate_callee (f := 37) rfl ?_); refine goesL_ (some 15) rfl rfl Tryd.func37 (by kernel_rfl) rfl #[.string a0] rfl ar_ ?_; (with_reducible refine (One.scan_One.calls k a0 t119 t120 _ ?side1 A2.out).mono ?_); (case side1 => first | exact SH.below HSH.out bl_ | (repeat (first | exact HSH.out | (with_reducible refine SH.drewN ?_ _) | (with_reducible refine SH.drew ?_) | (with_reducible refine SH.alloc ?_ _)))); rintro e w4 ⟨rfl, hb⟩; refine ⟨_, rfl, ?_⟩; have n0_ := Aside0.mk (below_step bl_ hb); clear HB; have HB := n0_; clear n0_; (try clear hb); (try clear hb2); (try clear hk); (try clear hi)))
 (try simp only [Act.put, List.setIfInBounds_toArray, List.set_cons_zero, List.set_cons_succ])
 go_cut [23] (fun v23 wc => ∃ (kq : Nat) (x23_2 : Bool), v23 = .bool x23_2 ∧ Aside0 (ctok_Char.j0 kq a0 x23_2 = some (r1, r2)) ∧ Aside0 (kq ≤ k) ∧ Aside0 (Below w.heap.size w wc))
 case first =>
  have H := HC3.out
  clear HC3
  by_cases c5 : t120 = true
  ·subst c5
   have H1 : (ctok_Char.j0 k a0 (t119 != 3)) = some (r1, r2) := by rw [if_pos rfl] at H; exact H
   clear H
   have H := H1
   clear H1
   have H' := Aside0.mk H
   clear H
   go_wp2
   go_meet
   case rel => exact ⟨_, ((t119 != 3)), er_, H', ⟨om_⟩, ⟨bl_⟩⟩
  replace c5 := Bool.eq_false_iff.mpr c5
  subst c5
  have H1 : (ctok_Char.j0 k a0 true) = some (r1, r2) := by rw [if_neg (show ¬ (false = true) by decide)] at H; exact H
  clear H
  have H := H1
  clear H1
  have H' := Aside0.mk H
  clear H
  go_wp2
  go_meet
  case rel => exact ⟨_, (true), er_, H', ⟨om_⟩, ⟨bl_⟩⟩
 case rest =>
  clear HC3
  try clear c5
  obtain ⟨kq, x23_2, rfl, HA, HJ2, HB⟩ := hcut
  cases kq with
  | zero => exact absurd HA.out (by simp [ctok_Char.j0])
  | succ kj2 =>
   have H := HA.out
   clear HA
   simp only [ctok_Char.j0] at H
   by_cases c6 : x23_2 = true
   ·subst c6
    have H1 : (some (0, 40)) = some (r1, r2) := by rw [if_pos rfl] at H; exact H
    clear H
    have H := H1
    clear H1
    simp only [Option.some.injEq, Prod.mk.injEq] at H
    obtain ⟨rfl, rfl⟩ := H
    go_wp2
    go_ret2
    exact ⟨es_, bl_⟩
   replace c6 := Bool.eq_false_iff.mpr c6
   subst c6
   have H1 : ((ctok_elements.f kj2 a0 (⟨#[39]⟩ : ByteArray)).bind fun bt121 => (if bt121.2.2 = 0 then (if (bt121.1.length : Int) = 0 then (ctok_Char.j1 kj2 bt121.1 bt121.2.1 true) else (if (bt121.1.length : Int) > 4 then (ctok_Char.j1 kj2 bt121.1 bt121.2.1 true) else (if bt121.2.1.toList = ([] : List UInt8) then (ctok_Char.j1 kj2 bt121.1 bt121.2.1 false) else (ctok_Char.j1 kj2 bt121.1 bt121.2.1 (decide ((bt121.1.length : Int) > 1)))))) else (ctok_Char.j1 kj2 bt121.1 bt121.2.1 true))) = some (r1, r2) := by rw [if_neg (show ¬ (false = true) by decide)] at H; exact H
   clear H
   have H := H1
   clear H1
   replace H := Option.bind_eq_some_iff.mp H
   obtain ⟨⟨t121, t122, t123⟩, A70, H⟩ := H
   replace H : (if t123 = 0 then (if (t121.length : Int) = 0 then (ctok_Char.j1 kj2 t121 t122 true) else (if (t121.length : Int) > 4 then (ctok_Char.j1 kj2 t121 t122 true) else (if t122.toList = ([] : List UInt8) then (ctok_Char.j1 kj2 t121 t122 false) else (ctok_Char.j1 kj2 t121 t122 (decide ((t121.length : Int) > 1)))))) else (ctok_Char.j1 kj2 t121 t122 true)) = some (r1, r2) := H
   have A7 := Aside0.mk A70
   clear A70
   have HC8 := Aside0.mk H
   clear H
   go_upto_region 5 with (first | ((with_reducible refine gate_callee (f := 38) rfl ?_); refine goesL_ (some 26) rfl rfl Tryd.func38 (by kernel_rfl) rfl #[.string a0, .string (⟨#[39]⟩ : ByteArray)] rfl ar_ ?_; (with_reducible refine (ctok_elements.calls kj2 a0 (⟨#[39]⟩ : ByteArray) t121 t122 t123 _ ?side1 A7.out).mono ?_); (case side1 => first | exact SH.below HSH.out bl_ | (repeat (first | exact HSH.out | (with_reducible refine SH.drewN ?_ _) | (with_reducible refine SH.drew ?_) | (with_reducible refine SH.alloc ?_ _)))); rintro e w9 ⟨v124, rfl, ho0, hb⟩; refine ⟨_, rfl, ?_⟩; have n0_ := Aside0.mk (Kd.R_lower ho0 (below_size bl_)); have n1_ := Aside0.mk (below_step bl_ hb); clear HB; have HO125 := n0_; have HB := n1_; clear n0_ n1_; (try clear hb); (try clear hb2); (try clear hk); (try clear hi); (try clear ho0)))
   (try simp only [Act.put, List.setIfInBounds_toArray, List.set_cons_zero, List.set_cons_succ])
   go_cut [30] (fun v30 wc => ∃ (kq : Nat) (x30_7 : Bool), v30 = .bool x30_7 ∧ Aside0 (ctok_Char.j1 kq t121 t122 x30_7 = some (r1, r2)) ∧ Aside0 (kq ≤ kj2) ∧ Aside0 (Kd.R (Kd.int .i64) 2 wc w.heap.size (fun _ => True) v124 t121) ∧ Aside0 (Below w.heap.size w wc))
   case first =>
    have H := HC8.out
    clear HC8
    replace H := ie_ H
    obtain ⟨c10b0, c10b1, H⟩ | ⟨c10b0, c10b1, c10, H⟩ := H
    ·(first | rw [c10b0] | (simp only [i64_w, i32_w]; rw [c10b0]) | skip)
     replace H := ie_ H
     obtain ⟨c11b0, c11b1, H⟩ | ⟨c11b0, c11b1, c11, H⟩ := H
     ·have H' := Aside0.mk H
      clear H
      obtain ⟨Ao12, co12, eo12⟩ := Kd.R_slice HO125.out
      subst eo12
      go_wp2
      go_meet
      case rel => exact ⟨_, (true), er_, H', ⟨by have := HJ2.out; first | omega | exact Nat.le_refl _⟩, ⟨by (with_reducible repeat (first | apply Kd.R_alloc | apply Kd.R_drewN | apply Kd.R_drew)); exact HO125.out⟩, ⟨bl_⟩⟩
     have c11b2 : ¬ (t121 = []) := fun h_ => c11 (by rw [h_]; rfl)
     replace H := ib_ H
     obtain ⟨c13, H⟩ | ⟨c13, H⟩ := H
     ·have c13b0 : decide (4 < (t121.length : Int)) = true := decide_eq_true c13
      have c13b1 : decide (4 < t121.length) = true := decide_eq_true (by omega)
      clear c13
      have H' := Aside0.mk H
      clear H
      obtain ⟨Ao14, co14, eo14⟩ := Kd.R_slice HO125.out
      subst eo14
      go_wp2
      go_meet
      case rel => exact ⟨_, (true), er_, H', ⟨by have := HJ2.out; first | omega | exact Nat.le_refl _⟩, ⟨by (with_reducible repeat (first | apply Kd.R_alloc | apply Kd.R_drewN | apply Kd.R_drew)); exact HO125.out⟩, ⟨bl_⟩⟩
     have c13b0 : decide (4 < (t121.length : Int)) = false := decide_eq_false c13
     have c13b1 : decide (4 < t121.length) = false := decide_eq_false (by omega)
     clear c13
     replace H := ie_ H
     obtain ⟨c15b0, c15b1, H⟩ | ⟨c15b0, c15b1, c15, H⟩ := H
     ·have H' := Aside0.mk H
      clear H
      obtain ⟨Ao16, co16, eo16⟩ := Kd.R_slice HO125.out
      subst eo16
      go_wp2
      go_meet
      case rel => exact ⟨_, (false), er_, H', ⟨by have := HJ2.out; first | omega | exact Nat.le_refl _⟩, ⟨by (with_reducible repeat (first | apply Kd.R_alloc | apply Kd.R_drewN | apply Kd.R_drew)); exact HO125.out⟩, ⟨bl_⟩⟩
     have H' := Aside0.mk H
     clear H
     obtain ⟨Ao17, co17, eo17⟩ := Kd.R_slice HO125.out
     subst eo17
     go_wp2
     go_meet
     case rel => exact ⟨_, (decide ((t121.length : Int) > 1)), er_, H', ⟨by have := HJ2.out; first | omega | exact Nat.le_refl _⟩, ⟨by (with_reducible repeat (first | apply Kd.R_alloc | apply Kd.R_drewN | apply Kd.R_drew)); exact HO125.out⟩, ⟨bl_⟩⟩
    (first | rw [c10b0] | (simp only [i64_w, i32_w]; rw [c10b0]) | skip)
    have H' := Aside0.mk H
    clear H
    go_wp2
    go_meet
    case rel => exact ⟨_, (true), er_, H', ⟨by have := HJ2.out; first | omega | exact Nat.le_refl _⟩, ⟨by (with_reducible repeat (first | apply Kd.R_alloc | apply Kd.R_drewN | apply Kd.R_drew)); exact HO125.out⟩, ⟨bl_⟩⟩
   case rest =>
    clear HC8
    try clear c5
    try clear c6
    try clear c10
    try clear c10b0
    try clear c10b1
    try clear c11
    try clear c11b0
    try clear c11b1
    try clear c11b2
    try clear c13
    try clear c13b0
    try clear c13b1
    try clear c15
    try clear c15b0
    try clear c15b1
    obtain ⟨kq, x30_7, rfl, HA, HJ7, HO_6, HB⟩ := hcut
    cases kq with
    | zero => exact absurd HA.out (by simp [ctok_Char.j1])
    | succ kj7 =>
     have H := HA.out
     clear HA
     simp only [ctok_Char.j1] at H
     by_cases c18 : x30_7 = true
     ·subst c18
      have H1 : (some (0, 40)) = some (r1, r2) := by rw [if_pos rfl] at H; exact H
      clear H
      have H := H1
      clear H1
      simp only [Option.some.injEq, Prod.mk.injEq] at H
      obtain ⟨rfl, rfl⟩ := H
      go_wp2
      go_ret2
      exact ⟨es_, bl_⟩
     replace c18 := Bool.eq_false_iff.mpr c18
     subst c18
     have H1 : (if t122.toList = ([] : List UInt8) then (ctok_Char.l0 kj7 t121 0 t121 (t121.length : Int) 0) else (if 0 < (t121.length : Int) then (some (rd t121 0, 0)) else (none))) = some (r1, r2) := by rw [if_neg (show ¬ (false = true) by decide)] at H; exact H
     clear H
     have H := H1
     clear H1
     replace H := ib_ H
     obtain ⟨c19, H⟩ | ⟨c19, H⟩ := H
     ·have c19b0 := beq_iff_eq.mpr c19
      have c19b1 := bne_eq_false_iff_eq.mpr c19
      clear c19
      have H' := Aside0.mk H
      clear H
      obtain ⟨Ao20, co20, eo20⟩ := Kd.R_slice HO_6.out
      subst eo20
      go_wp2
      go_loopg [9, 60] kj7 (fun kq v9 v60 w' => ∃ (x9_3 : Int) (x60_3 : Int), v9 = .int .i64 x9_3 ∧ v60 = .int .i64 x60_3 ∧ Aside0 (ctok_Char.l0 kq t121 x9_3 t121 (t121.length : Int) x60_3 = some (r1, r2)) ∧ Aside0 (kq ≤ kj7) ∧ Aside0 (Kd.R (Kd.int .i64) 2 w' w.heap.size (fun _ => True) (.slice Ao20 t121.length co20) t121) ∧ Aside0 (Kd.R (Kd.int .i64) 2 w' w.heap.size (fun _ => True) (.slice Ao20 t121.length co20) t121) ∧ Aside0 (Below w.heap.size w w'))
      case atStart => exact ⟨(0), (0), er_, er_, H', ⟨Nat.le_refl _⟩, ⟨by (with_reducible repeat (first | apply Kd.R_alloc | apply Kd.R_drewN | apply Kd.R_drew)); exact HO_6.out⟩, ⟨by (with_reducible repeat (first | apply Kd.R_alloc | apply Kd.R_drewN | apply Kd.R_drew)); exact HO_6.out⟩, ⟨bl_⟩⟩
      case round =>
       clear H'
       try clear c5
       try clear c6
       try clear c10
       try clear c10b0
       try clear c10b1
       try clear c11
       try clear c11b0
       try clear c11b1
       try clear c11b2
       try clear c13
       try clear c13b0
       try clear c13b1
       try clear c15
       try clear c15b0
       try clear c15b1
       try clear c18
       try clear c19
       try clear c19b0
       try clear c19b1
       obtain ⟨x9_3, x60_3, rfl, rfl, HA, HK3, HO_6, HO_58, HB⟩ := hrel
       cases gk with
       | zero => exact absurd HA.out (by simp [ctok_Char.l0])
       | succ k3 =>
        have H := HA.out
        clear HA
        simp only [ctok_Char.l0] at H
        replace H := id_ H
        obtain ⟨-, c21b0, H⟩ | ⟨-, c21b0, H⟩ := H
        ·replace H := id_ H
         obtain ⟨-, c22b0, H⟩ | ⟨-, -, H⟩ := H
         ·replace H := id_ H
          obtain ⟨-, c23b0, H⟩ | ⟨-, -, H⟩ := H
          ·have H' := Aside0.mk H
           clear H
           have p127 : 0 ≤ (x60_3 : Int) := da_
           have q127 : x60_3 < (t121.length : Int) := da_
           obtain ⟨ad127, e127, hx127_0⟩ := Kd.at_int (Kd.R_reads' HO_58.out).2.2 x60_3 p127 q127
           cases e127
           replace p127 := eq_true p127
           replace q127 := eq_true q127
           go_wp2
           go_roundg k3
           case measure => have := HJ2.out; have := HJ7.out; have := HK3.out; omega
           case rel => exact ⟨(Go.bits .or .i64 (wrap64 (x9_3 * 256)) (rd t121 x60_3)), (wrap64 (x60_3 + 1)), er_, er_, H', ⟨by have := HJ2.out; have := HJ7.out; have := HK3.out; omega⟩, ⟨by (with_reducible repeat (first | apply Kd.R_alloc | apply Kd.R_drewN | apply Kd.R_drew)); exact HO_6.out⟩, ⟨by (with_reducible repeat (first | apply Kd.R_alloc | apply Kd.R_drewN | apply Kd.R_drew)); exact HO_58.out⟩, ⟨bl_⟩⟩
          exact absurd H (by simp)
         exact absurd H (by simp)
        obtain ⟨ji24, hji24⟩ : ∃ j_ : Int, (wrap64 ((wrap64 (8 * (t121.length : Int))) - 1)) = j_ := ⟨_, rfl⟩
        replace H : (if 0 ≤ (ji24) then (if (shr .i64 x9_3 (ji24)) = 1 then (if 0 ≤ (wrap64 (8 * (t121.length : Int))) then (some (wrap64 (x9_3 - (shl .i64 1 (wrap64 (8 * (t121.length : Int))))), 0)) else (none)) else (some (x9_3, 0))) else (none)) = some (r1, r2) := by first | (rw [hji24] at H; exact H) | (simp only [hji24] at H ⊢; exact H)
        have hji24w : (IntKind.i64.wrap ((wrap64 (8 * (t121.length : Int))) - 1)) = ji24 := (i64_w _).trans hji24
        replace H := id_ H
        obtain ⟨c25b0, c25b1, H⟩ | ⟨-, -, H⟩ := H
        ·obtain ⟨ji26, hji26⟩ : ∃ j_ : Int, (shr .i64 x9_3 (ji24)) = j_ := ⟨_, rfl⟩
         replace H : (if (ji26) = 1 then (if 0 ≤ (wrap64 (8 * (t121.length : Int))) then (some (wrap64 (x9_3 - (shl .i64 1 (wrap64 (8 * (t121.length : Int))))), 0)) else (none)) else (some (x9_3, 0))) = some (r1, r2) := by first | (rw [hji26] at H; exact H) | (simp only [hji26] at H ⊢; exact H)
         have hji26_ : (x9_3 / 2 ^ min (ji24).toNat 64) = ji26 := hji26
         have hji26z : (ji24) ≤ 64 → (x9_3 / 2 ^ (ji24).toNat) = ji26 := shr_small hji26
         replace H := ie_ H
         obtain ⟨c27b0, c27b1, H⟩ | ⟨c27b0, c27b1, c27, H⟩ := H
         ·obtain ⟨ji28, hji28⟩ : ∃ j_ : Int, (wrap64 (8 * (t121.length : Int))) = j_ := ⟨_, rfl⟩
          replace H : (if 0 ≤ (ji28) then (some (wrap64 (x9_3 - (shl .i64 1 (ji28))), 0)) else (none)) = some (r1, r2) := by first | (rw [hji28] at H; exact H) | (simp only [hji28] at H ⊢; exact H)
          have hji28w : (IntKind.i64.wrap (8 * (t121.length : Int))) = ji28 := (i64_w _).trans hji28
          have hji24q : wrap64 (ji28 - 1) = ji24 := by rw [← hji28]; exact hji24
          replace H := id_ H
          obtain ⟨c29b0, c29b1, H⟩ | ⟨-, -, H⟩ := H
          ·obtain ⟨ji30, hji30⟩ : ∃ j_ : Int, (shl .i64 1 (ji28)) = j_ := ⟨_, rfl⟩
           replace H : (some (wrap64 (x9_3 - (ji30)), 0)) = some (r1, r2) := by first | (rw [hji30] at H; exact H) | (simp only [hji30] at H ⊢; exact H)
           have hji30_ : (IntKind.i64.wrap (1 * 2 ^ min (ji28).toNat 64)) = ji30 := hji30
           have hji30z : (ji28) ≤ 64 → (IntKind.i64.wrap (1 * 2 ^ (ji28).toNat)) = ji30 := shl_small hji30
           have hji30u : (IntKind.i64.wrap (2 ^ min (ji28).toNat 64)) = ji30 := by have h_ := hji30_; rw [Int.one_mul] at h_; exact h_
           have hji30v : (ji28) ≤ 64 → (IntKind.i64.wrap (2 ^ (ji28).toNat)) = ji30 := fun hle_ => by have h_ := hji30z hle_; rw [Int.one_mul] at h_; exact h_
           have hji30y : (wrap64 (1 * 2 ^ min (ji28).toNat 64)) = ji30 := (i64_w _).symm.trans hji30_
           have hji30x : (ji28) ≤ 64 → (wrap64 (1 * 2 ^ (ji28).toNat)) = ji30 := fun h_ => (i64_w _).symm.trans (hji30z h_)
           simp only [Option.some.injEq, Prod.mk.injEq] at H
           obtain ⟨rfl, rfl⟩ := H
           go_wp2
           go_ret2
           exact ⟨by first | rfl | (simp [errW_none, errW_some] <;> rfl) | (simp only [← hji24, ← hji26, ← hji28, ← hji30]; first | rfl | (simp [errW_none, errW_some] <;> rfl)) | (simp [*, errW_none, errW_some] <;> rfl), bl_⟩
          exact absurd H (by simp)
         simp only [Option.some.injEq, Prod.mk.injEq] at H
         obtain ⟨rfl, rfl⟩ := H
         go_wp2
         go_ret2
         exact ⟨by first | rfl | (simp [errW_none, errW_some] <;> rfl) | (simp only [← hji24, ← hji26]; first | rfl | (simp [errW_none, errW_some] <;> rfl)) | (simp [*, errW_none, errW_some] <;> rfl), bl_⟩
        exact absurd H (by simp)
     have c19b0 := beq_eq_false_iff_ne.mpr c19
     have c19b1 := bne_iff_ne.mpr c19
     replace H := ib_ H
     obtain ⟨c31, H⟩ | ⟨c31, H⟩ := H
     ·have c31b0 := decide_eq_true c31
      have c31b1 : decide (0 < t121.length) = true := decide_eq_true (by omega)
      clear c31
      simp only [Option.some.injEq, Prod.mk.injEq] at H
      obtain ⟨rfl, rfl⟩ := H
      obtain ⟨Ao32, co32, eo32⟩ := Kd.R_slice HO_6.out
      subst eo32
      have p126 : 0 ≤ (0 : Int) := (by omega)
      have q126 : 0 < (t121.length : Int) := da_
      obtain ⟨ad126, e126, hx126_0⟩ := Kd.at_int (Kd.R_reads' HO_6.out).2.2 0 p126 q126
      cases e126
      have qi126 : (0 < t121.length) = True := eq_true (by omega)
      (try rw [show ((0 : Int)).toNat = 0 from rfl] at hx126_0)
      (try rw [Addr.add_zero'] at hx126_0)
      replace p126 := eq_true p126
      replace q126 := eq_true q126
      go_wp2
      go_ret2
      exact ⟨es_, bl_⟩
     exact absurd H (by simp)
end Go.Proofs.YtcdleippdegibaaDoor.PE
namespace Go.Proofs.YtcdleippdegibaaDoor.PC
open Go.RowKit Go.Proofs.YtcdleippdegibaaDoorW.PrintWords Go.Proofs.YtcdleippdegibaaDoorW.PrintLast Go.Proofs.YtcdleippdegibaaDoorW.PrintMore
open Go.Proofs.YtcdleippdegibaaDoor.LibG (SH SH.below SH.drewN SH.drew SH.alloc)
open Go.Proofs.YtcdleippdegibaaDoor.PK
attribute [local go_sem] max2_int min2_int max_two min_two max_three min_three max_four min_four
def errW : Option Int → Value
 | none => .nilIface
 | some c => .iface 0 (.int .i64 c)
theorem errW_none : errW none = .nilIface := rfl
theorem errW_some (c : Int) : errW (some c) = .iface 0 (.int .i64 c) := rfl
end Go.Proofs.YtcdleippdegibaaDoor.PC
