import Derived.Test.YtcdleippdegibaaDoorNInt
import Derived.Test.YtcdleippdegibaaDoorNLibG
set_option autoImplicit false
set_option relaxedAutoImplicit false
namespace Go.Proofs.YtcdleippdegibaaDoor.Alive
open Go Go.RowKit Go.Proofs Go.Proofs.YtcdleippdegibaaDoorW.PrintWords Go.Proofs.YtcdleippdegibaaDoor Go.Proofs.YtcdleippdegibaaDoor.PB Go.Proofs.YtcdleippdegibaaDoor.Digits Go.Proofs.YtcdleippdegibaaDoor.LibG
set_option maxHeartbeats 8000000 in
set_option maxRecDepth 100000 in
theorem class5 (w : World) : Calls Tryd.prog 9 #[.int .i64 5, .string ⟨#[60, 37]⟩] w fun e w' => e = .returned (.tuple #[.agg #[.int .i64 7, .string ⟨#[123]⟩], .int .i64 0]) ∧ Below w.heap.size w w' := by
  have HB := Aside0.mk (Below.refl w.heap.size w)
  go_enter Tryd.func9, Tryd.ntmps9
  go_wp2
  refine bodyPost_ret (v := .tuple #[.agg #[.int .i64 7, .string ⟨#[123]⟩], .int .i64 0]) ?_ rfl ?_
  · simp [results, Tryd.results9, go_sem]
  exact ⟨by first | rfl | (simp; done) | (simp [*]; done), by repeat (first | (with_reducible first | exact HB.out | apply below_alloc | apply pw_below_drewN | apply below_drew1) | exact HB.out)⟩
theorem hI : ctok_Int.f ⟨#[48, 120, 49, 70]⟩ = some (31, false, 0) := by
    kernel_rfl
set_option maxHeartbeats 8000000 in
set_option maxRecDepth 100000 in
theorem worth1 (w : World) (hsh : SH w) : Calls Tryd.prog 20 #[.string ⟨#[48, 120, 49, 70]⟩, .int .u64 31, .bool false] w fun e w' => e = .returned (.bool true) ∧ Below w.heap.size w w' := by
  go_enter Tryd.func20, Tryd.ntmps20
  go_wp2_with (first | (go_at_call 28; refine (ctok_Int.calls _ _ _ _ _ hsh hI).mono ?_; rintro e w' ⟨rfl, hw⟩))
  go_ret
  exact ⟨rfl, hw⟩
set_option maxHeartbeats 8000000 in
set_option maxRecDepth 100000 in
theorem alive0 (w : World) (hsh : SH w) : Calls Tryd.prog 17 #[] w fun e w' => e = .returned (.bool true) ∧ Below w.heap.size w w' := by
  have hq : ∀ w, (binOp .eql 23 (.agg #[.int .i64 7, .string ⟨#[123]⟩]) (.agg #[.int .i64 7, .string ⟨#[123]⟩])).run Tryd.prog w = .ok (.bool true) w := fun _ => by kernel_rfl
  go_enter Tryd.func17, Tryd.ntmps17
  go_wp2_with (first | (go_at_call 9; refine (class5 _).mono ?_; rintro e w2 ⟨rfl, hw2⟩) | (go_at_call 20; refine (worth1 _ ((hsh.below hw2).alloc _)).mono ?_; rintro e w3 ⟨rfl, hw3⟩; have c1 : w3.cell? ⟨w2.heap.size, 0, none⟩ = some (.int .i64 7) := (hw3.cell (p := ⟨w2.heap.size, 0, none⟩) (by simp)).trans (by simp); have c2 : w3.cell? ⟨w2.heap.size, 1, none⟩ = some (.string ⟨#[123]⟩) := (hw3.cell (p := ⟨w2.heap.size, 1, none⟩) (by simp)).trans (by simp)))
  have hB := (hw2.alloc hw2.size (.cells #[.int .i64 7, .string ⟨#[123]⟩] 23)).trans (hw3.mono (by simp; exact Nat.le_succ_of_le hw2.size))
  go_ret
  exact ⟨rfl, hB⟩
def regletlaw04_alive.f : Option Bool := some true
theorem regletlaw04_alive.calls (r : Bool) (w : World) (hsh : SH w) (h : regletlaw04_alive.f = some r) : Calls Tryd.prog 17 #[] w fun e w' => e = .returned (.bool r) ∧ Below w.heap.size w w' := by
  injection h with h
  subst h
  exact alive0 w hsh
end Go.Proofs.YtcdleippdegibaaDoor.Alive
