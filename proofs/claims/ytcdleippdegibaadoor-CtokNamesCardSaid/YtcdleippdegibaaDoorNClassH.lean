import Derived.Test.YtcdleippdegibaaDoorNPEx1
import Derived.Test.YtcdleippdegibaaDoorNPEx2
import Derived.Test.YtcdleippdegibaaDoorNPCx2
import Derived.Test.YtcdleippdegibaaDoorNAlive
set_option linter.unusedVariables false
set_option linter.unusedSimpArgs false
namespace Go.Proofs.YtcdleippdegibaaDoor.ClassH
open Go Go.RowKit Go.Proofs Go.Proofs.YtcdleippdegibaaDoorW.PrintWords Go.Proofs.YtcdleippdegibaaDoor Go.Proofs.YtcdleippdegibaaDoor.PB Go.Proofs.YtcdleippdegibaaDoor.PC Go.Proofs.YtcdleippdegibaaDoor.PE Go.Proofs.YtcdleippdegibaaDoor.Digits Go.Proofs.YtcdleippdegibaaDoor.LibG
def ctok_Class.f (k : Nat) (a0 : Int) (a1 : ByteArray) : Option (Int × ByteArray × Int) :=
  if a0 = 1 then (ctok_Keyword.f a1).bind fun b => if b = true then some (1, a1, 0) else some (2, a1, 0)
  else if a0 = 2 then (ctok_Int.f a1).bind fun r => if r.2.2 = 0 then some (3, a1, 0) else (ctok_Float.f k a1).bind fun b => if b = true then some (4, a1, 0) else some (0, ⟨#[]⟩, 40)
  else if a0 = 3 then (ctok_Char.f k a1).bind fun r => if r.2 = 0 then some (5, a1, 0) else some (0, ⟨#[]⟩, 40)
  else if a0 = 4 then (ctok_Str.f k a1).bind fun r => if r.2 = 0 then some (6, a1, 0) else some (0, ⟨#[]⟩, 40)
  else if a0 = 5 then (ctok_Canon.f a1).bind fun t => some (7, t, 0)
  else some (0, ⟨#[]⟩, 40)
set_option maxHeartbeats 8000000 in
set_option maxRecDepth 100000 in
theorem class1 (t : ByteArray) (b : Bool) (w : World) (h : ctok_Keyword.f t = some b) : Calls Tryd.prog 9 #[.int .i64 1, .string t] w fun e w' => e = .returned (.tuple #[.agg #[.int .i64 (if b = true then 1 else 2), .string t], .int .i64 0]) ∧ Below w.heap.size w w' := by
  have HB := Aside0.mk (Below.refl w.heap.size w)
  cases b with
  | true =>
    go_enter Tryd.func9, Tryd.ntmps9
    go_wp2_with (go_at_call 11; refine (ctok_Keyword.calls _ _ _ h).mono ?_; rintro e w2 ⟨rfl, ⟨nd, rfl⟩⟩)
    refine bodyPost_ret (v := .tuple #[.agg #[.int .i64 1, .string t], .int .i64 0]) ?_ rfl ?_
    · simp [results, Tryd.results9, go_sem]
    exact ⟨by first | rfl | (simp; done) | (simp [*]; done), by repeat (first | (with_reducible first | exact HB.out | apply below_alloc | apply pw_below_drewN | apply below_drew1 | refine below_set ?_ (Nat.le_refl _) | refine below_set ?_ (Nat.le_succ _)) | exact HB.out)⟩
  | false =>
    go_enter Tryd.func9, Tryd.ntmps9
    go_wp2_with (go_at_call 11; refine (ctok_Keyword.calls _ _ _ h).mono ?_; rintro e w2 ⟨rfl, ⟨nd, rfl⟩⟩)
    refine bodyPost_ret (v := .tuple #[.agg #[.int .i64 2, .string t], .int .i64 0]) ?_ rfl ?_
    · simp [results, Tryd.results9, go_sem]
    exact ⟨by first | rfl | (simp; done) | (simp [*]; done), by repeat (first | (with_reducible first | exact HB.out | apply below_alloc | apply pw_below_drewN | apply below_drew1 | refine below_set ?_ (Nat.le_refl _) | refine below_set ?_ (Nat.le_succ _)) | exact HB.out)⟩
set_option maxHeartbeats 8000000 in
set_option maxRecDepth 100000 in
theorem class5 (t r : ByteArray) (w : World) (h : ctok_Canon.f t = some r) : Calls Tryd.prog 9 #[.int .i64 5, .string t] w fun e w' => e = .returned (.tuple #[.agg #[.int .i64 7, .string r], .int .i64 0]) ∧ Below w.heap.size w w' := by
    have HB := Aside0.mk (Below.refl w.heap.size w)
    go_enter Tryd.func9, Tryd.ntmps9
    go_wp2_with (go_at_call 13; refine (ctok_Canon.calls _ _ _ h).mono ?_; rintro e w2 ⟨rfl, ⟨nd, rfl⟩⟩)
    refine bodyPost_ret (v := .tuple #[.agg #[.int .i64 7, .string r], .int .i64 0]) ?_ rfl ?_
    · simp [results, Tryd.results9, go_sem]
    exact ⟨by first | rfl | (simp; done) | (simp [*]; done), by repeat (first | (with_reducible first | exact HB.out | apply below_alloc | apply pw_below_drewN | apply below_drew1 | refine below_set ?_ (Nat.le_refl _) | refine below_set ?_ (Nat.le_succ _)) | exact HB.out)⟩
set_option maxHeartbeats 8000000 in
set_option maxRecDepth 100000 in
theorem class0 (k : Int) (t : ByteArray) (w : World) (h1 : (k == 1) = false) (h2 : (k == 2) = false) (h3 : (k == 3) = false) (h4 : (k == 4) = false) (h5 : (k == 5) = false) : Calls Tryd.prog 9 #[.int .i64 k, .string t] w fun e w' => e = .returned (.tuple #[.agg #[.int .i64 0, .string ⟨#[]⟩], .int .i64 40]) ∧ Below w.heap.size w w' := by
    have HB := Aside0.mk (Below.refl w.heap.size w)
    go_enter Tryd.func9, Tryd.ntmps9
    go_wp2
    refine bodyPost_ret (v := .tuple #[.agg #[.int .i64 0, .string ⟨#[]⟩], .int .i64 40]) ?_ rfl ?_
    · simp [results, Tryd.results9, go_sem]
    exact ⟨by first | rfl | (simp; done) | (simp [*]; done), by repeat (first | (with_reducible first | exact HB.out | apply below_alloc | apply pw_below_drewN | apply below_drew1 | refine below_set ?_ (Nat.le_refl _) | refine below_set ?_ (Nat.le_succ _)) | exact HB.out)⟩
set_option maxHeartbeats 8000000 in
set_option maxRecDepth 100000 in
theorem class3y (k : Nat) (t : ByteArray) (v : Int) (w : World) (hsh : SH w) (h : ctok_Char.f k t = some (v, 0)) : Calls Tryd.prog 9 #[.int .i64 3, .string t] w fun e w' => e = .returned (.tuple #[.agg #[.int .i64 5, .string t], .int .i64 0]) ∧ Below w.heap.size w w' := by
    go_enter Tryd.func9, Tryd.ntmps9
    go_wp2_with (go_at_call 29; refine (ctok_Char.calls k _ _ _ _ ((hsh.alloc _).alloc _) h).mono ?_; rintro e w2 ⟨rfl, hb⟩; have c00 : w2.cell? ⟨w.heap.size, 0, none⟩ = some (.int .i64 0) := (hb.cell (p := ⟨w.heap.size, 0, none⟩) (by simp; try omega)).trans (by simp); have f00 : w2.frozen? ⟨w.heap.size, 0, none⟩ = false := (hb.frozen (p := ⟨w.heap.size, 0, none⟩) (by simp; try omega)).trans (by simp); have c01 : w2.cell? ⟨w.heap.size, 1, none⟩ = some (.string ⟨#[]⟩) := (hb.cell (p := ⟨w.heap.size, 1, none⟩) (by simp; try omega)).trans (by simp); have f01 : w2.frozen? ⟨w.heap.size, 1, none⟩ = false := (hb.frozen (p := ⟨w.heap.size, 1, none⟩) (by simp; try omega)).trans (by simp); have c10 : w2.cell? ⟨w.heap.size + 1, 0, none⟩ = some (.int .i64 0) := (hb.cell (p := ⟨w.heap.size + 1, 0, none⟩) (by simp; try omega)).trans (by simp); have f10 : w2.frozen? ⟨w.heap.size + 1, 0, none⟩ = false := (hb.frozen (p := ⟨w.heap.size + 1, 0, none⟩) (by simp; try omega)).trans (by simp); have c11 : w2.cell? ⟨w.heap.size + 1, 1, none⟩ = some (.string t) := (hb.cell (p := ⟨w.heap.size + 1, 1, none⟩) (by simp; try omega)).trans (by simp); have f11 : w2.frozen? ⟨w.heap.size + 1, 1, none⟩ = false := (hb.frozen (p := ⟨w.heap.size + 1, 1, none⟩) (by simp; try omega)).trans (by simp))
    have HB2 : Below w.heap.size w w2 := (((Below.refl _ _).alloc (Nat.le_refl _) _).alloc (by simp) _).trans (hb.mono (by simp; omega))
    refine bodyPost_ret (v := .tuple #[.agg #[.int .i64 5, .string t], .int .i64 0]) ?_ rfl ?_
    · have b0 : w2.heap[w.heap.size]? = some (.cells #[.int .i64 0, .string ⟨#[]⟩] 23) := blk_below (blk_alloc (blk_new w _) _) hb
      have q0 := blk_put (cs := #[.int .i64 5, .string ⟨#[]⟩]) (cs' := #[.int .i64 5, .string t]) (blk_put (cs := #[.int .i64 0, .string ⟨#[]⟩]) (cs' := #[.int .i64 5, .string ⟨#[]⟩]) (blk_far b0 (p := ⟨w.heap.size + 1, 0, none⟩) (by simp) (.int .i64 5)) 0 (.int .i64 5) rfl) 1 (.string t) rfl
      have q1 := blk_cell q0 0
      have q2 := blk_cell q0 1
      simp [results, Tryd.results9, go_sem, q1, q2]
    exact ⟨by first | rfl | (simp; done) | (simp [*]; done), by repeat (first | (with_reducible first | exact HB2 | refine below_set ?_ (Nat.le_refl _) | refine below_set ?_ (Nat.le_succ _) | apply below_alloc | apply pw_below_drewN | apply below_drew1) | exact HB2)⟩
set_option maxHeartbeats 8000000 in
set_option maxRecDepth 100000 in
theorem class3n (k : Nat) (t : ByteArray) (v er : Int) (w : World) (hsh : SH w) (h : ctok_Char.f k t = some (v, er)) (he : (er == 0) = false) : Calls Tryd.prog 9 #[.int .i64 3, .string t] w fun e w' => e = .returned (.tuple #[.agg #[.int .i64 0, .string ⟨#[]⟩], .int .i64 40]) ∧ Below w.heap.size w w' := by
    go_enter Tryd.func9, Tryd.ntmps9
    go_wp2_with (go_at_call 29; refine (ctok_Char.calls k _ _ _ _ ((hsh.alloc _).alloc _) h).mono ?_; rintro e w2 ⟨rfl, hb⟩; have c00 : w2.cell? ⟨w.heap.size, 0, none⟩ = some (.int .i64 0) := (hb.cell (p := ⟨w.heap.size, 0, none⟩) (by simp; try omega)).trans (by simp); have f00 : w2.frozen? ⟨w.heap.size, 0, none⟩ = false := (hb.frozen (p := ⟨w.heap.size, 0, none⟩) (by simp; try omega)).trans (by simp); have c01 : w2.cell? ⟨w.heap.size, 1, none⟩ = some (.string ⟨#[]⟩) := (hb.cell (p := ⟨w.heap.size, 1, none⟩) (by simp; try omega)).trans (by simp); have f01 : w2.frozen? ⟨w.heap.size, 1, none⟩ = false := (hb.frozen (p := ⟨w.heap.size, 1, none⟩) (by simp; try omega)).trans (by simp); have c10 : w2.cell? ⟨w.heap.size + 1, 0, none⟩ = some (.int .i64 0) := (hb.cell (p := ⟨w.heap.size + 1, 0, none⟩) (by simp; try omega)).trans (by simp); have f10 : w2.frozen? ⟨w.heap.size + 1, 0, none⟩ = false := (hb.frozen (p := ⟨w.heap.size + 1, 0, none⟩) (by simp; try omega)).trans (by simp); have c11 : w2.cell? ⟨w.heap.size + 1, 1, none⟩ = some (.string t) := (hb.cell (p := ⟨w.heap.size + 1, 1, none⟩) (by simp; try omega)).trans (by simp); have f11 : w2.frozen? ⟨w.heap.size + 1, 1, none⟩ = false := (hb.frozen (p := ⟨w.heap.size + 1, 1, none⟩) (by simp; try omega)).trans (by simp))
    have HB2 : Below w.heap.size w w2 := (((Below.refl _ _).alloc (Nat.le_refl _) _).alloc (by simp) _).trans (hb.mono (by simp; omega))
    refine bodyPost_ret (v := .tuple #[.agg #[.int .i64 0, .string ⟨#[]⟩], .int .i64 40]) ?_ rfl ?_
    · have b0 : w2.heap[w.heap.size]? = some (.cells #[.int .i64 0, .string ⟨#[]⟩] 23) := blk_below (blk_alloc (blk_new w _) _) hb
      have q0 := blk_put (cs := #[.int .i64 0, .string ⟨#[]⟩]) (cs' := #[.int .i64 0, .string ⟨#[]⟩]) (blk_put (cs := #[.int .i64 0, .string ⟨#[]⟩]) (cs' := #[.int .i64 0, .string ⟨#[]⟩]) b0 0 (.int .i64 0) rfl) 1 (.string ⟨#[]⟩) rfl
      have q1 := blk_cell q0 0
      have q2 := blk_cell q0 1
      simp [results, Tryd.results9, go_sem, q1, q2]
    exact ⟨by first | rfl | (simp; done) | (simp [*]; done), by repeat (first | (with_reducible first | exact HB2 | refine below_set ?_ (Nat.le_refl _) | refine below_set ?_ (Nat.le_succ _) | apply below_alloc | apply pw_below_drewN | apply below_drew1) | exact HB2)⟩
set_option maxHeartbeats 8000000 in
set_option maxRecDepth 100000 in
theorem class4y (k : Nat) (t : ByteArray) (l : List Int) (w : World) (hsh : SH w) (h : ctok_Str.f k t = some (l, 0)) : Calls Tryd.prog 9 #[.int .i64 4, .string t] w fun e w' => e = .returned (.tuple #[.agg #[.int .i64 6, .string t], .int .i64 0]) ∧ Below w.heap.size w w' := by
    go_enter Tryd.func9, Tryd.ntmps9
    go_wp2_with (go_at_call 21; refine (ctok_Str.calls k _ _ _ _ ((hsh.alloc _).alloc _) h).mono ?_; rintro e w2 ⟨v0_, rfl, hR, hb⟩; have c00 : w2.cell? ⟨w.heap.size, 0, none⟩ = some (.int .i64 0) := (hb.cell (p := ⟨w.heap.size, 0, none⟩) (by simp; try omega)).trans (by simp); have f00 : w2.frozen? ⟨w.heap.size, 0, none⟩ = false := (hb.frozen (p := ⟨w.heap.size, 0, none⟩) (by simp; try omega)).trans (by simp); have c01 : w2.cell? ⟨w.heap.size, 1, none⟩ = some (.string ⟨#[]⟩) := (hb.cell (p := ⟨w.heap.size, 1, none⟩) (by simp; try omega)).trans (by simp); have f01 : w2.frozen? ⟨w.heap.size, 1, none⟩ = false := (hb.frozen (p := ⟨w.heap.size, 1, none⟩) (by simp; try omega)).trans (by simp); have c10 : w2.cell? ⟨w.heap.size + 1, 0, none⟩ = some (.int .i64 0) := (hb.cell (p := ⟨w.heap.size + 1, 0, none⟩) (by simp; try omega)).trans (by simp); have f10 : w2.frozen? ⟨w.heap.size + 1, 0, none⟩ = false := (hb.frozen (p := ⟨w.heap.size + 1, 0, none⟩) (by simp; try omega)).trans (by simp); have c11 : w2.cell? ⟨w.heap.size + 1, 1, none⟩ = some (.string t) := (hb.cell (p := ⟨w.heap.size + 1, 1, none⟩) (by simp; try omega)).trans (by simp); have f11 : w2.frozen? ⟨w.heap.size + 1, 1, none⟩ = false := (hb.frozen (p := ⟨w.heap.size + 1, 1, none⟩) (by simp; try omega)).trans (by simp))
    have HB2 : Below w.heap.size w w2 := (((Below.refl _ _).alloc (Nat.le_refl _) _).alloc (by simp) _).trans (hb.mono (by simp; omega))
    refine bodyPost_ret (v := .tuple #[.agg #[.int .i64 6, .string t], .int .i64 0]) ?_ rfl ?_
    · have b0 : w2.heap[w.heap.size]? = some (.cells #[.int .i64 0, .string ⟨#[]⟩] 23) := blk_below (blk_alloc (blk_new w _) _) hb
      have q0 := blk_put (cs := #[.int .i64 6, .string ⟨#[]⟩]) (cs' := #[.int .i64 6, .string t]) (blk_put (cs := #[.int .i64 0, .string ⟨#[]⟩]) (cs' := #[.int .i64 6, .string ⟨#[]⟩]) (blk_far b0 (p := ⟨w.heap.size + 1, 0, none⟩) (by simp) (.int .i64 6)) 0 (.int .i64 6) rfl) 1 (.string t) rfl
      have q1 := blk_cell q0 0
      have q2 := blk_cell q0 1
      simp [results, Tryd.results9, go_sem, q1, q2]
    exact ⟨by first | rfl | (simp; done) | (simp [*]; done), by repeat (first | (with_reducible first | exact HB2 | refine below_set ?_ (Nat.le_refl _) | refine below_set ?_ (Nat.le_succ _) | apply below_alloc | apply pw_below_drewN | apply below_drew1) | exact HB2)⟩
set_option maxHeartbeats 8000000 in
set_option maxRecDepth 100000 in
theorem class4n (k : Nat) (t : ByteArray) (l : List Int) (er : Int) (w : World) (hsh : SH w) (h : ctok_Str.f k t = some (l, er)) (he : (er == 0) = false) : Calls Tryd.prog 9 #[.int .i64 4, .string t] w fun e w' => e = .returned (.tuple #[.agg #[.int .i64 0, .string ⟨#[]⟩], .int .i64 40]) ∧ Below w.heap.size w w' := by
    go_enter Tryd.func9, Tryd.ntmps9
    go_wp2_with (go_at_call 21; refine (ctok_Str.calls k _ _ _ _ ((hsh.alloc _).alloc _) h).mono ?_; rintro e w2 ⟨v0_, rfl, hR, hb⟩; have c00 : w2.cell? ⟨w.heap.size, 0, none⟩ = some (.int .i64 0) := (hb.cell (p := ⟨w.heap.size, 0, none⟩) (by simp; try omega)).trans (by simp); have f00 : w2.frozen? ⟨w.heap.size, 0, none⟩ = false := (hb.frozen (p := ⟨w.heap.size, 0, none⟩) (by simp; try omega)).trans (by simp); have c01 : w2.cell? ⟨w.heap.size, 1, none⟩ = some (.string ⟨#[]⟩) := (hb.cell (p := ⟨w.heap.size, 1, none⟩) (by simp; try omega)).trans (by simp); have f01 : w2.frozen? ⟨w.heap.size, 1, none⟩ = false := (hb.frozen (p := ⟨w.heap.size, 1, none⟩) (by simp; try omega)).trans (by simp); have c10 : w2.cell? ⟨w.heap.size + 1, 0, none⟩ = some (.int .i64 0) := (hb.cell (p := ⟨w.heap.size + 1, 0, none⟩) (by simp; try omega)).trans (by simp); have f10 : w2.frozen? ⟨w.heap.size + 1, 0, none⟩ = false := (hb.frozen (p := ⟨w.heap.size + 1, 0, none⟩) (by simp; try omega)).trans (by simp); have c11 : w2.cell? ⟨w.heap.size + 1, 1, none⟩ = some (.string t) := (hb.cell (p := ⟨w.heap.size + 1, 1, none⟩) (by simp; try omega)).trans (by simp); have f11 : w2.frozen? ⟨w.heap.size + 1, 1, none⟩ = false := (hb.frozen (p := ⟨w.heap.size + 1, 1, none⟩) (by simp; try omega)).trans (by simp))
    have HB2 : Below w.heap.size w w2 := (((Below.refl _ _).alloc (Nat.le_refl _) _).alloc (by simp) _).trans (hb.mono (by simp; omega))
    refine bodyPost_ret (v := .tuple #[.agg #[.int .i64 0, .string ⟨#[]⟩], .int .i64 40]) ?_ rfl ?_
    · have b0 : w2.heap[w.heap.size]? = some (.cells #[.int .i64 0, .string ⟨#[]⟩] 23) := blk_below (blk_alloc (blk_new w _) _) hb
      have q0 := blk_put (cs := #[.int .i64 0, .string ⟨#[]⟩]) (cs' := #[.int .i64 0, .string ⟨#[]⟩]) (blk_put (cs := #[.int .i64 0, .string ⟨#[]⟩]) (cs' := #[.int .i64 0, .string ⟨#[]⟩]) b0 0 (.int .i64 0) rfl) 1 (.string ⟨#[]⟩) rfl
      have q1 := blk_cell q0 0
      have q2 := blk_cell q0 1
      simp [results, Tryd.results9, go_sem, q1, q2]
    exact ⟨by first | rfl | (simp; done) | (simp [*]; done), by repeat (first | (with_reducible first | exact HB2 | refine below_set ?_ (Nat.le_refl _) | refine below_set ?_ (Nat.le_succ _) | apply below_alloc | apply pw_below_drewN | apply below_drew1) | exact HB2)⟩
set_option maxHeartbeats 8000000 in
set_option maxRecDepth 100000 in
theorem class2i (k : Nat) (t : ByteArray) (v : Int) (u : Bool) (w : World) (hsh : SH w) (h : ctok_Int.f t = some (v, u, 0)) : Calls Tryd.prog 9 #[.int .i64 2, .string t] w fun e w' => e = .returned (.tuple #[.agg #[.int .i64 3, .string t], .int .i64 0]) ∧ Below w.heap.size w w' := by
    go_enter Tryd.func9, Tryd.ntmps9
    go_wp2_with (go_at_call 28; refine (ctok_Int.calls _ _ _ _ _ ((hsh.alloc _).alloc _) h).mono ?_; rintro e w2 ⟨rfl, hb⟩; have c00 : w2.cell? ⟨w.heap.size, 0, none⟩ = some (.int .i64 0) := (hb.cell (p := ⟨w.heap.size, 0, none⟩) (by simp; try omega)).trans (by simp); have f00 : w2.frozen? ⟨w.heap.size, 0, none⟩ = false := (hb.frozen (p := ⟨w.heap.size, 0, none⟩) (by simp; try omega)).trans (by simp); have c01 : w2.cell? ⟨w.heap.size, 1, none⟩ = some (.string ⟨#[]⟩) := (hb.cell (p := ⟨w.heap.size, 1, none⟩) (by simp; try omega)).trans (by simp); have f01 : w2.frozen? ⟨w.heap.size, 1, none⟩ = false := (hb.frozen (p := ⟨w.heap.size, 1, none⟩) (by simp; try omega)).trans (by simp); have c10 : w2.cell? ⟨w.heap.size + 1, 0, none⟩ = some (.int .i64 0) := (hb.cell (p := ⟨w.heap.size + 1, 0, none⟩) (by simp; try omega)).trans (by simp); have f10 : w2.frozen? ⟨w.heap.size + 1, 0, none⟩ = false := (hb.frozen (p := ⟨w.heap.size + 1, 0, none⟩) (by simp; try omega)).trans (by simp); have c11 : w2.cell? ⟨w.heap.size + 1, 1, none⟩ = some (.string t) := (hb.cell (p := ⟨w.heap.size + 1, 1, none⟩) (by simp; try omega)).trans (by simp); have f11 : w2.frozen? ⟨w.heap.size + 1, 1, none⟩ = false := (hb.frozen (p := ⟨w.heap.size + 1, 1, none⟩) (by simp; try omega)).trans (by simp))
    have HB2 : Below w.heap.size w w2 := (((Below.refl _ _).alloc (Nat.le_refl _) _).alloc (by simp) _).trans (hb.mono (by simp; omega))
    refine bodyPost_ret (v := .tuple #[.agg #[.int .i64 3, .string t], .int .i64 0]) ?_ rfl ?_
    · have b0 : w2.heap[w.heap.size]? = some (.cells #[.int .i64 0, .string ⟨#[]⟩] 23) := blk_below (blk_alloc (blk_new w _) _) hb
      have q0 := blk_put (cs := #[.int .i64 3, .string ⟨#[]⟩]) (cs' := #[.int .i64 3, .string t]) (blk_put (cs := #[.int .i64 0, .string ⟨#[]⟩]) (cs' := #[.int .i64 3, .string ⟨#[]⟩]) (blk_far b0 (p := ⟨w.heap.size + 1, 0, none⟩) (by simp) (.int .i64 3)) 0 (.int .i64 3) rfl) 1 (.string t) rfl
      have q1 := blk_cell q0 0
      have q2 := blk_cell q0 1
      simp [results, Tryd.results9, go_sem, q1, q2]
    exact ⟨by first | rfl | (simp; done) | (simp [*]; done), by repeat (first | (with_reducible first | exact HB2 | refine below_set ?_ (Nat.le_refl _) | refine below_set ?_ (Nat.le_succ _) | apply below_alloc | apply pw_below_drewN | apply below_drew1) | exact HB2)⟩
set_option maxHeartbeats 8000000 in
set_option maxRecDepth 100000 in
theorem class2f (k : Nat) (t : ByteArray) (v : Int) (u : Bool) (er : Int) (w : World) (hsh : SH w) (h : ctok_Int.f t = some (v, u, er)) (he : (er == 0) = false) (hf : ctok_Float.f k t = some true) : Calls Tryd.prog 9 #[.int .i64 2, .string t] w fun e w' => e = .returned (.tuple #[.agg #[.int .i64 4, .string t], .int .i64 0]) ∧ Below w.heap.size w w' := by
    go_enter Tryd.func9, Tryd.ntmps9
    go_wp2_with (first | (go_at_call 28; refine (ctok_Int.calls _ _ _ _ _ ((hsh.alloc _).alloc _) h).mono ?_; rintro e w2 ⟨rfl, hb⟩; have c00 : w2.cell? ⟨w.heap.size, 0, none⟩ = some (.int .i64 0) := (hb.cell (p := ⟨w.heap.size, 0, none⟩) (by simp; try omega)).trans (by simp); have f00 : w2.frozen? ⟨w.heap.size, 0, none⟩ = false := (hb.frozen (p := ⟨w.heap.size, 0, none⟩) (by simp; try omega)).trans (by simp); have c01 : w2.cell? ⟨w.heap.size, 1, none⟩ = some (.string ⟨#[]⟩) := (hb.cell (p := ⟨w.heap.size, 1, none⟩) (by simp; try omega)).trans (by simp); have f01 : w2.frozen? ⟨w.heap.size, 1, none⟩ = false := (hb.frozen (p := ⟨w.heap.size, 1, none⟩) (by simp; try omega)).trans (by simp); have c10 : w2.cell? ⟨w.heap.size + 1, 0, none⟩ = some (.int .i64 0) := (hb.cell (p := ⟨w.heap.size + 1, 0, none⟩) (by simp; try omega)).trans (by simp); have f10 : w2.frozen? ⟨w.heap.size + 1, 0, none⟩ = false := (hb.frozen (p := ⟨w.heap.size + 1, 0, none⟩) (by simp; try omega)).trans (by simp); have c11 : w2.cell? ⟨w.heap.size + 1, 1, none⟩ = some (.string t) := (hb.cell (p := ⟨w.heap.size + 1, 1, none⟩) (by simp; try omega)).trans (by simp); have f11 : w2.frozen? ⟨w.heap.size + 1, 1, none⟩ = false := (hb.frozen (p := ⟨w.heap.size + 1, 1, none⟩) (by simp; try omega)).trans (by simp)) | (go_at_call 15; refine (ctok_Float.calls k _ _ _ hf).mono ?_; rintro e w3 ⟨rfl, hb2⟩; have d00 : w3.cell? ⟨w.heap.size, 0, none⟩ = some (.int .i64 0) := (hb2.cell (p := ⟨w.heap.size, 0, none⟩) (by have := hb.size; simp at this ⊢; omega)).trans c00; have g00 : w3.frozen? ⟨w.heap.size, 0, none⟩ = false := (hb2.frozen (p := ⟨w.heap.size, 0, none⟩) (by have := hb.size; simp at this ⊢; omega)).trans f00; have d01 : w3.cell? ⟨w.heap.size, 1, none⟩ = some (.string ⟨#[]⟩) := (hb2.cell (p := ⟨w.heap.size, 1, none⟩) (by have := hb.size; simp at this ⊢; omega)).trans c01; have g01 : w3.frozen? ⟨w.heap.size, 1, none⟩ = false := (hb2.frozen (p := ⟨w.heap.size, 1, none⟩) (by have := hb.size; simp at this ⊢; omega)).trans f01; have d10 : w3.cell? ⟨w.heap.size + 1, 0, none⟩ = some (.int .i64 0) := (hb2.cell (p := ⟨w.heap.size + 1, 0, none⟩) (by have := hb.size; simp at this ⊢; omega)).trans c10; have g10 : w3.frozen? ⟨w.heap.size + 1, 0, none⟩ = false := (hb2.frozen (p := ⟨w.heap.size + 1, 0, none⟩) (by have := hb.size; simp at this ⊢; omega)).trans f10; have d11 : w3.cell? ⟨w.heap.size + 1, 1, none⟩ = some (.string t) := (hb2.cell (p := ⟨w.heap.size + 1, 1, none⟩) (by have := hb.size; simp at this ⊢; omega)).trans c11; have g11 : w3.frozen? ⟨w.heap.size + 1, 1, none⟩ = false := (hb2.frozen (p := ⟨w.heap.size + 1, 1, none⟩) (by have := hb.size; simp at this ⊢; omega)).trans f11))
    have HB2 : Below w.heap.size w w3 := ((((Below.refl _ _).alloc (Nat.le_refl _) _).alloc (by simp) _).trans (hb.mono (by simp; omega))).trans (hb2.mono (by have := hb.size; simp at this ⊢; omega))
    refine bodyPost_ret (v := .tuple #[.agg #[.int .i64 4, .string t], .int .i64 0]) ?_ rfl ?_
    · have b00 : w2.heap[w.heap.size]? = some (.cells #[.int .i64 0, .string ⟨#[]⟩] 23) := blk_below (blk_alloc (blk_new w _) _) hb
      have b0 : w3.heap[w.heap.size]? = some (.cells #[.int .i64 0, .string ⟨#[]⟩] 23) := blk_below b00 hb2
      have q0 := blk_put (cs := #[.int .i64 4, .string ⟨#[]⟩]) (cs' := #[.int .i64 4, .string t]) (blk_put (cs := #[.int .i64 0, .string ⟨#[]⟩]) (cs' := #[.int .i64 4, .string ⟨#[]⟩]) (blk_far b0 (p := ⟨w.heap.size + 1, 0, none⟩) (by simp) (.int .i64 4)) 0 (.int .i64 4) rfl) 1 (.string t) rfl
      have q1 := blk_cell q0 0
      have q2 := blk_cell q0 1
      simp [results, Tryd.results9, go_sem, q1, q2]
    exact ⟨by first | rfl | (simp; done) | (simp [*]; done), by repeat (first | (with_reducible first | exact HB2 | refine below_set ?_ (Nat.le_refl _) | refine below_set ?_ (Nat.le_succ _) | apply below_alloc | apply pw_below_drewN | apply below_drew1) | exact HB2)⟩
set_option maxHeartbeats 8000000 in
set_option maxRecDepth 100000 in
theorem class2n (k : Nat) (t : ByteArray) (v : Int) (u : Bool) (er : Int) (w : World) (hsh : SH w) (h : ctok_Int.f t = some (v, u, er)) (he : (er == 0) = false) (hf : ctok_Float.f k t = some false) : Calls Tryd.prog 9 #[.int .i64 2, .string t] w fun e w' => e = .returned (.tuple #[.agg #[.int .i64 0, .string ⟨#[]⟩], .int .i64 40]) ∧ Below w.heap.size w w' := by
    go_enter Tryd.func9, Tryd.ntmps9
    go_wp2_with (first | (go_at_call 28; refine (ctok_Int.calls _ _ _ _ _ ((hsh.alloc _).alloc _) h).mono ?_; rintro e w2 ⟨rfl, hb⟩; have c00 : w2.cell? ⟨w.heap.size, 0, none⟩ = some (.int .i64 0) := (hb.cell (p := ⟨w.heap.size, 0, none⟩) (by simp; try omega)).trans (by simp); have f00 : w2.frozen? ⟨w.heap.size, 0, none⟩ = false := (hb.frozen (p := ⟨w.heap.size, 0, none⟩) (by simp; try omega)).trans (by simp); have c01 : w2.cell? ⟨w.heap.size, 1, none⟩ = some (.string ⟨#[]⟩) := (hb.cell (p := ⟨w.heap.size, 1, none⟩) (by simp; try omega)).trans (by simp); have f01 : w2.frozen? ⟨w.heap.size, 1, none⟩ = false := (hb.frozen (p := ⟨w.heap.size, 1, none⟩) (by simp; try omega)).trans (by simp); have c10 : w2.cell? ⟨w.heap.size + 1, 0, none⟩ = some (.int .i64 0) := (hb.cell (p := ⟨w.heap.size + 1, 0, none⟩) (by simp; try omega)).trans (by simp); have f10 : w2.frozen? ⟨w.heap.size + 1, 0, none⟩ = false := (hb.frozen (p := ⟨w.heap.size + 1, 0, none⟩) (by simp; try omega)).trans (by simp); have c11 : w2.cell? ⟨w.heap.size + 1, 1, none⟩ = some (.string t) := (hb.cell (p := ⟨w.heap.size + 1, 1, none⟩) (by simp; try omega)).trans (by simp); have f11 : w2.frozen? ⟨w.heap.size + 1, 1, none⟩ = false := (hb.frozen (p := ⟨w.heap.size + 1, 1, none⟩) (by simp; try omega)).trans (by simp)) | (go_at_call 15; refine (ctok_Float.calls k _ _ _ hf).mono ?_; rintro e w3 ⟨rfl, hb2⟩; have d00 : w3.cell? ⟨w.heap.size, 0, none⟩ = some (.int .i64 0) := (hb2.cell (p := ⟨w.heap.size, 0, none⟩) (by have := hb.size; simp at this ⊢; omega)).trans c00; have g00 : w3.frozen? ⟨w.heap.size, 0, none⟩ = false := (hb2.frozen (p := ⟨w.heap.size, 0, none⟩) (by have := hb.size; simp at this ⊢; omega)).trans f00; have d01 : w3.cell? ⟨w.heap.size, 1, none⟩ = some (.string ⟨#[]⟩) := (hb2.cell (p := ⟨w.heap.size, 1, none⟩) (by have := hb.size; simp at this ⊢; omega)).trans c01; have g01 : w3.frozen? ⟨w.heap.size, 1, none⟩ = false := (hb2.frozen (p := ⟨w.heap.size, 1, none⟩) (by have := hb.size; simp at this ⊢; omega)).trans f01; have d10 : w3.cell? ⟨w.heap.size + 1, 0, none⟩ = some (.int .i64 0) := (hb2.cell (p := ⟨w.heap.size + 1, 0, none⟩) (by have := hb.size; simp at this ⊢; omega)).trans c10; have g10 : w3.frozen? ⟨w.heap.size + 1, 0, none⟩ = false := (hb2.frozen (p := ⟨w.heap.size + 1, 0, none⟩) (by have := hb.size; simp at this ⊢; omega)).trans f10; have d11 : w3.cell? ⟨w.heap.size + 1, 1, none⟩ = some (.string t) := (hb2.cell (p := ⟨w.heap.size + 1, 1, none⟩) (by have := hb.size; simp at this ⊢; omega)).trans c11; have g11 : w3.frozen? ⟨w.heap.size + 1, 1, none⟩ = false := (hb2.frozen (p := ⟨w.heap.size + 1, 1, none⟩) (by have := hb.size; simp at this ⊢; omega)).trans f11))
    have HB2 : Below w.heap.size w w3 := ((((Below.refl _ _).alloc (Nat.le_refl _) _).alloc (by simp) _).trans (hb.mono (by simp; omega))).trans (hb2.mono (by have := hb.size; simp at this ⊢; omega))
    refine bodyPost_ret (v := .tuple #[.agg #[.int .i64 0, .string ⟨#[]⟩], .int .i64 40]) ?_ rfl ?_
    · have b00 : w2.heap[w.heap.size]? = some (.cells #[.int .i64 0, .string ⟨#[]⟩] 23) := blk_below (blk_alloc (blk_new w _) _) hb
      have b0 : w3.heap[w.heap.size]? = some (.cells #[.int .i64 0, .string ⟨#[]⟩] 23) := blk_below b00 hb2
      have q0 := blk_put (cs := #[.int .i64 0, .string ⟨#[]⟩]) (cs' := #[.int .i64 0, .string ⟨#[]⟩]) (blk_put (cs := #[.int .i64 0, .string ⟨#[]⟩]) (cs' := #[.int .i64 0, .string ⟨#[]⟩]) b0 0 (.int .i64 0) rfl) 1 (.string ⟨#[]⟩) rfl
      have q1 := blk_cell q0 0
      have q2 := blk_cell q0 1
      simp [results, Tryd.results9, go_sem, q1, q2]
    exact ⟨by first | rfl | (simp; done) | (simp [*]; done), by repeat (first | (with_reducible first | exact HB2 | refine below_set ?_ (Nat.le_refl _) | refine below_set ?_ (Nat.le_succ _) | apply below_alloc | apply pw_below_drewN | apply below_drew1) | exact HB2)⟩
theorem ctok_Class.calls (k : Nat) (a0 : Int) (a1 : ByteArray) (r1 : Int) (r2 : ByteArray) (r3 : Int) (w : World) (hsh : SH w) (h : ctok_Class.f k a0 a1 = some (r1, r2, r3)) :
    Calls Tryd.prog 9 #[.int .i64 a0, .string a1] w fun e w' => e = .returned (.tuple #[.agg #[.int .i64 r1, .string r2], .int .i64 r3]) ∧ Below w.heap.size w w' := by
  unfold ctok_Class.f at h
  split at h
  · rename_i e; subst e
    obtain ⟨b, hb, h⟩ := Option.bind_eq_some_iff.1 h
    have := class1 a1 b w hb
    cases b <;> (simp at h this; obtain ⟨rfl, rfl, rfl⟩ := h; exact this)
  rename_i n1
  split at h
  · rename_i e; subst e
    obtain ⟨⟨v, u, er⟩, hb, h⟩ := Option.bind_eq_some_iff.1 h
    dsimp only at h
    split at h
    · rename_i e; subst e
      injection h with h; obtain ⟨rfl, rfl, rfl⟩ := h
      exact class2i k a1 v u w hsh hb
    · rename_i e
      have e' : (er == 0) = false := by simpa using e
      obtain ⟨b, hf, h⟩ := Option.bind_eq_some_iff.1 h
      cases b
      · simp at h; obtain ⟨rfl, rfl, rfl⟩ := h
        exact class2n k a1 v u er w hsh hb e' hf
      · simp at h; obtain ⟨rfl, rfl, rfl⟩ := h
        exact class2f k a1 v u er w hsh hb e' hf
  rename_i n2
  split at h
  · rename_i e; subst e
    obtain ⟨⟨v, er⟩, hb, h⟩ := Option.bind_eq_some_iff.1 h
    dsimp only at h
    split at h
    · rename_i e; subst e
      injection h with h; obtain ⟨rfl, rfl, rfl⟩ := h
      exact class3y k a1 v w hsh hb
    · rename_i e
      injection h with h; obtain ⟨rfl, rfl, rfl⟩ := h
      exact class3n k a1 v er w hsh hb (by simpa using e)
  rename_i n3
  split at h
  · rename_i e; subst e
    obtain ⟨⟨v, er⟩, hb, h⟩ := Option.bind_eq_some_iff.1 h
    dsimp only at h
    split at h
    · rename_i e; subst e
      injection h with h; obtain ⟨rfl, rfl, rfl⟩ := h
      exact class4y k a1 v w hsh hb
    · rename_i e
      injection h with h; obtain ⟨rfl, rfl, rfl⟩ := h
      exact class4n k a1 v er w hsh hb (by simpa using e)
  rename_i n4
  split at h
  · rename_i e; subst e
    obtain ⟨t, hb, h⟩ := Option.bind_eq_some_iff.1 h
    injection h with h; obtain ⟨rfl, rfl, rfl⟩ := h
    exact class5 a1 _ w hb
  rename_i n5
  injection h with h; obtain ⟨rfl, rfl, rfl⟩ := h
  exact class0 a0 a1 w (by simpa using n1) (by simpa using n2) (by simpa using n3) (by simpa using n4) (by simpa using n5)
end Go.Proofs.YtcdleippdegibaaDoor.ClassH
