import Derived.Test.YtcdleippdegibaaDoorXM1
import Derived.Test.YtcdleippdegibaaDoorXM0
import Derived.StillTailTactics
import Derived.Test.YtcdleippdegibaaDoorProg
import Derived.Below
import Derived.Deep.Draws
import Derived.Deep.AppendLies
import Derived.Maps.AppendAt
import Derived.OwnWalk
import Derived.Laws.BytesArg
import Derived.Laws.MakeOwn
import Derived.Laws.OwnMore
import Derived.Deep.OwnRows
import Derived.Tactics
import Derived.Lib.ConvBytes
import Derived.Laws.Slices
import Derived.WalkKit
import Derived.KernelRfl
import Derived.RowKit3
import Derived.Deep.LoopGhost
import Derived.Deep.QuietTactic
import Derived.BigQuiet
import Derived.WideLaws
import Derived.Deep.DeepCutAuto
import Derived.Deep.CutBlock
import Derived.Deep.RegionHeld3
import Derived.Laws.Rows
import Derived.Lib.AppendStr
import Derived.ArgAppend
import Derived.Laws.IdiomCopy
import Derived.OrdersHeld
import Derived.Laws.BitsLemmas
import Derived.RowKit
set_option maxHeartbeats 8000000
set_option maxRecDepth 100000
set_option linter.unusedVariables false
set_option linter.unusedSimpArgs false
set_option linter.unusedSectionVars false
namespace Go.Proofs.YtcdleippdegibaaDoor.Digits
open Go.RowKit Go.Shelf Go.Proofs Go.Proofs.YtcdleippdegibaaDoorW.PrintWords Go.Proofs.YtcdleippdegibaaDoor.Iter Go.Proofs.YtcdleippdegibaaDoor.PB
attribute [local go_sem] Oper.semAt_some
def eStep (base : Int) (v d : Int) : Int := min (v * base + d) 1099511627776
def eOf (base : Int) (l : List Int) : Int := l.foldl (eStep base) 0
theorem eOf_snoc (base : Int) (l : List Int) (d : Int) : eOf base (l ++ [d]) = eStep base (eOf base l) d := by simp [eOf, List.foldl_append]
theorem eOf_bound1 {base : Int} (hb : 1 ≤ base) : ∀ (l : List (Dig base)) (v : Int), 0 ≤ v ∧ v ≤ 1099511627776 → 0 ≤ (l.map (·.1)).foldl (eStep base) v ∧ (l.map (·.1)).foldl (eStep base) v ≤ 1099511627776
 | [], v, h => h
 | d :: l, v, h => by
  refine eOf_bound1 hb l (eStep base v d.1) ?_
  have hd := d.2
  have := Int.mul_nonneg h.1 (by omega : 0 ≤ base)
  unfold eStep
  omega
theorem eOf_bound {base : Int} (hb : 1 ≤ base) (l : List (Dig base)) : 0 ≤ eOf base (l.map (·.1)) ∧ eOf base (l.map (·.1)) ≤ 1099511627776 := eOf_bound1 hb l 0 (by omega)
def escRes (base fr : Int) (most : Nat) (s : ByteArray) : Int × Int :=
 if ((digs s base).take most).length = 0 then (0, 0) else (eOf base ((digs s base).take most), fr + (((digs s base).take most).length : Int))
set_option maxHeartbeats 2000000 in
theorem esc8 (t : ByteArray) (w : World) (h2 : 2 ≤ t.size) (hs : t.size ≤ 140737488355328) (hi : Lib.indexByte [39, 34, 63, 92, 97, 98, 102, 110, 114, 116, 118] (t[1]'h2) < 0) (hx : (((t[1]'h2).toNat : Int) == 120) = false) :
  Calls Tryd.prog 50 #[.string t] w fun e w' => e = .returned (.tuple #[.int .u64 (escRes 8 1 3 (t.extract 1 t.size)).1, .int .i64 (escRes 8 1 3 (t.extract 1 t.size)).2]) ∧ Below w.heap.size w w' := by
 refine calls_marks (callsIn_of_wp_marks Tryd.func50 rfl trivial ?_ rfl)
 refine wpIn_wide.2 ?_
 simp only [Tryd.ntmps50, List.size_toArray, List.length_cons, List.length_nil, Nat.reduceAdd, Nat.reduceSub, Array.replicate_succ, Array.replicate_zero, List.push_toArray, List.append_toArray, List.nil_append, List.cons_append]
 have hi2 : decide (0 ≤ Lib.indexByte [39, 34, 63, 92, 97, 98, 102, 110, 114, 116, 118] (t[1]'h2)) = false := decide_eq_false (by omega)
 have h22 : decide ((t.size : Int) < 2) = false := decide_eq_false (by omega)
 go_wp2_with (fail)
 go_step3
 go_wp2_with (first | (go_at_call 53; refine (Tryd.strings_IndexByte _ _ _).mono ?_; rintro e w' ⟨rfl, hw⟩; obtain rfl := hw.symm))
 go_step3
 go_wp2_with (fail)
 have hge : (1 : Int) ≤ (t.size : Int) := by omega
 refine wp_region_still_tail 4 (by kernel_rfl) (by kernel_rfl) ?_
 simp only [List.take_succ_cons, List.take_zero, List.drop_succ_cons, List.drop_zero]
 change wpStill _ _ (World.drew _) (fun a' => wpList _ _ _ _ a' (World.drew _)) _ _
 repeat still_step
 refine wpStill_nil ?_
 go_wp2_with (first | (go_at_call 42; refine (digits_calls _ _ _).mono ?_; rintro e w' ⟨rfl, rfl⟩))
 obtain ⟨s, hse⟩ : ∃ s, t.extract 1 t.size = s := ⟨_, rfl⟩
 have hss : s.size ≤ t.size := by rw [← hse]; simp
 have HSE := Lib.hid hse
 simp only [hse]
 clear hse
 obtain ⟨M, hM⟩ : ∃ M : Nat, M = 3 := ⟨_, rfl⟩
 have HM := Lib.hid hM
 have hms : M ≤ 140737488355328 := by omega
 have hM0 : 0 < M := by omega
 clear hM
 obtain ⟨W0, hW0⟩ : ∃ W0, ((((((w.alloc (.cells #[.int .i64 8] 3)).alloc (.cells #[.int .i64 3] 3)).alloc (.cells #[.int .i64 0] 3)).alloc (.cells #[.int .u64 0] 32)).alloc (.cells #[.string s] 9)).alloc (.cells #[.int .i64 8] 3)).drew = W0 := ⟨_, rfl⟩
 have p5 : W0.heap[w.heap.size]? = some (.cells #[.int .i64 8] 3) := by rw [← hW0]; exact blk_drew (blk_alloc (blk_alloc (blk_alloc (blk_alloc (blk_alloc (blk_new _ _) _) _) _) _) _)
 have p7 : W0.heap[w.heap.size + 1]? = some (.cells #[.int .i64 (M : Int)] 3) := by rw [← hW0, HM.out]; exact blk_drew (blk_alloc (blk_alloc (blk_alloc (blk_alloc ((by simpa using blk_new (w.alloc (.cells #[.int .i64 8] 3)) (.cells #[.int .i64 3] 3))) _) _) _) _)
 have p8 : W0.heap[w.heap.size + 1 + 1]? = some (.cells #[.int .i64 0] 3) := by rw [← hW0]; exact blk_drew (blk_alloc (blk_alloc (blk_alloc ((by simpa using blk_new ((w.alloc (.cells #[.int .i64 8] 3)).alloc (.cells #[.int .i64 3] 3)) (.cells #[.int .i64 0] 3))) _) _) _)
 have p9 : W0.heap[w.heap.size + 1 + 1 + 1]? = some (.cells #[.int .u64 0] 32) := by rw [← hW0]; exact blk_drew (blk_alloc (blk_alloc ((by simpa using blk_new (((w.alloc (.cells #[.int .i64 8] 3)).alloc (.cells #[.int .i64 3] 3)).alloc (.cells #[.int .i64 0] 3)) (.cells #[.int .u64 0] 32))) _) _)
 have ps : W0.heap[w.heap.size + 1 + 1 + 1 + 1]? = some (.cells #[.string s] 9) := by rw [← hW0]; exact blk_drew (blk_alloc ((by simpa using blk_new ((((w.alloc (.cells #[.int .i64 8] 3)).alloc (.cells #[.int .i64 3] 3)).alloc (.cells #[.int .i64 0] 3)).alloc (.cells #[.int .u64 0] 32)) (.cells #[.string s] 9))) _)
 have pb : W0.heap[w.heap.size + 1 + 1 + 1 + 1 + 1]? = some (.cells #[.int .i64 8] 3) := by rw [← hW0]; exact blk_drew (by simpa using blk_new (((((w.alloc (.cells #[.int .i64 8] 3)).alloc (.cells #[.int .i64 3] 3)).alloc (.cells #[.int .i64 0] 3)).alloc (.cells #[.int .u64 0] 32)).alloc (.cells #[.string s] 9)) (.cells #[.int .i64 8] 3))
 have hz0 : W0.heap.size = w.heap.size + 6 := by rw [← hW0]; simp
 have hB0 : Below w.heap.size w W0 := by rw [← hW0]; exact (((((((Below.refl _ _).alloc (Nat.le_refl _) _).alloc (by simp) _).alloc (by simp; omega) _).alloc (by simp; omega) _).alloc (by simp; omega) _).alloc (by simp; omega) _).drew
 rw [hW0]
 clear hW0
 have hle := digs_le s 8
 have hDl : (digD s 8).length = (digs s 8).length := by rw [← digD_map, List.length_map]
 refine wp_rangeFunc_list (gf := 52) (lb := #[.pointer (some ⟨w.heap.size + 1 + 1 + 1 + 1, 0, none⟩), .pointer (some ⟨w.heap.size + 1 + 1 + 1 + 1 + 1, 0, none⟩)]) rfl (enters_of Tryd.func52 (by kernel_rfl) rfl)
  (digits_stops (fun x : Dig 8 => x.1) (digD s 8) _ (by omega) (w.heap.size + 1 + 1 + 1 + 1) (w.heap.size + 1 + 1 + 1 + 1 + 1) (fun b => b = w.heap.size + 1 + 1 + 1 + 1 ∨ b = w.heap.size + 1 + 1 + 1 + 1 + 1) s 8 (by unfold maxLen; omega) (digD_map s 8) (.inl rfl) (.inr rfl) W0 (cell_of_box_l ps).1 (cell_of_box_l pb).1)
  (by rintro b (rfl | rfl) <;> omega) (fun _ => rfl)
  (fun pre W => (pre.length ≤ M ∧ W.cell? ⟨w.heap.size, 0, none⟩ = some (.int .i64 8) ∧ W.cell? ⟨w.heap.size + 1, 0, none⟩ = some (.int .i64 (M : Int)) ∧ W.cell? ⟨w.heap.size + 1 + 1, 0, none⟩ = some (.int .i64 (pre.length : Int)) ∧ W.frozen? ⟨w.heap.size + 1 + 1, 0, none⟩ = false ∧
   W.cell? ⟨w.heap.size + 1 + 1 + 1, 0, none⟩ = some (.int .u64 (eOf 8 (pre.map (·.1)))) ∧ W.frozen? ⟨w.heap.size + 1 + 1 + 1, 0, none⟩ = false) ∧ Below w.heap.size w W)
  (fun c pre W => (c = .exit 0 ∧ ∃ p0, p0 <+: pre ∧ p0.length = M ∧ W.cell? ⟨w.heap.size + 1 + 1, 0, none⟩ = some (.int .i64 (M : Int)) ∧ W.cell? ⟨w.heap.size + 1 + 1 + 1, 0, none⟩ = some (.int .u64 (eOf 8 (p0.map (·.1))))) ∧ Below w.heap.size w W)
  (OwnFrom.and (Own.from (fun s A B row hs hg hr => by
   obtain ⟨a0, a2, a4, a5, a6, a7, a8⟩ := hs
   exact ⟨a0, cell_kept a2 hg hr, cell_kept a4 hg hr, cell_kept a5 hg hr, (frozen_kept a5 hg hr).trans a6, cell_kept a7 hg hr, (frozen_kept a7 hg hr).trans a8⟩) _) (ownFrom_below (Nat.le_refl _) (by omega)))
  (fun c => OwnFrom.and (Own.from (fun s A B row hs hg hr => by
   obtain ⟨a0, p0, a1, a2, a3, a4⟩ := hs
   exact ⟨a0, p0, a1, a2, cell_kept a3 hg hr, cell_kept a4 hg hr⟩) _) (ownFrom_below (Nat.le_refl _) (by omega)))
  ⟨⟨Nat.zero_le _, (cell_of_box_l p5).1, (cell_of_box_l p7).1, (cell_of_box_l p8).1, (cell_of_box_l p8).2, (cell_of_box_l p9).1, (cell_of_box_l p9).2⟩, hB0⟩ ?a1 ?assign ?body ?done ?stop
 case assign =>
  intro l x W K hK
  gi_wp2
  exact hK
 case body =>
  rintro l pre x W ⟨⟨hM, c5, c7, c8, f8, c9, f9⟩, hBW⟩ hlen
  have hvb := eOf_bound (base := 8) (by omega) pre
  have hx := x.2
  by_cases hq : pre.length = M
  ·have hqb : ((pre.length : Int) == (M : Int)) = true := by simp [hq]
   have hqb' : (pre.length == M) = true := by simp [hq]
   have HQ := Lib.hid hq
   clear hq hx hvb hM
   gi_wp2
   refine ⟨KeepsOthers.refl _, ⟨rfl, pre, List.prefix_append _ _, HQ.out, ?_, c9⟩, hBW⟩
   rw [← HQ.out]; exact c8
  have hqb : ((pre.length : Int) == (M : Int)) = false := beq_eq_false_iff_ne.mpr (by omega)
  have hqb' : (pre.length == M) = false := beq_eq_false_iff_ne.mpr hq
  have hM1 : pre.length + 1 ≤ M := by omega
  have hl1 : (pre.length : Int) + 1 ≤ 140737488355328 := by omega
  have e1 : IntKind.u64.wrap x.1 = x.1 := by rw [IntKind.wrap_u64]; omega
  obtain ⟨v, hv⟩ : ∃ v, eOf 8 (pre.map (·.1)) = v := ⟨_, rfl⟩
  have hsn : Hid (eOf 8 ((pre ++ [x]).map (·.1)) = eStep 8 v x.1) := Lib.hid (by rw [List.map_append, List.map_cons, List.map_nil, eOf_snoc, hv])
  rw [hv] at hvb c9
  have e2 : IntKind.u64.wrap (v * 8) = v * 8 := by rw [IntKind.wrap_u64]; omega
  have e3 : IntKind.u64.wrap (v * 8 + x.1) = v * 8 + x.1 := by rw [IntKind.wrap_u64]; omega
  have HE2 := Lib.hid e2
  have HE3 := Lib.hid e3
  clear hv hq hvb hx e2 e3 hM
  gi_wp2
  rw [HE2.out, HE3.out]
  refine ⟨(KeepsOthers.setCell _ _ _).trans (KeepsOthers.setCell _ _ _), (KeepS.setCell _ (by rintro (h | h) <;> (simp at h; try omega))).trans (KeepS.setCell _ (by rintro (h | h) <;> (simp at h; try omega))),
   ⟨by simp; omega, ?_, ?_, ?_, ?_, ?_, ?_⟩, (hBW.setCell (p := ⟨w.heap.size + 1 + 1 + 1, 0, none⟩) (by show w.heap.size ≤ w.heap.size + 1 + 1 + 1; omega) _).setCell (p := ⟨w.heap.size + 1 + 1, 0, none⟩) (by show w.heap.size ≤ w.heap.size + 1 + 1; omega) _⟩
  ·exact ((cell_far (p := ⟨w.heap.size + 1 + 1, 0, none⟩) (by simp; try omega) _).trans (cell_far (p := ⟨w.heap.size + 1 + 1 + 1, 0, none⟩) (by simp; try omega) _)).trans c5
  ·exact ((cell_far (p := ⟨w.heap.size + 1 + 1, 0, none⟩) (by simp; try omega) _).trans (cell_far (p := ⟨w.heap.size + 1 + 1 + 1, 0, none⟩) (by simp; try omega) _)).trans c7
  ·rw [World.cell?_setCell_same' _ _ _ (by rw [cell_far (p := ⟨w.heap.size + 1 + 1 + 1, 0, none⟩) (by simp; try omega)]; show Option.isSome (W.cell? _) = true; rw [c8]; rfl)]
   simp
  ·rw [World.frozen?_setCell, World.frozen?_setCell]; exact f8
  ·rw [cell_far (p := ⟨w.heap.size + 1 + 1, 0, none⟩) (by simp; try omega), World.cell?_setCell_same' _ _ _ (by show Option.isSome (W.cell? _) = true; rw [c9]; rfl), hsn.out]
   rfl
  rw [World.frozen?_setCell, World.frozen?_setCell]; exact f9
 case done =>
  rintro B W hD ⟨⟨hM, c5, c7, c8, f8, c9, f9⟩, hBW⟩ hK
  have hb : Below w.heap.size w (W.putObj B (.deferred none)) := hBW.trans (belowK_b (w := w) (Nat.le_refl _) _ B _ _ (by omega) hK rfl rfl)
  rw [digD_map] at c9
  rw [hDl] at c8 hM
  have htk : (digs s 8).take M = digs s 8 := List.take_of_length_le hM
  obtain ⟨v, hv⟩ : ∃ v, eOf 8 (digs s 8) = v := ⟨_, rfl⟩
  have hres : escRes 8 1 M s = if (digs s 8).length = 0 then (0, 0) else (v, 1 + ((digs s 8).length : Int)) := by unfold escRes; rw [htk, hv]
  rw [hv] at c9
  generalize (digs s 8).length = nn at hres c8 hM hle
  by_cases h0 : nn = 0
  ·subst h0
   have HR : Hid (Ending.returned (.tuple #[.int .u64 0, .int .i64 0]) = .returned (.tuple #[.int .u64 (escRes 8 1 3 (t.extract 1 t.size)).1, .int .i64 (escRes 8 1 3 (t.extract 1 t.size)).2])) := Lib.hid (by rw [HSE.out, ← HM.out, hres]; rfl)
   clear hres hv htk hDl hle hM
   go_wp2
   rw [Exit.noGoto_ret]
   refine ⟨by simp, .inl ⟨_, _, rfl, run_takeDeferred hK, ?_⟩⟩
   refine ⟨_, ?_, HR.out, hb⟩
   simp [results, Tryd.results50, go_sem]
  have hb0 : ((nn : Int) == 0) = false := beq_eq_false_iff_ne.mpr (by omega)
  have HR : Hid (Ending.returned (.tuple #[.int .u64 v, .int .i64 (1 + (nn : Int))]) = .returned (.tuple #[.int .u64 (escRes 8 1 3 (t.extract 1 t.size)).1, .int .i64 (escRes 8 1 3 (t.extract 1 t.size)).2])) := Lib.hid (by rw [HSE.out, ← HM.out, hres, if_neg h0])
  have hn1 : (nn : Int) + 2 ≤ 281474976710656 := by omega
  clear hres hv htk hDl hle hM h0
  go_wp2
  go_quiet (fail)
  go_wp2
  rw [Exit.noGoto_ret]
  have hK' : (W.drewN nq).heap[B]? = some (.deferred (some [])) := hK
  refine ⟨by simp, .inl ⟨_, _, rfl, run_takeDeferred hK', ?_⟩⟩
  refine ⟨_, ?_, HR.out, ?_⟩
  ·simp [results, Tryd.results50, go_sem]
  exact (pw_below_drewN hBW nq).trans (belowK_b (w := w) (Nat.le_refl _) _ B _ _ (by omega) hK' rfl rfl)
 case stop =>
  rintro B c pre W hD hp ⟨⟨rfl, p0, hp0, hl0, c8, c9⟩, hBW⟩ hK
  have htk : (digs s 8).take M = p0.map (·.1) := by
   obtain ⟨r, hr⟩ := hp0.trans hp
   rw [← digD_map, ← hr, List.map_append, List.take_left' (by rw [List.length_map]; exact hl0)]
  obtain ⟨v, hv⟩ : ∃ v, eOf 8 (p0.map (·.1)) = v := ⟨_, rfl⟩
  have HR : Hid (Ending.returned (.tuple #[.int .u64 v, .int .i64 (1 + (M : Int))]) = .returned (.tuple #[.int .u64 (escRes 8 1 3 (t.extract 1 t.size)).1, .int .i64 (escRes 8 1 3 (t.extract 1 t.size)).2])) := Lib.hid (by
   rw [HSE.out, ← HM.out]; unfold escRes; rw [htk, hv, List.length_map, hl0, if_neg (by omega)])
  rw [hv] at c9
  have hb0 : ((M : Int) == 0) = false := beq_eq_false_iff_ne.mpr (by omega)
  have hn1 : (M : Int) + 2 ≤ 281474976710656 := by omega
  clear htk hv hp hp0 hl0 hDl hle hM0
  go_wp2
  go_quiet (fail)
  go_wp2
  rw [Exit.noGoto_ret]
  have hK' : (W.drewN nq).heap[B]? = some (.deferred (some [])) := hK
  refine ⟨by simp, .inl ⟨_, _, rfl, run_takeDeferred hK', ?_⟩⟩
  refine ⟨_, ?_, HR.out, ?_⟩
  ·simp [results, Tryd.results50, go_sem]
  exact (pw_below_drewN hBW nq).trans (belowK_b (w := w) (Nat.le_refl _) _ B _ _ (by omega) hK' rfl rfl)
set_option maxHeartbeats 2000000 in
theorem esc16 (t : ByteArray) (w : World) (h2 : 2 ≤ t.size) (hs : t.size ≤ 140737488355328) (hi : Lib.indexByte [39, 34, 63, 92, 97, 98, 102, 110, 114, 116, 118] (t[1]'h2) < 0) (hx : (((t[1]'h2).toNat : Int) == 120) = true) :
  Calls Tryd.prog 50 #[.string t] w fun e w' => e = .returned (.tuple #[.int .u64 (escRes 16 2 t.size (t.extract 2 t.size)).1, .int .i64 (escRes 16 2 t.size (t.extract 2 t.size)).2]) ∧ Below w.heap.size w w' := by
 refine calls_marks (callsIn_of_wp_marks Tryd.func50 rfl trivial ?_ rfl)
 refine wpIn_wide.2 ?_
 simp only [Tryd.ntmps50, List.size_toArray, List.length_cons, List.length_nil, Nat.reduceAdd, Nat.reduceSub, Array.replicate_succ, Array.replicate_zero, List.push_toArray, List.append_toArray, List.nil_append, List.cons_append]
 have hi2 : decide (0 ≤ Lib.indexByte [39, 34, 63, 92, 97, 98, 102, 110, 114, 116, 118] (t[1]'h2)) = false := decide_eq_false (by omega)
 have h22 : decide ((t.size : Int) < 2) = false := decide_eq_false (by omega)
 go_wp2_with (fail)
 go_step3
 go_wp2_with (first | (go_at_call 53; refine (Tryd.strings_IndexByte _ _ _).mono ?_; rintro e w' ⟨rfl, hw⟩; obtain rfl := hw.symm))
 go_step3
 go_wp2_with (fail)
 have hge : (2 : Int) ≤ (t.size : Int) := by omega
 refine wp_region_still_tail 4 (by kernel_rfl) (by kernel_rfl) ?_
 simp only [List.take_succ_cons, List.take_zero, List.drop_succ_cons, List.drop_zero]
 change wpStill _ _ (World.drew _) (fun a' => wpList _ _ _ _ a' (World.drew _)) _ _
 repeat still_step
 refine wpStill_nil ?_
 go_wp2_with (first | (go_at_call 42; refine (digits_calls _ _ _).mono ?_; rintro e w' ⟨rfl, rfl⟩))
 obtain ⟨s, hse⟩ : ∃ s, t.extract 2 t.size = s := ⟨_, rfl⟩
 have hss : s.size ≤ t.size := by rw [← hse]; simp
 have HSE := Lib.hid hse
 simp only [hse]
 clear hse
 obtain ⟨M, hM⟩ : ∃ M : Nat, M = t.size := ⟨_, rfl⟩
 have HM := Lib.hid hM
 have hms : M ≤ 140737488355328 := by omega
 have hM0 : 0 < M := by omega
 clear hM
 obtain ⟨W0, hW0⟩ : ∃ W0, ((((((w.alloc (.cells #[.int .i64 16] 3)).alloc (.cells #[.int .i64 (t.size : Int)] 3)).alloc (.cells #[.int .i64 0] 3)).alloc (.cells #[.int .u64 0] 32)).alloc (.cells #[.string s] 9)).alloc (.cells #[.int .i64 16] 3)).drew = W0 := ⟨_, rfl⟩
 have p5 : W0.heap[w.heap.size]? = some (.cells #[.int .i64 16] 3) := by rw [← hW0]; exact blk_drew (blk_alloc (blk_alloc (blk_alloc (blk_alloc (blk_alloc (blk_new _ _) _) _) _) _) _)
 have p7 : W0.heap[w.heap.size + 1]? = some (.cells #[.int .i64 (M : Int)] 3) := by rw [← hW0, HM.out]; exact blk_drew (blk_alloc (blk_alloc (blk_alloc (blk_alloc ((by simpa using blk_new (w.alloc (.cells #[.int .i64 16] 3)) (.cells #[.int .i64 (t.size : Int)] 3))) _) _) _) _)
 have p8 : W0.heap[w.heap.size + 1 + 1]? = some (.cells #[.int .i64 0] 3) := by rw [← hW0]; exact blk_drew (blk_alloc (blk_alloc (blk_alloc ((by simpa using blk_new ((w.alloc (.cells #[.int .i64 16] 3)).alloc (.cells #[.int .i64 (t.size : Int)] 3)) (.cells #[.int .i64 0] 3))) _) _) _)
 have p9 : W0.heap[w.heap.size + 1 + 1 + 1]? = some (.cells #[.int .u64 0] 32) := by rw [← hW0]; exact blk_drew (blk_alloc (blk_alloc ((by simpa using blk_new (((w.alloc (.cells #[.int .i64 16] 3)).alloc (.cells #[.int .i64 (t.size : Int)] 3)).alloc (.cells #[.int .i64 0] 3)) (.cells #[.int .u64 0] 32))) _) _)
 have ps : W0.heap[w.heap.size + 1 + 1 + 1 + 1]? = some (.cells #[.string s] 9) := by rw [← hW0]; exact blk_drew (blk_alloc ((by simpa using blk_new ((((w.alloc (.cells #[.int .i64 16] 3)).alloc (.cells #[.int .i64 (t.size : Int)] 3)).alloc (.cells #[.int .i64 0] 3)).alloc (.cells #[.int .u64 0] 32)) (.cells #[.string s] 9))) _)
 have pb : W0.heap[w.heap.size + 1 + 1 + 1 + 1 + 1]? = some (.cells #[.int .i64 16] 3) := by rw [← hW0]; exact blk_drew (by simpa using blk_new (((((w.alloc (.cells #[.int .i64 16] 3)).alloc (.cells #[.int .i64 (t.size : Int)] 3)).alloc (.cells #[.int .i64 0] 3)).alloc (.cells #[.int .u64 0] 32)).alloc (.cells #[.string s] 9)) (.cells #[.int .i64 16] 3))
 have hz0 : W0.heap.size = w.heap.size + 6 := by rw [← hW0]; simp
 have hB0 : Below w.heap.size w W0 := by rw [← hW0]; exact (((((((Below.refl _ _).alloc (Nat.le_refl _) _).alloc (by simp) _).alloc (by simp; omega) _).alloc (by simp; omega) _).alloc (by simp; omega) _).alloc (by simp; omega) _).drew
 rw [hW0]
 clear hW0
 have hle := digs_le s 16
 have hDl : (digD s 16).length = (digs s 16).length := by rw [← digD_map, List.length_map]
 refine wp_rangeFunc_list (gf := 52) (lb := #[.pointer (some ⟨w.heap.size + 1 + 1 + 1 + 1, 0, none⟩), .pointer (some ⟨w.heap.size + 1 + 1 + 1 + 1 + 1, 0, none⟩)]) rfl (enters_of Tryd.func52 (by kernel_rfl) rfl)
  (digits_stops (fun x : Dig 16 => x.1) (digD s 16) _ (by omega) (w.heap.size + 1 + 1 + 1 + 1) (w.heap.size + 1 + 1 + 1 + 1 + 1) (fun b => b = w.heap.size + 1 + 1 + 1 + 1 ∨ b = w.heap.size + 1 + 1 + 1 + 1 + 1) s 16 (by unfold maxLen; omega) (digD_map s 16) (.inl rfl) (.inr rfl) W0 (cell_of_box_l ps).1 (cell_of_box_l pb).1)
  (by rintro b (rfl | rfl) <;> omega) (fun _ => rfl)
  (fun pre W => (pre.length ≤ M ∧ W.cell? ⟨w.heap.size, 0, none⟩ = some (.int .i64 16) ∧ W.cell? ⟨w.heap.size + 1, 0, none⟩ = some (.int .i64 (M : Int)) ∧ W.cell? ⟨w.heap.size + 1 + 1, 0, none⟩ = some (.int .i64 (pre.length : Int)) ∧ W.frozen? ⟨w.heap.size + 1 + 1, 0, none⟩ = false ∧
   W.cell? ⟨w.heap.size + 1 + 1 + 1, 0, none⟩ = some (.int .u64 (eOf 16 (pre.map (·.1)))) ∧ W.frozen? ⟨w.heap.size + 1 + 1 + 1, 0, none⟩ = false) ∧ Below w.heap.size w W)
  (fun c pre W => (c = .exit 0 ∧ ∃ p0, p0 <+: pre ∧ p0.length = M ∧ W.cell? ⟨w.heap.size + 1 + 1, 0, none⟩ = some (.int .i64 (M : Int)) ∧ W.cell? ⟨w.heap.size + 1 + 1 + 1, 0, none⟩ = some (.int .u64 (eOf 16 (p0.map (·.1))))) ∧ Below w.heap.size w W)
  (OwnFrom.and (Own.from (fun s A B row hs hg hr => by
   obtain ⟨a0, a2, a4, a5, a6, a7, a8⟩ := hs
   exact ⟨a0, cell_kept a2 hg hr, cell_kept a4 hg hr, cell_kept a5 hg hr, (frozen_kept a5 hg hr).trans a6, cell_kept a7 hg hr, (frozen_kept a7 hg hr).trans a8⟩) _) (ownFrom_below (Nat.le_refl _) (by omega)))
  (fun c => OwnFrom.and (Own.from (fun s A B row hs hg hr => by
   obtain ⟨a0, p0, a1, a2, a3, a4⟩ := hs
   exact ⟨a0, p0, a1, a2, cell_kept a3 hg hr, cell_kept a4 hg hr⟩) _) (ownFrom_below (Nat.le_refl _) (by omega)))
  ⟨⟨Nat.zero_le _, (cell_of_box_l p5).1, (cell_of_box_l p7).1, (cell_of_box_l p8).1, (cell_of_box_l p8).2, (cell_of_box_l p9).1, (cell_of_box_l p9).2⟩, hB0⟩ ?a1 ?assign ?body ?done ?stop
 case assign =>
  intro l x W K hK
  gi_wp2
  exact hK
 case body =>
  rintro l pre x W ⟨⟨hM, c5, c7, c8, f8, c9, f9⟩, hBW⟩ hlen
  have hvb := eOf_bound (base := 16) (by omega) pre
  have hx := x.2
  by_cases hq : pre.length = M
  ·have hqb : ((pre.length : Int) == (M : Int)) = true := by simp [hq]
   have hqb' : (pre.length == M) = true := by simp [hq]
   have HQ := Lib.hid hq
   clear hq hx hvb hM
   gi_wp2
   refine ⟨KeepsOthers.refl _, ⟨rfl, pre, List.prefix_append _ _, HQ.out, ?_, c9⟩, hBW⟩
   rw [← HQ.out]; exact c8
  have hqb : ((pre.length : Int) == (M : Int)) = false := beq_eq_false_iff_ne.mpr (by omega)
  have hqb' : (pre.length == M) = false := beq_eq_false_iff_ne.mpr hq
  have hM1 : pre.length + 1 ≤ M := by omega
  have hl1 : (pre.length : Int) + 1 ≤ 140737488355328 := by omega
  have e1 : IntKind.u64.wrap x.1 = x.1 := by rw [IntKind.wrap_u64]; omega
  obtain ⟨v, hv⟩ : ∃ v, eOf 16 (pre.map (·.1)) = v := ⟨_, rfl⟩
  have hsn : Hid (eOf 16 ((pre ++ [x]).map (·.1)) = eStep 16 v x.1) := Lib.hid (by rw [List.map_append, List.map_cons, List.map_nil, eOf_snoc, hv])
  rw [hv] at hvb c9
  have e2 : IntKind.u64.wrap (v * 16) = v * 16 := by rw [IntKind.wrap_u64]; omega
  have e3 : IntKind.u64.wrap (v * 16 + x.1) = v * 16 + x.1 := by rw [IntKind.wrap_u64]; omega
  have HE2 := Lib.hid e2
  have HE3 := Lib.hid e3
  clear hv hq hvb hx e2 e3 hM
  gi_wp2
  rw [HE2.out, HE3.out]
  refine ⟨(KeepsOthers.setCell _ _ _).trans (KeepsOthers.setCell _ _ _), (KeepS.setCell _ (by rintro (h | h) <;> (simp at h; try omega))).trans (KeepS.setCell _ (by rintro (h | h) <;> (simp at h; try omega))),
   ⟨by simp; omega, ?_, ?_, ?_, ?_, ?_, ?_⟩, (hBW.setCell (p := ⟨w.heap.size + 1 + 1 + 1, 0, none⟩) (by show w.heap.size ≤ w.heap.size + 1 + 1 + 1; omega) _).setCell (p := ⟨w.heap.size + 1 + 1, 0, none⟩) (by show w.heap.size ≤ w.heap.size + 1 + 1; omega) _⟩
  ·exact ((cell_far (p := ⟨w.heap.size + 1 + 1, 0, none⟩) (by simp; try omega) _).trans (cell_far (p := ⟨w.heap.size + 1 + 1 + 1, 0, none⟩) (by simp; try omega) _)).trans c5
  ·exact ((cell_far (p := ⟨w.heap.size + 1 + 1, 0, none⟩) (by simp; try omega) _).trans (cell_far (p := ⟨w.heap.size + 1 + 1 + 1, 0, none⟩) (by simp; try omega) _)).trans c7
  ·rw [World.cell?_setCell_same' _ _ _ (by rw [cell_far (p := ⟨w.heap.size + 1 + 1 + 1, 0, none⟩) (by simp; try omega)]; show Option.isSome (W.cell? _) = true; rw [c8]; rfl)]
   simp
  ·rw [World.frozen?_setCell, World.frozen?_setCell]; exact f8
  ·rw [cell_far (p := ⟨w.heap.size + 1 + 1, 0, none⟩) (by simp; try omega), World.cell?_setCell_same' _ _ _ (by show Option.isSome (W.cell? _) = true; rw [c9]; rfl), hsn.out]
   rfl
  rw [World.frozen?_setCell, World.frozen?_setCell]; exact f9
 case done =>
  rintro B W hD ⟨⟨hM, c5, c7, c8, f8, c9, f9⟩, hBW⟩ hK
  have hb : Below w.heap.size w (W.putObj B (.deferred none)) := hBW.trans (belowK_b (w := w) (Nat.le_refl _) _ B _ _ (by omega) hK rfl rfl)
  rw [digD_map] at c9
  rw [hDl] at c8 hM
  have htk : (digs s 16).take M = digs s 16 := List.take_of_length_le hM
  obtain ⟨v, hv⟩ : ∃ v, eOf 16 (digs s 16) = v := ⟨_, rfl⟩
  have hres : escRes 16 2 M s = if (digs s 16).length = 0 then (0, 0) else (v, 2 + ((digs s 16).length : Int)) := by unfold escRes; rw [htk, hv]
  rw [hv] at c9
  generalize (digs s 16).length = nn at hres c8 hM hle
  by_cases h0 : nn = 0
  ·subst h0
   have HR : Hid (Ending.returned (.tuple #[.int .u64 0, .int .i64 0]) = .returned (.tuple #[.int .u64 (escRes 16 2 t.size (t.extract 2 t.size)).1, .int .i64 (escRes 16 2 t.size (t.extract 2 t.size)).2])) := Lib.hid (by rw [HSE.out, ← HM.out, hres]; rfl)
   clear hres hv htk hDl hle hM
   go_wp2
   rw [Exit.noGoto_ret]
   refine ⟨by simp, .inl ⟨_, _, rfl, run_takeDeferred hK, ?_⟩⟩
   refine ⟨_, ?_, HR.out, hb⟩
   simp [results, Tryd.results50, go_sem]
  have hb0 : ((nn : Int) == 0) = false := beq_eq_false_iff_ne.mpr (by omega)
  have HR : Hid (Ending.returned (.tuple #[.int .u64 v, .int .i64 (2 + (nn : Int))]) = .returned (.tuple #[.int .u64 (escRes 16 2 t.size (t.extract 2 t.size)).1, .int .i64 (escRes 16 2 t.size (t.extract 2 t.size)).2])) := Lib.hid (by rw [HSE.out, ← HM.out, hres, if_neg h0])
  have hn1 : (nn : Int) + 2 ≤ 281474976710656 := by omega
  clear hres hv htk hDl hle hM h0
  go_wp2
  go_quiet (fail)
  go_wp2
  rw [Exit.noGoto_ret]
  have hK' : (W.drewN nq).heap[B]? = some (.deferred (some [])) := hK
  refine ⟨by simp, .inl ⟨_, _, rfl, run_takeDeferred hK', ?_⟩⟩
  refine ⟨_, ?_, HR.out, ?_⟩
  ·simp [results, Tryd.results50, go_sem]
  exact (pw_below_drewN hBW nq).trans (belowK_b (w := w) (Nat.le_refl _) _ B _ _ (by omega) hK' rfl rfl)
 case stop =>
  rintro B c pre W hD hp ⟨⟨rfl, p0, hp0, hl0, c8, c9⟩, hBW⟩ hK
  have htk : (digs s 16).take M = p0.map (·.1) := by
   obtain ⟨r, hr⟩ := hp0.trans hp
   rw [← digD_map, ← hr, List.map_append, List.take_left' (by rw [List.length_map]; exact hl0)]
  obtain ⟨v, hv⟩ : ∃ v, eOf 16 (p0.map (·.1)) = v := ⟨_, rfl⟩
  have HR : Hid (Ending.returned (.tuple #[.int .u64 v, .int .i64 (2 + (M : Int))]) = .returned (.tuple #[.int .u64 (escRes 16 2 t.size (t.extract 2 t.size)).1, .int .i64 (escRes 16 2 t.size (t.extract 2 t.size)).2])) := Lib.hid (by
   rw [HSE.out, ← HM.out]; unfold escRes; rw [htk, hv, List.length_map, hl0, if_neg (by omega)])
  rw [hv] at c9
  have hb0 : ((M : Int) == 0) = false := beq_eq_false_iff_ne.mpr (by omega)
  have hn1 : (M : Int) + 2 ≤ 281474976710656 := by omega
  clear htk hv hp hp0 hl0 hDl hle hM0
  go_wp2
  go_quiet (fail)
  go_wp2
  rw [Exit.noGoto_ret]
  have hK' : (W.drewN nq).heap[B]? = some (.deferred (some [])) := hK
  refine ⟨by simp, .inl ⟨_, _, rfl, run_takeDeferred hK', ?_⟩⟩
  refine ⟨_, ?_, HR.out, ?_⟩
  ·simp [results, Tryd.results50, go_sem]
  exact (pw_below_drewN hBW nq).trans (belowK_b (w := w) (Nat.le_refl _) _ B _ _ (by omega) hK' rfl rfl)
set_option maxHeartbeats 2000000 in
theorem esc_short (t : ByteArray) (w : World) (h2 : t.size < 2) : Calls Tryd.prog 50 #[.string t] w fun e w' => e = .returned (.tuple #[.int .u64 0, .int .i64 0]) ∧ Below w.heap.size w w' := by
 refine calls_marks (callsIn_of_wp_marks Tryd.func50 rfl trivial ?_ rfl)
 refine wpIn_wide.2 ?_
 simp only [Tryd.ntmps50, List.size_toArray, List.length_cons, List.length_nil, Nat.reduceAdd, Nat.reduceSub, Array.replicate_succ, Array.replicate_zero, List.push_toArray, List.append_toArray, List.nil_append, List.cons_append]
 have h22 : decide ((t.size : Int) < 2) = true := decide_eq_true (by omega)
 go_wp2_with (fail)
 go_step3
 go_wp2_with (fail)
 rw [Exit.noGoto_ret]
 refine ⟨_, ?_, rfl, Below.refl _ _⟩
 simp [results, Tryd.results50, go_sem]
def simB : ByteArray := ⟨#[39, 34, 63, 92, 7, 8, 12, 10, 13, 9, 11]⟩
set_option maxHeartbeats 2000000 in
theorem esc_simple (t : ByteArray) (w : World) (h2 : 2 ≤ t.size) (hi : 0 ≤ Lib.indexByte [39, 34, 63, 92, 97, 98, 102, 110, 114, 116, 118] (t[1]'h2)) (hi2 : Lib.indexByte [39, 34, 63, 92, 97, 98, 102, 110, 114, 116, 118] (t[1]'h2) < 11) :
  Calls Tryd.prog 50 #[.string t] w fun e w' => e = .returned (.tuple #[.int .u64 (bt simB (Lib.indexByte [39, 34, 63, 92, 97, 98, 102, 110, 114, 116, 118] (t[1]'h2))), .int .i64 2]) ∧ Below w.heap.size w w' := by
 refine calls_marks (callsIn_of_wp_marks Tryd.func50 rfl trivial ?_ rfl)
 refine wpIn_wide.2 ?_
 simp only [Tryd.ntmps50, List.size_toArray, List.length_cons, List.length_nil, Nat.reduceAdd, Nat.reduceSub, Array.replicate_succ, Array.replicate_zero, List.push_toArray, List.append_toArray, List.nil_append, List.cons_append]
 have h22 : decide ((t.size : Int) < 2) = false := decide_eq_false (by omega)
 obtain ⟨j, hj⟩ : ∃ j, Lib.indexByte [39, 34, 63, 92, 97, 98, 102, 110, 114, 116, 118] (t[1]'h2) = j := ⟨_, rfl⟩
 rw [hj] at hi hi2 ⊢
 have hnorm : Lib.indexByte (⟨#[39, 34, 63, 92, 97, 98, 102, 110, 114, 116, 118]⟩ : ByteArray).data.toList ((t[1]'h2).toNat : Int).toNat.toUInt8 = j := by rw [← hj]; simp
 clear hj
 have hj0 : decide (0 ≤ j) = true := decide_eq_true hi
 have hbt : ∀ h : j.toNat < simB.size, ((simB[j.toNat]'h).toNat : Int) = bt simB j := bt_at simB j
 unfold simB at hbt ⊢
 go_wp2_with (fail)
 go_step3
 go_wp2_with (first | (go_at_call 53; refine (Tryd.strings_IndexByte _ _ _).mono ?_; rintro e w' ⟨rfl, hw⟩; obtain rfl := hw.symm; simp only [hnorm]))
 have hr := bt_range ⟨#[39, 34, 63, 92, 7, 8, 12, 10, 13, 9, 11]⟩ j
 have hw2 : IntKind.u64.wrap (bt ⟨#[39, 34, 63, 92, 7, 8, 12, 10, 13, 9, 11]⟩ j) = bt ⟨#[39, 34, 63, 92, 7, 8, 12, 10, 13, 9, 11]⟩ j := by rw [IntKind.wrap_u64]; omega
 rw [hw2]
 refine ⟨_, ?_, rfl, Below.refl _ _⟩
 simp [results, Tryd.results50, go_sem]
def ctok_escape.f (a0 : ByteArray) : Option (Int × Int) :=
  if a0.size ≤ 140737488355328 then
    (if h : 2 ≤ a0.size then
      (if 0 ≤ Lib.indexByte [39, 34, 63, 92, 97, 98, 102, 110, 114, 116, 118] (a0[1]'h) then (if Lib.indexByte [39, 34, 63, 92, 97, 98, 102, 110, 114, 116, 118] (a0[1]'h) < 11 then some (bt simB (Lib.indexByte [39, 34, 63, 92, 97, 98, 102, 110, 114, 116, 118] (a0[1]'h)), 2) else none)
       else if ((a0[1]'h).toNat : Int) = 120 then some (escRes 16 2 a0.size (a0.extract 2 a0.size)) else some (escRes 8 1 3 (a0.extract 1 a0.size)))
    else some (0, 0))
  else none
theorem ctok_escape.calls (a0 : ByteArray) (r1 r2 : Int) (w : World) (h : ctok_escape.f a0 = some (r1, r2)) :
  Calls Tryd.prog 50 #[.string a0] w fun e w' => e = .returned (.tuple #[.int .u64 r1, .int .i64 r2]) ∧ Below w.heap.size w w' := by
 unfold ctok_escape.f at h
 split at h
 ·rename_i hs
  split at h
  ·rename_i h2
   split at h
   ·rename_i hi
    split at h
    ·rename_i hi2
     injection h with h
     have := esc_simple a0 w h2 hi hi2
     injection h with e1 e2
     subst e1; subst e2
     exact this
    cases h
   rename_i hi
   split at h
   ·rename_i hx
    injection h with h
    have := esc16 a0 w h2 hs (by omega) (beq_iff_eq.mpr hx)
    rwa [h] at this
   rename_i hx
   injection h with h
   have := esc8 a0 w h2 hs (by omega) (beq_eq_false_iff_ne.mpr hx)
   rwa [h] at this
  rename_i h2
  injection h with h
  injection h with e1 e2
  subst e1; subst e2
  exact esc_short a0 w (by omega)
 cases h
end Go.Proofs.YtcdleippdegibaaDoor.Digits
namespace Go.Proofs.YtcdleippdegibaaDoor.First
open Go Go.RowKit Go.Proofs Go.Proofs.YtcdleippdegibaaDoor.Iter
variable {F : Fence} {P : Program} {n : Nat}
def SeqFirst {α : Type} (F : Fence) (n : Nat) (P : Program) (g : Nat) (lb : Array Value) (encs : α → Array Value) (D : Option α) (w : World) : Prop :=
 ∀ (l : Nat) (J Jx : World → Prop) (W : World), Below w.heap.size w W → (∀ A B, J A → Below A.heap.size A B → J B) → (∀ A B, Jx A → Below A.heap.size A B → Jx B) →
  (∀ x W1, D = some x → J W1 → Below W.heap.size W W1 → YieldAt F (n - 1) P l (encs x) W1 fun e W' => e = .returned (.bool false) ∧ Jx W') → J W →
  CallsIn F n P g (#[.func (.yield l) #[] #[]] ++ lb) W fun e W' => (∃ v, e = .returned v) ∧ ((D = none ∧ J W') ∨ (∃ x, D = some x ∧ Jx W'))
theorem loop_kept {A B : World} {l : Nat} {o : Obj} (h : A.heap[l]? = some o) (hb : Below A.heap.size A B) : B.heap[l]? = some o :=
 (hb.block l (Array.getElem?_eq_some_iff.1 h).1).trans h
theorem wpIn_rangeFunc_first {α : Type} {g : Operand} {ps : Array Tmp} {assign body : Code} {Q : Exit → Act → World → Prop} {a : Act} {w : World}
  (hro : F.round = none) (h1 : 1 ≤ n) {gf : Nat} {lb : Array Value} (hg : a.eval g = .func (.func gf) #[] lb) (hFg : F.fn gf) (eg : ∀ args w, (callFunc gf args).run P w = .ok (.enter gf args) w)
  {encs : α → Array Value} {D : Option α} (hseq : SeqFirst F (n - 1) P gf lb encs D w) (hps : ∀ x, (encs x).size = ps.size)
  (I Rx : World → Prop) (hI : ∀ A B, I A → Below A.heap.size A B → I B) (hIo : ∀ A l o o', I A → w.heap.size ≤ l → A.heap[l]? = some o → o.isCells = false → o.isWalk = false → I (A.putObj l o'))
  (hR : ∀ A B, Rx A → Below A.heap.size A B → Rx B) (hRo : ∀ A l o o', Rx A → w.heap.size ≤ l → A.heap[l]? = some o → o.isCells = false → o.isWalk = false → Rx (A.putObj l o'))
  (h0 : I w) (A : α → Act → World → Prop) (hAo : ∀ x a1 B l o o', A x a1 B → B.heap[l]? = some o → o.isCells = false → o.isWalk = false → A x a1 (B.putObj l o'))
  (hassign : ∀ (l : Nat) (x : α) (W : World) (K : Act → World → Prop), D = some x → I W → (∀ a1 W', A x a1 W' → Below W.heap.size W W' → K a1 W') →
   assign.wpIn (F.inRound l) (n - 1 - 1) P (Exit.then K (fun _ _ _ => False)) { tmps := (ps.zip (encs x)).foldl (fun t (p, v) => t.setIfInBounds p v) a.tmps, defers := [] } W)
  (hbody : ∀ (l : Nat) (x : α) (a1 : Act) (W : World), D = some x → I W → A x a1 W → body.wpIn (F.inRound l) (n - 1 - 1) P (fun e _ W' => e = .ret ∧ KeepsOthers W W' ∧ Rx W') a1 W)
  (hdone : ∀ (K : Nat) (W : World), w.heap.size ≤ K → D = none → I W → W.heap[K]? = some (.deferred (some [])) → Q .normal { a with defers := { target := .collected K, args := #[] } :: a.defers } W)
  (hstop : ∀ (K : Nat) (x : α) (W : World), w.heap.size ≤ K → D = some x → Rx W → W.heap[K]? = some (.deferred (some [])) → Code.ret.wpIn F n P Q { a with defers := { target := .collected K, args := #[] } :: a.defers } W) :
  (Code.rangeFunc g ps assign body).wpIn F n P Q a w := by
 refine wpIn_rangeFunc fun fn hfn => ?_
 rw [hro]
 obtain ⟨rc, hrc⟩ : ∃ rc : LoopState → Option Code → Loop, rc = fun st pe => { state := st, pending := pe, fn, tmps := a.tmps, params := ps, assign, body, defers := w.heap.size } := ⟨_, rfl⟩
 obtain ⟨W1, hW1⟩ : ∃ W1, (w.alloc (.deferred (some []))).alloc (.loop (rc .ready none)) = W1 := ⟨_, rfl⟩
 have bW1 : Below w.heap.size w W1 := by rw [← hW1]; exact ((Below.refl _ w).alloc (Nat.le_refl _) _).alloc (by simp) _
 have l1 : W1.heap[w.heap.size + 1]? = some (.loop (rc .ready none)) := by
  have := World.alloc_heap_new (w.alloc (.deferred (some []))) (.loop (rc .ready none))
  rw [World.size_alloc] at this
  rw [← hW1]; exact this
 have k1 : W1.heap[w.heap.size]? = some (.deferred (some [])) := by
  rw [← hW1]; exact (Below.heap_alloc _ _ _ (by simp)).trans (World.alloc_heap_new w _)
 have i1 : I W1 := hI _ _ h0 bW1
 refine ⟨w.heap.size + 1, [{ target := .collected w.heap.size, args := #[] }], W1, { target := .fn (.func gf) lb, args := #[.func (.yield (w.heap.size + 1)) #[] #[]] }, W1, gf,
  #[.func (.yield (w.heap.size + 1)) #[] #[]] ++ lb, W1, by rw [← hW1, hrc]; exact run_enterLoop_outer _ _ _ _ _, by simp only [resolve, hg]; simp [go_sem], ?_, by simp [invoke, go_sem, eg], fun _ => h1, ?_⟩
 ·intro f' hf'
  simp [Target.leads] at hf'
  exact hf' ▸ hFg
 refine (hseq (w.heap.size + 1) (fun W => I W ∧ W.heap[w.heap.size + 1]? = some (.loop (rc .ready none)) ∧ W.heap[w.heap.size]? = some (.deferred (some [])))
  (fun W => Rx W ∧ W.heap[w.heap.size + 1]? = some (.loop (rc .done (some .ret))) ∧ W.heap[w.heap.size]? = some (.deferred (some [])))
  W1 bW1 (fun A B h hb => ⟨hI _ _ h.1 hb, loop_kept h.2.1 hb, loop_kept h.2.2 hb⟩) (fun A B h hb => ⟨hR _ _ h.1 hb, loop_kept h.2.1 hb, loop_kept h.2.2 hb⟩) ?_ ⟨i1, l1, k1⟩).mono ?_
 ·rintro x W hD ⟨hi, hl, hk⟩ _
  have hy := run_yield (P := P) (args := encs x) hl (by rw [hrc]; exact hps x)
  rw [hrc] at hy
  refine ⟨fn, _, assign, body, hy, roundIn_of_wpIn hfn (hassign _ x W _ hD hi fun a1 Wa haa hba => ?_)⟩
  have hia := hI _ _ hi hba
  have hla := loop_kept hl hba
  have hka := loop_kept hk hba
  have hlt : w.heap.size + 1 < Wa.heap.size := (Array.getElem?_eq_some_iff.1 hla).1
  refine ⟨_, run_beginRound hla (by rw [hrc]), ?_⟩
  have hl2 : (Wa.putObj (w.heap.size + 1) (.loop { rc .ready none with state := .busy })).heap[w.heap.size + 1]? = some (.loop { rc .ready none with state := .busy }) := World.putObj_heap_same hlt
  have hk2 : (Wa.putObj (w.heap.size + 1) (.loop { rc .ready none with state := .busy })).heap[w.heap.size]? = some (.deferred (some [])) := (World.putObj_heap_other (by omega)).trans hka
  refine wpIn_mono (hbody _ x _ _ hD (hIo _ _ _ _ hia (by omega) hla rfl rfl) (hAo _ _ _ _ _ _ haa hla rfl rfl)) ?_
  rintro e a3 W3 ⟨rfl, hk3, hr3⟩
  have hl3 := hk3.same _ _ hl2 rfl
  have he := run_endRound (P := P) (some .ret) hl3
  have hl4 := (Array.getElem?_eq_some_iff.1 hl3).1
  exact ⟨_, _, he, rfl, hRo _ _ _ _ hr3 (by omega) hl3 rfl rfl, by rw [World.putObj_heap_same hl4, hrc]; rfl, (World.putObj_heap_other (by omega)).trans (hk3.same _ _ hk2 rfl)⟩
 rintro e W2 ⟨⟨v, rfl⟩, (⟨hD, hi, hl, hk⟩ | ⟨x, hD, hr, hl, hk⟩)⟩
 ·have he := run_endLoop (P := P) hl (by rw [hrc]; simp)
  rw [hrc] at he
  exact ⟨none, _, he, hdone _ _ (Nat.le_refl _) hD (hIo _ _ _ _ hi (by omega) hl rfl rfl) ((World.putObj_heap_other (by omega)).trans hk)⟩
 have he := run_endLoop (P := P) hl (by rw [hrc]; simp)
 rw [hrc] at he
 exact ⟨some .ret, _, he, hstop _ x _ (Nat.le_refl _) hD (hRo _ _ _ _ hr (by omega) hl rfl rfl) ((World.putObj_heap_other (by omega)).trans hk)⟩
end Go.Proofs.YtcdleippdegibaaDoor.First
namespace Go.Proofs.YtcdleippdegibaaDoor.PS
open Go.RowKit Go.Proofs.YtcdleippdegibaaDoorW.PrintWords Go.Proofs.YtcdleippdegibaaDoorW.PrintLast Go.Proofs.YtcdleippdegibaaDoorW.PrintMore
open Go.Proofs.YtcdleippdegibaaDoor.LibG (SH SH.below SH.drewN SH.drew SH.alloc)
open Go.Proofs.YtcdleippdegibaaDoor.PK
attribute [local go_sem] max2_int min2_int max_two min_two max_three min_three max_four min_four
def errW : Option Int → Value
 | none => .nilIface
 | some c => .iface 0 (.int .i64 c)
theorem errW_none : errW none = .nilIface := rfl
theorem errW_some (c : Int) : errW (some c) = .iface 0 (.int .i64 c) := rfl
theorem info9 : (Tryd.prog.info? 9).map (fun i => (i.zero, i.size, i.bytes)) = some (some (.string ⟨#[]⟩), 1, 16) := by kernel_rfl
mutual
def scan_header.j0 : Nat → ByteArray → Int → Option (Int)
 | 0, _, _ => none
 | k + 1, x0, x3 => scan_header.l0 k x0 x3 1
def scan_header.l0 : Nat → ByteArray → Int → Int → Option (Int)
 | 0, _, _, _ => none
 | k + 1, x0, x3, x4 => if x4 < (x0.size : Int) then (if 0 ≤ x4 then (scan_header.j2 k x0 x3 x4 ((bt x0 x4) != 10)) else (none)) else (scan_header.j2 k x0 x3 x4 false)
def scan_header.j2 : Nat → ByteArray → Int → Int → Bool → Option (Int)
 | 0, _, _, _, _ => none
 | k + 1, x0, x3, x4, x20 => if x20 = true then (if 0 ≤ x4 then (if x4 < (x0.size : Int) then (if (bt x0 x4) = x3 then (some (wrap64 (x4 + 1))) else (scan_header.l0 k x0 x3 (wrap64 (x4 + 1)))) else (none)) else (none)) else (some 0)
end
def scan_header.f (k : Nat) (a0 : ByteArray) : Option (Int) := (PB.strings_HasPrefix.f a0 (⟨#[60]⟩ : ByteArray)).bind fun t101 => (if t101 = true then (scan_header.j0 k a0 62) else ((PB.strings_HasPrefix.f a0 (⟨#[34]⟩ : ByteArray)).bind fun t102 => (if t102 = true then (scan_header.j0 k a0 34) else (some 0))))
theorem scan_header.mono_l : ∀ k, (∀ y0 y1, LeO (scan_header.j0 k y0 y1) (scan_header.j0 (k + 1) y0 y1)) ∧ (∀ y0 y1 y2, LeO (scan_header.l0 k y0 y1 y2) (scan_header.l0 (k + 1) y0 y1 y2)) ∧ (∀ y0 y1 y2 y3, LeO (scan_header.j2 k y0 y1 y2 y3) (scan_header.j2 (k + 1) y0 y1 y2 y3))
 | 0 => ⟨fun _ _ r h => by simp [scan_header.j0] at h, fun _ _ _ r h => by simp [scan_header.l0] at h, fun _ _ _ _ r h => by simp [scan_header.j2] at h⟩
 | k + 1 => by
  obtain ⟨ih0, ih1, ih2⟩ := scan_header.mono_l k
  refine ⟨?_, ?_, ?_⟩
  ·intro y0 y1
   unfold scan_header.j0
   repeat' first
   | (with_reducible exact ih0 _ _)
   | (with_reducible exact ih1 _ _ _)
   | (with_reducible exact ih2 _ _ _ _)
   | (with_reducible exact LeO.refl _)
   | (with_reducible exact LeO.none _)
   | (with_reducible refine LeO.ite ?_ ?_)
   | (with_reducible refine LeO.bind ?_ (fun _ => ?_))
  ·intro y0 y1 y2
   unfold scan_header.l0
   repeat' first
   | (with_reducible exact ih0 _ _)
   | (with_reducible exact ih1 _ _ _)
   | (with_reducible exact ih2 _ _ _ _)
   | (with_reducible exact LeO.refl _)
   | (with_reducible exact LeO.none _)
   | (with_reducible refine LeO.ite ?_ ?_)
   | (with_reducible refine LeO.bind ?_ (fun _ => ?_))
  intro y0 y1 y2 y3
  unfold scan_header.j2
  repeat' first
  | (with_reducible exact ih0 _ _)
  | (with_reducible exact ih1 _ _ _)
  | (with_reducible exact ih2 _ _ _ _)
  | (with_reducible exact LeO.refl _)
  | (with_reducible exact LeO.none _)
  | (with_reducible refine LeO.ite ?_ ?_)
  | (with_reducible refine LeO.bind ?_ (fun _ => ?_))
theorem scan_header.mono : ∀ a0 k, LeO (scan_header.f k a0) (scan_header.f (k + 1) a0) := by
 intro a0 k
 obtain ⟨ih0, ih1, ih2⟩ := scan_header.mono_l k
 unfold scan_header.f
 repeat' first
   | (with_reducible exact ih0 _ _)
   | (with_reducible exact ih1 _ _ _)
   | (with_reducible exact ih2 _ _ _ _)
   | (with_reducible exact LeO.refl _)
   | (with_reducible exact LeO.none _)
   | (with_reducible refine LeO.ite ?_ ?_)
   | (with_reducible refine LeO.bind ?_ (fun _ => ?_))
theorem scan_header.calls (k : Nat) (a0 : ByteArray) (r : Int) (w : World) (h : scan_header.f k a0 = some r) :
  Calls Tryd.prog 72 #[.string a0] w fun e w' => e = .returned (.int .i64 r) ∧ Drawn0 w w' := by
 have H : ((PB.strings_HasPrefix.f a0 (⟨#[60]⟩ : ByteArray)).bind fun t101 => (if t101 = true then (scan_header.j0 k a0 62) else ((PB.strings_HasPrefix.f a0 (⟨#[34]⟩ : ByteArray)).bind fun t102 => (if t102 = true then (scan_header.j0 k a0 34) else (some 0))))) = some r := h
 clear h
 have HC2 := Aside0.mk H
 clear H
 go_enter Tryd.func72, Tryd.ntmps72
 go_upto_block 0 with (fail)
 go_cut [3] (fun v3 wc => ∃ (kq : Nat) (x3_1 : Int), v3 = .int .u8 x3_1 ∧ Aside0 (scan_header.j0 kq a0 x3_1 = some r) ∧ Aside0 (kq ≤ k) ∧ Drawn0 w wc)
 case first =>
  have H := HC2.out
  clear HC2
  replace H := Option.bind_eq_some_iff.mp H
  obtain ⟨t101, A30, H⟩ := H
  replace H : (if t101 = true then (scan_header.j0 k a0 62) else ((PB.strings_HasPrefix.f a0 (⟨#[34]⟩ : ByteArray)).bind fun t102 => (if t102 = true then (scan_header.j0 k a0 34) else (some 0)))) = some r := H
  have A3 := Aside0.mk A30
  clear A30
  by_cases c4 : t101 = true
  ·subst c4
   have H1 : (scan_header.j0 k a0 62) = some r := by rw [if_pos rfl] at H; exact H
   clear H
   have H := H1
   clear H1
   have H' := Aside0.mk H
   clear H
   go_wp2_with (first | ((with_reducible refine gate_callee (f := 41) rfl ?_); refine goesL_ (some 7) rfl rfl Tryd.func41 (by kernel_rfl) rfl #[.string a0, .string (⟨#[60]⟩ : ByteArray)] rfl ar_ ?_; (with_reducible refine (PB.strings_HasPrefix.calls a0 (⟨#[60]⟩ : ByteArray) true _ A3.out).mono ?_); rintro e w' ⟨rfl, ⟨nd, rfl⟩⟩; refine ⟨_, rfl, ?_⟩))
   go_meet
   case rel => exact ⟨_, (62), er_, H', ⟨om_⟩, dr_⟩
  replace c4 := Bool.eq_false_iff.mpr c4
  subst c4
  have H1 : ((PB.strings_HasPrefix.f a0 (⟨#[34]⟩ : ByteArray)).bind fun t102 => (if t102 = true then (scan_header.j0 k a0 34) else (some 0))) = some r := by rw [if_neg (show ¬ (false = true) by decide)] at H; exact H
  clear H
  have H := H1
  clear H1
  replace H := Option.bind_eq_some_iff.mp H
  obtain ⟨t102, A50, H⟩ := H
  replace H : (if t102 = true then (scan_header.j0 k a0 34) else (some 0)) = some r := H
  have A5 := Aside0.mk A50
  clear A50
  by_cases c6 : t102 = true
  ·subst c6
   have H1 : (scan_header.j0 k a0 34) = some r := by rw [if_pos rfl] at H; exact H
   clear H
   have H := H1
   clear H1
   have H' := Aside0.mk H
   clear H
   go_wp2_with (first | ((with_reducible refine gate_callee (f := 41) rfl ?_); refine goesL_ (some 7) rfl rfl Tryd.func41 (by kernel_rfl) rfl #[.string a0, .string (⟨#[60]⟩ : ByteArray)] rfl ar_ ?_; (with_reducible refine (PB.strings_HasPrefix.calls a0 (⟨#[60]⟩ : ByteArray) false _ A3.out).mono ?_); rintro e w' ⟨rfl, ⟨nd, rfl⟩⟩; refine ⟨_, rfl, ?_⟩) | ((with_reducible refine gate_callee (f := 41) rfl ?_); refine goesL_ (some 10) rfl rfl Tryd.func41 (by kernel_rfl) rfl #[.string a0, .string (⟨#[34]⟩ : ByteArray)] rfl ar_ ?_; (with_reducible refine (PB.strings_HasPrefix.calls a0 (⟨#[34]⟩ : ByteArray) true _ A5.out).mono ?_); rintro e w' ⟨rfl, ⟨nd, rfl⟩⟩; refine ⟨_, rfl, ?_⟩))
   go_meet
   case rel => exact ⟨_, (34), er_, H', ⟨om_⟩, dr_⟩
  replace c6 := Bool.eq_false_iff.mpr c6
  subst c6
  have H1 : (some 0) = some r := by rw [if_neg (show ¬ (false = true) by decide)] at H; exact H
  clear H
  have H := H1
  clear H1
  obtain rfl := Option.some.inj H
  go_wp2_with (first | ((with_reducible refine gate_callee (f := 41) rfl ?_); refine goesL_ (some 7) rfl rfl Tryd.func41 (by kernel_rfl) rfl #[.string a0, .string (⟨#[60]⟩ : ByteArray)] rfl ar_ ?_; (with_reducible refine (PB.strings_HasPrefix.calls a0 (⟨#[60]⟩ : ByteArray) false _ A3.out).mono ?_); rintro e w' ⟨rfl, ⟨nd, rfl⟩⟩; refine ⟨_, rfl, ?_⟩) | ((with_reducible refine gate_callee (f := 41) rfl ?_); refine goesL_ (some 10) rfl rfl Tryd.func41 (by kernel_rfl) rfl #[.string a0, .string (⟨#[34]⟩ : ByteArray)] rfl ar_ ?_; (with_reducible refine (PB.strings_HasPrefix.calls a0 (⟨#[34]⟩ : ByteArray) false _ A5.out).mono ?_); rintro e w' ⟨rfl, ⟨nd, rfl⟩⟩; refine ⟨_, rfl, ?_⟩))
  go_ret
  exact ⟨er_, dr_⟩
 case rest =>
  clear HC2
  try clear c4
  try clear c6
  obtain ⟨kq, x3_1, rfl, HA, HJ1, ⟨mc1, rfl⟩⟩ := hcut
  cases kq with
  | zero => exact absurd HA.out (by simp [scan_header.j0])
  | succ kj1 =>
   have H := HA.out
   clear HA
   simp only [scan_header.j0] at H
   have H' := Aside0.mk H
   clear H
   go_wp2
   go_loopg [4] kj1 (fun kq v4 w' => ∃ (x4_2 : Int), v4 = .int .i64 x4_2 ∧ Aside0 (scan_header.l0 kq a0 x3_1 x4_2 = some r) ∧ Aside0 (kq ≤ kj1) ∧ Drawn0 w w')
   case atStart => exact ⟨(1), er_, H', ⟨Nat.le_refl _⟩, dr_⟩
   case round =>
    clear H'
    try clear c4
    try clear c6
    obtain ⟨x4_2, rfl, HA, HK2, ⟨m2, rfl⟩⟩ := hrel
    cases gk with
    | zero => exact absurd HA.out (by simp [scan_header.l0])
    | succ k2 =>
     have H := HA.out
     clear HA
     simp only [scan_header.l0] at H
     have HC7 := Aside0.mk H
     clear H
     go_upto_region 7 with (fail)
     go_cut [20] (fun v20 wc => ∃ (kq : Nat) (x20_6 : Bool), v20 = .bool x20_6 ∧ Aside0 (scan_header.j2 kq a0 x3_1 x4_2 x20_6 = some r) ∧ Aside0 (kq ≤ k2) ∧ Drawn0 w wc)
     case first =>
      have H := HC7.out
      clear HC7
      replace H := id_ H
      obtain ⟨-, c8b0, H⟩ | ⟨-, c8b0, H⟩ := H
      ·(first | rw [c8b0] | (simp only [i64_w, i32_w]; rw [c8b0]) | skip)
       replace H := id_ H
       obtain ⟨-, c9b0, H⟩ | ⟨-, -, H⟩ := H
       ·have H' := Aside0.mk H
        clear H
        have p10 : 0 ≤ (x4_2 : Int) := da_
        have q10 : x4_2 < (a0.size : Int) := da_
        have hx10 := bt_at a0 x4_2
        replace p10 := eq_true p10
        replace q10 := eq_true q10
        go_wp2
        go_meet
        case rel => exact ⟨_, (((bt a0 x4_2) != 10)), er_, H', ⟨by have := HJ1.out; have := HK2.out; first | omega | exact Nat.le_refl _⟩, dr_⟩
       exact absurd H (by simp)
      (first | rw [c8b0] | (simp only [i64_w, i32_w]; rw [c8b0]) | skip)
      have H' := Aside0.mk H
      clear H
      go_wp2
      go_meet
      case rel => exact ⟨_, (false), er_, H', ⟨by have := HJ1.out; have := HK2.out; first | omega | exact Nat.le_refl _⟩, dr_⟩
     case rest =>
      clear HC7
      try clear c4
      try clear c6
      try clear c8b0
      try clear c9b0
      try clear p10
      try clear q10
      try clear hx10
      try clear p10
      try clear q10
      obtain ⟨kq, x20_6, rfl, HA, HJ6, ⟨mc6, rfl⟩⟩ := hcut
      cases kq with
      | zero => exact absurd HA.out (by simp [scan_header.j2])
      | succ kj6 =>
       have H := HA.out
       clear HA
       simp only [scan_header.j2] at H
       by_cases c11 : x20_6 = true
       ·subst c11
        have H1 : (if 0 ≤ x4_2 then (if x4_2 < (a0.size : Int) then (if (bt a0 x4_2) = x3_1 then (some (wrap64 (x4_2 + 1))) else (scan_header.l0 kj6 a0 x3_1 (wrap64 (x4_2 + 1)))) else (none)) else (none)) = some r := by rw [if_pos rfl] at H; exact H
        clear H
        have H := H1
        clear H1
        replace H := id_ H
        obtain ⟨-, c12b0, H⟩ | ⟨-, -, H⟩ := H
        ·replace H := id_ H
         obtain ⟨-, c13b0, H⟩ | ⟨-, -, H⟩ := H
         ·replace H := ie_ H
          obtain ⟨c15b0, c15b1, H⟩ | ⟨c15b0, c15b1, c15, H⟩ := H
          ·obtain rfl := Option.some.inj H
           have p14 : 0 ≤ (x4_2 : Int) := da_
           have q14 : x4_2 < (a0.size : Int) := da_
           have hx14 := bt_at a0 x4_2
           replace p14 := eq_true p14
           replace q14 := eq_true q14
           go_wp2
           go_ret
           exact ⟨er_, dr_⟩
          have H' := Aside0.mk H
          clear H
          have p14 : 0 ≤ (x4_2 : Int) := da_
          have q14 : x4_2 < (a0.size : Int) := da_
          have hx14 := bt_at a0 x4_2
          replace p14 := eq_true p14
          replace q14 := eq_true q14
          go_wp2
          go_roundg kj6
          case measure => have := HJ1.out; have := HK2.out; have := HJ6.out; omega
          case rel => exact ⟨(wrap64 (x4_2 + 1)), er_, H', ⟨by have := HJ1.out; have := HK2.out; have := HJ6.out; omega⟩, dr_⟩
         exact absurd H (by simp)
        exact absurd H (by simp)
       replace c11 := Bool.eq_false_iff.mpr c11
       subst c11
       have H1 : (some 0) = some r := by rw [if_neg (show ¬ (false = true) by decide)] at H; exact H
       clear H
       have H := H1
       clear H1
       obtain rfl := Option.some.inj H
       go_wp2
       go_ret
       exact ⟨er_, dr_⟩
def scan_comment.f (a0 : ByteArray) : Option (Int) := (PB.strings_HasPrefix.f a0 (⟨#[47, 47]⟩ : ByteArray)).bind fun t103 => (if t103 = true then ((LibG.strings_IndexByte.f a0 10).bind fun t104 => (if t104 ≥ 0 then (some t104) else (some (a0.size : Int)))) else ((PB.strings_HasPrefix.f a0 (⟨#[47, 42]⟩ : ByteArray)).bind fun t105 => (if t105 = true then (if 2 ≤ (a0.size : Int) then ((LibG.strings_Index.f (a0.extract 2 a0.size) (⟨#[42, 47]⟩ : ByteArray)).bind fun t106 => (if t106 < 0 then (some (-1)) else (some (wrap64 (t106 + 4))))) else (none)) else (some 0))))
theorem scan_comment.calls (a0 : ByteArray) (r : Int) (w : World) (hsh : SH w) (h : scan_comment.f a0 = some r) :
  Calls Tryd.prog 73 #[.string a0] w fun e w' => e = .returned (.int .i64 r) ∧ Drawn0 w w' := by
 have HSH := Aside0.mk hsh
 clear hsh
 have H : ((PB.strings_HasPrefix.f a0 (⟨#[47, 47]⟩ : ByteArray)).bind fun t103 => (if t103 = true then ((LibG.strings_IndexByte.f a0 10).bind fun t104 => (if t104 ≥ 0 then (some t104) else (some (a0.size : Int)))) else ((PB.strings_HasPrefix.f a0 (⟨#[47, 42]⟩ : ByteArray)).bind fun t105 => (if t105 = true then (if 2 ≤ (a0.size : Int) then ((LibG.strings_Index.f (a0.extract 2 a0.size) (⟨#[42, 47]⟩ : ByteArray)).bind fun t106 => (if t106 < 0 then (some (-1)) else (some (wrap64 (t106 + 4))))) else (none)) else (some 0))))) = some r := h
 clear h
 replace H := Option.bind_eq_some_iff.mp H
 obtain ⟨t103, A20, H⟩ := H
 replace H : (if t103 = true then ((LibG.strings_IndexByte.f a0 10).bind fun t104 => (if t104 ≥ 0 then (some t104) else (some (a0.size : Int)))) else ((PB.strings_HasPrefix.f a0 (⟨#[47, 42]⟩ : ByteArray)).bind fun t105 => (if t105 = true then (if 2 ≤ (a0.size : Int) then ((LibG.strings_Index.f (a0.extract 2 a0.size) (⟨#[42, 47]⟩ : ByteArray)).bind fun t106 => (if t106 < 0 then (some (-1)) else (some (wrap64 (t106 + 4))))) else (none)) else (some 0)))) = some r := H
 have A2 := Aside0.mk A20
 clear A20
 by_cases c3 : t103 = true
 ·subst c3
  have H1 : ((LibG.strings_IndexByte.f a0 10).bind fun t104 => (if t104 ≥ 0 then (some t104) else (some (a0.size : Int)))) = some r := by rw [if_pos rfl] at H; exact H
  clear H
  have H := H1
  clear H1
  replace H := Option.bind_eq_some_iff.mp H
  obtain ⟨t104, A40, H⟩ := H
  replace H : (if t104 ≥ 0 then (some t104) else (some (a0.size : Int))) = some r := H
  have A4 := Aside0.mk A40
  clear A40
  replace H := ib_ H
  obtain ⟨c5, H⟩ | ⟨c5, H⟩ := H
  ·have c5b0 : decide (0 ≤ t104) = true := decide_eq_true c5
   clear c5
   obtain rfl := Option.some.inj H
   go_enter Tryd.func73, Tryd.ntmps73
   go_wp2_with (first | ((with_reducible refine gate_callee (f := 41) rfl ?_); refine goesL_ (some 7) rfl rfl Tryd.func41 (by kernel_rfl) rfl #[.string a0, .string (⟨#[47, 47]⟩ : ByteArray)] rfl ar_ ?_; (with_reducible refine (PB.strings_HasPrefix.calls a0 (⟨#[47, 47]⟩ : ByteArray) true _ A2.out).mono ?_); rintro e w' ⟨rfl, ⟨nd, rfl⟩⟩; refine ⟨_, rfl, ?_⟩) | ((with_reducible refine gate_callee (f := 53) rfl ?_); refine goesL_ (some 9) rfl rfl Tryd.func53 (by kernel_rfl) rfl #[.string a0, .int .u8 10] rfl ar_ ?_; (with_reducible refine (LibG.strings_IndexByte.calls a0 10 t104 _ A4.out).mono ?_); rintro e w' ⟨rfl, ⟨nd, rfl⟩⟩; refine ⟨_, rfl, ?_⟩))
   go_ret
   exact ⟨er_, dr_⟩
  have c5b0 : decide (0 ≤ t104) = false := decide_eq_false c5
  clear c5
  obtain rfl := Option.some.inj H
  go_enter Tryd.func73, Tryd.ntmps73
  go_wp2_with (first | ((with_reducible refine gate_callee (f := 41) rfl ?_); refine goesL_ (some 7) rfl rfl Tryd.func41 (by kernel_rfl) rfl #[.string a0, .string (⟨#[47, 47]⟩ : ByteArray)] rfl ar_ ?_; (with_reducible refine (PB.strings_HasPrefix.calls a0 (⟨#[47, 47]⟩ : ByteArray) true _ A2.out).mono ?_); rintro e w' ⟨rfl, ⟨nd, rfl⟩⟩; refine ⟨_, rfl, ?_⟩) | ((with_reducible refine gate_callee (f := 53) rfl ?_); refine goesL_ (some 9) rfl rfl Tryd.func53 (by kernel_rfl) rfl #[.string a0, .int .u8 10] rfl ar_ ?_; (with_reducible refine (LibG.strings_IndexByte.calls a0 10 t104 _ A4.out).mono ?_); rintro e w' ⟨rfl, ⟨nd, rfl⟩⟩; refine ⟨_, rfl, ?_⟩))
  go_ret
  exact ⟨er_, dr_⟩
 replace c3 := Bool.eq_false_iff.mpr c3
 subst c3
 have H1 : ((PB.strings_HasPrefix.f a0 (⟨#[47, 42]⟩ : ByteArray)).bind fun t105 => (if t105 = true then (if 2 ≤ (a0.size : Int) then ((LibG.strings_Index.f (a0.extract 2 a0.size) (⟨#[42, 47]⟩ : ByteArray)).bind fun t106 => (if t106 < 0 then (some (-1)) else (some (wrap64 (t106 + 4))))) else (none)) else (some 0))) = some r := by rw [if_neg (show ¬ (false = true) by decide)] at H; exact H
 clear H
 have H := H1
 clear H1
 replace H := Option.bind_eq_some_iff.mp H
 obtain ⟨t105, A60, H⟩ := H
 replace H : (if t105 = true then (if 2 ≤ (a0.size : Int) then ((LibG.strings_Index.f (a0.extract 2 a0.size) (⟨#[42, 47]⟩ : ByteArray)).bind fun t106 => (if t106 < 0 then (some (-1)) else (some (wrap64 (t106 + 4))))) else (none)) else (some 0)) = some r := H
 have A6 := Aside0.mk A60
 clear A60
 by_cases c7 : t105 = true
 ·subst c7
  have H1 : (if 2 ≤ (a0.size : Int) then ((LibG.strings_Index.f (a0.extract 2 a0.size) (⟨#[42, 47]⟩ : ByteArray)).bind fun t106 => (if t106 < 0 then (some (-1)) else (some (wrap64 (t106 + 4))))) else (none)) = some r := by rw [if_pos rfl] at H; exact H
  clear H
  have H := H1
  clear H1
  replace H := id_ H
  obtain ⟨c8b0, c8b1, H⟩ | ⟨-, -, H⟩ := H
  ·replace H := Option.bind_eq_some_iff.mp H
   obtain ⟨t106, A90, H⟩ := H
   replace H : (if t106 < 0 then (some (-1)) else (some (wrap64 (t106 + 4)))) = some r := H
   have A9 := Aside0.mk A90
   clear A90
   replace H := id_ H
   obtain ⟨-, c10b0, H⟩ | ⟨-, c10b0, H⟩ := H
   ·obtain rfl := Option.some.inj H
    go_enter Tryd.func73, Tryd.ntmps73
    go_wp2_with (first | ((with_reducible refine gate_callee (f := 41) rfl ?_); refine goesL_ (some 7) rfl rfl Tryd.func41 (by kernel_rfl) rfl #[.string a0, .string (⟨#[47, 47]⟩ : ByteArray)] rfl ar_ ?_; (with_reducible refine (PB.strings_HasPrefix.calls a0 (⟨#[47, 47]⟩ : ByteArray) false _ A2.out).mono ?_); rintro e w' ⟨rfl, ⟨nd, rfl⟩⟩; refine ⟨_, rfl, ?_⟩) | ((with_reducible refine gate_callee (f := 41) rfl ?_); refine goesL_ (some 17) rfl rfl Tryd.func41 (by kernel_rfl) rfl #[.string a0, .string (⟨#[47, 42]⟩ : ByteArray)] rfl ar_ ?_; (with_reducible refine (PB.strings_HasPrefix.calls a0 (⟨#[47, 42]⟩ : ByteArray) true _ A6.out).mono ?_); rintro e w' ⟨rfl, ⟨nd, rfl⟩⟩; refine ⟨_, rfl, ?_⟩) | ((with_reducible refine gate_callee (f := 66) rfl ?_); refine goesL_ (some 20) rfl rfl Tryd.func66 (by kernel_rfl) rfl #[.string (a0.extract 2 a0.size), .string (⟨#[42, 47]⟩ : ByteArray)] rfl ar_ ?_; (with_reducible refine (LibG.strings_Index.calls (a0.extract 2 a0.size) (⟨#[42, 47]⟩ : ByteArray) t106 _ ?side1 A9.out).mono ?_); (case side1 => repeat (first | exact HSH.out | (with_reducible refine SH.drewN ?_ _) | (with_reducible refine SH.drew ?_) | (with_reducible refine SH.alloc ?_ _))); rintro e w' ⟨rfl, ⟨nd, rfl⟩⟩; refine ⟨_, rfl, ?_⟩))
    go_ret
    exact ⟨er_, dr_⟩
   obtain rfl := Option.some.inj H
   go_enter Tryd.func73, Tryd.ntmps73
   go_wp2_with (first | ((with_reducible refine gate_callee (f := 41) rfl ?_); refine goesL_ (some 7) rfl rfl Tryd.func41 (by kernel_rfl) rfl #[.string a0, .string (⟨#[47, 47]⟩ : ByteArray)] rfl ar_ ?_; (with_reducible refine (PB.strings_HasPrefix.calls a0 (⟨#[47, 47]⟩ : ByteArray) false _ A2.out).mono ?_); rintro e w' ⟨rfl, ⟨nd, rfl⟩⟩; refine ⟨_, rfl, ?_⟩) | ((with_reducible refine gate_callee (f := 41) rfl ?_); refine goesL_ (some 17) rfl rfl Tryd.func41 (by kernel_rfl) rfl #[.string a0, .string (⟨#[47, 42]⟩ : ByteArray)] rfl ar_ ?_; (with_reducible refine (PB.strings_HasPrefix.calls a0 (⟨#[47, 42]⟩ : ByteArray) true _ A6.out).mono ?_); rintro e w' ⟨rfl, ⟨nd, rfl⟩⟩; refine ⟨_, rfl, ?_⟩) | ((with_reducible refine gate_callee (f := 66) rfl ?_); refine goesL_ (some 20) rfl rfl Tryd.func66 (by kernel_rfl) rfl #[.string (a0.extract 2 a0.size), .string (⟨#[42, 47]⟩ : ByteArray)] rfl ar_ ?_; (with_reducible refine (LibG.strings_Index.calls (a0.extract 2 a0.size) (⟨#[42, 47]⟩ : ByteArray) t106 _ ?side1 A9.out).mono ?_); (case side1 => repeat (first | exact HSH.out | (with_reducible refine SH.drewN ?_ _) | (with_reducible refine SH.drew ?_) | (with_reducible refine SH.alloc ?_ _))); rintro e w' ⟨rfl, ⟨nd, rfl⟩⟩; refine ⟨_, rfl, ?_⟩))
   go_ret
   exact ⟨er_, dr_⟩
  exact absurd H (by simp)
 replace c7 := Bool.eq_false_iff.mpr c7
 subst c7
 have H1 : (some 0) = some r := by rw [if_neg (show ¬ (false = true) by decide)] at H; exact H
 clear H
 have H := H1
 clear H1
 obtain rfl := Option.some.inj H
 go_enter Tryd.func73, Tryd.ntmps73
 go_wp2_with (first | ((with_reducible refine gate_callee (f := 41) rfl ?_); refine goesL_ (some 7) rfl rfl Tryd.func41 (by kernel_rfl) rfl #[.string a0, .string (⟨#[47, 47]⟩ : ByteArray)] rfl ar_ ?_; (with_reducible refine (PB.strings_HasPrefix.calls a0 (⟨#[47, 47]⟩ : ByteArray) false _ A2.out).mono ?_); rintro e w' ⟨rfl, ⟨nd, rfl⟩⟩; refine ⟨_, rfl, ?_⟩) | ((with_reducible refine gate_callee (f := 41) rfl ?_); refine goesL_ (some 17) rfl rfl Tryd.func41 (by kernel_rfl) rfl #[.string a0, .string (⟨#[47, 42]⟩ : ByteArray)] rfl ar_ ?_; (with_reducible refine (PB.strings_HasPrefix.calls a0 (⟨#[47, 42]⟩ : ByteArray) false _ A6.out).mono ?_); rintro e w' ⟨rfl, ⟨nd, rfl⟩⟩; refine ⟨_, rfl, ?_⟩))
 go_ret
 exact ⟨er_, dr_⟩
mutual
def scan_literal.j0 : Nat → ByteArray → Int → Bool → Option (Int)
 | 0, _, _, _ => none
 | k + 1, x0, x1, x13 => if x13 = true then (some 0) else (scan_literal.l0 k x0 x1 1)
def scan_literal.l0 : Nat → ByteArray → Int → Int → Option (Int)
 | 0, _, _, _ => none
 | k + 1, x0, x1, x5 => if x5 < (x0.size : Int) then (if 0 ≤ x5 then (if (bt x0 x5) = x1 then (if x1 = 39 then (if x5 = 1 then (some 0) else (some (wrap64 (x5 + 1)))) else (some (wrap64 (x5 + 1)))) else (if (bt x0 x5) = 10 then (some 0) else (if (bt x0 x5) = 92 then (if (wrap64 (x5 + 1)) < (x0.size : Int) then (if 0 ≤ (wrap64 (x5 + 1)) then (if (bt x0 (wrap64 (x5 + 1))) = 10 then (some 0) else (scan_literal.l0 k x0 x1 (wrap64 ((wrap64 (x5 + 1)) + 1)))) else (none)) else (scan_literal.l0 k x0 x1 (wrap64 ((wrap64 (x5 + 1)) + 1)))) else (scan_literal.l0 k x0 x1 (wrap64 (x5 + 1)))))) else (none)) else (some 0)
end
def scan_literal.f (k : Nat) (a0 : ByteArray) (a1 : Int) : Option (Int) := if a0.toList = ([] : List UInt8) then (scan_literal.j0 k a0 a1 true) else (if 0 < (a0.size : Int) then (scan_literal.j0 k a0 a1 ((bt a0 0) != a1)) else (none))
theorem scan_literal.mono_l : ∀ k, (∀ y0 y1 y2, LeO (scan_literal.j0 k y0 y1 y2) (scan_literal.j0 (k + 1) y0 y1 y2)) ∧ (∀ y0 y1 y2, LeO (scan_literal.l0 k y0 y1 y2) (scan_literal.l0 (k + 1) y0 y1 y2))
 | 0 => ⟨fun _ _ _ r h => by simp [scan_literal.j0] at h, fun _ _ _ r h => by simp [scan_literal.l0] at h⟩
 | k + 1 => by
  obtain ⟨ih0, ih1⟩ := scan_literal.mono_l k
  refine ⟨?_, ?_⟩
  ·intro y0 y1 y2
   unfold scan_literal.j0
   repeat' first
   | (with_reducible exact ih0 _ _ _)
   | (with_reducible exact ih1 _ _ _)
   | (with_reducible exact LeO.refl _)
   | (with_reducible exact LeO.none _)
   | (with_reducible refine LeO.ite ?_ ?_)
   | (with_reducible refine LeO.bind ?_ (fun _ => ?_))
  intro y0 y1 y2
  unfold scan_literal.l0
  repeat' first
  | (with_reducible exact ih0 _ _ _)
  | (with_reducible exact ih1 _ _ _)
  | (with_reducible exact LeO.refl _)
  | (with_reducible exact LeO.none _)
  | (with_reducible refine LeO.ite ?_ ?_)
  | (with_reducible refine LeO.bind ?_ (fun _ => ?_))
theorem scan_literal.mono : ∀ a0 a1 k, LeO (scan_literal.f k a0 a1) (scan_literal.f (k + 1) a0 a1) := by
 intro a0 a1 k
 obtain ⟨ih0, ih1⟩ := scan_literal.mono_l k
 unfold scan_literal.f
 repeat' first
   | (with_reducible exact ih0 _ _ _)
   | (with_reducible exact ih1 _ _ _)
   | (with_reducible exact LeO.refl _)
   | (with_reducible exact LeO.none _)
   | (with_reducible refine LeO.ite ?_ ?_)
   | (with_reducible refine LeO.bind ?_ (fun _ => ?_))
theorem scan_literal.calls (k : Nat) (a0 : ByteArray) (a1 : Int) (r : Int) (w : World) (h : scan_literal.f k a0 a1 = some r) :
  Calls Tryd.prog 90 #[.string a0, .int .u8 a1] w fun e w' => e = .returned (.int .i64 r) ∧ Drawn0 w w' := by
 have H : (if a0.toList = ([] : List UInt8) then (scan_literal.j0 k a0 a1 true) else (if 0 < (a0.size : Int) then (scan_literal.j0 k a0 a1 ((bt a0 0) != a1)) else (none))) = some r := h
 clear h
 have HC3 := Aside0.mk H
 clear H
 go_enter Tryd.func90, Tryd.ntmps90
 go_upto_region 1 with (fail)
 go_cut [13] (fun v13 wc => ∃ (kq : Nat) (x13_2 : Bool), v13 = .bool x13_2 ∧ Aside0 (scan_literal.j0 kq a0 a1 x13_2 = some r) ∧ Aside0 (kq ≤ k) ∧ Drawn0 w wc)
 case first =>
  have H := HC3.out
  clear HC3
  replace H := ie_ H
  obtain ⟨c4b0, c4b1, H⟩ | ⟨c4b0, c4b1, c4, H⟩ := H
  ·(first | rw [c4b0] | (simp only [i64_w, i32_w]; rw [c4b0]) | skip)
   have H' := Aside0.mk H
   clear H
   go_wp2
   go_meet
   case rel => exact ⟨_, (true), er_, H', ⟨om_⟩, dr_⟩
  (first | rw [c4b0] | (simp only [i64_w, i32_w]; rw [c4b0]) | skip)
  replace H := ib_ H
  obtain ⟨c5, H⟩ | ⟨c5, H⟩ := H
  ·have c5b0 := decide_eq_true c5
   have c5b1 : decide (0 < a0.size) = true := decide_eq_true (by omega)
   clear c5
   have H' := Aside0.mk H
   clear H
   have p6 : 0 ≤ (0 : Int) := (by omega)
   have q6 : 0 < a0.size := (by have : (0 : Int) < (a0.size : Int) := da_; omega)
   have hx6 : ∀ h : 0 < a0.size, ((a0[0]'h).toNat : Int) = bt a0 0 := bt_at a0 0
   clear p6
   have qi6 : (0 < (a0.size : Int)) = True := eq_true da_
   replace q6 := eq_true q6
   go_wp2
   go_meet
   case rel => exact ⟨_, (((bt a0 0) != a1)), er_, H', ⟨om_⟩, dr_⟩
  exact absurd H (by simp)
 case rest =>
  clear HC3
  try clear c4
  try clear c4b0
  try clear c4b1
  try clear c5
  try clear c5b0
  try clear c5b1
  try clear p6
  try clear q6
  try clear hx6
  try clear qi6
  try clear p6
  try clear q6
  obtain ⟨kq, x13_2, rfl, HA, HJ2, ⟨mc2, rfl⟩⟩ := hcut
  cases kq with
  | zero => exact absurd HA.out (by simp [scan_literal.j0])
  | succ kj2 =>
   have H := HA.out
   clear HA
   simp only [scan_literal.j0] at H
   by_cases c7 : x13_2 = true
   ·subst c7
    have H1 : (some 0) = some r := by rw [if_pos rfl] at H; exact H
    clear H
    have H := H1
    clear H1
    obtain rfl := Option.some.inj H
    go_wp2
    go_ret
    exact ⟨er_, dr_⟩
   replace c7 := Bool.eq_false_iff.mpr c7
   subst c7
   have H1 : (scan_literal.l0 kj2 a0 a1 1) = some r := by rw [if_neg (show ¬ (false = true) by decide)] at H; exact H
   clear H
   have H := H1
   clear H1
   have H' := Aside0.mk H
   clear H
   go_wp2
   go_loopg [5] kj2 (fun kq v5 w' => ∃ (x5_2 : Int), v5 = .int .i64 x5_2 ∧ Aside0 (scan_literal.l0 kq a0 a1 x5_2 = some r) ∧ Aside0 (kq ≤ kj2) ∧ Drawn0 w w')
   case atStart => exact ⟨(1), er_, H', ⟨Nat.le_refl _⟩, dr_⟩
   case round =>
    clear H'
    try clear c4
    try clear c4b0
    try clear c4b1
    try clear c5
    try clear c5b0
    try clear c5b1
    try clear p6
    try clear q6
    try clear hx6
    try clear qi6
    try clear c7
    try clear p6
    try clear q6
    obtain ⟨x5_2, rfl, HA, HK2, ⟨m2, rfl⟩⟩ := hrel
    cases gk with
    | zero => exact absurd HA.out (by simp [scan_literal.l0])
    | succ k2 =>
     have H := HA.out
     clear HA
     simp only [scan_literal.l0] at H
     replace H := id_ H
     obtain ⟨-, c8b0, H⟩ | ⟨-, c8b0, H⟩ := H
     ·replace H := id_ H
      obtain ⟨-, c9b0, H⟩ | ⟨-, -, H⟩ := H
      ·replace H := ie_ H
       obtain ⟨c11b0, c11b1, H⟩ | ⟨c11b0, c11b1, c11, H⟩ := H
       ·replace H := ie_ H
        obtain ⟨c12b0, c12b1, H⟩ | ⟨c12b0, c12b1, c12, H⟩ := H
        ·replace H := ie_ H
         obtain ⟨c13b0, c13b1, H⟩ | ⟨c13b0, c13b1, c13, H⟩ := H
         ·obtain rfl := Option.some.inj H
          have p10 : 0 ≤ (x5_2 : Int) := da_
          have q10 : x5_2 < (a0.size : Int) := da_
          have hx10 := bt_at a0 x5_2
          replace p10 := eq_true p10
          replace q10 := eq_true q10
          go_wp2
          go_ret
          exact ⟨er_, dr_⟩
         obtain rfl := Option.some.inj H
         have p10 : 0 ≤ (x5_2 : Int) := da_
         have q10 : x5_2 < (a0.size : Int) := da_
         have hx10 := bt_at a0 x5_2
         replace p10 := eq_true p10
         replace q10 := eq_true q10
         go_wp2
         go_ret
         exact ⟨er_, dr_⟩
        obtain rfl := Option.some.inj H
        have p10 : 0 ≤ (x5_2 : Int) := da_
        have q10 : x5_2 < (a0.size : Int) := da_
        have hx10 := bt_at a0 x5_2
        replace p10 := eq_true p10
        replace q10 := eq_true q10
        go_wp2
        go_ret
        exact ⟨er_, dr_⟩
       replace H := ie_ H
       obtain ⟨c14b0, c14b1, H⟩ | ⟨c14b0, c14b1, c14, H⟩ := H
       ·obtain rfl := Option.some.inj H
        have p10 : 0 ≤ (x5_2 : Int) := da_
        have q10 : x5_2 < (a0.size : Int) := da_
        have hx10 := bt_at a0 x5_2
        replace p10 := eq_true p10
        replace q10 := eq_true q10
        go_wp2
        go_ret
        exact ⟨er_, dr_⟩
       replace H := ie_ H
       obtain ⟨c15b0, c15b1, H⟩ | ⟨c15b0, c15b1, c15, H⟩ := H
       ·replace H := id_ H
        obtain ⟨-, c16b0, H⟩ | ⟨-, c16b0, H⟩ := H
        ·obtain ⟨ji17, hji17⟩ : ∃ j_ : Int, (wrap64 (x5_2 + 1)) = j_ := ⟨_, rfl⟩
         replace H : (if 0 ≤ (ji17) then (if (bt a0 (ji17)) = 10 then (some 0) else (scan_literal.l0 k2 a0 a1 (wrap64 ((ji17) + 1)))) else (none)) = some r := by first | (rw [hji17] at H; exact H) | (simp only [hji17] at H ⊢; exact H)
         (try rw [hji17] at c16b0)
         have hji17w : (IntKind.i64.wrap (x5_2 + 1)) = ji17 := (i64_w _).trans hji17
         replace H := id_ H
         obtain ⟨-, c18b0, H⟩ | ⟨-, -, H⟩ := H
         ·replace H := ie_ H
          obtain ⟨c20b0, c20b1, H⟩ | ⟨c20b0, c20b1, c20, H⟩ := H
          ·obtain rfl := Option.some.inj H
           have p10 : 0 ≤ (x5_2 : Int) := da_
           have q10 : x5_2 < (a0.size : Int) := da_
           have hx10 := bt_at a0 x5_2
           replace p10 := eq_true p10
           replace q10 := eq_true q10
           have p19 : 0 ≤ ((ji17) : Int) := da_
           have q19 : (ji17) < (a0.size : Int) := da_
           have hx19 := bt_at a0 (ji17)
           replace p19 := eq_true p19
           replace q19 := eq_true q19
           go_wp2
           go_ret
           exact ⟨by first | rfl | (simp; done) | (simp only [← hji17] <;> (first | rfl | simp)) | (simp [*]; done), dr_⟩
          have H' := Aside0.mk H
          clear H
          have p10 : 0 ≤ (x5_2 : Int) := da_
          have q10 : x5_2 < (a0.size : Int) := da_
          have hx10 := bt_at a0 x5_2
          replace p10 := eq_true p10
          replace q10 := eq_true q10
          have p19 : 0 ≤ ((ji17) : Int) := da_
          have q19 : (ji17) < (a0.size : Int) := da_
          have hx19 := bt_at a0 (ji17)
          replace p19 := eq_true p19
          replace q19 := eq_true q19
          go_wp2
          go_roundg k2
          case measure => have := HJ2.out; have := HK2.out; omega
          case rel => exact ⟨(wrap64 ((ji17) + 1)), (by first | rfl | (simp; done) | (simp only [← hji17] <;> (first | rfl | simp)) | (simp [*]; done)), H', ⟨by have := HJ2.out; have := HK2.out; omega⟩, dr_⟩
         exact absurd H (by simp)
        have H' := Aside0.mk H
        clear H
        have p10 : 0 ≤ (x5_2 : Int) := da_
        have q10 : x5_2 < (a0.size : Int) := da_
        have hx10 := bt_at a0 x5_2
        replace p10 := eq_true p10
        replace q10 := eq_true q10
        go_wp2
        go_roundg k2
        case measure => have := HJ2.out; have := HK2.out; omega
        case rel => exact ⟨(wrap64 ((wrap64 (x5_2 + 1)) + 1)), er_, H', ⟨by have := HJ2.out; have := HK2.out; omega⟩, dr_⟩
       have H' := Aside0.mk H
       clear H
       have p10 : 0 ≤ (x5_2 : Int) := da_
       have q10 : x5_2 < (a0.size : Int) := da_
       have hx10 := bt_at a0 x5_2
       replace p10 := eq_true p10
       replace q10 := eq_true q10
       go_wp2
       go_roundg k2
       case measure => have := HJ2.out; have := HK2.out; omega
       case rel => exact ⟨(wrap64 (x5_2 + 1)), er_, H', ⟨by have := HJ2.out; have := HK2.out; omega⟩, dr_⟩
      exact absurd H (by simp)
     obtain rfl := Option.some.inj H
     go_wp2
     go_ret
     exact ⟨er_, dr_⟩
def scan_quoted.l0 : Nat → ByteArray → List ByteArray → Int → Int → Option (Int × Int)
 | 0, _, _, _, _ => none
 | k + 1, x0, x8, x9, x10 => if x10 < x9 then (if 0 ≤ x10 then (if x10 < (x8.length : Int) then ((PB.strings_HasPrefix.f x0 (rdOf ByteArray.empty x8 x10)).bind fun t111 => (if t111 = true then (if 0 ≤ ((rdOf ByteArray.empty x8 x10).size : Int) then (if ((rdOf ByteArray.empty x8 x10).size : Int) ≤ (x0.size : Int) then ((scan_literal.f k (x0.extract (((rdOf ByteArray.empty x8 x10).size : Int) : Int).toNat x0.size) 34).bind fun t112 => (if t112 > 0 then (some (4, wrap64 (((rdOf ByteArray.empty x8 x10).size : Int) + t112))) else ((scan_literal.f k (x0.extract (((rdOf ByteArray.empty x8 x10).size : Int) : Int).toNat x0.size) 39).bind fun t113 => (if t113 > 0 then (if (rdOf ByteArray.empty x8 x10).toList = ([117, 56] : List UInt8) then (scan_quoted.l0 k x0 x8 x9 (wrap64 (x10 + 1))) else (some (3, wrap64 (((rdOf ByteArray.empty x8 x10).size : Int) + t113)))) else (scan_quoted.l0 k x0 x8 x9 (wrap64 (x10 + 1))))))) else (none)) else (none)) else (scan_quoted.l0 k x0 x8 x9 (wrap64 (x10 + 1))))) else (none)) else (none)) else (some (0, 0))
def scan_quoted.f (k : Nat) (a0 : ByteArray) : Option (Int × Int) := (some (([(⟨#[117, 56]⟩ : ByteArray), (⟨#[117]⟩ : ByteArray), (⟨#[85]⟩ : ByteArray), (⟨#[76]⟩ : ByteArray), (⟨#[]⟩ : ByteArray)] : List ByteArray) : List ByteArray)).bind fun y107 => (scan_quoted.l0 k a0 y107 (y107.length : Int) 0)
theorem scan_quoted.mono_l : ∀ k, (∀ y0 y1 y2 y3, LeO (scan_quoted.l0 k y0 y1 y2 y3) (scan_quoted.l0 (k + 1) y0 y1 y2 y3))
 | 0 => fun _ _ _ _ r h => by simp [scan_quoted.l0] at h
 | k + 1 => by
  have ih0 := scan_quoted.mono_l k
  intro y0 y1 y2 y3
  unfold scan_quoted.l0
  repeat' first
  | (with_reducible exact ih0 _ _ _ _)
  | (with_reducible exact scan_literal.mono _ _ _)
  | (with_reducible exact LeO.refl _)
  | (with_reducible exact LeO.none _)
  | (with_reducible refine LeO.ite ?_ ?_)
  | (with_reducible refine LeO.bind ?_ (fun _ => ?_))
theorem scan_quoted.mono : ∀ a0 k, LeO (scan_quoted.f k a0) (scan_quoted.f (k + 1) a0) := by
 intro a0 k
 have ih0 := scan_quoted.mono_l k
 unfold scan_quoted.f
 repeat' first
   | (with_reducible exact ih0 _ _ _ _)
   | (with_reducible exact scan_literal.mono _ _ _)
   | (with_reducible exact LeO.refl _)
   | (with_reducible exact LeO.none _)
   | (with_reducible refine LeO.ite ?_ ?_)
   | (with_reducible refine LeO.bind ?_ (fun _ => ?_))
theorem scan_quoted.calls (k : Nat) (a0 : ByteArray) (r1 : Int) (r2 : Int) (w : World) (h : scan_quoted.f k a0 = some (r1, r2)) :
  Calls Tryd.prog 74 #[.string a0] w fun e w' => e = .returned (.tuple #[.int .i64 r1, .int .i64 r2]) ∧ Below w.heap.size w w' := by
 have HB := Aside0.mk (Below.refl w.heap.size w)
 have H : ((some (([(⟨#[117, 56]⟩ : ByteArray), (⟨#[117]⟩ : ByteArray), (⟨#[85]⟩ : ByteArray), (⟨#[76]⟩ : ByteArray), (⟨#[]⟩ : ByteArray)] : List ByteArray) : List ByteArray)).bind fun y107 => (scan_quoted.l0 k a0 y107 (y107.length : Int) 0)) = some (r1, r2) := h
 clear h
 obtain ⟨y107, hy107⟩ : ∃ y_ : List ByteArray, y_ = (([(⟨#[117, 56]⟩ : ByteArray), (⟨#[117]⟩ : ByteArray), (⟨#[85]⟩ : ByteArray), (⟨#[76]⟩ : ByteArray), (⟨#[]⟩ : ByteArray)] : List ByteArray)) := ⟨_, rfl⟩
 replace H : (scan_quoted.l0 k a0 y107 (y107.length : Int) 0) = some (r1, r2) := by first | (rw [hy107]; with_reducible exact H) | (have H2_ := (Option.bind_some _ _).symm.trans H; rw [hy107]; with_reducible exact H2_) | (have H2_ := (Option.bind_some _ _).symm.trans H; with_reducible exact H2_) | with_reducible exact H | (rw [hy107]; exact H) | exact H
 have Ny107 := Aside0.mk hy107
 clear hy107
 have H' := Aside0.mk H
 clear H
 go_enter Tryd.func74, Tryd.ntmps74
 go_wp2_with (first | ((with_reducible refine gate_dst (N := 8) rfl ?_); refine Kd.R_lit Kd.string _ 9 ?hg (N := 8) ?hd (xs := ([(⟨#[117, 56]⟩ : ByteArray), (⟨#[117]⟩ : ByteArray), (⟨#[85]⟩ : ByteArray), (⟨#[76]⟩ : ByteArray), (⟨#[]⟩ : ByteArray)] : List ByteArray)) (inner := [.string (⟨#[117, 56]⟩ : ByteArray), .string (⟨#[117]⟩ : ByteArray), .string (⟨#[85]⟩ : ByteArray), .string (⟨#[76]⟩ : ByteArray), .string (⟨#[]⟩ : ByteArray)]) (ok := fun _ => True) (okp := fun _ => True) ?hr ?hp (fun _ hk => hk) trivial (Below.refl _ _) (Nat.le_refl _) (by simp) ?_; (case hd => rfl); (case hg => rfl); (case hr => first | (go_simp; done) | (go_simp; rfl)); (case hp => exact (Reps.one (show Kd.M Kd.string _ _ _ (⟨#[117, 56]⟩ : ByteArray) [.string (⟨#[117, 56]⟩ : ByteArray)] from rfl) (Reps.one (show Kd.M Kd.string _ _ _ (⟨#[117]⟩ : ByteArray) [.string (⟨#[117]⟩ : ByteArray)] from rfl) (Reps.one (show Kd.M Kd.string _ _ _ (⟨#[85]⟩ : ByteArray) [.string (⟨#[85]⟩ : ByteArray)] from rfl) (Reps.one (show Kd.M Kd.string _ _ _ (⟨#[76]⟩ : ByteArray) [.string (⟨#[76]⟩ : ByteArray)] from rfl) (Reps.one (show Kd.M Kd.string _ _ _ (⟨#[]⟩ : ByteArray) [.string (⟨#[]⟩ : ByteArray)] from rfl) (Reps.none _ _))))))); intro v108 w2 ho3 hb hg_ hnew_; clear hg_ hnew_; (first | rw [← Ny107.out] at ho3 | (simp only [Int.reduceToNat] at ho3; rw [← Ny107.out] at ho3)); have n0_ := Aside0.mk (Kd.R_lower ho3 (below_size bl_)); have n1_ := Aside0.mk (below_step bl_ hb); clear HB; have HO109 := n0_; have HB := n1_; clear n0_ n1_; clear hb ho3; obtain ⟨Ao4, co4, eo4⟩ := Kd.R_slice HO109.out; subst eo4))
 go_loopg [10] k (fun kq v10 w' => ∃ (x10_1 : Int), v10 = .int .i64 x10_1 ∧ Aside0 (scan_quoted.l0 kq a0 y107 (y107.length : Int) x10_1 = some (r1, r2)) ∧ Aside0 (kq ≤ k) ∧ Aside0 (Kd.R Kd.string 9 w' w.heap.size (fun _ => True) (.slice Ao4 y107.length co4) y107) ∧ Aside0 (Below w.heap.size w w'))
 case atStart => exact ⟨(0), er_, H', ⟨Nat.le_refl _⟩, ⟨by (with_reducible repeat (first | apply Kd.R_alloc | apply Kd.R_drewN | apply Kd.R_drew)); exact HO109.out⟩, ⟨bl_⟩⟩
 case round =>
  clear H'
  obtain ⟨x10_1, rfl, HA, HK1, HO_8, HB⟩ := hrel
  cases gk with
  | zero => exact absurd HA.out (by simp [scan_quoted.l0])
  | succ k1 =>
   have H := HA.out
   clear HA
   simp only [scan_quoted.l0] at H
   replace H := id_ H
   obtain ⟨-, c5b0, H⟩ | ⟨-, c5b0, H⟩ := H
   ·replace H := id_ H
    obtain ⟨-, c6b0, H⟩ | ⟨-, -, H⟩ := H
    ·replace H := id_ H
     obtain ⟨-, c7b0, H⟩ | ⟨-, -, H⟩ := H
     ·replace H := Option.bind_eq_some_iff.mp H
      obtain ⟨t111, A80, H⟩ := H
      replace H : (if t111 = true then (if 0 ≤ ((rdOf ByteArray.empty y107 x10_1).size : Int) then (if ((rdOf ByteArray.empty y107 x10_1).size : Int) ≤ (a0.size : Int) then ((scan_literal.f k1 (a0.extract (((rdOf ByteArray.empty y107 x10_1).size : Int) : Int).toNat a0.size) 34).bind fun t112 => (if t112 > 0 then (some (4, wrap64 (((rdOf ByteArray.empty y107 x10_1).size : Int) + t112))) else ((scan_literal.f k1 (a0.extract (((rdOf ByteArray.empty y107 x10_1).size : Int) : Int).toNat a0.size) 39).bind fun t113 => (if t113 > 0 then (if (rdOf ByteArray.empty y107 x10_1).toList = ([117, 56] : List UInt8) then (scan_quoted.l0 k1 a0 y107 (y107.length : Int) (wrap64 (x10_1 + 1))) else (some (3, wrap64 (((rdOf ByteArray.empty y107 x10_1).size : Int) + t113)))) else (scan_quoted.l0 k1 a0 y107 (y107.length : Int) (wrap64 (x10_1 + 1))))))) else (none)) else (none)) else (scan_quoted.l0 k1 a0 y107 (y107.length : Int) (wrap64 (x10_1 + 1)))) = some (r1, r2) := H
      have A8 := Aside0.mk A80
      clear A80
      by_cases c9 : t111 = true
      ·subst c9
       have H1 : (if 0 ≤ ((rdOf ByteArray.empty y107 x10_1).size : Int) then (if ((rdOf ByteArray.empty y107 x10_1).size : Int) ≤ (a0.size : Int) then ((scan_literal.f k1 (a0.extract (((rdOf ByteArray.empty y107 x10_1).size : Int) : Int).toNat a0.size) 34).bind fun t112 => (if t112 > 0 then (some (4, wrap64 (((rdOf ByteArray.empty y107 x10_1).size : Int) + t112))) else ((scan_literal.f k1 (a0.extract (((rdOf ByteArray.empty y107 x10_1).size : Int) : Int).toNat a0.size) 39).bind fun t113 => (if t113 > 0 then (if (rdOf ByteArray.empty y107 x10_1).toList = ([117, 56] : List UInt8) then (scan_quoted.l0 k1 a0 y107 (y107.length : Int) (wrap64 (x10_1 + 1))) else (some (3, wrap64 (((rdOf ByteArray.empty y107 x10_1).size : Int) + t113)))) else (scan_quoted.l0 k1 a0 y107 (y107.length : Int) (wrap64 (x10_1 + 1))))))) else (none)) else (none)) = some (r1, r2) := by rw [if_pos rfl] at H; exact H
       clear H
       have H := H1
       clear H1
       replace H := id_ H
       obtain ⟨c10b0, c10b1, H⟩ | ⟨-, -, H⟩ := H
       ·replace H := id_ H
        obtain ⟨c11b0, c11b1, H⟩ | ⟨-, -, H⟩ := H
        ·replace H := Option.bind_eq_some_iff.mp H
         obtain ⟨t112, A120, H⟩ := H
         replace H : (if t112 > 0 then (some (4, wrap64 (((rdOf ByteArray.empty y107 x10_1).size : Int) + t112))) else ((scan_literal.f k1 (a0.extract (((rdOf ByteArray.empty y107 x10_1).size : Int) : Int).toNat a0.size) 39).bind fun t113 => (if t113 > 0 then (if (rdOf ByteArray.empty y107 x10_1).toList = ([117, 56] : List UInt8) then (scan_quoted.l0 k1 a0 y107 (y107.length : Int) (wrap64 (x10_1 + 1))) else (some (3, wrap64 (((rdOf ByteArray.empty y107 x10_1).size : Int) + t113)))) else (scan_quoted.l0 k1 a0 y107 (y107.length : Int) (wrap64 (x10_1 + 1)))))) = some (r1, r2) := H
         have A12 := Aside0.mk A120
         clear A120
         replace H := ib_ H
         obtain ⟨c13, H⟩ | ⟨c13, H⟩ := H
         ·have c13b0 : decide (0 < t112) = true := decide_eq_true c13
          clear c13
          simp only [Option.some.injEq, Prod.mk.injEq] at H
          obtain ⟨rfl, rfl⟩ := H
          have p110 : 0 ≤ (x10_1 : Int) := da_
          have q110 : x10_1 < (y107.length : Int) := da_
          obtain ⟨ad110, e110, hx110_0⟩ := Kd.at_string (Kd.R_reads' HO_8.out).2.2 x10_1 p110 q110
          cases e110
          replace p110 := eq_true p110
          replace q110 := eq_true q110
          go_wp2_with (first | ((with_reducible refine gate_callee (f := 41) rfl ?_); refine goesL_ (some 16) rfl rfl Tryd.func41 (by kernel_rfl) rfl #[.string a0, .string (rdOf ByteArray.empty y107 x10_1)] rfl ar_ ?_; (with_reducible refine (PB.strings_HasPrefix.calls a0 (rdOf ByteArray.empty y107 x10_1) true _ A8.out).mono ?_); rintro e w' ⟨rfl, ⟨nd, rfl⟩⟩; refine ⟨_, rfl, ?_⟩) | ((with_reducible refine gate_callee (f := 90) rfl ?_); refine goesL_ (some 22) rfl rfl Tryd.func90 (by kernel_rfl) rfl #[.string (a0.extract (((rdOf ByteArray.empty y107 x10_1).size : Int) : Int).toNat a0.size), .int .u8 34] rfl ar_ ?_; (with_reducible refine (scan_literal.calls k1 (a0.extract (((rdOf ByteArray.empty y107 x10_1).size : Int) : Int).toNat a0.size) 34 t112 _ A12.out).mono ?_); rintro e w' ⟨rfl, ⟨nd, rfl⟩⟩; refine ⟨_, rfl, ?_⟩))
          go_ret2
          exact ⟨es_, bl_⟩
         have c13b0 : decide (0 < t112) = false := decide_eq_false c13
         clear c13
         have c14b0 := eq_true (da_ : 0 ≤ ((rdOf ByteArray.empty y107 x10_1).size : Int))
         have c15b0 := eq_true (da_ : ((rdOf ByteArray.empty y107 x10_1).size : Int) ≤ (a0.size : Int))
         replace H := Option.bind_eq_some_iff.mp H
         obtain ⟨t113, A160, H⟩ := H
         replace H : (if t113 > 0 then (if (rdOf ByteArray.empty y107 x10_1).toList = ([117, 56] : List UInt8) then (scan_quoted.l0 k1 a0 y107 (y107.length : Int) (wrap64 (x10_1 + 1))) else (some (3, wrap64 (((rdOf ByteArray.empty y107 x10_1).size : Int) + t113)))) else (scan_quoted.l0 k1 a0 y107 (y107.length : Int) (wrap64 (x10_1 + 1)))) = some (r1, r2) := H
         have A16 := Aside0.mk A160
         clear A160
         replace H := ib_ H
         obtain ⟨c17, H⟩ | ⟨c17, H⟩ := H
         ·have c17b0 : decide (0 < t113) = true := decide_eq_true c17
          clear c17
          replace H := ie_ H
          obtain ⟨c18b0, c18b1, H⟩ | ⟨c18b0, c18b1, c18, H⟩ := H
          ·have H' := Aside0.mk H
           clear H
           have p110 : 0 ≤ (x10_1 : Int) := da_
           have q110 : x10_1 < (y107.length : Int) := da_
           obtain ⟨ad110, e110, hx110_0⟩ := Kd.at_string (Kd.R_reads' HO_8.out).2.2 x10_1 p110 q110
           cases e110
           replace p110 := eq_true p110
           replace q110 := eq_true q110
           go_wp2_with (first | ((with_reducible refine gate_callee (f := 41) rfl ?_); refine goesL_ (some 16) rfl rfl Tryd.func41 (by kernel_rfl) rfl #[.string a0, .string (rdOf ByteArray.empty y107 x10_1)] rfl ar_ ?_; (with_reducible refine (PB.strings_HasPrefix.calls a0 (rdOf ByteArray.empty y107 x10_1) true _ A8.out).mono ?_); rintro e w' ⟨rfl, ⟨nd, rfl⟩⟩; refine ⟨_, rfl, ?_⟩) | ((with_reducible refine gate_callee (f := 90) rfl ?_); refine goesL_ (some 22) rfl rfl Tryd.func90 (by kernel_rfl) rfl #[.string (a0.extract (((rdOf ByteArray.empty y107 x10_1).size : Int) : Int).toNat a0.size), .int .u8 34] rfl ar_ ?_; (with_reducible refine (scan_literal.calls k1 (a0.extract (((rdOf ByteArray.empty y107 x10_1).size : Int) : Int).toNat a0.size) 34 t112 _ A12.out).mono ?_); rintro e w' ⟨rfl, ⟨nd, rfl⟩⟩; refine ⟨_, rfl, ?_⟩) | ((with_reducible refine gate_callee (f := 90) rfl ?_); refine goesL_ (some 33) rfl rfl Tryd.func90 (by kernel_rfl) rfl #[.string (a0.extract (((rdOf ByteArray.empty y107 x10_1).size : Int) : Int).toNat a0.size), .int .u8 39] rfl ar_ ?_; (with_reducible refine (scan_literal.calls k1 (a0.extract (((rdOf ByteArray.empty y107 x10_1).size : Int) : Int).toNat a0.size) 39 t113 _ A16.out).mono ?_); rintro e w' ⟨rfl, ⟨nd, rfl⟩⟩; refine ⟨_, rfl, ?_⟩))
           go_roundg k1
           case measure => have := HK1.out; omega
           case rel => exact ⟨(wrap64 (x10_1 + 1)), er_, H', ⟨by have := HK1.out; omega⟩, ⟨by (with_reducible repeat (first | apply Kd.R_alloc | apply Kd.R_drewN | apply Kd.R_drew)); exact HO_8.out⟩, ⟨bl_⟩⟩
          simp only [Option.some.injEq, Prod.mk.injEq] at H
          obtain ⟨rfl, rfl⟩ := H
          have p110 : 0 ≤ (x10_1 : Int) := da_
          have q110 : x10_1 < (y107.length : Int) := da_
          obtain ⟨ad110, e110, hx110_0⟩ := Kd.at_string (Kd.R_reads' HO_8.out).2.2 x10_1 p110 q110
          cases e110
          replace p110 := eq_true p110
          replace q110 := eq_true q110
          go_wp2_with (first | ((with_reducible refine gate_callee (f := 41) rfl ?_); refine goesL_ (some 16) rfl rfl Tryd.func41 (by kernel_rfl) rfl #[.string a0, .string (rdOf ByteArray.empty y107 x10_1)] rfl ar_ ?_; (with_reducible refine (PB.strings_HasPrefix.calls a0 (rdOf ByteArray.empty y107 x10_1) true _ A8.out).mono ?_); rintro e w' ⟨rfl, ⟨nd, rfl⟩⟩; refine ⟨_, rfl, ?_⟩) | ((with_reducible refine gate_callee (f := 90) rfl ?_); refine goesL_ (some 22) rfl rfl Tryd.func90 (by kernel_rfl) rfl #[.string (a0.extract (((rdOf ByteArray.empty y107 x10_1).size : Int) : Int).toNat a0.size), .int .u8 34] rfl ar_ ?_; (with_reducible refine (scan_literal.calls k1 (a0.extract (((rdOf ByteArray.empty y107 x10_1).size : Int) : Int).toNat a0.size) 34 t112 _ A12.out).mono ?_); rintro e w' ⟨rfl, ⟨nd, rfl⟩⟩; refine ⟨_, rfl, ?_⟩) | ((with_reducible refine gate_callee (f := 90) rfl ?_); refine goesL_ (some 33) rfl rfl Tryd.func90 (by kernel_rfl) rfl #[.string (a0.extract (((rdOf ByteArray.empty y107 x10_1).size : Int) : Int).toNat a0.size), .int .u8 39] rfl ar_ ?_; (with_reducible refine (scan_literal.calls k1 (a0.extract (((rdOf ByteArray.empty y107 x10_1).size : Int) : Int).toNat a0.size) 39 t113 _ A16.out).mono ?_); rintro e w' ⟨rfl, ⟨nd, rfl⟩⟩; refine ⟨_, rfl, ?_⟩))
          go_ret2
          exact ⟨es_, bl_⟩
         have c17b0 : decide (0 < t113) = false := decide_eq_false c17
         clear c17
         have H' := Aside0.mk H
         clear H
         have p110 : 0 ≤ (x10_1 : Int) := da_
         have q110 : x10_1 < (y107.length : Int) := da_
         obtain ⟨ad110, e110, hx110_0⟩ := Kd.at_string (Kd.R_reads' HO_8.out).2.2 x10_1 p110 q110
         cases e110
         replace p110 := eq_true p110
         replace q110 := eq_true q110
         go_wp2_with (first | ((with_reducible refine gate_callee (f := 41) rfl ?_); refine goesL_ (some 16) rfl rfl Tryd.func41 (by kernel_rfl) rfl #[.string a0, .string (rdOf ByteArray.empty y107 x10_1)] rfl ar_ ?_; (with_reducible refine (PB.strings_HasPrefix.calls a0 (rdOf ByteArray.empty y107 x10_1) true _ A8.out).mono ?_); rintro e w' ⟨rfl, ⟨nd, rfl⟩⟩; refine ⟨_, rfl, ?_⟩) | ((with_reducible refine gate_callee (f := 90) rfl ?_); refine goesL_ (some 22) rfl rfl Tryd.func90 (by kernel_rfl) rfl #[.string (a0.extract (((rdOf ByteArray.empty y107 x10_1).size : Int) : Int).toNat a0.size), .int .u8 34] rfl ar_ ?_; (with_reducible refine (scan_literal.calls k1 (a0.extract (((rdOf ByteArray.empty y107 x10_1).size : Int) : Int).toNat a0.size) 34 t112 _ A12.out).mono ?_); rintro e w' ⟨rfl, ⟨nd, rfl⟩⟩; refine ⟨_, rfl, ?_⟩) | ((with_reducible refine gate_callee (f := 90) rfl ?_); refine goesL_ (some 33) rfl rfl Tryd.func90 (by kernel_rfl) rfl #[.string (a0.extract (((rdOf ByteArray.empty y107 x10_1).size : Int) : Int).toNat a0.size), .int .u8 39] rfl ar_ ?_; (with_reducible refine (scan_literal.calls k1 (a0.extract (((rdOf ByteArray.empty y107 x10_1).size : Int) : Int).toNat a0.size) 39 t113 _ A16.out).mono ?_); rintro e w' ⟨rfl, ⟨nd, rfl⟩⟩; refine ⟨_, rfl, ?_⟩))
         go_roundg k1
         case measure => have := HK1.out; omega
         case rel => exact ⟨(wrap64 (x10_1 + 1)), er_, H', ⟨by have := HK1.out; omega⟩, ⟨by (with_reducible repeat (first | apply Kd.R_alloc | apply Kd.R_drewN | apply Kd.R_drew)); exact HO_8.out⟩, ⟨bl_⟩⟩
        exact absurd H (by simp)
       exact absurd H (by simp)
      replace c9 := Bool.eq_false_iff.mpr c9
      subst c9
      have H1 : (scan_quoted.l0 k1 a0 y107 (y107.length : Int) (wrap64 (x10_1 + 1))) = some (r1, r2) := by rw [if_neg (show ¬ (false = true) by decide)] at H; exact H
      clear H
      have H := H1
      clear H1
      have H' := Aside0.mk H
      clear H
      have p110 : 0 ≤ (x10_1 : Int) := da_
      have q110 : x10_1 < (y107.length : Int) := da_
      obtain ⟨ad110, e110, hx110_0⟩ := Kd.at_string (Kd.R_reads' HO_8.out).2.2 x10_1 p110 q110
      cases e110
      replace p110 := eq_true p110
      replace q110 := eq_true q110
      go_wp2_with (first | ((with_reducible refine gate_callee (f := 41) rfl ?_); refine goesL_ (some 16) rfl rfl Tryd.func41 (by kernel_rfl) rfl #[.string a0, .string (rdOf ByteArray.empty y107 x10_1)] rfl ar_ ?_; (with_reducible refine (PB.strings_HasPrefix.calls a0 (rdOf ByteArray.empty y107 x10_1) false _ A8.out).mono ?_); rintro e w' ⟨rfl, ⟨nd, rfl⟩⟩; refine ⟨_, rfl, ?_⟩))
      go_roundg k1
      case measure => have := HK1.out; omega
      case rel => exact ⟨(wrap64 (x10_1 + 1)), er_, H', ⟨by have := HK1.out; omega⟩, ⟨by (with_reducible repeat (first | apply Kd.R_alloc | apply Kd.R_drewN | apply Kd.R_drew)); exact HO_8.out⟩, ⟨bl_⟩⟩
     exact absurd H (by simp)
    exact absurd H (by simp)
   simp only [Option.some.injEq, Prod.mk.injEq] at H
   obtain ⟨rfl, rfl⟩ := H
   go_wp2
   go_ret2
   exact ⟨es_, bl_⟩
def scan_letter.f (a0 : Int) : Option (Bool) := if a0 = 95 then (some true) else (if a0 ≥ 97 then (if a0 ≤ 122 then (some true) else (if a0 ≥ 65 then (some (decide (a0 ≤ 90))) else (some false))) else (if a0 ≥ 65 then (some (decide (a0 ≤ 90))) else (some false)))
theorem scan_letter.calls (a0 : Int) (r : Bool) (w : World) (h : scan_letter.f a0 = some r) :
  Calls Tryd.prog 91 #[.int .u8 a0] w fun e w' => e = .returned (.bool r) ∧ Drawn0 w w' := by
 have H : (if a0 = 95 then (some true) else (if a0 ≥ 97 then (if a0 ≤ 122 then (some true) else (if a0 ≥ 65 then (some (decide (a0 ≤ 90))) else (some false))) else (if a0 ≥ 65 then (some (decide (a0 ≤ 90))) else (some false)))) = some r := h
 clear h
 replace H := ie_ H
 obtain ⟨c2b0, c2b1, H⟩ | ⟨c2b0, c2b1, c2, H⟩ := H
 ·obtain rfl := Option.some.inj H
  go_enter Tryd.func91, Tryd.ntmps91
  go_wp2
  go_ret
  exact ⟨er_, dr_⟩
 replace H := ib_ H
 obtain ⟨c3, H⟩ | ⟨c3, H⟩ := H
 ·have c3b0 : decide (97 ≤ a0) = true := decide_eq_true c3
  clear c3
  replace H := id_ H
  obtain ⟨-, c4b0, H⟩ | ⟨-, c4b0, H⟩ := H
  ·obtain rfl := Option.some.inj H
   go_enter Tryd.func91, Tryd.ntmps91
   go_wp2
   go_ret
   exact ⟨er_, dr_⟩
  replace H := ib_ H
  obtain ⟨c5, H⟩ | ⟨c5, H⟩ := H
  ·have c5b0 : decide (65 ≤ a0) = true := decide_eq_true c5
   clear c5
   obtain rfl := Option.some.inj H
   go_enter Tryd.func91, Tryd.ntmps91
   go_wp2
   go_ret
   exact ⟨er_, dr_⟩
  have c5b0 : decide (65 ≤ a0) = false := decide_eq_false c5
  clear c5
  obtain rfl := Option.some.inj H
  go_enter Tryd.func91, Tryd.ntmps91
  go_wp2
  go_ret
  exact ⟨er_, dr_⟩
 have c3b0 : decide (97 ≤ a0) = false := decide_eq_false c3
 clear c3
 replace H := ib_ H
 obtain ⟨c6, H⟩ | ⟨c6, H⟩ := H
 ·have c6b0 : decide (65 ≤ a0) = true := decide_eq_true c6
  clear c6
  obtain rfl := Option.some.inj H
  go_enter Tryd.func91, Tryd.ntmps91
  go_wp2
  go_ret
  exact ⟨er_, dr_⟩
 have c6b0 : decide (65 ≤ a0) = false := decide_eq_false c6
 clear c6
 obtain rfl := Option.some.inj H
 go_enter Tryd.func91, Tryd.ntmps91
 go_wp2
 go_ret
 exact ⟨er_, dr_⟩
def scan_digit.f (a0 : Int) : Option (Bool) := if a0 ≥ 48 then (some (decide (a0 ≤ 57))) else (some false)
theorem scan_digit.calls (a0 : Int) (r : Bool) (w : World) (h : scan_digit.f a0 = some r) :
  Calls Tryd.prog 92 #[.int .u8 a0] w fun e w' => e = .returned (.bool r) ∧ Drawn0 w w' := by
 have H : (if a0 ≥ 48 then (some (decide (a0 ≤ 57))) else (some false)) = some r := h
 clear h
 replace H := ib_ H
 obtain ⟨c2, H⟩ | ⟨c2, H⟩ := H
 ·have c2b0 : decide (48 ≤ a0) = true := decide_eq_true c2
  clear c2
  obtain rfl := Option.some.inj H
  go_enter Tryd.func92, Tryd.ntmps92
  go_wp2
  go_ret
  exact ⟨er_, dr_⟩
 have c2b0 : decide (48 ≤ a0) = false := decide_eq_false c2
 clear c2
 obtain rfl := Option.some.inj H
 go_enter Tryd.func92, Tryd.ntmps92
 go_wp2
 go_ret
 exact ⟨er_, dr_⟩
def scan_word.l0 : Nat → ByteArray → Int → Option (Int)
 | 0, _, _ => none
 | k + 1, x0, x3 => if x3 < (x0.size : Int) then (if 0 ≤ x3 then ((scan_letter.f (bt x0 x3)).bind fun t114 => (if t114 = true then (scan_word.l0 k x0 (wrap64 (x3 + 1))) else (if x3 > 0 then ((scan_digit.f (bt x0 x3)).bind fun t115 => (if t115 = true then (scan_word.l0 k x0 (wrap64 (x3 + 1))) else (some x3))) else (some x3)))) else (none)) else (some x3)
def scan_word.f (k : Nat) (a0 : ByteArray) : Option (Int) := scan_word.l0 k a0 0
theorem scan_word.mono_l : ∀ k, (∀ y0 y1, LeO (scan_word.l0 k y0 y1) (scan_word.l0 (k + 1) y0 y1))
 | 0 => fun _ _ r h => by simp [scan_word.l0] at h
 | k + 1 => by
  have ih0 := scan_word.mono_l k
  intro y0 y1
  unfold scan_word.l0
  repeat' first
  | (with_reducible exact ih0 _ _)
  | (with_reducible exact LeO.refl _)
  | (with_reducible exact LeO.none _)
  | (with_reducible refine LeO.ite ?_ ?_)
  | (with_reducible refine LeO.bind ?_ (fun _ => ?_))
theorem scan_word.mono : ∀ a0 k, LeO (scan_word.f k a0) (scan_word.f (k + 1) a0) := by
 intro a0 k
 have ih0 := scan_word.mono_l k
 unfold scan_word.f
 repeat' first
   | (with_reducible exact ih0 _ _)
   | (with_reducible exact LeO.refl _)
   | (with_reducible exact LeO.none _)
   | (with_reducible refine LeO.ite ?_ ?_)
   | (with_reducible refine LeO.bind ?_ (fun _ => ?_))
theorem scan_word.calls (k : Nat) (a0 : ByteArray) (r : Int) (w : World) (h : scan_word.f k a0 = some r) :
  Calls Tryd.prog 75 #[.string a0] w fun e w' => e = .returned (.int .i64 r) ∧ Drawn0 w w' := by
 have H : (scan_word.l0 k a0 0) = some r := h
 clear h
 have H' := Aside0.mk H
 clear H
 go_enter Tryd.func75, Tryd.ntmps75
 go_wp2
 go_loopg [3] k (fun kq v3 w' => ∃ (x3_1 : Int), v3 = .int .i64 x3_1 ∧ Aside0 (scan_word.l0 kq a0 x3_1 = some r) ∧ Aside0 (kq ≤ k) ∧ Drawn0 w w')
 case atStart => exact ⟨(0), er_, H', ⟨Nat.le_refl _⟩, dr_⟩
 case round =>
  clear H'
  obtain ⟨x3_1, rfl, HA, HK1, ⟨m1, rfl⟩⟩ := hrel
  cases gk with
  | zero => exact absurd HA.out (by simp [scan_word.l0])
  | succ k1 =>
   have H := HA.out
   clear HA
   simp only [scan_word.l0] at H
   replace H := id_ H
   obtain ⟨-, c2b0, H⟩ | ⟨-, c2b0, H⟩ := H
   ·replace H := id_ H
    obtain ⟨-, c3b0, H⟩ | ⟨-, -, H⟩ := H
    ·replace H := Option.bind_eq_some_iff.mp H
     obtain ⟨t114, A50, H⟩ := H
     replace H : (if t114 = true then (scan_word.l0 k1 a0 (wrap64 (x3_1 + 1))) else (if x3_1 > 0 then ((scan_digit.f (bt a0 x3_1)).bind fun t115 => (if t115 = true then (scan_word.l0 k1 a0 (wrap64 (x3_1 + 1))) else (some x3_1))) else (some x3_1))) = some r := H
     have A5 := Aside0.mk A50
     clear A50
     by_cases c6 : t114 = true
     ·subst c6
      have H1 : (scan_word.l0 k1 a0 (wrap64 (x3_1 + 1))) = some r := by rw [if_pos rfl] at H; exact H
      clear H
      have H := H1
      clear H1
      have H' := Aside0.mk H
      clear H
      have p4 : 0 ≤ (x3_1 : Int) := da_
      have q4 : x3_1 < (a0.size : Int) := da_
      have hx4 := bt_at a0 x3_1
      replace p4 := eq_true p4
      replace q4 := eq_true q4
      go_wp2_with (first | (go_at_call 91; (with_reducible refine (scan_letter.calls (bt a0 x3_1) true _ A5.out).mono ?_); rintro e w' ⟨rfl, ⟨nd, rfl⟩⟩))
      go_roundg k1
      case measure => have := HK1.out; omega
      case rel => exact ⟨(wrap64 (x3_1 + 1)), er_, H', ⟨by have := HK1.out; omega⟩, dr_⟩
     replace c6 := Bool.eq_false_iff.mpr c6
     subst c6
     have H1 : (if x3_1 > 0 then ((scan_digit.f (bt a0 x3_1)).bind fun t115 => (if t115 = true then (scan_word.l0 k1 a0 (wrap64 (x3_1 + 1))) else (some x3_1))) else (some x3_1)) = some r := by rw [if_neg (show ¬ (false = true) by decide)] at H; exact H
     clear H
     have H := H1
     clear H1
     replace H := ib_ H
     obtain ⟨c7, H⟩ | ⟨c7, H⟩ := H
     ·have c7b0 : decide (0 < x3_1) = true := decide_eq_true c7
      clear c7
      replace H := Option.bind_eq_some_iff.mp H
      obtain ⟨t115, A90, H⟩ := H
      replace H : (if t115 = true then (scan_word.l0 k1 a0 (wrap64 (x3_1 + 1))) else (some x3_1)) = some r := H
      have A9 := Aside0.mk A90
      clear A90
      by_cases c10 : t115 = true
      ·subst c10
       have H1 : (scan_word.l0 k1 a0 (wrap64 (x3_1 + 1))) = some r := by rw [if_pos rfl] at H; exact H
       clear H
       have H := H1
       clear H1
       have H' := Aside0.mk H
       clear H
       have p4 : 0 ≤ (x3_1 : Int) := da_
       have q4 : x3_1 < (a0.size : Int) := da_
       have hx4 := bt_at a0 x3_1
       replace p4 := eq_true p4
       replace q4 := eq_true q4
       go_wp2_with (first | (go_at_call 91; (with_reducible refine (scan_letter.calls (bt a0 x3_1) false _ A5.out).mono ?_); rintro e w' ⟨rfl, ⟨nd, rfl⟩⟩; have p8 : 0 ≤ (x3_1 : Int) := da_; have q8 : x3_1 < (a0.size : Int) := da_; have hx8 := bt_at a0 x3_1; replace p8 := eq_true p8; replace q8 := eq_true q8) | (go_at_call 92; (with_reducible refine (scan_digit.calls (bt a0 x3_1) true _ A9.out).mono ?_); rintro e w' ⟨rfl, ⟨nd, rfl⟩⟩))
       go_roundg k1
       case measure => have := HK1.out; omega
       case rel => exact ⟨(wrap64 (x3_1 + 1)), er_, H', ⟨by have := HK1.out; omega⟩, dr_⟩
      replace c10 := Bool.eq_false_iff.mpr c10
      subst c10
      have H1 : (some x3_1) = some r := by rw [if_neg (show ¬ (false = true) by decide)] at H; exact H
      clear H
      have H := H1
      clear H1
      obtain rfl := Option.some.inj H
      have p4 : 0 ≤ (x3_1 : Int) := da_
      have q4 : x3_1 < (a0.size : Int) := da_
      have hx4 := bt_at a0 x3_1
      replace p4 := eq_true p4
      replace q4 := eq_true q4
      go_wp2_with (first | (go_at_call 91; (with_reducible refine (scan_letter.calls (bt a0 x3_1) false _ A5.out).mono ?_); rintro e w' ⟨rfl, ⟨nd, rfl⟩⟩; have p8 : 0 ≤ (x3_1 : Int) := da_; have q8 : x3_1 < (a0.size : Int) := da_; have hx8 := bt_at a0 x3_1; replace p8 := eq_true p8; replace q8 := eq_true q8) | (go_at_call 92; (with_reducible refine (scan_digit.calls (bt a0 x3_1) false _ A9.out).mono ?_); rintro e w' ⟨rfl, ⟨nd, rfl⟩⟩))
      go_ret
      exact ⟨er_, dr_⟩
     have c7b0 : decide (0 < x3_1) = false := decide_eq_false c7
     clear c7
     obtain rfl := Option.some.inj H
     have p4 : 0 ≤ (x3_1 : Int) := da_
     have q4 : x3_1 < (a0.size : Int) := da_
     have hx4 := bt_at a0 x3_1
     replace p4 := eq_true p4
     replace q4 := eq_true q4
     go_wp2_with (first | (go_at_call 91; (with_reducible refine (scan_letter.calls (bt a0 x3_1) false _ A5.out).mono ?_); rintro e w' ⟨rfl, ⟨nd, rfl⟩⟩))
     go_ret
     exact ⟨er_, dr_⟩
    exact absurd H (by simp)
   obtain rfl := Option.some.inj H
   go_wp2
   go_ret
   exact ⟨er_, dr_⟩
mutual
def scan_number.j1 : Nat → ByteArray → Int → Option (Int)
 | 0, _, _ => none
 | k + 1, x0, x3 => scan_number.l0 k x0 x3
def scan_number.l0 : Nat → ByteArray → Int → Option (Int)
 | 0, _, _ => none
 | k + 1, x0, x3 => if x3 < (x0.size : Int) then (if 0 ≤ x3 then ((LibG.strings_IndexByte.f (⟨#[101, 69, 112, 80]⟩ : ByteArray) (bt x0 x3)).bind fun t118 => (if t118 ≥ 0 then (if (wrap64 (x3 + 1)) < (x0.size : Int) then (if 0 ≤ (wrap64 (x3 + 1)) then (if (bt x0 (wrap64 (x3 + 1))) = 43 then (scan_number.j3 k x0 x3 true) else (scan_number.j3 k x0 x3 ((bt x0 (wrap64 (x3 + 1))) == 45))) else (none)) else (scan_number.j3 k x0 x3 false)) else (scan_number.j3 k x0 x3 false))) else (none)) else (some x3)
def scan_number.j3 : Nat → ByteArray → Int → Bool → Option (Int)
 | 0, _, _, _ => none
 | k + 1, x0, x3, x31 => if x31 = true then (scan_number.l0 k x0 (wrap64 (x3 + 2))) else (if 0 ≤ x3 then (if x3 < (x0.size : Int) then ((scan_digit.f (bt x0 x3)).bind fun t119 => (if t119 = true then (scan_number.l0 k x0 (wrap64 (x3 + 1))) else ((scan_letter.f (bt x0 x3)).bind fun t120 => (if t120 = true then (scan_number.l0 k x0 (wrap64 (x3 + 1))) else (if (bt x0 x3) = 46 then (scan_number.l0 k x0 (wrap64 (x3 + 1))) else (some x3)))))) else (none)) else (none))
def scan_number.j0 : Nat → ByteArray → Bool → Option (Int)
 | 0, _, _ => none
 | k + 1, x0, x4 => if x4 = true then (scan_number.j1 k x0 1) else (if (x0.size : Int) > 1 then (if 0 < (x0.size : Int) then (if (bt x0 0) = 46 then (if 1 < (x0.size : Int) then ((scan_digit.f (bt x0 1)).bind fun t117 => (if t117 = true then (scan_number.j1 k x0 2) else (some 0))) else (none)) else (some 0)) else (none)) else (some 0))
end
def scan_number.f (k : Nat) (a0 : ByteArray) : Option (Int) := if a0.toList = ([] : List UInt8) then (scan_number.j0 k a0 false) else (if 0 < (a0.size : Int) then ((scan_digit.f (bt a0 0)).bind fun t116 => (scan_number.j0 k a0 t116)) else (none))
theorem scan_number.mono_l : ∀ k, (∀ y0 y1, LeO (scan_number.j1 k y0 y1) (scan_number.j1 (k + 1) y0 y1)) ∧ (∀ y0 y1, LeO (scan_number.l0 k y0 y1) (scan_number.l0 (k + 1) y0 y1)) ∧ (∀ y0 y1 y2, LeO (scan_number.j3 k y0 y1 y2) (scan_number.j3 (k + 1) y0 y1 y2)) ∧ (∀ y0 y1, LeO (scan_number.j0 k y0 y1) (scan_number.j0 (k + 1) y0 y1))
 | 0 => ⟨fun _ _ r h => by simp [scan_number.j1] at h, fun _ _ r h => by simp [scan_number.l0] at h, fun _ _ _ r h => by simp [scan_number.j3] at h, fun _ _ r h => by simp [scan_number.j0] at h⟩
 | k + 1 => by
  obtain ⟨ih0, ih1, ih2, ih3⟩ := scan_number.mono_l k
  refine ⟨?_, ?_, ?_, ?_⟩
  ·intro y0 y1
   unfold scan_number.j1
   repeat' first
   | (with_reducible exact ih0 _ _)
   | (with_reducible exact ih1 _ _)
   | (with_reducible exact ih2 _ _ _)
   | (with_reducible exact ih3 _ _)
   | (with_reducible exact LeO.refl _)
   | (with_reducible exact LeO.none _)
   | (with_reducible refine LeO.ite ?_ ?_)
   | (with_reducible refine LeO.bind ?_ (fun _ => ?_))
  ·intro y0 y1
   unfold scan_number.l0
   repeat' first
   | (with_reducible exact ih0 _ _)
   | (with_reducible exact ih1 _ _)
   | (with_reducible exact ih2 _ _ _)
   | (with_reducible exact ih3 _ _)
   | (with_reducible exact LeO.refl _)
   | (with_reducible exact LeO.none _)
   | (with_reducible refine LeO.ite ?_ ?_)
   | (with_reducible refine LeO.bind ?_ (fun _ => ?_))
  ·intro y0 y1 y2
   unfold scan_number.j3
   repeat' first
   | (with_reducible exact ih0 _ _)
   | (with_reducible exact ih1 _ _)
   | (with_reducible exact ih2 _ _ _)
   | (with_reducible exact ih3 _ _)
   | (with_reducible exact LeO.refl _)
   | (with_reducible exact LeO.none _)
   | (with_reducible refine LeO.ite ?_ ?_)
   | (with_reducible refine LeO.bind ?_ (fun _ => ?_))
  intro y0 y1
  unfold scan_number.j0
  repeat' first
  | (with_reducible exact ih0 _ _)
  | (with_reducible exact ih1 _ _)
  | (with_reducible exact ih2 _ _ _)
  | (with_reducible exact ih3 _ _)
  | (with_reducible exact LeO.refl _)
  | (with_reducible exact LeO.none _)
  | (with_reducible refine LeO.ite ?_ ?_)
  | (with_reducible refine LeO.bind ?_ (fun _ => ?_))
theorem scan_number.mono : ∀ a0 k, LeO (scan_number.f k a0) (scan_number.f (k + 1) a0) := by
 intro a0 k
 obtain ⟨ih0, ih1, ih2, ih3⟩ := scan_number.mono_l k
 unfold scan_number.f
 repeat' first
   | (with_reducible exact ih0 _ _)
   | (with_reducible exact ih1 _ _)
   | (with_reducible exact ih2 _ _ _)
   | (with_reducible exact ih3 _ _)
   | (with_reducible exact LeO.refl _)
   | (with_reducible exact LeO.none _)
   | (with_reducible refine LeO.ite ?_ ?_)
   | (with_reducible refine LeO.bind ?_ (fun _ => ?_))
theorem scan_number.calls (k : Nat) (a0 : ByteArray) (r : Int) (w : World) (h : scan_number.f k a0 = some r) :
  Calls Tryd.prog 76 #[.string a0] w fun e w' => e = .returned (.int .i64 r) ∧ Drawn0 w w' := by
 have H : (if a0.toList = ([] : List UInt8) then (scan_number.j0 k a0 false) else (if 0 < (a0.size : Int) then ((scan_digit.f (bt a0 0)).bind fun t116 => (scan_number.j0 k a0 t116)) else (none))) = some r := h
 clear h
 have HC2 := Aside0.mk H
 clear H
 go_enter Tryd.func76, Tryd.ntmps76
 go_upto_block 0 with (fail)
 go_cut [3] (fun v3 wc => ∃ (kq : Nat) (x3_1 : Int), v3 = .int .i64 x3_1 ∧ Aside0 (scan_number.j1 kq a0 x3_1 = some r) ∧ Aside0 (kq ≤ k) ∧ Drawn0 w wc)
 case first =>
  have H := HC2.out
  clear HC2
  have HC3 := Aside0.mk H
  clear H
  go_upto_region 3 with (fail)
  go_cut [4] (fun v4 wc => ∃ (kq : Nat) (x4_2 : Bool), v4 = .bool x4_2 ∧ Aside0 (scan_number.j0 kq a0 x4_2 = some r) ∧ Aside0 (kq ≤ k) ∧ Drawn0 w wc)
  case first =>
   have H := HC3.out
   clear HC3
   replace H := ie_ H
   obtain ⟨c4b0, c4b1, H⟩ | ⟨c4b0, c4b1, c4, H⟩ := H
   ·(first | rw [c4b0] | (simp only [i64_w, i32_w]; rw [c4b0]) | skip)
    have H' := Aside0.mk H
    clear H
    go_wp2
    go_meet
    case rel => exact ⟨_, (false), er_, H', ⟨om_⟩, dr_⟩
   (first | rw [c4b0] | (simp only [i64_w, i32_w]; rw [c4b0]) | skip)
   replace H := ib_ H
   obtain ⟨c5, H⟩ | ⟨c5, H⟩ := H
   ·have c5b0 := decide_eq_true c5
    have c5b1 : decide (0 < a0.size) = true := decide_eq_true (by omega)
    clear c5
    replace H := Option.bind_eq_some_iff.mp H
    obtain ⟨t116, A70, H⟩ := H
    replace H : (scan_number.j0 k a0 t116) = some r := H
    have A7 := Aside0.mk A70
    clear A70
    have H' := Aside0.mk H
    clear H
    have p6 : 0 ≤ (0 : Int) := (by omega)
    have q6 : 0 < a0.size := (by have : (0 : Int) < (a0.size : Int) := da_; omega)
    have hx6 : ∀ h : 0 < a0.size, ((a0[0]'h).toNat : Int) = bt a0 0 := bt_at a0 0
    clear p6
    have qi6 : (0 < (a0.size : Int)) = True := eq_true da_
    replace q6 := eq_true q6
    go_wp2_with (first | (go_at_call 92; (with_reducible refine (scan_digit.calls (bt a0 0) t116 _ A7.out).mono ?_); rintro e w' ⟨rfl, ⟨nd, rfl⟩⟩))
    go_meet
    case rel => exact ⟨_, (t116), er_, H', ⟨om_⟩, dr_⟩
   exact absurd H (by simp)
  case rest =>
   clear HC3
   try clear c4
   try clear c4b0
   try clear c4b1
   try clear c5
   try clear c5b0
   try clear c5b1
   try clear p6
   try clear q6
   try clear hx6
   try clear qi6
   try clear p6
   try clear q6
   obtain ⟨kq, x4_2, rfl, HA, HJ2, ⟨mc2, rfl⟩⟩ := hcut
   cases kq with
   | zero => exact absurd HA.out (by simp [scan_number.j0])
   | succ kj2 =>
    have H := HA.out
    clear HA
    simp only [scan_number.j0] at H
    by_cases c8 : x4_2 = true
    ·subst c8
     have H1 : (scan_number.j1 kj2 a0 1) = some r := by rw [if_pos rfl] at H; exact H
     clear H
     have H := H1
     clear H1
     have H' := Aside0.mk H
     clear H
     go_wp2
     go_meet
     case rel => exact ⟨_, (1), er_, H', ⟨by have := HJ2.out; first | omega | exact Nat.le_refl _⟩, dr_⟩
    replace c8 := Bool.eq_false_iff.mpr c8
    subst c8
    have H1 : (if (a0.size : Int) > 1 then (if 0 < (a0.size : Int) then (if (bt a0 0) = 46 then (if 1 < (a0.size : Int) then ((scan_digit.f (bt a0 1)).bind fun t117 => (if t117 = true then (scan_number.j1 kj2 a0 2) else (some 0))) else (none)) else (some 0)) else (none)) else (some 0)) = some r := by rw [if_neg (show ¬ (false = true) by decide)] at H; exact H
    clear H
    have H := H1
    clear H1
    replace H := ib_ H
    obtain ⟨c9, H⟩ | ⟨c9, H⟩ := H
    ·have c9b0 : decide (1 < (a0.size : Int)) = true := decide_eq_true c9
     have c9b1 : decide (1 < a0.size) = true := decide_eq_true (by omega)
     clear c9
     replace H := ib_ H
     obtain ⟨c10, H⟩ | ⟨c10, H⟩ := H
     ·have c10b0 := decide_eq_true c10
      have c10b1 : decide (0 < a0.size) = true := decide_eq_true (by omega)
      clear c10
      replace H := ie_ H
      obtain ⟨c12b0, c12b1, H⟩ | ⟨c12b0, c12b1, c12, H⟩ := H
      ·replace H := ib_ H
       obtain ⟨c13, H⟩ | ⟨c13, H⟩ := H
       ·have c13b0 := decide_eq_true c13
        have c13b1 : decide (1 < a0.size) = true := decide_eq_true (by omega)
        clear c13
        replace H := Option.bind_eq_some_iff.mp H
        obtain ⟨t117, A150, H⟩ := H
        replace H : (if t117 = true then (scan_number.j1 kj2 a0 2) else (some 0)) = some r := H
        have A15 := Aside0.mk A150
        clear A150
        by_cases c16 : t117 = true
        ·subst c16
         have H1 : (scan_number.j1 kj2 a0 2) = some r := by rw [if_pos rfl] at H; exact H
         clear H
         have H := H1
         clear H1
         have H' := Aside0.mk H
         clear H
         have p11 : 0 ≤ (0 : Int) := (by omega)
         have q11 : 0 < a0.size := (by have : (0 : Int) < (a0.size : Int) := da_; omega)
         have hx11 : ∀ h : 0 < a0.size, ((a0[0]'h).toNat : Int) = bt a0 0 := bt_at a0 0
         clear p11
         have qi11 : (0 < (a0.size : Int)) = True := eq_true da_
         replace q11 := eq_true q11
         have p14 : 0 ≤ (1 : Int) := (by omega)
         have q14 : 1 < a0.size := (by have : (1 : Int) < (a0.size : Int) := da_; omega)
         have hx14 : ∀ h : 1 < a0.size, ((a0[1]'h).toNat : Int) = bt a0 1 := bt_at a0 1
         clear p14
         have qi14 : (1 < (a0.size : Int)) = True := eq_true da_
         replace q14 := eq_true q14
         go_wp2_with (first | (go_at_call 92; (with_reducible refine (scan_digit.calls (bt a0 1) true _ A15.out).mono ?_); rintro e w' ⟨rfl, ⟨nd, rfl⟩⟩))
         go_meet
         case rel => exact ⟨_, (2), er_, H', ⟨by have := HJ2.out; first | omega | exact Nat.le_refl _⟩, dr_⟩
        replace c16 := Bool.eq_false_iff.mpr c16
        subst c16
        have H1 : (some 0) = some r := by rw [if_neg (show ¬ (false = true) by decide)] at H; exact H
        clear H
        have H := H1
        clear H1
        obtain rfl := Option.some.inj H
        have p11 : 0 ≤ (0 : Int) := (by omega)
        have q11 : 0 < a0.size := (by have : (0 : Int) < (a0.size : Int) := da_; omega)
        have hx11 : ∀ h : 0 < a0.size, ((a0[0]'h).toNat : Int) = bt a0 0 := bt_at a0 0
        clear p11
        have qi11 : (0 < (a0.size : Int)) = True := eq_true da_
        replace q11 := eq_true q11
        have p14 : 0 ≤ (1 : Int) := (by omega)
        have q14 : 1 < a0.size := (by have : (1 : Int) < (a0.size : Int) := da_; omega)
        have hx14 : ∀ h : 1 < a0.size, ((a0[1]'h).toNat : Int) = bt a0 1 := bt_at a0 1
        clear p14
        have qi14 : (1 < (a0.size : Int)) = True := eq_true da_
        replace q14 := eq_true q14
        go_wp2_with (first | (go_at_call 92; (with_reducible refine (scan_digit.calls (bt a0 1) false _ A15.out).mono ?_); rintro e w' ⟨rfl, ⟨nd, rfl⟩⟩))
        go_ret
        exact ⟨er_, dr_⟩
       exact absurd H (by simp)
      obtain rfl := Option.some.inj H
      have p11 : 0 ≤ (0 : Int) := (by omega)
      have q11 : 0 < a0.size := (by have : (0 : Int) < (a0.size : Int) := da_; omega)
      have hx11 : ∀ h : 0 < a0.size, ((a0[0]'h).toNat : Int) = bt a0 0 := bt_at a0 0
      clear p11
      have qi11 : (0 < (a0.size : Int)) = True := eq_true da_
      replace q11 := eq_true q11
      go_wp2
      go_ret
      exact ⟨er_, dr_⟩
     exact absurd H (by simp)
    have c9b0 : decide (1 < (a0.size : Int)) = false := decide_eq_false c9
    have c9b1 : decide (1 < a0.size) = false := decide_eq_false (by omega)
    clear c9
    obtain rfl := Option.some.inj H
    go_wp2
    go_ret
    exact ⟨er_, dr_⟩
 case rest =>
  clear HC2
  try clear c4
  try clear c4b0
  try clear c4b1
  try clear c5
  try clear c5b0
  try clear c5b1
  try clear p6
  try clear q6
  try clear hx6
  try clear qi6
  try clear c8
  try clear c9
  try clear c9b0
  try clear c9b1
  try clear c10
  try clear c10b0
  try clear c10b1
  try clear p11
  try clear q11
  try clear hx11
  try clear qi11
  try clear c12
  try clear c12b0
  try clear c12b1
  try clear c13
  try clear c13b0
  try clear c13b1
  try clear p14
  try clear q14
  try clear hx14
  try clear qi14
  try clear c16
  try clear p11
  try clear p14
  try clear p6
  try clear q11
  try clear q14
  try clear q6
  obtain ⟨kq, x3_1, rfl, HA, HJ1, ⟨mc1, rfl⟩⟩ := hcut
  cases kq with
  | zero => exact absurd HA.out (by simp [scan_number.j1])
  | succ kj1 =>
   have H := HA.out
   clear HA
   simp only [scan_number.j1] at H
   have H' := Aside0.mk H
   clear H
   go_wp2
   go_loopg [3] kj1 (fun kq v3 w' => ∃ (x3_2 : Int), v3 = .int .i64 x3_2 ∧ Aside0 (scan_number.l0 kq a0 x3_2 = some r) ∧ Aside0 (kq ≤ kj1) ∧ Drawn0 w w')
   case atStart => exact ⟨(x3_1), er_, H', ⟨Nat.le_refl _⟩, dr_⟩
   case round =>
    clear H'
    try clear c4
    try clear c4b0
    try clear c4b1
    try clear c5
    try clear c5b0
    try clear c5b1
    try clear p6
    try clear q6
    try clear hx6
    try clear qi6
    try clear c8
    try clear c9
    try clear c9b0
    try clear c9b1
    try clear c10
    try clear c10b0
    try clear c10b1
    try clear p11
    try clear q11
    try clear hx11
    try clear qi11
    try clear c12
    try clear c12b0
    try clear c12b1
    try clear c13
    try clear c13b0
    try clear c13b1
    try clear p14
    try clear q14
    try clear hx14
    try clear qi14
    try clear c16
    try clear p11
    try clear p14
    try clear p6
    try clear q11
    try clear q14
    try clear q6
    obtain ⟨x3_2, rfl, HA, HK2, ⟨m2, rfl⟩⟩ := hrel
    cases gk with
    | zero => exact absurd HA.out (by simp [scan_number.l0])
    | succ k2 =>
     have H := HA.out
     clear HA
     simp only [scan_number.l0] at H
     replace H := ib_ H
     obtain ⟨c17, H⟩ | ⟨c17, H⟩ := H
     ·have c17b0 := decide_eq_true c17
      clear c17
      have HC18 := Aside0.mk H
      clear H
      go_upto_region 9 with (fail)
      go_cut [31] (fun v31 wc => ∃ (kq : Nat) (x31_17 : Bool), v31 = .bool x31_17 ∧ Aside0 (scan_number.j3 kq a0 x3_2 x31_17 = some r) ∧ Aside0 (kq ≤ k2) ∧ Drawn0 w wc)
      case first =>
       have H := HC18.out
       clear HC18
       replace H := id_ H
       obtain ⟨-, c19b0, H⟩ | ⟨-, -, H⟩ := H
       ·(first | rw [c19b0] | (simp only [i64_w, i32_w]; rw [c19b0]) | skip)
        replace H := Option.bind_eq_some_iff.mp H
        obtain ⟨t118, A210, H⟩ := H
        replace H : (if t118 ≥ 0 then (if (wrap64 (x3_2 + 1)) < (a0.size : Int) then (if 0 ≤ (wrap64 (x3_2 + 1)) then (if (bt a0 (wrap64 (x3_2 + 1))) = 43 then (scan_number.j3 k2 a0 x3_2 true) else (scan_number.j3 k2 a0 x3_2 ((bt a0 (wrap64 (x3_2 + 1))) == 45))) else (none)) else (scan_number.j3 k2 a0 x3_2 false)) else (scan_number.j3 k2 a0 x3_2 false)) = some r := H
        have A21 := Aside0.mk A210
        clear A210
        replace H := ib_ H
        obtain ⟨c22, H⟩ | ⟨c22, H⟩ := H
        ·have c22b0 : decide (0 ≤ t118) = true := decide_eq_true c22
         clear c22
         replace H := id_ H
         obtain ⟨-, c23b0, H⟩ | ⟨-, c23b0, H⟩ := H
         ·obtain ⟨ji24, hji24⟩ : ∃ j_ : Int, (wrap64 (x3_2 + 1)) = j_ := ⟨_, rfl⟩
          replace H : (if 0 ≤ (ji24) then (if (bt a0 (ji24)) = 43 then (scan_number.j3 k2 a0 x3_2 true) else (scan_number.j3 k2 a0 x3_2 ((bt a0 (ji24)) == 45))) else (none)) = some r := by first | (rw [hji24] at H; exact H) | (simp only [hji24] at H ⊢; exact H)
          (try rw [hji24] at c23b0)
          (try rw [hji24] at A21)
          have hji24w : (IntKind.i64.wrap (x3_2 + 1)) = ji24 := (i64_w _).trans hji24
          replace H := id_ H
          obtain ⟨-, c25b0, H⟩ | ⟨-, -, H⟩ := H
          ·replace H := ie_ H
           obtain ⟨c27b0, c27b1, H⟩ | ⟨c27b0, c27b1, c27, H⟩ := H
           ·have H' := Aside0.mk H
            clear H
            have p20 : 0 ≤ (x3_2 : Int) := da_
            have q20 : x3_2 < (a0.size : Int) := da_
            have hx20 := bt_at a0 x3_2
            replace p20 := eq_true p20
            replace q20 := eq_true q20
            go_wp2_with (first | ((with_reducible refine gate_callee (f := 53) rfl ?_); refine goesL_ (some 35) rfl rfl Tryd.func53 (by kernel_rfl) rfl #[.string (⟨#[101, 69, 112, 80]⟩ : ByteArray), .int .u8 (bt a0 x3_2)] rfl ar_ ?_; (with_reducible refine (LibG.strings_IndexByte.calls (⟨#[101, 69, 112, 80]⟩ : ByteArray) (bt a0 x3_2) t118 _ A21.out).mono ?_); rintro e w' ⟨rfl, ⟨nd, rfl⟩⟩; refine ⟨_, rfl, ?_⟩; have p26 : 0 ≤ ((ji24) : Int) := da_; have q26 : (ji24) < (a0.size : Int) := da_; have hx26 := bt_at a0 (ji24); replace p26 := eq_true p26; replace q26 := eq_true q26))
            go_meet
            case rel => exact ⟨_, (true), er_, H', ⟨by have := HJ1.out; have := HK2.out; first | omega | exact Nat.le_refl _⟩, dr_⟩
           have H' := Aside0.mk H
           clear H
           have p20 : 0 ≤ (x3_2 : Int) := da_
           have q20 : x3_2 < (a0.size : Int) := da_
           have hx20 := bt_at a0 x3_2
           replace p20 := eq_true p20
           replace q20 := eq_true q20
           go_wp2_with (first | ((with_reducible refine gate_callee (f := 53) rfl ?_); refine goesL_ (some 35) rfl rfl Tryd.func53 (by kernel_rfl) rfl #[.string (⟨#[101, 69, 112, 80]⟩ : ByteArray), .int .u8 (bt a0 x3_2)] rfl ar_ ?_; (with_reducible refine (LibG.strings_IndexByte.calls (⟨#[101, 69, 112, 80]⟩ : ByteArray) (bt a0 x3_2) t118 _ A21.out).mono ?_); rintro e w' ⟨rfl, ⟨nd, rfl⟩⟩; refine ⟨_, rfl, ?_⟩; have p26 : 0 ≤ ((ji24) : Int) := da_; have q26 : (ji24) < (a0.size : Int) := da_; have hx26 := bt_at a0 (ji24); replace p26 := eq_true p26; replace q26 := eq_true q26; have p28 : 0 ≤ ((ji24) : Int) := da_; have q28 : (ji24) < (a0.size : Int) := da_; have hx28 := bt_at a0 (ji24); replace p28 := eq_true p28; replace q28 := eq_true q28))
           go_meet
           case rel => exact ⟨_, (((bt a0 (ji24)) == 45)), (by first | rfl | (simp; done) | (simp only [← hji24] <;> (first | rfl | simp)) | (simp [*]; done)), H', ⟨by have := HJ1.out; have := HK2.out; first | omega | exact Nat.le_refl _⟩, dr_⟩
          exact absurd H (by simp)
         have H' := Aside0.mk H
         clear H
         have p20 : 0 ≤ (x3_2 : Int) := da_
         have q20 : x3_2 < (a0.size : Int) := da_
         have hx20 := bt_at a0 x3_2
         replace p20 := eq_true p20
         replace q20 := eq_true q20
         go_wp2_with (first | ((with_reducible refine gate_callee (f := 53) rfl ?_); refine goesL_ (some 35) rfl rfl Tryd.func53 (by kernel_rfl) rfl #[.string (⟨#[101, 69, 112, 80]⟩ : ByteArray), .int .u8 (bt a0 x3_2)] rfl ar_ ?_; (with_reducible refine (LibG.strings_IndexByte.calls (⟨#[101, 69, 112, 80]⟩ : ByteArray) (bt a0 x3_2) t118 _ A21.out).mono ?_); rintro e w' ⟨rfl, ⟨nd, rfl⟩⟩; refine ⟨_, rfl, ?_⟩))
         go_meet
         case rel => exact ⟨_, (false), er_, H', ⟨by have := HJ1.out; have := HK2.out; first | omega | exact Nat.le_refl _⟩, dr_⟩
        have c22b0 : decide (0 ≤ t118) = false := decide_eq_false c22
        clear c22
        have H' := Aside0.mk H
        clear H
        have p20 : 0 ≤ (x3_2 : Int) := da_
        have q20 : x3_2 < (a0.size : Int) := da_
        have hx20 := bt_at a0 x3_2
        replace p20 := eq_true p20
        replace q20 := eq_true q20
        go_wp2_with (first | ((with_reducible refine gate_callee (f := 53) rfl ?_); refine goesL_ (some 35) rfl rfl Tryd.func53 (by kernel_rfl) rfl #[.string (⟨#[101, 69, 112, 80]⟩ : ByteArray), .int .u8 (bt a0 x3_2)] rfl ar_ ?_; (with_reducible refine (LibG.strings_IndexByte.calls (⟨#[101, 69, 112, 80]⟩ : ByteArray) (bt a0 x3_2) t118 _ A21.out).mono ?_); rintro e w' ⟨rfl, ⟨nd, rfl⟩⟩; refine ⟨_, rfl, ?_⟩))
        go_meet
        case rel => exact ⟨_, (false), er_, H', ⟨by have := HJ1.out; have := HK2.out; first | omega | exact Nat.le_refl _⟩, dr_⟩
       exact absurd H (by simp)
      case rest =>
       clear HC18
       try clear c4
       try clear c4b0
       try clear c4b1
       try clear c5
       try clear c5b0
       try clear c5b1
       try clear p6
       try clear q6
       try clear hx6
       try clear qi6
       try clear c8
       try clear c9
       try clear c9b0
       try clear c9b1
       try clear c10
       try clear c10b0
       try clear c10b1
       try clear p11
       try clear q11
       try clear hx11
       try clear qi11
       try clear c12
       try clear c12b0
       try clear c12b1
       try clear c13
       try clear c13b0
       try clear c13b1
       try clear p14
       try clear q14
       try clear hx14
       try clear qi14
       try clear c16
       try clear c17
       try clear c17b0
       try clear c19b0
       try clear p20
       try clear q20
       try clear hx20
       try clear c22
       try clear c22b0
       try clear c23b0
       try clear c25b0
       try clear p26
       try clear q26
       try clear hx26
       try clear c27
       try clear c27b0
       try clear c27b1
       try clear p28
       try clear q28
       try clear hx28
       try clear p11
       try clear p14
       try clear p20
       try clear p26
       try clear p28
       try clear p6
       try clear q11
       try clear q14
       try clear q20
       try clear q26
       try clear q28
       try clear q6
       obtain ⟨kq, x31_17, rfl, HA, HJ17, ⟨mc17, rfl⟩⟩ := hcut
       cases kq with
       | zero => exact absurd HA.out (by simp [scan_number.j3])
       | succ kj17 =>
        have H := HA.out
        clear HA
        simp only [scan_number.j3] at H
        by_cases c29 : x31_17 = true
        ·subst c29
         have H1 : (scan_number.l0 kj17 a0 (wrap64 (x3_2 + 2))) = some r := by rw [if_pos rfl] at H; exact H
         clear H
         have H := H1
         clear H1
         have H' := Aside0.mk H
         clear H
         go_wp2
         go_roundg kj17
         case measure => have := HJ1.out; have := HK2.out; have := HJ17.out; omega
         case rel => exact ⟨(wrap64 (x3_2 + 2)), er_, H', ⟨by have := HJ1.out; have := HK2.out; have := HJ17.out; omega⟩, dr_⟩
        replace c29 := Bool.eq_false_iff.mpr c29
        subst c29
        have H1 : (if 0 ≤ x3_2 then (if x3_2 < (a0.size : Int) then ((scan_digit.f (bt a0 x3_2)).bind fun t119 => (if t119 = true then (scan_number.l0 kj17 a0 (wrap64 (x3_2 + 1))) else ((scan_letter.f (bt a0 x3_2)).bind fun t120 => (if t120 = true then (scan_number.l0 kj17 a0 (wrap64 (x3_2 + 1))) else (if (bt a0 x3_2) = 46 then (scan_number.l0 kj17 a0 (wrap64 (x3_2 + 1))) else (some x3_2)))))) else (none)) else (none)) = some r := by rw [if_neg (show ¬ (false = true) by decide)] at H; exact H
        clear H
        have H := H1
        clear H1
        replace H := id_ H
        obtain ⟨-, c30b0, H⟩ | ⟨-, -, H⟩ := H
        ·replace H := id_ H
         obtain ⟨-, c31b0, H⟩ | ⟨-, -, H⟩ := H
         ·replace H := Option.bind_eq_some_iff.mp H
          obtain ⟨t119, A330, H⟩ := H
          replace H : (if t119 = true then (scan_number.l0 kj17 a0 (wrap64 (x3_2 + 1))) else ((scan_letter.f (bt a0 x3_2)).bind fun t120 => (if t120 = true then (scan_number.l0 kj17 a0 (wrap64 (x3_2 + 1))) else (if (bt a0 x3_2) = 46 then (scan_number.l0 kj17 a0 (wrap64 (x3_2 + 1))) else (some x3_2))))) = some r := H
          have A33 := Aside0.mk A330
          clear A330
          by_cases c34 : t119 = true
          ·subst c34
           have H1 : (scan_number.l0 kj17 a0 (wrap64 (x3_2 + 1))) = some r := by rw [if_pos rfl] at H; exact H
           clear H
           have H := H1
           clear H1
           have H' := Aside0.mk H
           clear H
           have p32 : 0 ≤ (x3_2 : Int) := da_
           have q32 : x3_2 < (a0.size : Int) := da_
           have hx32 := bt_at a0 x3_2
           replace p32 := eq_true p32
           replace q32 := eq_true q32
           go_wp2_with (first | ((with_reducible refine gate_callee (f := 92) rfl ?_); refine goesL_ (some 64) rfl rfl Tryd.func92 (by kernel_rfl) rfl #[.int .u8 (bt a0 x3_2)] rfl ar_ ?_; (with_reducible refine (scan_digit.calls (bt a0 x3_2) true _ A33.out).mono ?_); rintro e w' ⟨rfl, ⟨nd, rfl⟩⟩; refine ⟨_, rfl, ?_⟩))
           go_roundg kj17
           case measure => have := HJ1.out; have := HK2.out; have := HJ17.out; omega
           case rel => exact ⟨(wrap64 (x3_2 + 1)), er_, H', ⟨by have := HJ1.out; have := HK2.out; have := HJ17.out; omega⟩, dr_⟩
          replace c34 := Bool.eq_false_iff.mpr c34
          subst c34
          have H1 : ((scan_letter.f (bt a0 x3_2)).bind fun t120 => (if t120 = true then (scan_number.l0 kj17 a0 (wrap64 (x3_2 + 1))) else (if (bt a0 x3_2) = 46 then (scan_number.l0 kj17 a0 (wrap64 (x3_2 + 1))) else (some x3_2)))) = some r := by rw [if_neg (show ¬ (false = true) by decide)] at H; exact H
          clear H
          have H := H1
          clear H1
          replace H := Option.bind_eq_some_iff.mp H
          obtain ⟨t120, A360, H⟩ := H
          replace H : (if t120 = true then (scan_number.l0 kj17 a0 (wrap64 (x3_2 + 1))) else (if (bt a0 x3_2) = 46 then (scan_number.l0 kj17 a0 (wrap64 (x3_2 + 1))) else (some x3_2))) = some r := H
          have A36 := Aside0.mk A360
          clear A360
          by_cases c37 : t120 = true
          ·subst c37
           have H1 : (scan_number.l0 kj17 a0 (wrap64 (x3_2 + 1))) = some r := by rw [if_pos rfl] at H; exact H
           clear H
           have H := H1
           clear H1
           have H' := Aside0.mk H
           clear H
           have p32 : 0 ≤ (x3_2 : Int) := da_
           have q32 : x3_2 < (a0.size : Int) := da_
           have hx32 := bt_at a0 x3_2
           replace p32 := eq_true p32
           replace q32 := eq_true q32
           go_wp2_with (first | ((with_reducible refine gate_callee (f := 92) rfl ?_); refine goesL_ (some 64) rfl rfl Tryd.func92 (by kernel_rfl) rfl #[.int .u8 (bt a0 x3_2)] rfl ar_ ?_; (with_reducible refine (scan_digit.calls (bt a0 x3_2) false _ A33.out).mono ?_); rintro e w' ⟨rfl, ⟨nd, rfl⟩⟩; refine ⟨_, rfl, ?_⟩; have p35 : 0 ≤ (x3_2 : Int) := da_; have q35 : x3_2 < (a0.size : Int) := da_; have hx35 := bt_at a0 x3_2; replace p35 := eq_true p35; replace q35 := eq_true q35) | (go_at_call 91; (with_reducible refine (scan_letter.calls (bt a0 x3_2) true _ A36.out).mono ?_); rintro e w' ⟨rfl, ⟨nd, rfl⟩⟩))
           go_roundg kj17
           case measure => have := HJ1.out; have := HK2.out; have := HJ17.out; omega
           case rel => exact ⟨(wrap64 (x3_2 + 1)), er_, H', ⟨by have := HJ1.out; have := HK2.out; have := HJ17.out; omega⟩, dr_⟩
          replace c37 := Bool.eq_false_iff.mpr c37
          subst c37
          have H1 : (if (bt a0 x3_2) = 46 then (scan_number.l0 kj17 a0 (wrap64 (x3_2 + 1))) else (some x3_2)) = some r := by rw [if_neg (show ¬ (false = true) by decide)] at H; exact H
          clear H
          have H := H1
          clear H1
          replace H := ie_ H
          obtain ⟨c39b0, c39b1, H⟩ | ⟨c39b0, c39b1, c39, H⟩ := H
          ·have H' := Aside0.mk H
           clear H
           have p32 : 0 ≤ (x3_2 : Int) := da_
           have q32 : x3_2 < (a0.size : Int) := da_
           have hx32 := bt_at a0 x3_2
           replace p32 := eq_true p32
           replace q32 := eq_true q32
           go_wp2_with (first | ((with_reducible refine gate_callee (f := 92) rfl ?_); refine goesL_ (some 64) rfl rfl Tryd.func92 (by kernel_rfl) rfl #[.int .u8 (bt a0 x3_2)] rfl ar_ ?_; (with_reducible refine (scan_digit.calls (bt a0 x3_2) false _ A33.out).mono ?_); rintro e w' ⟨rfl, ⟨nd, rfl⟩⟩; refine ⟨_, rfl, ?_⟩; have p35 : 0 ≤ (x3_2 : Int) := da_; have q35 : x3_2 < (a0.size : Int) := da_; have hx35 := bt_at a0 x3_2; replace p35 := eq_true p35; replace q35 := eq_true q35) | (go_at_call 91; (with_reducible refine (scan_letter.calls (bt a0 x3_2) false _ A36.out).mono ?_); rintro e w' ⟨rfl, ⟨nd, rfl⟩⟩; have p38 : 0 ≤ (x3_2 : Int) := da_; have q38 : x3_2 < (a0.size : Int) := da_; have hx38 := bt_at a0 x3_2; replace p38 := eq_true p38; replace q38 := eq_true q38))
           go_roundg kj17
           case measure => have := HJ1.out; have := HK2.out; have := HJ17.out; omega
           case rel => exact ⟨(wrap64 (x3_2 + 1)), er_, H', ⟨by have := HJ1.out; have := HK2.out; have := HJ17.out; omega⟩, dr_⟩
          obtain rfl := Option.some.inj H
          have p32 : 0 ≤ (x3_2 : Int) := da_
          have q32 : x3_2 < (a0.size : Int) := da_
          have hx32 := bt_at a0 x3_2
          replace p32 := eq_true p32
          replace q32 := eq_true q32
          go_wp2_with (first | ((with_reducible refine gate_callee (f := 92) rfl ?_); refine goesL_ (some 64) rfl rfl Tryd.func92 (by kernel_rfl) rfl #[.int .u8 (bt a0 x3_2)] rfl ar_ ?_; (with_reducible refine (scan_digit.calls (bt a0 x3_2) false _ A33.out).mono ?_); rintro e w' ⟨rfl, ⟨nd, rfl⟩⟩; refine ⟨_, rfl, ?_⟩; have p35 : 0 ≤ (x3_2 : Int) := da_; have q35 : x3_2 < (a0.size : Int) := da_; have hx35 := bt_at a0 x3_2; replace p35 := eq_true p35; replace q35 := eq_true q35) | (go_at_call 91; (with_reducible refine (scan_letter.calls (bt a0 x3_2) false _ A36.out).mono ?_); rintro e w' ⟨rfl, ⟨nd, rfl⟩⟩; have p38 : 0 ≤ (x3_2 : Int) := da_; have q38 : x3_2 < (a0.size : Int) := da_; have hx38 := bt_at a0 x3_2; replace p38 := eq_true p38; replace q38 := eq_true q38))
          go_ret
          exact ⟨er_, dr_⟩
         exact absurd H (by simp)
        exact absurd H (by simp)
     have c17b0 := decide_eq_false c17
     clear c17
     obtain rfl := Option.some.inj H
     go_wp2
     go_ret
     exact ⟨er_, dr_⟩
end Go.Proofs.YtcdleippdegibaaDoor.PS
