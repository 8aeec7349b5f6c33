import Derived.Test.YtcdleippdegibaaDoorNInt
import Derived.StillTailTactics
namespace Go.Proofs.YtcdleippdegibaaDoor.Digits
open Go.RowKit Go.Shelf Go.Proofs Go.Proofs.YtcdleippdegibaaDoorW.PrintWords Go.Proofs.YtcdleippdegibaaDoor.Iter Go.Proofs.YtcdleippdegibaaDoor.PB
attribute [local go_sem] Oper.semAt_some
def eStep (base : Int) (v d : Int) : Int := min (v * base + d) 1099511627776
def eOf (base : Int) (l : List Int) : Int := l.foldl (eStep base) 0
theorem eOf_snoc (base : Int) (l : List Int) (d : Int) : eOf base (l ++ [d]) = eStep base (eOf base l) d := by simp [eOf, List.foldl_append]
theorem eOf_bound1 {base : Int} (hb : 1 ≤ base) : ∀ (l : List (Dig base)) (v : Int), 0 ≤ v ∧ v ≤ 1099511627776 → 0 ≤ (l.map (·.1)).foldl (eStep base) v ∧ (l.map (·.1)).foldl (eStep base) v ≤ 1099511627776
  | [], v, h => h
  | d :: l, v, h => by
    refine eOf_bound1 hb l (eStep base v d.1) ?_
    have hd := d.2
    have := Int.mul_nonneg h.1 (by omega : 0 ≤ base)
    unfold eStep
    omega
theorem eOf_bound {base : Int} (hb : 1 ≤ base) (l : List (Dig base)) : 0 ≤ eOf base (l.map (·.1)) ∧ eOf base (l.map (·.1)) ≤ 1099511627776 := eOf_bound1 hb l 0 (by omega)
def escRes (base fr : Int) (most : Nat) (s : ByteArray) : Int × Int :=
  if ((digs s base).take most).length = 0 then (0, 0) else (eOf base ((digs s base).take most), fr + (((digs s base).take most).length : Int))
set_option maxRecDepth 100000 in
set_option maxHeartbeats 2000000 in
theorem esc8 (t : ByteArray) (w : World) (h2 : 2 ≤ t.size) (hs : t.size ≤ 140737488355328) (hi : Lib.indexByte [39, 34, 63, 92, 97, 98, 102, 110, 114, 116, 118] (t[1]'h2) < 0) (hx : (((t[1]'h2).toNat : Int) == 120) = false) :
    Calls Tryd.prog 50 #[.string t] w fun e w' => e = .returned (.tuple #[.int .u64 (escRes 8 1 3 (t.extract 1 t.size)).1, .int .i64 (escRes 8 1 3 (t.extract 1 t.size)).2]) ∧ Below w.heap.size w w' := by
  refine calls_marks (callsIn_of_wp_marks Tryd.func50 rfl trivial ?_ rfl)
  refine wpIn_wide.2 ?_
  simp only [Tryd.ntmps50, List.size_toArray, List.length_cons, List.length_nil, Nat.reduceAdd, Nat.reduceSub, Array.replicate_succ, Array.replicate_zero, List.push_toArray, List.append_toArray, List.nil_append, List.cons_append]
  have hi2 : decide (0 ≤ Lib.indexByte [39, 34, 63, 92, 97, 98, 102, 110, 114, 116, 118] (t[1]'h2)) = false := decide_eq_false (by omega)
  have h22 : decide ((t.size : Int) < 2) = false := decide_eq_false (by omega)
  go_wp2_with (fail)
  go_step3
  go_wp2_with (first | (go_at_call 53; refine (Tryd.strings_IndexByte _ _ _).mono ?_; rintro e w' ⟨rfl, hw⟩; obtain rfl := hw.symm))
  go_step3
  go_wp2_with (fail)
  have hge : (1 : Int) ≤ (t.size : Int) := by omega
  refine wp_region_still_tail 4 (by kernel_rfl) (by kernel_rfl) ?_
  simp only [List.take_succ_cons, List.take_zero, List.drop_succ_cons, List.drop_zero]
  change wpStill _ _ (World.drew _) (fun a' => wpList _ _ _ _ a' (World.drew _)) _ _
  repeat still_step
  refine wpStill_nil ?_
  go_wp2_with (first | (go_at_call 42; refine (digits_calls _ _ _).mono ?_; rintro e w' ⟨rfl, rfl⟩))
  obtain ⟨s, hse⟩ : ∃ s, t.extract 1 t.size = s := ⟨_, rfl⟩
  have hss : s.size ≤ t.size := by rw [← hse]; simp
  have HSE := Lib.hid hse
  simp only [hse]
  clear hse
  obtain ⟨M, hM⟩ : ∃ M : Nat, M = 3 := ⟨_, rfl⟩
  have HM := Lib.hid hM
  have hms : M ≤ 140737488355328 := by omega
  have hM0 : 0 < M := by omega
  clear hM
  obtain ⟨W0, hW0⟩ : ∃ W0, ((((((w.alloc (.cells #[.int .i64 8] 3)).alloc (.cells #[.int .i64 3] 3)).alloc (.cells #[.int .i64 0] 3)).alloc (.cells #[.int .u64 0] 32)).alloc (.cells #[.string s] 9)).alloc (.cells #[.int .i64 8] 3)).drew = W0 := ⟨_, rfl⟩
  have p5 : W0.heap[w.heap.size]? = some (.cells #[.int .i64 8] 3) := by rw [← hW0]; exact blk_drew (blk_alloc (blk_alloc (blk_alloc (blk_alloc (blk_alloc (blk_new _ _) _) _) _) _) _)
  have p7 : W0.heap[w.heap.size + 1]? = some (.cells #[.int .i64 (M : Int)] 3) := by rw [← hW0, HM.out]; exact blk_drew (blk_alloc (blk_alloc (blk_alloc (blk_alloc ((by simpa using blk_new (w.alloc (.cells #[.int .i64 8] 3)) (.cells #[.int .i64 3] 3))) _) _) _) _)
  have p8 : W0.heap[w.heap.size + 1 + 1]? = some (.cells #[.int .i64 0] 3) := by rw [← hW0]; exact blk_drew (blk_alloc (blk_alloc (blk_alloc ((by simpa using blk_new ((w.alloc (.cells #[.int .i64 8] 3)).alloc (.cells #[.int .i64 3] 3)) (.cells #[.int .i64 0] 3))) _) _) _)
  have p9 : W0.heap[w.heap.size + 1 + 1 + 1]? = some (.cells #[.int .u64 0] 32) := by rw [← hW0]; exact blk_drew (blk_alloc (blk_alloc ((by simpa using blk_new (((w.alloc (.cells #[.int .i64 8] 3)).alloc (.cells #[.int .i64 3] 3)).alloc (.cells #[.int .i64 0] 3)) (.cells #[.int .u64 0] 32))) _) _)
  have ps : W0.heap[w.heap.size + 1 + 1 + 1 + 1]? = some (.cells #[.string s] 9) := by rw [← hW0]; exact blk_drew (blk_alloc ((by simpa using blk_new ((((w.alloc (.cells #[.int .i64 8] 3)).alloc (.cells #[.int .i64 3] 3)).alloc (.cells #[.int .i64 0] 3)).alloc (.cells #[.int .u64 0] 32)) (.cells #[.string s] 9))) _)
  have pb : W0.heap[w.heap.size + 1 + 1 + 1 + 1 + 1]? = some (.cells #[.int .i64 8] 3) := by rw [← hW0]; exact blk_drew (by simpa using blk_new (((((w.alloc (.cells #[.int .i64 8] 3)).alloc (.cells #[.int .i64 3] 3)).alloc (.cells #[.int .i64 0] 3)).alloc (.cells #[.int .u64 0] 32)).alloc (.cells #[.string s] 9)) (.cells #[.int .i64 8] 3))
  have hz0 : W0.heap.size = w.heap.size + 6 := by rw [← hW0]; simp
  have hB0 : Below w.heap.size w W0 := by rw [← hW0]; exact (((((((Below.refl _ _).alloc (Nat.le_refl _) _).alloc (by simp) _).alloc (by simp; omega) _).alloc (by simp; omega) _).alloc (by simp; omega) _).alloc (by simp; omega) _).drew
  rw [hW0]
  clear hW0
  have hle := digs_le s 8
  have hDl : (digD s 8).length = (digs s 8).length := by rw [← digD_map, List.length_map]
  refine wp_rangeFunc_list (gf := 52) (lb := #[.pointer (some ⟨w.heap.size + 1 + 1 + 1 + 1, 0, none⟩), .pointer (some ⟨w.heap.size + 1 + 1 + 1 + 1 + 1, 0, none⟩)]) rfl (enters_of Tryd.func52 (by kernel_rfl) rfl)
    (digits_stops (fun x : Dig 8 => x.1) (digD s 8) _ (by omega) (w.heap.size + 1 + 1 + 1 + 1) (w.heap.size + 1 + 1 + 1 + 1 + 1) (fun b => b = w.heap.size + 1 + 1 + 1 + 1 ∨ b = w.heap.size + 1 + 1 + 1 + 1 + 1) s 8 (by unfold maxLen; omega) (digD_map s 8) (.inl rfl) (.inr rfl) W0 (cell_of_box_l ps).1 (cell_of_box_l pb).1)
    (by rintro b (rfl | rfl) <;> omega) (fun _ => rfl)
    (fun pre W => (pre.length ≤ M ∧ W.cell? ⟨w.heap.size, 0, none⟩ = some (.int .i64 8) ∧ W.cell? ⟨w.heap.size + 1, 0, none⟩ = some (.int .i64 (M : Int)) ∧ W.cell? ⟨w.heap.size + 1 + 1, 0, none⟩ = some (.int .i64 (pre.length : Int)) ∧ W.frozen? ⟨w.heap.size + 1 + 1, 0, none⟩ = false ∧
      W.cell? ⟨w.heap.size + 1 + 1 + 1, 0, none⟩ = some (.int .u64 (eOf 8 (pre.map (·.1)))) ∧ W.frozen? ⟨w.heap.size + 1 + 1 + 1, 0, none⟩ = false) ∧ Below w.heap.size w W)
    (fun c pre W => (c = .exit 0 ∧ ∃ p0, p0 <+: pre ∧ p0.length = M ∧ W.cell? ⟨w.heap.size + 1 + 1, 0, none⟩ = some (.int .i64 (M : Int)) ∧ W.cell? ⟨w.heap.size + 1 + 1 + 1, 0, none⟩ = some (.int .u64 (eOf 8 (p0.map (·.1))))) ∧ Below w.heap.size w W)
    (OwnFrom.and (Own.from (fun s A B row hs hg hr => by
      obtain ⟨a0, a2, a4, a5, a6, a7, a8⟩ := hs
      exact ⟨a0, cell_kept a2 hg hr, cell_kept a4 hg hr, cell_kept a5 hg hr, (frozen_kept a5 hg hr).trans a6, cell_kept a7 hg hr, (frozen_kept a7 hg hr).trans a8⟩) _) (ownFrom_below (Nat.le_refl _) (by omega)))
    (fun c => OwnFrom.and (Own.from (fun s A B row hs hg hr => by
      obtain ⟨a0, p0, a1, a2, a3, a4⟩ := hs
      exact ⟨a0, p0, a1, a2, cell_kept a3 hg hr, cell_kept a4 hg hr⟩) _) (ownFrom_below (Nat.le_refl _) (by omega)))
    ⟨⟨Nat.zero_le _, (cell_of_box_l p5).1, (cell_of_box_l p7).1, (cell_of_box_l p8).1, (cell_of_box_l p8).2, (cell_of_box_l p9).1, (cell_of_box_l p9).2⟩, hB0⟩ ?a1 ?assign ?body ?done ?stop
  case assign =>
    intro l x W K hK
    gi_wp2
    exact hK
  case body =>
    rintro l pre x W ⟨⟨hM, c5, c7, c8, f8, c9, f9⟩, hBW⟩ hlen
    have hvb := eOf_bound (base := 8) (by omega) pre
    have hx := x.2
    by_cases hq : pre.length = M
    · have hqb : ((pre.length : Int) == (M : Int)) = true := by simp [hq]
      have hqb' : (pre.length == M) = true := by simp [hq]
      have HQ := Lib.hid hq
      clear hq hx hvb hM
      gi_wp2
      refine ⟨KeepsOthers.refl _, ⟨rfl, pre, List.prefix_append _ _, HQ.out, ?_, c9⟩, hBW⟩
      rw [← HQ.out]; exact c8
    · have hqb : ((pre.length : Int) == (M : Int)) = false := beq_eq_false_iff_ne.mpr (by omega)
      have hqb' : (pre.length == M) = false := beq_eq_false_iff_ne.mpr hq
      have hM1 : pre.length + 1 ≤ M := by omega
      have hl1 : (pre.length : Int) + 1 ≤ 140737488355328 := by omega
      have e1 : IntKind.u64.wrap x.1 = x.1 := by rw [IntKind.wrap_u64]; omega
      obtain ⟨v, hv⟩ : ∃ v, eOf 8 (pre.map (·.1)) = v := ⟨_, rfl⟩
      have hsn : Hid (eOf 8 ((pre ++ [x]).map (·.1)) = eStep 8 v x.1) := Lib.hid (by rw [List.map_append, List.map_cons, List.map_nil, eOf_snoc, hv])
      rw [hv] at hvb c9
      have e2 : IntKind.u64.wrap (v * 8) = v * 8 := by rw [IntKind.wrap_u64]; omega
      have e3 : IntKind.u64.wrap (v * 8 + x.1) = v * 8 + x.1 := by rw [IntKind.wrap_u64]; omega
      have HE2 := Lib.hid e2
      have HE3 := Lib.hid e3
      clear hv hq hvb hx e2 e3 hM
      gi_wp2
      rw [HE2.out, HE3.out]
      refine ⟨(KeepsOthers.setCell _ _ _).trans (KeepsOthers.setCell _ _ _), (KeepS.setCell _ (by rintro (h | h) <;> (simp at h; try omega))).trans (KeepS.setCell _ (by rintro (h | h) <;> (simp at h; try omega))),
        ⟨by simp; omega, ?_, ?_, ?_, ?_, ?_, ?_⟩, (hBW.setCell (p := ⟨w.heap.size + 1 + 1 + 1, 0, none⟩) (by show w.heap.size ≤ w.heap.size + 1 + 1 + 1; omega) _).setCell (p := ⟨w.heap.size + 1 + 1, 0, none⟩) (by show w.heap.size ≤ w.heap.size + 1 + 1; omega) _⟩
      · exact ((cell_far (p := ⟨w.heap.size + 1 + 1, 0, none⟩) (by simp; try omega) _).trans (cell_far (p := ⟨w.heap.size + 1 + 1 + 1, 0, none⟩) (by simp; try omega) _)).trans c5
      · exact ((cell_far (p := ⟨w.heap.size + 1 + 1, 0, none⟩) (by simp; try omega) _).trans (cell_far (p := ⟨w.heap.size + 1 + 1 + 1, 0, none⟩) (by simp; try omega) _)).trans c7
      · rw [World.cell?_setCell_same' _ _ _ (by rw [cell_far (p := ⟨w.heap.size + 1 + 1 + 1, 0, none⟩) (by simp; try omega)]; show Option.isSome (W.cell? _) = true; rw [c8]; rfl)]
        simp
      · rw [World.frozen?_setCell, World.frozen?_setCell]; exact f8
      · rw [cell_far (p := ⟨w.heap.size + 1 + 1, 0, none⟩) (by simp; try omega), World.cell?_setCell_same' _ _ _ (by show Option.isSome (W.cell? _) = true; rw [c9]; rfl), hsn.out]
        rfl
      · rw [World.frozen?_setCell, World.frozen?_setCell]; exact f9
  case done =>
    rintro B W hD ⟨⟨hM, c5, c7, c8, f8, c9, f9⟩, hBW⟩ hK
    have hb : Below w.heap.size w (W.putObj B (.deferred none)) := hBW.trans (belowK_b (w := w) (Nat.le_refl _) _ B _ _ (by omega) hK rfl rfl)
    rw [digD_map] at c9
    rw [hDl] at c8 hM
    have htk : (digs s 8).take M = digs s 8 := List.take_of_length_le hM
    obtain ⟨v, hv⟩ : ∃ v, eOf 8 (digs s 8) = v := ⟨_, rfl⟩
    have hres : escRes 8 1 M s = if (digs s 8).length = 0 then (0, 0) else (v, 1 + ((digs s 8).length : Int)) := by unfold escRes; rw [htk, hv]
    rw [hv] at c9
    generalize (digs s 8).length = nn at hres c8 hM hle
    by_cases h0 : nn = 0
    · subst h0
      have HR : Hid (Ending.returned (.tuple #[.int .u64 0, .int .i64 0]) = .returned (.tuple #[.int .u64 (escRes 8 1 3 (t.extract 1 t.size)).1, .int .i64 (escRes 8 1 3 (t.extract 1 t.size)).2])) := Lib.hid (by rw [HSE.out, ← HM.out, hres]; rfl)
      clear hres hv htk hDl hle hM
      go_wp2
      rw [Exit.noGoto_ret]
      refine ⟨by simp, .inl ⟨_, _, rfl, run_takeDeferred hK, ?_⟩⟩
      refine ⟨_, ?_, HR.out, hb⟩
      simp [results, Tryd.results50, go_sem]
    · have hb0 : ((nn : Int) == 0) = false := beq_eq_false_iff_ne.mpr (by omega)
      have HR : Hid (Ending.returned (.tuple #[.int .u64 v, .int .i64 (1 + (nn : Int))]) = .returned (.tuple #[.int .u64 (escRes 8 1 3 (t.extract 1 t.size)).1, .int .i64 (escRes 8 1 3 (t.extract 1 t.size)).2])) := Lib.hid (by rw [HSE.out, ← HM.out, hres, if_neg h0])
      have hn1 : (nn : Int) + 2 ≤ 281474976710656 := by omega
      clear hres hv htk hDl hle hM h0
      go_wp2
      go_quiet (fail)
      go_wp2
      rw [Exit.noGoto_ret]
      have hK' : (W.drewN nq).heap[B]? = some (.deferred (some [])) := hK
      refine ⟨by simp, .inl ⟨_, _, rfl, run_takeDeferred hK', ?_⟩⟩
      refine ⟨_, ?_, HR.out, ?_⟩
      · simp [results, Tryd.results50, go_sem]
      · exact (pw_below_drewN hBW nq).trans (belowK_b (w := w) (Nat.le_refl _) _ B _ _ (by omega) hK' rfl rfl)
  case stop =>
    rintro B c pre W hD hp ⟨⟨rfl, p0, hp0, hl0, c8, c9⟩, hBW⟩ hK
    have htk : (digs s 8).take M = p0.map (·.1) := by
      obtain ⟨r, hr⟩ := hp0.trans hp
      rw [← digD_map, ← hr, List.map_append, List.take_left' (by rw [List.length_map]; exact hl0)]
    obtain ⟨v, hv⟩ : ∃ v, eOf 8 (p0.map (·.1)) = v := ⟨_, rfl⟩
    have HR : Hid (Ending.returned (.tuple #[.int .u64 v, .int .i64 (1 + (M : Int))]) = .returned (.tuple #[.int .u64 (escRes 8 1 3 (t.extract 1 t.size)).1, .int .i64 (escRes 8 1 3 (t.extract 1 t.size)).2])) := Lib.hid (by
      rw [HSE.out, ← HM.out]; unfold escRes; rw [htk, hv, List.length_map, hl0, if_neg (by omega)])
    rw [hv] at c9
    have hb0 : ((M : Int) == 0) = false := beq_eq_false_iff_ne.mpr (by omega)
    have hn1 : (M : Int) + 2 ≤ 281474976710656 := by omega
    clear htk hv hp hp0 hl0 hDl hle hM0
    go_wp2
    go_quiet (fail)
    go_wp2
    rw [Exit.noGoto_ret]
    have hK' : (W.drewN nq).heap[B]? = some (.deferred (some [])) := hK
    refine ⟨by simp, .inl ⟨_, _, rfl, run_takeDeferred hK', ?_⟩⟩
    refine ⟨_, ?_, HR.out, ?_⟩
    · simp [results, Tryd.results50, go_sem]
    · exact (pw_below_drewN hBW nq).trans (belowK_b (w := w) (Nat.le_refl _) _ B _ _ (by omega) hK' rfl rfl)
set_option maxRecDepth 100000 in
set_option maxHeartbeats 2000000 in
theorem esc16 (t : ByteArray) (w : World) (h2 : 2 ≤ t.size) (hs : t.size ≤ 140737488355328) (hi : Lib.indexByte [39, 34, 63, 92, 97, 98, 102, 110, 114, 116, 118] (t[1]'h2) < 0) (hx : (((t[1]'h2).toNat : Int) == 120) = true) :
    Calls Tryd.prog 50 #[.string t] w fun e w' => e = .returned (.tuple #[.int .u64 (escRes 16 2 t.size (t.extract 2 t.size)).1, .int .i64 (escRes 16 2 t.size (t.extract 2 t.size)).2]) ∧ Below w.heap.size w w' := by
  refine calls_marks (callsIn_of_wp_marks Tryd.func50 rfl trivial ?_ rfl)
  refine wpIn_wide.2 ?_
  simp only [Tryd.ntmps50, List.size_toArray, List.length_cons, List.length_nil, Nat.reduceAdd, Nat.reduceSub, Array.replicate_succ, Array.replicate_zero, List.push_toArray, List.append_toArray, List.nil_append, List.cons_append]
  have hi2 : decide (0 ≤ Lib.indexByte [39, 34, 63, 92, 97, 98, 102, 110, 114, 116, 118] (t[1]'h2)) = false := decide_eq_false (by omega)
  have h22 : decide ((t.size : Int) < 2) = false := decide_eq_false (by omega)
  go_wp2_with (fail)
  go_step3
  go_wp2_with (first | (go_at_call 53; refine (Tryd.strings_IndexByte _ _ _).mono ?_; rintro e w' ⟨rfl, hw⟩; obtain rfl := hw.symm))
  go_step3
  go_wp2_with (fail)
  have hge : (2 : Int) ≤ (t.size : Int) := by omega
  refine wp_region_still_tail 4 (by kernel_rfl) (by kernel_rfl) ?_
  simp only [List.take_succ_cons, List.take_zero, List.drop_succ_cons, List.drop_zero]
  change wpStill _ _ (World.drew _) (fun a' => wpList _ _ _ _ a' (World.drew _)) _ _
  repeat still_step
  refine wpStill_nil ?_
  go_wp2_with (first | (go_at_call 42; refine (digits_calls _ _ _).mono ?_; rintro e w' ⟨rfl, rfl⟩))
  obtain ⟨s, hse⟩ : ∃ s, t.extract 2 t.size = s := ⟨_, rfl⟩
  have hss : s.size ≤ t.size := by rw [← hse]; simp
  have HSE := Lib.hid hse
  simp only [hse]
  clear hse
  obtain ⟨M, hM⟩ : ∃ M : Nat, M = t.size := ⟨_, rfl⟩
  have HM := Lib.hid hM
  have hms : M ≤ 140737488355328 := by omega
  have hM0 : 0 < M := by omega
  clear hM
  obtain ⟨W0, hW0⟩ : ∃ W0, ((((((w.alloc (.cells #[.int .i64 16] 3)).alloc (.cells #[.int .i64 (t.size : Int)] 3)).alloc (.cells #[.int .i64 0] 3)).alloc (.cells #[.int .u64 0] 32)).alloc (.cells #[.string s] 9)).alloc (.cells #[.int .i64 16] 3)).drew = W0 := ⟨_, rfl⟩
  have p5 : W0.heap[w.heap.size]? = some (.cells #[.int .i64 16] 3) := by rw [← hW0]; exact blk_drew (blk_alloc (blk_alloc (blk_alloc (blk_alloc (blk_alloc (blk_new _ _) _) _) _) _) _)
  have p7 : W0.heap[w.heap.size + 1]? = some (.cells #[.int .i64 (M : Int)] 3) := by rw [← hW0, HM.out]; exact blk_drew (blk_alloc (blk_alloc (blk_alloc (blk_alloc ((by simpa using blk_new (w.alloc (.cells #[.int .i64 16] 3)) (.cells #[.int .i64 (t.size : Int)] 3))) _) _) _) _)
  have p8 : W0.heap[w.heap.size + 1 + 1]? = some (.cells #[.int .i64 0] 3) := by rw [← hW0]; exact blk_drew (blk_alloc (blk_alloc (blk_alloc ((by simpa using blk_new ((w.alloc (.cells #[.int .i64 16] 3)).alloc (.cells #[.int .i64 (t.size : Int)] 3)) (.cells #[.int .i64 0] 3))) _) _) _)
  have p9 : W0.heap[w.heap.size + 1 + 1 + 1]? = some (.cells #[.int .u64 0] 32) := by rw [← hW0]; exact blk_drew (blk_alloc (blk_alloc ((by simpa using blk_new (((w.alloc (.cells #[.int .i64 16] 3)).alloc (.cells #[.int .i64 (t.size : Int)] 3)).alloc (.cells #[.int .i64 0] 3)) (.cells #[.int .u64 0] 32))) _) _)
  have ps : W0.heap[w.heap.size + 1 + 1 + 1 + 1]? = some (.cells #[.string s] 9) := by rw [← hW0]; exact blk_drew (blk_alloc ((by simpa using blk_new ((((w.alloc (.cells #[.int .i64 16] 3)).alloc (.cells #[.int .i64 (t.size : Int)] 3)).alloc (.cells #[.int .i64 0] 3)).alloc (.cells #[.int .u64 0] 32)) (.cells #[.string s] 9))) _)
  have pb : W0.heap[w.heap.size + 1 + 1 + 1 + 1 + 1]? = some (.cells #[.int .i64 16] 3) := by rw [← hW0]; exact blk_drew (by simpa using blk_new (((((w.alloc (.cells #[.int .i64 16] 3)).alloc (.cells #[.int .i64 (t.size : Int)] 3)).alloc (.cells #[.int .i64 0] 3)).alloc (.cells #[.int .u64 0] 32)).alloc (.cells #[.string s] 9)) (.cells #[.int .i64 16] 3))
  have hz0 : W0.heap.size = w.heap.size + 6 := by rw [← hW0]; simp
  have hB0 : Below w.heap.size w W0 := by rw [← hW0]; exact (((((((Below.refl _ _).alloc (Nat.le_refl _) _).alloc (by simp) _).alloc (by simp; omega) _).alloc (by simp; omega) _).alloc (by simp; omega) _).alloc (by simp; omega) _).drew
  rw [hW0]
  clear hW0
  have hle := digs_le s 16
  have hDl : (digD s 16).length = (digs s 16).length := by rw [← digD_map, List.length_map]
  refine wp_rangeFunc_list (gf := 52) (lb := #[.pointer (some ⟨w.heap.size + 1 + 1 + 1 + 1, 0, none⟩), .pointer (some ⟨w.heap.size + 1 + 1 + 1 + 1 + 1, 0, none⟩)]) rfl (enters_of Tryd.func52 (by kernel_rfl) rfl)
    (digits_stops (fun x : Dig 16 => x.1) (digD s 16) _ (by omega) (w.heap.size + 1 + 1 + 1 + 1) (w.heap.size + 1 + 1 + 1 + 1 + 1) (fun b => b = w.heap.size + 1 + 1 + 1 + 1 ∨ b = w.heap.size + 1 + 1 + 1 + 1 + 1) s 16 (by unfold maxLen; omega) (digD_map s 16) (.inl rfl) (.inr rfl) W0 (cell_of_box_l ps).1 (cell_of_box_l pb).1)
    (by rintro b (rfl | rfl) <;> omega) (fun _ => rfl)
    (fun pre W => (pre.length ≤ M ∧ W.cell? ⟨w.heap.size, 0, none⟩ = some (.int .i64 16) ∧ W.cell? ⟨w.heap.size + 1, 0, none⟩ = some (.int .i64 (M : Int)) ∧ W.cell? ⟨w.heap.size + 1 + 1, 0, none⟩ = some (.int .i64 (pre.length : Int)) ∧ W.frozen? ⟨w.heap.size + 1 + 1, 0, none⟩ = false ∧
      W.cell? ⟨w.heap.size + 1 + 1 + 1, 0, none⟩ = some (.int .u64 (eOf 16 (pre.map (·.1)))) ∧ W.frozen? ⟨w.heap.size + 1 + 1 + 1, 0, none⟩ = false) ∧ Below w.heap.size w W)
    (fun c pre W => (c = .exit 0 ∧ ∃ p0, p0 <+: pre ∧ p0.length = M ∧ W.cell? ⟨w.heap.size + 1 + 1, 0, none⟩ = some (.int .i64 (M : Int)) ∧ W.cell? ⟨w.heap.size + 1 + 1 + 1, 0, none⟩ = some (.int .u64 (eOf 16 (p0.map (·.1))))) ∧ Below w.heap.size w W)
    (OwnFrom.and (Own.from (fun s A B row hs hg hr => by
      obtain ⟨a0, a2, a4, a5, a6, a7, a8⟩ := hs
      exact ⟨a0, cell_kept a2 hg hr, cell_kept a4 hg hr, cell_kept a5 hg hr, (frozen_kept a5 hg hr).trans a6, cell_kept a7 hg hr, (frozen_kept a7 hg hr).trans a8⟩) _) (ownFrom_below (Nat.le_refl _) (by omega)))
    (fun c => OwnFrom.and (Own.from (fun s A B row hs hg hr => by
      obtain ⟨a0, p0, a1, a2, a3, a4⟩ := hs
      exact ⟨a0, p0, a1, a2, cell_kept a3 hg hr, cell_kept a4 hg hr⟩) _) (ownFrom_below (Nat.le_refl _) (by omega)))
    ⟨⟨Nat.zero_le _, (cell_of_box_l p5).1, (cell_of_box_l p7).1, (cell_of_box_l p8).1, (cell_of_box_l p8).2, (cell_of_box_l p9).1, (cell_of_box_l p9).2⟩, hB0⟩ ?a1 ?assign ?body ?done ?stop
  case assign =>
    intro l x W K hK
    gi_wp2
    exact hK
  case body =>
    rintro l pre x W ⟨⟨hM, c5, c7, c8, f8, c9, f9⟩, hBW⟩ hlen
    have hvb := eOf_bound (base := 16) (by omega) pre
    have hx := x.2
    by_cases hq : pre.length = M
    · have hqb : ((pre.length : Int) == (M : Int)) = true := by simp [hq]
      have hqb' : (pre.length == M) = true := by simp [hq]
      have HQ := Lib.hid hq
      clear hq hx hvb hM
      gi_wp2
      refine ⟨KeepsOthers.refl _, ⟨rfl, pre, List.prefix_append _ _, HQ.out, ?_, c9⟩, hBW⟩
      rw [← HQ.out]; exact c8
    · have hqb : ((pre.length : Int) == (M : Int)) = false := beq_eq_false_iff_ne.mpr (by omega)
      have hqb' : (pre.length == M) = false := beq_eq_false_iff_ne.mpr hq
      have hM1 : pre.length + 1 ≤ M := by omega
      have hl1 : (pre.length : Int) + 1 ≤ 140737488355328 := by omega
      have e1 : IntKind.u64.wrap x.1 = x.1 := by rw [IntKind.wrap_u64]; omega
      obtain ⟨v, hv⟩ : ∃ v, eOf 16 (pre.map (·.1)) = v := ⟨_, rfl⟩
      have hsn : Hid (eOf 16 ((pre ++ [x]).map (·.1)) = eStep 16 v x.1) := Lib.hid (by rw [List.map_append, List.map_cons, List.map_nil, eOf_snoc, hv])
      rw [hv] at hvb c9
      have e2 : IntKind.u64.wrap (v * 16) = v * 16 := by rw [IntKind.wrap_u64]; omega
      have e3 : IntKind.u64.wrap (v * 16 + x.1) = v * 16 + x.1 := by rw [IntKind.wrap_u64]; omega
      have HE2 := Lib.hid e2
      have HE3 := Lib.hid e3
      clear hv hq hvb hx e2 e3 hM
      gi_wp2
      rw [HE2.out, HE3.out]
      refine ⟨(KeepsOthers.setCell _ _ _).trans (KeepsOthers.setCell _ _ _), (KeepS.setCell _ (by rintro (h | h) <;> (simp at h; try omega))).trans (KeepS.setCell _ (by rintro (h | h) <;> (simp at h; try omega))),
        ⟨by simp; omega, ?_, ?_, ?_, ?_, ?_, ?_⟩, (hBW.setCell (p := ⟨w.heap.size + 1 + 1 + 1, 0, none⟩) (by show w.heap.size ≤ w.heap.size + 1 + 1 + 1; omega) _).setCell (p := ⟨w.heap.size + 1 + 1, 0, none⟩) (by show w.heap.size ≤ w.heap.size + 1 + 1; omega) _⟩
      · exact ((cell_far (p := ⟨w.heap.size + 1 + 1, 0, none⟩) (by simp; try omega) _).trans (cell_far (p := ⟨w.heap.size + 1 + 1 + 1, 0, none⟩) (by simp; try omega) _)).trans c5
      · exact ((cell_far (p := ⟨w.heap.size + 1 + 1, 0, none⟩) (by simp; try omega) _).trans (cell_far (p := ⟨w.heap.size + 1 + 1 + 1, 0, none⟩) (by simp; try omega) _)).trans c7
      · rw [World.cell?_setCell_same' _ _ _ (by rw [cell_far (p := ⟨w.heap.size + 1 + 1 + 1, 0, none⟩) (by simp; try omega)]; show Option.isSome (W.cell? _) = true; rw [c8]; rfl)]
        simp
      · rw [World.frozen?_setCell, World.frozen?_setCell]; exact f8
      · rw [cell_far (p := ⟨w.heap.size + 1 + 1, 0, none⟩) (by simp; try omega), World.cell?_setCell_same' _ _ _ (by show Option.isSome (W.cell? _) = true; rw [c9]; rfl), hsn.out]
        rfl
      · rw [World.frozen?_setCell, World.frozen?_setCell]; exact f9
  case done =>
    rintro B W hD ⟨⟨hM, c5, c7, c8, f8, c9, f9⟩, hBW⟩ hK
    have hb : Below w.heap.size w (W.putObj B (.deferred none)) := hBW.trans (belowK_b (w := w) (Nat.le_refl _) _ B _ _ (by omega) hK rfl rfl)
    rw [digD_map] at c9
    rw [hDl] at c8 hM
    have htk : (digs s 16).take M = digs s 16 := List.take_of_length_le hM
    obtain ⟨v, hv⟩ : ∃ v, eOf 16 (digs s 16) = v := ⟨_, rfl⟩
    have hres : escRes 16 2 M s = if (digs s 16).length = 0 then (0, 0) else (v, 2 + ((digs s 16).length : Int)) := by unfold escRes; rw [htk, hv]
    rw [hv] at c9
    generalize (digs s 16).length = nn at hres c8 hM hle
    by_cases h0 : nn = 0
    · subst h0
      have HR : Hid (Ending.returned (.tuple #[.int .u64 0, .int .i64 0]) = .returned (.tuple #[.int .u64 (escRes 16 2 t.size (t.extract 2 t.size)).1, .int .i64 (escRes 16 2 t.size (t.extract 2 t.size)).2])) := Lib.hid (by rw [HSE.out, ← HM.out, hres]; rfl)
      clear hres hv htk hDl hle hM
      go_wp2
      rw [Exit.noGoto_ret]
      refine ⟨by simp, .inl ⟨_, _, rfl, run_takeDeferred hK, ?_⟩⟩
      refine ⟨_, ?_, HR.out, hb⟩
      simp [results, Tryd.results50, go_sem]
    · have hb0 : ((nn : Int) == 0) = false := beq_eq_false_iff_ne.mpr (by omega)
      have HR : Hid (Ending.returned (.tuple #[.int .u64 v, .int .i64 (2 + (nn : Int))]) = .returned (.tuple #[.int .u64 (escRes 16 2 t.size (t.extract 2 t.size)).1, .int .i64 (escRes 16 2 t.size (t.extract 2 t.size)).2])) := Lib.hid (by rw [HSE.out, ← HM.out, hres, if_neg h0])
      have hn1 : (nn : Int) + 2 ≤ 281474976710656 := by omega
      clear hres hv htk hDl hle hM h0
      go_wp2
      go_quiet (fail)
      go_wp2
      rw [Exit.noGoto_ret]
      have hK' : (W.drewN nq).heap[B]? = some (.deferred (some [])) := hK
      refine ⟨by simp, .inl ⟨_, _, rfl, run_takeDeferred hK', ?_⟩⟩
      refine ⟨_, ?_, HR.out, ?_⟩
      · simp [results, Tryd.results50, go_sem]
      · exact (pw_below_drewN hBW nq).trans (belowK_b (w := w) (Nat.le_refl _) _ B _ _ (by omega) hK' rfl rfl)
  case stop =>
    rintro B c pre W hD hp ⟨⟨rfl, p0, hp0, hl0, c8, c9⟩, hBW⟩ hK
    have htk : (digs s 16).take M = p0.map (·.1) := by
      obtain ⟨r, hr⟩ := hp0.trans hp
      rw [← digD_map, ← hr, List.map_append, List.take_left' (by rw [List.length_map]; exact hl0)]
    obtain ⟨v, hv⟩ : ∃ v, eOf 16 (p0.map (·.1)) = v := ⟨_, rfl⟩
    have HR : Hid (Ending.returned (.tuple #[.int .u64 v, .int .i64 (2 + (M : Int))]) = .returned (.tuple #[.int .u64 (escRes 16 2 t.size (t.extract 2 t.size)).1, .int .i64 (escRes 16 2 t.size (t.extract 2 t.size)).2])) := Lib.hid (by
      rw [HSE.out, ← HM.out]; unfold escRes; rw [htk, hv, List.length_map, hl0, if_neg (by omega)])
    rw [hv] at c9
    have hb0 : ((M : Int) == 0) = false := beq_eq_false_iff_ne.mpr (by omega)
    have hn1 : (M : Int) + 2 ≤ 281474976710656 := by omega
    clear htk hv hp hp0 hl0 hDl hle hM0
    go_wp2
    go_quiet (fail)
    go_wp2
    rw [Exit.noGoto_ret]
    have hK' : (W.drewN nq).heap[B]? = some (.deferred (some [])) := hK
    refine ⟨by simp, .inl ⟨_, _, rfl, run_takeDeferred hK', ?_⟩⟩
    refine ⟨_, ?_, HR.out, ?_⟩
    · simp [results, Tryd.results50, go_sem]
    · exact (pw_below_drewN hBW nq).trans (belowK_b (w := w) (Nat.le_refl _) _ B _ _ (by omega) hK' rfl rfl)
set_option maxRecDepth 100000 in
set_option maxHeartbeats 2000000 in
theorem esc_short (t : ByteArray) (w : World) (h2 : t.size < 2) : Calls Tryd.prog 50 #[.string t] w fun e w' => e = .returned (.tuple #[.int .u64 0, .int .i64 0]) ∧ Below w.heap.size w w' := by
  refine calls_marks (callsIn_of_wp_marks Tryd.func50 rfl trivial ?_ rfl)
  refine wpIn_wide.2 ?_
  simp only [Tryd.ntmps50, List.size_toArray, List.length_cons, List.length_nil, Nat.reduceAdd, Nat.reduceSub, Array.replicate_succ, Array.replicate_zero, List.push_toArray, List.append_toArray, List.nil_append, List.cons_append]
  have h22 : decide ((t.size : Int) < 2) = true := decide_eq_true (by omega)
  go_wp2_with (fail)
  go_step3
  go_wp2_with (fail)
  rw [Exit.noGoto_ret]
  refine ⟨_, ?_, rfl, Below.refl _ _⟩
  simp [results, Tryd.results50, go_sem]
def simB : ByteArray := ⟨#[39, 34, 63, 92, 7, 8, 12, 10, 13, 9, 11]⟩
set_option maxRecDepth 100000 in
set_option maxHeartbeats 2000000 in
theorem esc_simple (t : ByteArray) (w : World) (h2 : 2 ≤ t.size) (hi : 0 ≤ Lib.indexByte [39, 34, 63, 92, 97, 98, 102, 110, 114, 116, 118] (t[1]'h2)) (hi2 : Lib.indexByte [39, 34, 63, 92, 97, 98, 102, 110, 114, 116, 118] (t[1]'h2) < 11) :
    Calls Tryd.prog 50 #[.string t] w fun e w' => e = .returned (.tuple #[.int .u64 (bt simB (Lib.indexByte [39, 34, 63, 92, 97, 98, 102, 110, 114, 116, 118] (t[1]'h2))), .int .i64 2]) ∧ Below w.heap.size w w' := by
  refine calls_marks (callsIn_of_wp_marks Tryd.func50 rfl trivial ?_ rfl)
  refine wpIn_wide.2 ?_
  simp only [Tryd.ntmps50, List.size_toArray, List.length_cons, List.length_nil, Nat.reduceAdd, Nat.reduceSub, Array.replicate_succ, Array.replicate_zero, List.push_toArray, List.append_toArray, List.nil_append, List.cons_append]
  have h22 : decide ((t.size : Int) < 2) = false := decide_eq_false (by omega)
  obtain ⟨j, hj⟩ : ∃ j, Lib.indexByte [39, 34, 63, 92, 97, 98, 102, 110, 114, 116, 118] (t[1]'h2) = j := ⟨_, rfl⟩
  rw [hj] at hi hi2 ⊢
  have hnorm : Lib.indexByte (⟨#[39, 34, 63, 92, 97, 98, 102, 110, 114, 116, 118]⟩ : ByteArray).data.toList ((t[1]'h2).toNat : Int).toNat.toUInt8 = j := by rw [← hj]; simp
  clear hj
  have hj0 : decide (0 ≤ j) = true := decide_eq_true hi
  have hbt : ∀ h : j.toNat < simB.size, ((simB[j.toNat]'h).toNat : Int) = bt simB j := bt_at simB j
  unfold simB at hbt ⊢
  go_wp2_with (fail)
  go_step3
  go_wp2_with (first | (go_at_call 53; refine (Tryd.strings_IndexByte _ _ _).mono ?_; rintro e w' ⟨rfl, hw⟩; obtain rfl := hw.symm; simp only [hnorm]))
  have hr := bt_range ⟨#[39, 34, 63, 92, 7, 8, 12, 10, 13, 9, 11]⟩ j
  have hw2 : IntKind.u64.wrap (bt ⟨#[39, 34, 63, 92, 7, 8, 12, 10, 13, 9, 11]⟩ j) = bt ⟨#[39, 34, 63, 92, 7, 8, 12, 10, 13, 9, 11]⟩ j := by rw [IntKind.wrap_u64]; omega
  rw [hw2]
  refine ⟨_, ?_, rfl, Below.refl _ _⟩
  simp [results, Tryd.results50, go_sem]
def ctok_escape.f (a0 : ByteArray) : Option (Int × Int) :=
  if a0.size ≤ 140737488355328 then
    (if h : 2 ≤ a0.size then
      (if 0 ≤ Lib.indexByte [39, 34, 63, 92, 97, 98, 102, 110, 114, 116, 118] (a0[1]'h) then (if Lib.indexByte [39, 34, 63, 92, 97, 98, 102, 110, 114, 116, 118] (a0[1]'h) < 11 then some (bt simB (Lib.indexByte [39, 34, 63, 92, 97, 98, 102, 110, 114, 116, 118] (a0[1]'h)), 2) else none)
       else if ((a0[1]'h).toNat : Int) = 120 then some (escRes 16 2 a0.size (a0.extract 2 a0.size)) else some (escRes 8 1 3 (a0.extract 1 a0.size)))
    else some (0, 0))
  else none
theorem ctok_escape.calls (a0 : ByteArray) (r1 r2 : Int) (w : World) (h : ctok_escape.f a0 = some (r1, r2)) :
    Calls Tryd.prog 50 #[.string a0] w fun e w' => e = .returned (.tuple #[.int .u64 r1, .int .i64 r2]) ∧ Below w.heap.size w w' := by
  unfold ctok_escape.f at h
  split at h
  · rename_i hs
    split at h
    · rename_i h2
      split at h
      · rename_i hi
        split at h
        · rename_i hi2
          injection h with h
          have := esc_simple a0 w h2 hi hi2
          injection h with e1 e2
          subst e1; subst e2
          exact this
        · cases h
      · rename_i hi
        split at h
        · rename_i hx
          injection h with h
          have := esc16 a0 w h2 hs (by omega) (beq_iff_eq.mpr hx)
          rwa [h] at this
        · rename_i hx
          injection h with h
          have := esc8 a0 w h2 hs (by omega) (beq_eq_false_iff_ne.mpr hx)
          rwa [h] at this
    · rename_i h2
      injection h with h
      injection h with e1 e2
      subst e1; subst e2
      exact esc_short a0 w (by omega)
  · cases h
end Go.Proofs.YtcdleippdegibaaDoor.Digits
