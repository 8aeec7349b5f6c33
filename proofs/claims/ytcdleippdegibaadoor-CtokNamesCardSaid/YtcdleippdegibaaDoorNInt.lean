import Derived.Test.YtcdleippdegibaaDoorNDigits
import Derived.Test.YtcdleippdegibaaDoorNPBx3
namespace Go.Proofs.YtcdleippdegibaaDoor.Digits
open Go.RowKit Go.Shelf Go.Proofs Go.Proofs.YtcdleippdegibaaDoorW.PrintWords Go.Proofs.YtcdleippdegibaaDoor.Iter Go.Proofs.YtcdleippdegibaaDoor.PB
attribute [local go_sem] Oper.semAt_some
set_option maxRecDepth 100000 in
set_option maxHeartbeats 2000000 in
theorem run_any (s : ByteArray) (base : Int) (w : World) (hs : s.size ≤ maxLen) :
    Calls Tryd.prog 32 #[.string s, .int .i64 base] w fun e w' => e = .returned (.int .i64 ((digs s base).length : Int)) ∧ Below w.heap.size w w' := by
  have hle := digs_le s base
  have hsm : s.size ≤ 9223372036854775807 := by unfold maxLen at hs; omega
  refine (callsIn_wide (n := 3)).1 ?_
  refine callsIn_of_wp_marks Tryd.func32 rfl trivial ?_ rfl
  simp only [Tryd.ntmps32, List.size_toArray, List.length_cons, List.length_nil, Nat.reduceAdd, Nat.reduceSub, Array.replicate_succ, Array.replicate_zero, List.push_toArray, List.append_toArray, List.nil_append, List.cons_append]
  gi_wp2_with (refine ⟨trivial, ?_⟩; gi_at_call 42; refine (digits_in _ _ _ _).mono ?_; rintro e w' ⟨rfl, rfl⟩)
  obtain ⟨W0, hW0⟩ : ∃ W0, ((w.alloc (.cells #[.int .i64 0] 3)).alloc (.cells #[.string s] 9)).alloc (.cells #[.int .i64 base] 3) = W0 := ⟨_, rfl⟩
  have h1 := cell_new_l w (.int .i64 0) 3
  have h2 := cell_new_l (w.alloc (.cells #[.int .i64 0] 3)) (.string s) 9
  have h3 := cell_new_l ((w.alloc (.cells #[.int .i64 0] 3)).alloc (.cells #[.string s] 9)) (.int .i64 base) 3
  simp only [World.size_alloc] at h2 h3
  have hn : W0.cell? ⟨w.heap.size, 0, none⟩ = some (.int .i64 0) := by rw [← hW0]; exact cell_alloc_l _ (cell_alloc_l _ h1.1)
  have hnf : W0.frozen? ⟨w.heap.size, 0, none⟩ = false := by rw [← hW0]; exact frozen_alloc_l _ (cell_alloc_l _ h1.1) (frozen_alloc_l _ h1.1 h1.2)
  have hcs : W0.cell? ⟨w.heap.size + 1, 0, none⟩ = some (.string s) := by rw [← hW0]; exact cell_alloc_l _ h2.1
  have hcb : W0.cell? ⟨w.heap.size + 1 + 1, 0, none⟩ = some (.int .i64 base) := by rw [← hW0]; exact h3.1
  have hsz : W0.heap.size = w.heap.size + 3 := by rw [← hW0]; simp only [World.size_alloc]
  have hB : Below w.heap.size w W0 := by rw [← hW0]; exact (((Below.refl _ _).alloc (Nat.le_refl _) _).alloc (by simp) _).alloc (by simp; omega) _
  rw [hW0]
  clear hW0 h1 h2 h3
  refine wpIn_rangeFunc_ownF rfl (by omega) (gf := 52) (lb := #[.pointer (some ⟨w.heap.size + 1, 0, none⟩), .pointer (some ⟨w.heap.size + 1 + 1, 0, none⟩)]) rfl trivial (enters_of Tryd.func52 (by kernel_rfl) rfl)
    (digits_stops id (digs s base) _ (by omega) (w.heap.size + 1) (w.heap.size + 1 + 1) (fun b => b = w.heap.size + 1 ∨ b = w.heap.size + 1 + 1) s base hs (by simp) (.inl rfl) (.inr rfl) W0 hcs hcb)
    KeepS.t (KeepS.b (by rintro b (rfl | rfl) <;> omega)) (Below.refl _ _) (fun _ => rfl)
    (fun pre W => (W.cell? ⟨w.heap.size, 0, none⟩ = some (.int .i64 (pre.length : Int)) ∧ W.frozen? ⟨w.heap.size, 0, none⟩ = false) ∧ Below w.heap.size w W)
    (fun _ _ _ => False)
    (OwnFrom.and (Own.from (fun s A B row hs hg hr => ⟨cell_kept hs.1 hg hr, (frozen_kept hs.1 hg hr).trans hs.2⟩) _) (ownFrom_below (Nat.le_refl _) (by omega)))
    (fun _ _ _ _ _ hs _ _ => hs)
    ⟨⟨hn, hnf⟩, hB⟩ ?a1 ?assign ?body ?done ?stop
  case assign =>
    intro l x W K hK
    gi_wp2
    exact hK
  case body =>
    rintro l pre x W ⟨⟨hc, hf⟩, hBW⟩ hlen
    have h1 : IntKind.i64.wrap ((pre.length : Int) + 1) = (pre.length : Int) + 1 := IntWalk.i64_in _ (by omega)
    gi_wp2
    exact ⟨KeepsOthers.setCell _ _ _, KeepS.setCell _ (by rintro (h | h) <;> (simp at h; try omega)), ⟨⟨by rw [World.cell?_setCell_same' _ _ _ (by rw [hc]; rfl)]; simp, by rw [World.frozen?_setCell]; exact hf⟩, hBW.setCell (p := ⟨w.heap.size, 0, none⟩) (Nat.le_refl _) _⟩⟩
  case done =>
    rintro D ys W hD rfl ⟨⟨hc, _⟩, hBW⟩ hK
    gi_wp2
    refine ⟨by simp, .inl ⟨_, _, rfl, run_takeDeferred hK, ?_⟩⟩
    exact ⟨_, results_tmp rfl _ _ _, rfl, hBW.trans (belowK_b (w := w) (Nat.le_refl _) W D _ _ (by omega) hK rfl rfl)⟩
  case stop =>
    rintro D c pre W _ _ h _
    exact h.elim
def vStep (base : Int) (o : Option Int) (d : Int) : Option Int := o.bind fun v => if v > (18446744073709551615 - d) / base then none else some (v * base + d)
def vOf (base : Int) (l : List Int) : Option Int := l.foldl (vStep base) (some 0)
theorem vOf_snoc (base : Int) (l : List Int) (d : Int) : vOf base (l ++ [d]) = vStep base (vOf base l) d := by simp [vOf, List.foldl_append]
theorem vOf_none (base : Int) : ∀ (l : List Int), l.foldl (vStep base) none = none
  | [] => rfl
  | d :: l => by simpa [vStep] using vOf_none base l
theorem vOf_prefix {base : Int} {p l : List Int} (h : p <+: l) (hp : vOf base p = none) : vOf base l = none := by
  obtain ⟨r, rfl⟩ := h
  unfold vOf at hp ⊢
  rw [List.foldl_append, hp, vOf_none]
abbrev Dig (base : Int) := { d : Int // 0 ≤ d ∧ d < base }
theorem digs_ok (s : ByteArray) (base : Int) : ∀ d ∈ digs s base, 0 ≤ d ∧ d < base := by
  intro d hd
  obtain ⟨k, hk, rfl⟩ := List.mem_iff_getElem.1 hd
  obtain ⟨_, hget, h1, h2⟩ := digL_get base s.data.toList k hk
  have hget : (digs s base)[k]? = _ := hget
  rw [List.getElem?_eq_getElem hk] at hget
  injection hget with hget
  rw [hget]
  exact ⟨h1, h2⟩
def digD (s : ByteArray) (base : Int) : List (Dig base) := (digs s base).attachWith _ (digs_ok s base)
theorem digD_map (s : ByteArray) (base : Int) : (digD s base).map (·.1) = digs s base := by unfold digD; exact List.attachWith_map_subtype_val _
theorem vOf_bound1 {base : Int} (hb : 1 ≤ base) : ∀ (l : List (Dig base)) (o : Option Int) (_ : ∀ u, o = some u → 0 ≤ u ∧ u ≤ 18446744073709551615) (v : Int), (l.map (·.1)).foldl (vStep base) o = some v → 0 ≤ v ∧ v ≤ 18446744073709551615
  | [], o, ho, v, h => ho v h
  | d :: l, o, ho, v, h => by
    refine vOf_bound1 hb l (vStep base o d.1) (fun w hw => ?_) v h
    unfold vStep at hw
    obtain ⟨u, hu, hw⟩ := Option.bind_eq_some_iff.1 hw
    have := ho u hu
    split at hw
    · cases hw
    · injection hw with hw
      have hd := d.2
      have h1 : u ≤ (18446744073709551615 - d.1) / base := by omega
      have h2 : u * base ≤ 18446744073709551615 - d.1 := by
        have := Int.mul_le_mul_of_nonneg_right h1 (by omega : 0 ≤ base)
        have h3 := Int.ediv_mul_le (18446744073709551615 - d.1) (by omega : base ≠ 0)
        omega
      have h4 : 0 ≤ u * base := Int.mul_nonneg (by omega) (by omega)
      omega
theorem vOf_bound {base : Int} (hb : 1 ≤ base) {l : List (Dig base)} {v : Int} (h : vOf base (l.map (·.1)) = some v) : 0 ≤ v ∧ v ≤ 18446744073709551615 :=
  vOf_bound1 hb l (some 0) (fun u hu => by injection hu with hu; omega) v h
theorem digits_calls (s : ByteArray) (base : Int) (w : World) :
    Calls Tryd.prog 42 #[.string s, .int .i64 base] w fun e w' => e = .returned (.func (.func 52) #[] #[.pointer (some ⟨w.heap.size, 0, none⟩), .pointer (some ⟨w.heap.size + 1, 0, none⟩)]) ∧ w' = (w.alloc (.cells #[.string s] 9)).alloc (.cells #[.int .i64 base] 3) := calls_marks (digits_in 3 s base w)
def sufOf (s : ByteArray) (n : Nat) : List UInt8 := Lib.replaceAll (s.extract n s.size).data.toList [85] [117]
def intTail (base v : Int) (suf : List UInt8) : Int × Bool × Int :=
  if suf = [] ∨ suf = [108] ∨ suf = [76] ∨ suf = [108, 108] ∨ suf = [76, 76] then (if base = 10 ∧ v > 9223372036854775807 then (0, false, 40) else (v, decide (¬ base = 10 ∧ v > 9223372036854775807), 0))
  else if suf = [117] ∨ suf = [117, 108] ∨ suf = [117, 76] ∨ suf = [117, 108, 108] ∨ suf = [117, 76, 76] ∨ suf = [108, 117] ∨ suf = [76, 117] ∨ suf = [108, 108, 117] ∨ suf = [76, 76, 117] then (v, true, 0) else (0, false, 40)
def intRes (base : Int) (s : ByteArray) : Int × Bool × Int :=
  match vOf base (digs s base) with
  | none => (0, false, 40)
  | some v => if (digs s base).length = 0 then (0, false, 40) else intTail base v (sufOf s (digs s base).length)
set_option maxRecDepth 100000 in
set_option maxHeartbeats 4000000 in
theorem int16 (t : ByteArray) (w : World) (hs : t.size < 4294967281) (hh : ctok_hexed.f t = some true) (h2 : 2 ≤ t.size) (m : Int) (hm : w.cell? ⟨0, 0, none⟩ = some (.int .i64 m)) :
    Calls Tryd.prog 28 #[.string t] w fun e w' => e = .returned (.tuple #[.int .u64 (intRes 16 (t.extract 2 t.size)).1, .bool (intRes 16 (t.extract 2 t.size)).2.1, .int .i64 (intRes 16 (t.extract 2 t.size)).2.2]) ∧ Below w.heap.size w w' := by
  refine calls_marks (callsIn_of_wp_marks Tryd.func28 rfl trivial ?_ rfl)
  refine wpIn_wide.2 ?_
  simp only [Tryd.ntmps28, List.size_toArray, List.length_cons, List.length_nil, Nat.reduceAdd, Nat.reduceSub, Array.replicate_succ, Array.replicate_zero, List.push_toArray, List.append_toArray, List.nil_append, List.cons_append]
  go_wp2
  go_step3
  go_wp2_with (first | (go_at_call 31; refine (ctok_hexed.calls _ _ _ hh).mono ?_; rintro e w' ⟨rfl, ⟨nd, rfl⟩⟩))
  go_region
  go_wp2
  go_step3
  go_wp2_with (first | (go_at_call 42; refine (digits_calls _ _ _).mono ?_; rintro e w' ⟨rfl, rfl⟩))
  have hss0 : (t.extract 2 t.size).size ≤ t.size := by simp
  obtain ⟨s, hse⟩ : ∃ s, t.extract 2 t.size = s := ⟨_, rfl⟩
  have hss : s.size ≤ t.size := by rw [← hse]; exact hss0
  have HSE := Lib.hid hse
  simp only [hse]
  clear hse hss0
  obtain ⟨W1, hW1⟩ : ∃ W1, (((w.alloc (.cells #[.int .u64 0] 32)).alloc (.cells #[.int .i64 10] 3)).drewN (nd + 1)).setCell ⟨w.heap.size + 1, 0, none⟩ (.int .i64 16) = W1 := ⟨_, rfl⟩
  have k2 : W1.heap[w.heap.size]? = some (.cells #[.int .u64 0] 32) := by rw [← hW1]; exact blk_far (blk_drewN (blk_alloc (blk_new _ _) _) _) (by simp) _
  have k5 : W1.heap[w.heap.size + 1]? = some (.cells #[.int .i64 16] 3) := by rw [← hW1]; exact blk_put (cs := #[.int .i64 10]) (blk_drewN (by simpa using blk_new (w.alloc (.cells #[.int .u64 0] 32)) (.cells #[.int .i64 10] 3)) _) 0 _ rfl
  have hz1 : W1.heap.size = w.heap.size + 2 := by rw [← hW1]; simp
  have hB1 : Below w.heap.size w W1 := by rw [← hW1]; exact (pw_below_drewN (((Below.refl _ _).alloc (Nat.le_refl _) _).alloc (by simp) _) _).setCell (by simp) _
  rw [hW1]
  clear hW1
  obtain ⟨W0, hW0⟩ : ∃ W0, (((W1.alloc (.cells #[.int .i64 0] 3)).alloc (.cells #[.bool false] 4)).alloc (.cells #[.string s] 9)).alloc (.cells #[.int .i64 16] 3) = W0 := ⟨_, rfl⟩
  have p2 : W0.heap[w.heap.size]? = some (.cells #[.int .u64 0] 32) := by rw [← hW0]; exact blk_alloc (blk_alloc (blk_alloc (blk_alloc k2 _) _) _) _
  have p5 : W0.heap[w.heap.size + 1]? = some (.cells #[.int .i64 16] 3) := by rw [← hW0]; exact blk_alloc (blk_alloc (blk_alloc (blk_alloc k5 _) _) _) _
  have p7 : W0.heap[w.heap.size + 1 + 1]? = some (.cells #[.int .i64 0] 3) := by rw [← hW0]; exact blk_alloc (blk_alloc (blk_alloc (by simpa [hz1] using blk_new W1 (.cells #[.int .i64 0] 3)) _) _) _
  have p8 : W0.heap[w.heap.size + 1 + 1 + 1]? = some (.cells #[.bool false] 4) := by rw [← hW0]; exact blk_alloc (blk_alloc (by simpa [hz1] using blk_new (W1.alloc (.cells #[.int .i64 0] 3)) (.cells #[.bool false] 4)) _) _
  have ps : W0.heap[w.heap.size + 1 + 1 + 1 + 1]? = some (.cells #[.string s] 9) := by rw [← hW0]; exact blk_alloc (by simpa [hz1] using blk_new ((W1.alloc (.cells #[.int .i64 0] 3)).alloc (.cells #[.bool false] 4)) (.cells #[.string s] 9)) _
  have pb : W0.heap[w.heap.size + 1 + 1 + 1 + 1 + 1]? = some (.cells #[.int .i64 16] 3) := by rw [← hW0]; simpa [hz1] using blk_new (((W1.alloc (.cells #[.int .i64 0] 3)).alloc (.cells #[.bool false] 4)).alloc (.cells #[.string s] 9)) (.cells #[.int .i64 16] 3)
  have hz0 : W0.heap.size = w.heap.size + 6 := by rw [← hW0]; simp [hz1]
  have hB0 : Below w.heap.size w W0 := by rw [← hW0]; exact ((((hB1.alloc (by omega) _).alloc (by simp; omega) _).alloc (by simp; omega) _).alloc (by simp; omega) _)
  rw [hW0]
  clear hW0 k2 k5 hz1 hB1
  have hle := digs_le s 16
  have hDl : (digD s 16).length = (digs s 16).length := by rw [← digD_map, List.length_map]
  refine wp_rangeFunc_list (gf := 52) (lb := #[.pointer (some ⟨w.heap.size + 1 + 1 + 1 + 1, 0, none⟩), .pointer (some ⟨w.heap.size + 1 + 1 + 1 + 1 + 1, 0, none⟩)]) rfl (enters_of Tryd.func52 (by kernel_rfl) rfl)
    (digits_stops (fun x : Dig 16 => x.1) (digD s 16) _ (by omega) (w.heap.size + 1 + 1 + 1 + 1) (w.heap.size + 1 + 1 + 1 + 1 + 1) (fun b => b = w.heap.size + 1 + 1 + 1 + 1 ∨ b = w.heap.size + 1 + 1 + 1 + 1 + 1) s 16 (by unfold maxLen; omega) (digD_map s 16) (.inl rfl) (.inr rfl) W0 (cell_of_box_l ps).1 (cell_of_box_l pb).1)
    (by rintro b (rfl | rfl) <;> omega) (fun _ => rfl)
    (fun pre W => (∃ v, vOf 16 (pre.map (·.1)) = some v ∧ W.cell? ⟨w.heap.size, 0, none⟩ = some (.int .u64 v) ∧ W.frozen? ⟨w.heap.size, 0, none⟩ = false ∧ W.cell? ⟨w.heap.size + 1, 0, none⟩ = some (.int .i64 16) ∧
      W.cell? ⟨w.heap.size + 1 + 1, 0, none⟩ = some (.int .i64 (pre.length : Int)) ∧ W.frozen? ⟨w.heap.size + 1 + 1, 0, none⟩ = false ∧ W.cell? ⟨w.heap.size + 1 + 1 + 1, 0, none⟩ = some (.bool false) ∧ W.frozen? ⟨w.heap.size + 1 + 1 + 1, 0, none⟩ = false) ∧ Below w.heap.size w W)
    (fun c pre W => (c = .exit 1 ∧ vOf 16 (pre.map (·.1)) = none ∧ (∃ v, W.cell? ⟨w.heap.size, 0, none⟩ = some v) ∧ W.frozen? ⟨w.heap.size, 0, none⟩ = false ∧ (∃ n : Nat, W.cell? ⟨w.heap.size + 1 + 1, 0, none⟩ = some (.int .i64 (n : Int))) ∧ W.cell? ⟨w.heap.size + 1 + 1 + 1, 0, none⟩ = some (.bool true)) ∧ Below w.heap.size w W)
    (OwnFrom.and (Own.from (fun s A B row hs hg hr => by
      obtain ⟨v, a1, a2, a3, a4, a5, a6, a7, a8⟩ := hs
      exact ⟨v, a1, cell_kept a2 hg hr, (frozen_kept a2 hg hr).trans a3, cell_kept a4 hg hr, cell_kept a5 hg hr, (frozen_kept a5 hg hr).trans a6, cell_kept a7 hg hr, (frozen_kept a7 hg hr).trans a8⟩) _) (ownFrom_below (Nat.le_refl _) (by omega)))
    (fun c => OwnFrom.and (Own.from (fun s A B row hs hg hr => by
      obtain ⟨a0, a1, ⟨v, a2⟩, a3, ⟨n, a4⟩, a5⟩ := hs
      exact ⟨a0, a1, ⟨v, cell_kept a2 hg hr⟩, (frozen_kept a2 hg hr).trans a3, ⟨n, cell_kept a4 hg hr⟩, cell_kept a5 hg hr⟩) _) (ownFrom_below (Nat.le_refl _) (by omega)))
    ⟨⟨0, rfl, (cell_of_box_l p2).1, (cell_of_box_l p2).2, (cell_of_box_l p5).1, (cell_of_box_l p7).1, (cell_of_box_l p7).2, (cell_of_box_l p8).1, (cell_of_box_l p8).2⟩, hB0⟩ ?a1 ?assign ?body ?done ?stop
  case assign =>
    intro l x W K hK
    gi_wp2
    exact hK
  case body =>
    rintro l pre x W ⟨⟨v, hv, c2, f2, c5, c7, f7, c8, f8⟩, hBW⟩ hlen
    have hvb := vOf_bound (by omega) hv
    have hx := x.2
    have hmx : Tryd.prog.follows .mixedOrders = true := by kernel_rfl
    have e1 : IntKind.u64.wrap x.1 = x.1 := by rw [IntKind.wrap_u64]; omega
    by_cases hq : (18446744073709551615 - x.1) / 16 < v
    · have hqb : decide ((18446744073709551615 - x.1) / 16 < v) = true := decide_eq_true hq
      have HQ := Lib.hid hq
      clear hq
      gi_wp2
      refine wpIn_round_quiet (by kernel_rfl) hmx (by kernel_rfl) ?_
      repeat (gi_big_quiet_step (fail))
      refine wpQuietIn_nil ?_
      intro _ hw'
      obtain ⟨nq, hw''⟩ := hw'
      subst hw''
      gi_wp2
      refine ⟨(others_of_below (pw_below_drewN (Below.refl W.heap.size W) nq)).trans (KeepsOthers.setCell _ _ _), ⟨rfl, ?_, ⟨_, (cell_far (p := ⟨w.heap.size + 1 + 1 + 1, 0, none⟩) (by simp; try omega) _).trans c2⟩, ?_, ⟨_, (cell_far (p := ⟨w.heap.size + 1 + 1 + 1, 0, none⟩) (by simp; try omega) _).trans c7⟩, ?_⟩, (pw_below_drewN hBW _).setCell (p := ⟨w.heap.size + 1 + 1 + 1, 0, none⟩) (by simp; omega) _⟩
      · rw [List.map_append, List.map_cons, List.map_nil, vOf_snoc, hv]
        simp only [vStep, Option.bind_some]
        rw [if_pos HQ.out]
      · rw [World.frozen?_setCell]; exact f2
      · exact World.cell?_setCell_same' _ _ _ (by show Option.isSome (W.cell? _) = true; rw [c8]; rfl)
    · have hq1 : v * 16 ≤ 18446744073709551615 - x.1 := by omega
      have hq2 : 0 ≤ v * 16 := by omega
      have hl1 : (pre.length : Int) + 1 ≤ 4294967281 := by omega
      have hvn : Hid (vOf 16 ((pre ++ [x]).map (·.1)) = some (v * 16 + x.1)) := Lib.hid (by
        rw [List.map_append, List.map_cons, List.map_nil, vOf_snoc, hv]
        simp only [vStep, Option.bind_some]
        rw [if_neg hq])
      have HQ1 := Lib.hid hq1
      have HQ2 := Lib.hid hq2
      have HVB := Lib.hid hvb
      have hqb : decide ((18446744073709551615 - x.1) / 16 < v) = false := decide_eq_false hq
      clear hv hq1 hq2 hvb hq
      gi_wp2
      refine wpIn_round_quiet (by kernel_rfl) hmx (by kernel_rfl) ?_
      repeat (gi_big_quiet_step (fail))
      refine wpQuietIn_nil ?_
      intro _ hw'
      obtain ⟨nq, hw''⟩ := hw'
      subst hw''
      gi_wp2
      have hw : IntKind.u64.wrap (IntKind.u64.wrap (v * 16) + x.1) = v * 16 + x.1 := by have := HQ1.out; have := HQ2.out; rw [IntKind.wrap_u64, IntKind.wrap_u64]; omega
      rw [hw]
      refine ⟨(others_of_below (pw_below_drewN (Below.refl W.heap.size W) nq)).trans ((KeepsOthers.setCell _ _ _).trans (KeepsOthers.setCell _ _ _)), (KeepS.of_below (pw_below_drewN (Below.refl W.heap.size W) nq)).trans ((KeepS.setCell _ (by rintro (h | h) <;> (simp at h; try omega))).trans (KeepS.setCell _ (by rintro (h | h) <;> (simp at h; try omega)))),
        ⟨_, hvn.out, ?_, ?_, ?_, ?_, ?_, ?_, ?_⟩, ((pw_below_drewN hBW _).setCell (p := ⟨w.heap.size, 0, none⟩) (Nat.le_refl _) _).setCell (p := ⟨w.heap.size + 1 + 1, 0, none⟩) (by show w.heap.size ≤ w.heap.size + 1 + 1; omega) _⟩
      · rw [cell_far (p := ⟨w.heap.size + 1 + 1, 0, none⟩) (by simp; try omega)]
        exact World.cell?_setCell_same' _ _ _ (by show Option.isSome (W.cell? _) = true; rw [c2]; rfl)
      · rw [World.frozen?_setCell, World.frozen?_setCell]; exact f2
      · exact ((cell_far (p := ⟨w.heap.size + 1 + 1, 0, none⟩) (by simp; try omega) _).trans (cell_far (p := ⟨w.heap.size, 0, none⟩) (by simp; try omega) _)).trans c5
      · rw [World.cell?_setCell_same' _ _ _ (by rw [cell_far (p := ⟨w.heap.size, 0, none⟩) (by simp; try omega)]; show Option.isSome (W.cell? _) = true; rw [c7]; rfl)]
        simp
      · rw [World.frozen?_setCell, World.frozen?_setCell]; exact f7
      · exact ((cell_far (p := ⟨w.heap.size + 1 + 1, 0, none⟩) (by simp; try omega) _).trans (cell_far (p := ⟨w.heap.size, 0, none⟩) (by simp; try omega) _)).trans c8
      · rw [World.frozen?_setCell, World.frozen?_setCell]; exact f8
  case done =>
    rintro B W hD ⟨⟨v, hv, c2, f2, c5, c7, f7, c8, f8⟩, hBW⟩ hK
    rw [digD_map] at hv
    rw [hDl] at c7
    have hBl : ∀ {W' : World}, Below w.heap.size w W' → W'.heap[B]? = some (.deferred (some [])) → Below w.heap.size w (W'.putObj B (.deferred none)) := fun hb hk => hb.trans (belowK_b (w := w) (Nat.le_refl _) _ B _ _ (by omega) hk rfl rfl)
    by_cases h0 : (digs s 16).length = 0
    · rw [h0] at c7
      have hres : intRes 16 s = (0, false, 40) := by unfold intRes; rw [hv]; simp only [h0, if_true]
      clear hDl hle
      go_wp2
      rw [Exit.noGoto_ret]
      have hK' := (KeepsOthers.setCell W ⟨w.heap.size, 0, none⟩ (.int .u64 0)).same B _ hK rfl
      have hc := cell_kept (World.cell?_setCell_same' W ⟨w.heap.size, 0, none⟩ (.int .u64 0) (by rw [c2]; rfl)) (grownBy_putObj' _ B (.deferred none)) (fun r e => by cases e; exact ⟨_, hK', rfl⟩)
      refine ⟨by simp, .inl ⟨_, _, rfl, run_takeDeferred hK', ?_⟩⟩
      refine ⟨_, ?_, by rw [HSE.out, hres], hBl (hBW.setCell (p := ⟨w.heap.size, 0, none⟩) (Nat.le_refl _) _) hK'⟩
      simp [results, Tryd.results28, go_sem, hc]
    · have hn0 : 0 < (digs s 16).length := by omega
      obtain ⟨nn, hnn⟩ : ∃ nn, (digs s 16).length = nn := ⟨_, rfl⟩
      have hres : Hid (intRes 16 s = intTail 16 v (sufOf s nn)) := Lib.hid (by unfold intRes; rw [hv]; rw [← hnn]; simp only [h0, if_false])
      rw [hnn] at c7 hle hn0
      clear hDl hnn h0 hv
      have hb0 : ((nn : Int) == 0) = false := beq_eq_false_iff_ne.mpr (by omega)
      have hcnt : (s.extract nn s.size).size + Lib.countB (s.extract nn s.size) ⟨#[85]⟩ * (⟨#[117]⟩ : ByteArray).size ≤ 140737488355328 := by
        have h1 := Lib.countB_le ⟨#[85]⟩ (by decide) _ (s.extract nn s.size) (Nat.le_refl _)
        have h3 : (⟨#[117]⟩ : ByteArray).size = 1 := rfl
        rw [h3]
        have h2 : (s.extract nn s.size).size ≤ s.size := by simp
        omega
      have hxs : (s.extract nn s.size).size < 4294967281 := by have h2 : (s.extract nn s.size).size ≤ s.size := by simp
                                                               omega
      have hmW : W.cell? ⟨0, 0, none⟩ = some (.int .i64 m) := (hBW.cell (p := ⟨0, 0, none⟩) (World.block_lt_of_cell? _ _ hm)).trans hm
      go_wp2_with (fail)
      refine (Tryd.strings_ReplaceAll (s.extract nn s.size) ⟨#[85]⟩ ⟨#[117]⟩ m _ hxs hmW (by decide) hcnt).mono ?_
      rintro e w3 ⟨rfl, hB3⟩
      have hres' : Hid (intRes 16 s = intTail 16 v (Lib.replaceAll (s.extract nn s.size).data.toList [85] [117])) := hres
      clear hres hxs hmW hcnt
      generalize Lib.replaceAll (s.extract nn s.size).data.toList [85] [117] = suf at hres' ⊢
      have d2 := (hB3.cell (p := ⟨w.heap.size, 0, none⟩) (World.block_lt_of_cell? _ _ c2)).trans c2
      have g2 := (hB3.frozen (p := ⟨w.heap.size, 0, none⟩) (World.block_lt_of_cell? _ _ c2)).trans f2
      have d5 := (hB3.cell (p := ⟨w.heap.size + 1, 0, none⟩) (World.block_lt_of_cell? _ _ c5)).trans c5
      have hK3 := (others_of_below hB3).same B _ hK rfl
      have hBW3 := hBW.trans (hB3.mono hBW.size)
      clear c2 f2 c5 c7 f7 c8 f8 hK hB3 hBW
      have hfin : ∀ (X : Int) (bb : Bool) (ee : Int), intTail 16 v suf = (X, bb, ee) →
          ((w3.setCell ⟨w.heap.size, 0, none⟩ (.int .u64 X)).putObj B (.deferred none)).cell? ⟨w.heap.size, 0, none⟩ = some (.int .u64 X) ∧
          Hid (Ending.returned (.tuple #[.int .u64 X, .bool bb, .int .i64 ee]) = .returned (.tuple #[.int .u64 (intRes 16 (t.extract 2 t.size)).1, .bool (intRes 16 (t.extract 2 t.size)).2.1, .int .i64 (intRes 16 (t.extract 2 t.size)).2.2])) ∧
          Below w.heap.size w ((w3.setCell ⟨w.heap.size, 0, none⟩ (.int .u64 X)).putObj B (.deferred none)) ∧ (w3.setCell ⟨w.heap.size, 0, none⟩ (.int .u64 X)).heap[B]? = some (.deferred (some [])) := by
        intro X bb ee hX
        have hK4 := (KeepsOthers.setCell w3 ⟨w.heap.size, 0, none⟩ (.int .u64 X)).same B _ hK3 rfl
        refine ⟨cell_kept (World.cell?_setCell_same' w3 ⟨w.heap.size, 0, none⟩ (.int .u64 X) (by rw [d2]; rfl)) (grownBy_putObj' _ B (.deferred none)) (fun r e => by cases e; exact ⟨_, hK4, rfl⟩), Lib.hid ?_, hBl (hBW3.setCell (p := ⟨w.heap.size, 0, none⟩) (Nat.le_refl _) _) hK4, hK4⟩
        rw [HSE.out, hres'.out, hX]
      clear hres' hBW3 hK3 hBl
      by_cases hA : suf = [] ∨ suf = [108] ∨ suf = [76] ∨ suf = [108, 108] ∨ suf = [76, 76]
      · obtain ⟨hc, HE, hb, hk⟩ := hfin v (decide (9223372036854775807 < v)) 0 (by unfold intTail; rw [if_pos hA]; simp)
        clear hfin
        rcases hA with rfl | rfl | rfl | rfl | rfl
        all_goals go_wp2
        all_goals rw [Exit.noGoto_ret]
        all_goals refine ⟨by simp, .inl ⟨_, _, rfl, run_takeDeferred hk, ?_⟩⟩
        all_goals refine ⟨_, ?_, HE.out, hb⟩
        all_goals simp [results, Tryd.results28, go_sem, hc]
      by_cases hB : suf = [117] ∨ suf = [117, 108] ∨ suf = [117, 76] ∨ suf = [117, 108, 108] ∨ suf = [117, 76, 76] ∨ suf = [108, 117] ∨ suf = [76, 117] ∨ suf = [108, 108, 117] ∨ suf = [76, 76, 117]
      · obtain ⟨hc, HE, hb, hk⟩ := hfin v true 0 (by unfold intTail; rw [if_neg hA, if_pos hB])
        clear hfin hA
        rcases hB with rfl | rfl | rfl | rfl | rfl | rfl | rfl | rfl | rfl
        all_goals go_wp2
        all_goals rw [Exit.noGoto_ret]
        all_goals refine ⟨by simp, .inl ⟨_, _, rfl, run_takeDeferred hk, ?_⟩⟩
        all_goals refine ⟨_, ?_, HE.out, hb⟩
        all_goals simp [results, Tryd.results28, go_sem, hc]
      · obtain ⟨hc, HE, hb, hk⟩ := hfin 0 false 40 (by unfold intTail; rw [if_neg hA, if_neg hB])
        clear hfin
        simp only [not_or, ← beq_eq_false_iff_ne (α := List UInt8)] at hA hB
        obtain ⟨g0, g1, g3, g4, g5⟩ := hA
        obtain ⟨g6, g7, g8, g9, ga, gb, gc, gd, ge⟩ := hB
        have g0' : suf.isEmpty = false := by rw [List.isEmpty_eq_false_iff]; simpa using g0
        all_goals go_wp2
        all_goals rw [Exit.noGoto_ret]
        all_goals refine ⟨by simp, .inl ⟨_, _, rfl, run_takeDeferred hk, ?_⟩⟩
        all_goals refine ⟨_, ?_, HE.out, hb⟩
        all_goals simp [results, Tryd.results28, go_sem, hc]
  case stop =>
    rintro B c pre W hD hp ⟨⟨rfl, hvn, ⟨v, c2⟩, f2, ⟨n, c7⟩, c8⟩, hBW⟩ hK
    have hres : intRes 16 s = (0, false, 40) := by
      have hp' : pre.map (·.1) <+: digs s 16 := by rw [← digD_map]; exact hp.map _
      unfold intRes; rw [vOf_prefix hp' hvn]
    have hBl : ∀ {W' : World}, Below w.heap.size w W' → W'.heap[B]? = some (.deferred (some [])) → Below w.heap.size w (W'.putObj B (.deferred none)) := fun hb hk => hb.trans (belowK_b (w := w) (Nat.le_refl _) _ B _ _ (by omega) hk rfl rfl)
    have hK' := (KeepsOthers.setCell W ⟨w.heap.size, 0, none⟩ (.int .u64 0)).same B _ hK rfl
    have hc := cell_kept (World.cell?_setCell_same' W ⟨w.heap.size, 0, none⟩ (.int .u64 0) (by rw [c2]; rfl)) (grownBy_putObj' _ B (.deferred none)) (fun r e => by cases e; exact ⟨_, hK', rfl⟩)
    have HC := Lib.hid hc
    have HR := Lib.hid hres
    clear hc hres hvn hp hDl hle
    by_cases hn : n = 0
    · subst hn
      go_wp2
      rw [Exit.noGoto_ret]
      refine ⟨by simp, .inl ⟨_, _, rfl, run_takeDeferred hK', ?_⟩⟩
      refine ⟨_, ?_, by rw [HSE.out, HR.out], hBl (hBW.setCell (p := ⟨w.heap.size, 0, none⟩) (Nat.le_refl _) _) hK'⟩
      simp [results, Tryd.results28, go_sem, HC.out]
    · have hb0 : ((n : Int) == 0) = false := beq_eq_false_iff_ne.mpr (by omega)
      clear hn
      go_wp2
      rw [Exit.noGoto_ret]
      refine ⟨by simp, .inl ⟨_, _, rfl, run_takeDeferred hK', ?_⟩⟩
      refine ⟨_, ?_, by rw [HSE.out, HR.out], hBl (hBW.setCell (p := ⟨w.heap.size, 0, none⟩) (Nat.le_refl _) _) hK'⟩
      simp [results, Tryd.results28, go_sem, HC.out]
set_option maxRecDepth 100000 in
set_option maxHeartbeats 4000000 in
theorem int8 (t : ByteArray) (w : World) (hs : t.size < 4294967281) (hh : ctok_hexed.f t = some false) (hz : strings_HasPrefix.f t ⟨#[48]⟩ = some true) (m : Int) (hm : w.cell? ⟨0, 0, none⟩ = some (.int .i64 m)) :
    Calls Tryd.prog 28 #[.string t] w fun e w' => e = .returned (.tuple #[.int .u64 (intRes 8 (t)).1, .bool (intRes 8 (t)).2.1, .int .i64 (intRes 8 (t)).2.2]) ∧ Below w.heap.size w w' := by
  refine calls_marks (callsIn_of_wp_marks Tryd.func28 rfl trivial ?_ rfl)
  refine wpIn_wide.2 ?_
  simp only [Tryd.ntmps28, List.size_toArray, List.length_cons, List.length_nil, Nat.reduceAdd, Nat.reduceSub, Array.replicate_succ, Array.replicate_zero, List.push_toArray, List.append_toArray, List.nil_append, List.cons_append]
  go_wp2
  go_step3
  go_wp2_with (first | (go_at_call 31; refine (ctok_hexed.calls _ _ _ hh).mono ?_; rintro e w' ⟨rfl, ⟨nd, rfl⟩⟩) | (go_at_call 41; refine (strings_HasPrefix.calls _ _ _ _ hz).mono ?_; rintro e w' ⟨rfl, ⟨nd2, rfl⟩⟩))
  go_step3
  go_wp2_with (first | (go_at_call 42; refine (digits_calls _ _ _).mono ?_; rintro e w' ⟨rfl, rfl⟩))
  have hss0 : (t).size ≤ t.size := by simp
  obtain ⟨s, hse⟩ : ∃ s, t = s := ⟨_, rfl⟩
  have hss : s.size ≤ t.size := by rw [← hse]; exact hss0
  have HSE := Lib.hid hse
  simp only [hse]
  clear hse hss0
  obtain ⟨W1, hW1⟩ : ∃ W1, (((w.alloc (.cells #[.int .u64 0] 32)).alloc (.cells #[.int .i64 10] 3)).drewN (nd + nd2)).setCell ⟨w.heap.size + 1, 0, none⟩ (.int .i64 8) = W1 := ⟨_, rfl⟩
  have k2 : W1.heap[w.heap.size]? = some (.cells #[.int .u64 0] 32) := by rw [← hW1]; exact blk_far (blk_drewN (blk_alloc (blk_new _ _) _) _) (by simp) _
  have k5 : W1.heap[w.heap.size + 1]? = some (.cells #[.int .i64 8] 3) := by rw [← hW1]; exact blk_put (cs := #[.int .i64 10]) (blk_drewN (by simpa using blk_new (w.alloc (.cells #[.int .u64 0] 32)) (.cells #[.int .i64 10] 3)) _) 0 _ rfl
  have hz1 : W1.heap.size = w.heap.size + 2 := by rw [← hW1]; simp
  have hB1 : Below w.heap.size w W1 := by rw [← hW1]; exact (pw_below_drewN (((Below.refl _ _).alloc (Nat.le_refl _) _).alloc (by simp) _) _).setCell (by simp) _
  rw [hW1]
  clear hW1
  obtain ⟨W0, hW0⟩ : ∃ W0, (((W1.alloc (.cells #[.int .i64 0] 3)).alloc (.cells #[.bool false] 4)).alloc (.cells #[.string s] 9)).alloc (.cells #[.int .i64 8] 3) = W0 := ⟨_, rfl⟩
  have p2 : W0.heap[w.heap.size]? = some (.cells #[.int .u64 0] 32) := by rw [← hW0]; exact blk_alloc (blk_alloc (blk_alloc (blk_alloc k2 _) _) _) _
  have p5 : W0.heap[w.heap.size + 1]? = some (.cells #[.int .i64 8] 3) := by rw [← hW0]; exact blk_alloc (blk_alloc (blk_alloc (blk_alloc k5 _) _) _) _
  have p7 : W0.heap[w.heap.size + 1 + 1]? = some (.cells #[.int .i64 0] 3) := by rw [← hW0]; exact blk_alloc (blk_alloc (blk_alloc (by simpa [hz1] using blk_new W1 (.cells #[.int .i64 0] 3)) _) _) _
  have p8 : W0.heap[w.heap.size + 1 + 1 + 1]? = some (.cells #[.bool false] 4) := by rw [← hW0]; exact blk_alloc (blk_alloc (by simpa [hz1] using blk_new (W1.alloc (.cells #[.int .i64 0] 3)) (.cells #[.bool false] 4)) _) _
  have ps : W0.heap[w.heap.size + 1 + 1 + 1 + 1]? = some (.cells #[.string s] 9) := by rw [← hW0]; exact blk_alloc (by simpa [hz1] using blk_new ((W1.alloc (.cells #[.int .i64 0] 3)).alloc (.cells #[.bool false] 4)) (.cells #[.string s] 9)) _
  have pb : W0.heap[w.heap.size + 1 + 1 + 1 + 1 + 1]? = some (.cells #[.int .i64 8] 3) := by rw [← hW0]; simpa [hz1] using blk_new (((W1.alloc (.cells #[.int .i64 0] 3)).alloc (.cells #[.bool false] 4)).alloc (.cells #[.string s] 9)) (.cells #[.int .i64 8] 3)
  have hz0 : W0.heap.size = w.heap.size + 6 := by rw [← hW0]; simp [hz1]
  have hB0 : Below w.heap.size w W0 := by rw [← hW0]; exact ((((hB1.alloc (by omega) _).alloc (by simp; omega) _).alloc (by simp; omega) _).alloc (by simp; omega) _)
  rw [hW0]
  clear hW0 k2 k5 hz1 hB1
  have hle := digs_le s 8
  have hDl : (digD s 8).length = (digs s 8).length := by rw [← digD_map, List.length_map]
  refine wp_rangeFunc_list (gf := 52) (lb := #[.pointer (some ⟨w.heap.size + 1 + 1 + 1 + 1, 0, none⟩), .pointer (some ⟨w.heap.size + 1 + 1 + 1 + 1 + 1, 0, none⟩)]) rfl (enters_of Tryd.func52 (by kernel_rfl) rfl)
    (digits_stops (fun x : Dig 8 => x.1) (digD s 8) _ (by omega) (w.heap.size + 1 + 1 + 1 + 1) (w.heap.size + 1 + 1 + 1 + 1 + 1) (fun b => b = w.heap.size + 1 + 1 + 1 + 1 ∨ b = w.heap.size + 1 + 1 + 1 + 1 + 1) s 8 (by unfold maxLen; omega) (digD_map s 8) (.inl rfl) (.inr rfl) W0 (cell_of_box_l ps).1 (cell_of_box_l pb).1)
    (by rintro b (rfl | rfl) <;> omega) (fun _ => rfl)
    (fun pre W => (∃ v, vOf 8 (pre.map (·.1)) = some v ∧ W.cell? ⟨w.heap.size, 0, none⟩ = some (.int .u64 v) ∧ W.frozen? ⟨w.heap.size, 0, none⟩ = false ∧ W.cell? ⟨w.heap.size + 1, 0, none⟩ = some (.int .i64 8) ∧
      W.cell? ⟨w.heap.size + 1 + 1, 0, none⟩ = some (.int .i64 (pre.length : Int)) ∧ W.frozen? ⟨w.heap.size + 1 + 1, 0, none⟩ = false ∧ W.cell? ⟨w.heap.size + 1 + 1 + 1, 0, none⟩ = some (.bool false) ∧ W.frozen? ⟨w.heap.size + 1 + 1 + 1, 0, none⟩ = false) ∧ Below w.heap.size w W)
    (fun c pre W => (c = .exit 1 ∧ vOf 8 (pre.map (·.1)) = none ∧ (∃ v, W.cell? ⟨w.heap.size, 0, none⟩ = some v) ∧ W.frozen? ⟨w.heap.size, 0, none⟩ = false ∧ (∃ n : Nat, W.cell? ⟨w.heap.size + 1 + 1, 0, none⟩ = some (.int .i64 (n : Int))) ∧ W.cell? ⟨w.heap.size + 1 + 1 + 1, 0, none⟩ = some (.bool true)) ∧ Below w.heap.size w W)
    (OwnFrom.and (Own.from (fun s A B row hs hg hr => by
      obtain ⟨v, a1, a2, a3, a4, a5, a6, a7, a8⟩ := hs
      exact ⟨v, a1, cell_kept a2 hg hr, (frozen_kept a2 hg hr).trans a3, cell_kept a4 hg hr, cell_kept a5 hg hr, (frozen_kept a5 hg hr).trans a6, cell_kept a7 hg hr, (frozen_kept a7 hg hr).trans a8⟩) _) (ownFrom_below (Nat.le_refl _) (by omega)))
    (fun c => OwnFrom.and (Own.from (fun s A B row hs hg hr => by
      obtain ⟨a0, a1, ⟨v, a2⟩, a3, ⟨n, a4⟩, a5⟩ := hs
      exact ⟨a0, a1, ⟨v, cell_kept a2 hg hr⟩, (frozen_kept a2 hg hr).trans a3, ⟨n, cell_kept a4 hg hr⟩, cell_kept a5 hg hr⟩) _) (ownFrom_below (Nat.le_refl _) (by omega)))
    ⟨⟨0, rfl, (cell_of_box_l p2).1, (cell_of_box_l p2).2, (cell_of_box_l p5).1, (cell_of_box_l p7).1, (cell_of_box_l p7).2, (cell_of_box_l p8).1, (cell_of_box_l p8).2⟩, hB0⟩ ?a1 ?assign ?body ?done ?stop
  case assign =>
    intro l x W K hK
    gi_wp2
    exact hK
  case body =>
    rintro l pre x W ⟨⟨v, hv, c2, f2, c5, c7, f7, c8, f8⟩, hBW⟩ hlen
    have hvb := vOf_bound (by omega) hv
    have hx := x.2
    have hmx : Tryd.prog.follows .mixedOrders = true := by kernel_rfl
    have e1 : IntKind.u64.wrap x.1 = x.1 := by rw [IntKind.wrap_u64]; omega
    by_cases hq : (18446744073709551615 - x.1) / 8 < v
    · have hqb : decide ((18446744073709551615 - x.1) / 8 < v) = true := decide_eq_true hq
      have HQ := Lib.hid hq
      clear hq
      gi_wp2
      refine wpIn_round_quiet (by kernel_rfl) hmx (by kernel_rfl) ?_
      repeat (gi_big_quiet_step (fail))
      refine wpQuietIn_nil ?_
      intro _ hw'
      obtain ⟨nq, hw''⟩ := hw'
      subst hw''
      gi_wp2
      refine ⟨(others_of_below (pw_below_drewN (Below.refl W.heap.size W) nq)).trans (KeepsOthers.setCell _ _ _), ⟨rfl, ?_, ⟨_, (cell_far (p := ⟨w.heap.size + 1 + 1 + 1, 0, none⟩) (by simp; try omega) _).trans c2⟩, ?_, ⟨_, (cell_far (p := ⟨w.heap.size + 1 + 1 + 1, 0, none⟩) (by simp; try omega) _).trans c7⟩, ?_⟩, (pw_below_drewN hBW _).setCell (p := ⟨w.heap.size + 1 + 1 + 1, 0, none⟩) (by simp; omega) _⟩
      · rw [List.map_append, List.map_cons, List.map_nil, vOf_snoc, hv]
        simp only [vStep, Option.bind_some]
        rw [if_pos HQ.out]
      · rw [World.frozen?_setCell]; exact f2
      · exact World.cell?_setCell_same' _ _ _ (by show Option.isSome (W.cell? _) = true; rw [c8]; rfl)
    · have hq1 : v * 8 ≤ 18446744073709551615 - x.1 := by omega
      have hq2 : 0 ≤ v * 8 := by omega
      have hl1 : (pre.length : Int) + 1 ≤ 4294967281 := by omega
      have hvn : Hid (vOf 8 ((pre ++ [x]).map (·.1)) = some (v * 8 + x.1)) := Lib.hid (by
        rw [List.map_append, List.map_cons, List.map_nil, vOf_snoc, hv]
        simp only [vStep, Option.bind_some]
        rw [if_neg hq])
      have HQ1 := Lib.hid hq1
      have HQ2 := Lib.hid hq2
      have HVB := Lib.hid hvb
      have hqb : decide ((18446744073709551615 - x.1) / 8 < v) = false := decide_eq_false hq
      clear hv hq1 hq2 hvb hq
      gi_wp2
      refine wpIn_round_quiet (by kernel_rfl) hmx (by kernel_rfl) ?_
      repeat (gi_big_quiet_step (fail))
      refine wpQuietIn_nil ?_
      intro _ hw'
      obtain ⟨nq, hw''⟩ := hw'
      subst hw''
      gi_wp2
      have hw : IntKind.u64.wrap (IntKind.u64.wrap (v * 8) + x.1) = v * 8 + x.1 := by have := HQ1.out; have := HQ2.out; rw [IntKind.wrap_u64, IntKind.wrap_u64]; omega
      rw [hw]
      refine ⟨(others_of_below (pw_below_drewN (Below.refl W.heap.size W) nq)).trans ((KeepsOthers.setCell _ _ _).trans (KeepsOthers.setCell _ _ _)), (KeepS.of_below (pw_below_drewN (Below.refl W.heap.size W) nq)).trans ((KeepS.setCell _ (by rintro (h | h) <;> (simp at h; try omega))).trans (KeepS.setCell _ (by rintro (h | h) <;> (simp at h; try omega)))),
        ⟨_, hvn.out, ?_, ?_, ?_, ?_, ?_, ?_, ?_⟩, ((pw_below_drewN hBW _).setCell (p := ⟨w.heap.size, 0, none⟩) (Nat.le_refl _) _).setCell (p := ⟨w.heap.size + 1 + 1, 0, none⟩) (by show w.heap.size ≤ w.heap.size + 1 + 1; omega) _⟩
      · rw [cell_far (p := ⟨w.heap.size + 1 + 1, 0, none⟩) (by simp; try omega)]
        exact World.cell?_setCell_same' _ _ _ (by show Option.isSome (W.cell? _) = true; rw [c2]; rfl)
      · rw [World.frozen?_setCell, World.frozen?_setCell]; exact f2
      · exact ((cell_far (p := ⟨w.heap.size + 1 + 1, 0, none⟩) (by simp; try omega) _).trans (cell_far (p := ⟨w.heap.size, 0, none⟩) (by simp; try omega) _)).trans c5
      · rw [World.cell?_setCell_same' _ _ _ (by rw [cell_far (p := ⟨w.heap.size, 0, none⟩) (by simp; try omega)]; show Option.isSome (W.cell? _) = true; rw [c7]; rfl)]
        simp
      · rw [World.frozen?_setCell, World.frozen?_setCell]; exact f7
      · exact ((cell_far (p := ⟨w.heap.size + 1 + 1, 0, none⟩) (by simp; try omega) _).trans (cell_far (p := ⟨w.heap.size, 0, none⟩) (by simp; try omega) _)).trans c8
      · rw [World.frozen?_setCell, World.frozen?_setCell]; exact f8
  case done =>
    rintro B W hD ⟨⟨v, hv, c2, f2, c5, c7, f7, c8, f8⟩, hBW⟩ hK
    rw [digD_map] at hv
    rw [hDl] at c7
    have hBl : ∀ {W' : World}, Below w.heap.size w W' → W'.heap[B]? = some (.deferred (some [])) → Below w.heap.size w (W'.putObj B (.deferred none)) := fun hb hk => hb.trans (belowK_b (w := w) (Nat.le_refl _) _ B _ _ (by omega) hk rfl rfl)
    by_cases h0 : (digs s 8).length = 0
    · rw [h0] at c7
      have hres : intRes 8 s = (0, false, 40) := by unfold intRes; rw [hv]; simp only [h0, if_true]
      clear hDl hle
      go_wp2
      rw [Exit.noGoto_ret]
      have hK' := (KeepsOthers.setCell W ⟨w.heap.size, 0, none⟩ (.int .u64 0)).same B _ hK rfl
      have hc := cell_kept (World.cell?_setCell_same' W ⟨w.heap.size, 0, none⟩ (.int .u64 0) (by rw [c2]; rfl)) (grownBy_putObj' _ B (.deferred none)) (fun r e => by cases e; exact ⟨_, hK', rfl⟩)
      refine ⟨by simp, .inl ⟨_, _, rfl, run_takeDeferred hK', ?_⟩⟩
      refine ⟨_, ?_, by rw [HSE.out, hres], hBl (hBW.setCell (p := ⟨w.heap.size, 0, none⟩) (Nat.le_refl _) _) hK'⟩
      simp [results, Tryd.results28, go_sem, hc]
    · have hn0 : 0 < (digs s 8).length := by omega
      obtain ⟨nn, hnn⟩ : ∃ nn, (digs s 8).length = nn := ⟨_, rfl⟩
      have hres : Hid (intRes 8 s = intTail 8 v (sufOf s nn)) := Lib.hid (by unfold intRes; rw [hv]; rw [← hnn]; simp only [h0, if_false])
      rw [hnn] at c7 hle hn0
      clear hDl hnn h0 hv
      have hb0 : ((nn : Int) == 0) = false := beq_eq_false_iff_ne.mpr (by omega)
      have hcnt : (s.extract nn s.size).size + Lib.countB (s.extract nn s.size) ⟨#[85]⟩ * (⟨#[117]⟩ : ByteArray).size ≤ 140737488355328 := by
        have h1 := Lib.countB_le ⟨#[85]⟩ (by decide) _ (s.extract nn s.size) (Nat.le_refl _)
        have h3 : (⟨#[117]⟩ : ByteArray).size = 1 := rfl
        rw [h3]
        have h2 : (s.extract nn s.size).size ≤ s.size := by simp
        omega
      have hxs : (s.extract nn s.size).size < 4294967281 := by have h2 : (s.extract nn s.size).size ≤ s.size := by simp
                                                               omega
      have hmW : W.cell? ⟨0, 0, none⟩ = some (.int .i64 m) := (hBW.cell (p := ⟨0, 0, none⟩) (World.block_lt_of_cell? _ _ hm)).trans hm
      go_wp2_with (fail)
      refine (Tryd.strings_ReplaceAll (s.extract nn s.size) ⟨#[85]⟩ ⟨#[117]⟩ m _ hxs hmW (by decide) hcnt).mono ?_
      rintro e w3 ⟨rfl, hB3⟩
      have hres' : Hid (intRes 8 s = intTail 8 v (Lib.replaceAll (s.extract nn s.size).data.toList [85] [117])) := hres
      clear hres hxs hmW hcnt
      generalize Lib.replaceAll (s.extract nn s.size).data.toList [85] [117] = suf at hres' ⊢
      have d2 := (hB3.cell (p := ⟨w.heap.size, 0, none⟩) (World.block_lt_of_cell? _ _ c2)).trans c2
      have g2 := (hB3.frozen (p := ⟨w.heap.size, 0, none⟩) (World.block_lt_of_cell? _ _ c2)).trans f2
      have d5 := (hB3.cell (p := ⟨w.heap.size + 1, 0, none⟩) (World.block_lt_of_cell? _ _ c5)).trans c5
      have hK3 := (others_of_below hB3).same B _ hK rfl
      have hBW3 := hBW.trans (hB3.mono hBW.size)
      clear c2 f2 c5 c7 f7 c8 f8 hK hB3 hBW
      have hfin : ∀ (X : Int) (bb : Bool) (ee : Int), intTail 8 v suf = (X, bb, ee) →
          ((w3.setCell ⟨w.heap.size, 0, none⟩ (.int .u64 X)).putObj B (.deferred none)).cell? ⟨w.heap.size, 0, none⟩ = some (.int .u64 X) ∧
          Hid (Ending.returned (.tuple #[.int .u64 X, .bool bb, .int .i64 ee]) = .returned (.tuple #[.int .u64 (intRes 8 (t)).1, .bool (intRes 8 (t)).2.1, .int .i64 (intRes 8 (t)).2.2])) ∧
          Below w.heap.size w ((w3.setCell ⟨w.heap.size, 0, none⟩ (.int .u64 X)).putObj B (.deferred none)) ∧ (w3.setCell ⟨w.heap.size, 0, none⟩ (.int .u64 X)).heap[B]? = some (.deferred (some [])) := by
        intro X bb ee hX
        have hK4 := (KeepsOthers.setCell w3 ⟨w.heap.size, 0, none⟩ (.int .u64 X)).same B _ hK3 rfl
        refine ⟨cell_kept (World.cell?_setCell_same' w3 ⟨w.heap.size, 0, none⟩ (.int .u64 X) (by rw [d2]; rfl)) (grownBy_putObj' _ B (.deferred none)) (fun r e => by cases e; exact ⟨_, hK4, rfl⟩), Lib.hid ?_, hBl (hBW3.setCell (p := ⟨w.heap.size, 0, none⟩) (Nat.le_refl _) _) hK4, hK4⟩
        rw [HSE.out, hres'.out, hX]
      clear hres' hBW3 hK3 hBl
      by_cases hA : suf = [] ∨ suf = [108] ∨ suf = [76] ∨ suf = [108, 108] ∨ suf = [76, 76]
      · obtain ⟨hc, HE, hb, hk⟩ := hfin v (decide (9223372036854775807 < v)) 0 (by unfold intTail; rw [if_pos hA]; simp)
        clear hfin
        rcases hA with rfl | rfl | rfl | rfl | rfl
        all_goals go_wp2
        all_goals rw [Exit.noGoto_ret]
        all_goals refine ⟨by simp, .inl ⟨_, _, rfl, run_takeDeferred hk, ?_⟩⟩
        all_goals refine ⟨_, ?_, HE.out, hb⟩
        all_goals simp [results, Tryd.results28, go_sem, hc]
      by_cases hB : suf = [117] ∨ suf = [117, 108] ∨ suf = [117, 76] ∨ suf = [117, 108, 108] ∨ suf = [117, 76, 76] ∨ suf = [108, 117] ∨ suf = [76, 117] ∨ suf = [108, 108, 117] ∨ suf = [76, 76, 117]
      · obtain ⟨hc, HE, hb, hk⟩ := hfin v true 0 (by unfold intTail; rw [if_neg hA, if_pos hB])
        clear hfin hA
        rcases hB with rfl | rfl | rfl | rfl | rfl | rfl | rfl | rfl | rfl
        all_goals go_wp2
        all_goals rw [Exit.noGoto_ret]
        all_goals refine ⟨by simp, .inl ⟨_, _, rfl, run_takeDeferred hk, ?_⟩⟩
        all_goals refine ⟨_, ?_, HE.out, hb⟩
        all_goals simp [results, Tryd.results28, go_sem, hc]
      · obtain ⟨hc, HE, hb, hk⟩ := hfin 0 false 40 (by unfold intTail; rw [if_neg hA, if_neg hB])
        clear hfin
        simp only [not_or, ← beq_eq_false_iff_ne (α := List UInt8)] at hA hB
        obtain ⟨g0, g1, g3, g4, g5⟩ := hA
        obtain ⟨g6, g7, g8, g9, ga, gb, gc, gd, ge⟩ := hB
        have g0' : suf.isEmpty = false := by rw [List.isEmpty_eq_false_iff]; simpa using g0
        all_goals go_wp2
        all_goals rw [Exit.noGoto_ret]
        all_goals refine ⟨by simp, .inl ⟨_, _, rfl, run_takeDeferred hk, ?_⟩⟩
        all_goals refine ⟨_, ?_, HE.out, hb⟩
        all_goals simp [results, Tryd.results28, go_sem, hc]
  case stop =>
    rintro B c pre W hD hp ⟨⟨rfl, hvn, ⟨v, c2⟩, f2, ⟨n, c7⟩, c8⟩, hBW⟩ hK
    have hres : intRes 8 s = (0, false, 40) := by
      have hp' : pre.map (·.1) <+: digs s 8 := by rw [← digD_map]; exact hp.map _
      unfold intRes; rw [vOf_prefix hp' hvn]
    have hBl : ∀ {W' : World}, Below w.heap.size w W' → W'.heap[B]? = some (.deferred (some [])) → Below w.heap.size w (W'.putObj B (.deferred none)) := fun hb hk => hb.trans (belowK_b (w := w) (Nat.le_refl _) _ B _ _ (by omega) hk rfl rfl)
    have hK' := (KeepsOthers.setCell W ⟨w.heap.size, 0, none⟩ (.int .u64 0)).same B _ hK rfl
    have hc := cell_kept (World.cell?_setCell_same' W ⟨w.heap.size, 0, none⟩ (.int .u64 0) (by rw [c2]; rfl)) (grownBy_putObj' _ B (.deferred none)) (fun r e => by cases e; exact ⟨_, hK', rfl⟩)
    have HC := Lib.hid hc
    have HR := Lib.hid hres
    clear hc hres hvn hp hDl hle
    by_cases hn : n = 0
    · subst hn
      go_wp2
      rw [Exit.noGoto_ret]
      refine ⟨by simp, .inl ⟨_, _, rfl, run_takeDeferred hK', ?_⟩⟩
      refine ⟨_, ?_, by rw [HSE.out, HR.out], hBl (hBW.setCell (p := ⟨w.heap.size, 0, none⟩) (Nat.le_refl _) _) hK'⟩
      simp [results, Tryd.results28, go_sem, HC.out]
    · have hb0 : ((n : Int) == 0) = false := beq_eq_false_iff_ne.mpr (by omega)
      clear hn
      go_wp2
      rw [Exit.noGoto_ret]
      refine ⟨by simp, .inl ⟨_, _, rfl, run_takeDeferred hK', ?_⟩⟩
      refine ⟨_, ?_, by rw [HSE.out, HR.out], hBl (hBW.setCell (p := ⟨w.heap.size, 0, none⟩) (Nat.le_refl _) _) hK'⟩
      simp [results, Tryd.results28, go_sem, HC.out]
set_option maxRecDepth 100000 in
set_option maxHeartbeats 4000000 in
theorem int10 (t : ByteArray) (w : World) (hs : t.size < 4294967281) (hh : ctok_hexed.f t = some false) (hz : strings_HasPrefix.f t ⟨#[48]⟩ = some false) (m : Int) (hm : w.cell? ⟨0, 0, none⟩ = some (.int .i64 m)) :
    Calls Tryd.prog 28 #[.string t] w fun e w' => e = .returned (.tuple #[.int .u64 (intRes 10 (t)).1, .bool (intRes 10 (t)).2.1, .int .i64 (intRes 10 (t)).2.2]) ∧ Below w.heap.size w w' := by
  refine calls_marks (callsIn_of_wp_marks Tryd.func28 rfl trivial ?_ rfl)
  refine wpIn_wide.2 ?_
  simp only [Tryd.ntmps28, List.size_toArray, List.length_cons, List.length_nil, Nat.reduceAdd, Nat.reduceSub, Array.replicate_succ, Array.replicate_zero, List.push_toArray, List.append_toArray, List.nil_append, List.cons_append]
  go_wp2
  go_step3
  go_wp2_with (first | (go_at_call 31; refine (ctok_hexed.calls _ _ _ hh).mono ?_; rintro e w' ⟨rfl, ⟨nd, rfl⟩⟩) | (go_at_call 41; refine (strings_HasPrefix.calls _ _ _ _ hz).mono ?_; rintro e w' ⟨rfl, ⟨nd2, rfl⟩⟩))
  go_step3
  go_wp2_with (first | (go_at_call 42; refine (digits_calls _ _ _).mono ?_; rintro e w' ⟨rfl, rfl⟩))
  have hss0 : (t).size ≤ t.size := by simp
  obtain ⟨s, hse⟩ : ∃ s, t = s := ⟨_, rfl⟩
  have hss : s.size ≤ t.size := by rw [← hse]; exact hss0
  have HSE := Lib.hid hse
  simp only [hse]
  clear hse hss0
  obtain ⟨W1, hW1⟩ : ∃ W1, (((w.alloc (.cells #[.int .u64 0] 32)).alloc (.cells #[.int .i64 10] 3)).drewN (nd + nd2)) = W1 := ⟨_, rfl⟩
  have k2 : W1.heap[w.heap.size]? = some (.cells #[.int .u64 0] 32) := by rw [← hW1]; exact (blk_drewN (blk_alloc (blk_new _ _) _) _)
  have k5 : W1.heap[w.heap.size + 1]? = some (.cells #[.int .i64 10] 3) := by rw [← hW1]; exact (blk_drewN (by simpa using blk_new (w.alloc (.cells #[.int .u64 0] 32)) (.cells #[.int .i64 10] 3)) _)
  have hz1 : W1.heap.size = w.heap.size + 2 := by rw [← hW1]; simp
  have hB1 : Below w.heap.size w W1 := by rw [← hW1]; exact (pw_below_drewN (((Below.refl _ _).alloc (Nat.le_refl _) _).alloc (by simp) _) _)
  rw [hW1]
  clear hW1
  obtain ⟨W0, hW0⟩ : ∃ W0, (((W1.alloc (.cells #[.int .i64 0] 3)).alloc (.cells #[.bool false] 4)).alloc (.cells #[.string s] 9)).alloc (.cells #[.int .i64 10] 3) = W0 := ⟨_, rfl⟩
  have p2 : W0.heap[w.heap.size]? = some (.cells #[.int .u64 0] 32) := by rw [← hW0]; exact blk_alloc (blk_alloc (blk_alloc (blk_alloc k2 _) _) _) _
  have p5 : W0.heap[w.heap.size + 1]? = some (.cells #[.int .i64 10] 3) := by rw [← hW0]; exact blk_alloc (blk_alloc (blk_alloc (blk_alloc k5 _) _) _) _
  have p7 : W0.heap[w.heap.size + 1 + 1]? = some (.cells #[.int .i64 0] 3) := by rw [← hW0]; exact blk_alloc (blk_alloc (blk_alloc (by simpa [hz1] using blk_new W1 (.cells #[.int .i64 0] 3)) _) _) _
  have p8 : W0.heap[w.heap.size + 1 + 1 + 1]? = some (.cells #[.bool false] 4) := by rw [← hW0]; exact blk_alloc (blk_alloc (by simpa [hz1] using blk_new (W1.alloc (.cells #[.int .i64 0] 3)) (.cells #[.bool false] 4)) _) _
  have ps : W0.heap[w.heap.size + 1 + 1 + 1 + 1]? = some (.cells #[.string s] 9) := by rw [← hW0]; exact blk_alloc (by simpa [hz1] using blk_new ((W1.alloc (.cells #[.int .i64 0] 3)).alloc (.cells #[.bool false] 4)) (.cells #[.string s] 9)) _
  have pb : W0.heap[w.heap.size + 1 + 1 + 1 + 1 + 1]? = some (.cells #[.int .i64 10] 3) := by rw [← hW0]; simpa [hz1] using blk_new (((W1.alloc (.cells #[.int .i64 0] 3)).alloc (.cells #[.bool false] 4)).alloc (.cells #[.string s] 9)) (.cells #[.int .i64 10] 3)
  have hz0 : W0.heap.size = w.heap.size + 6 := by rw [← hW0]; simp [hz1]
  have hB0 : Below w.heap.size w W0 := by rw [← hW0]; exact ((((hB1.alloc (by omega) _).alloc (by simp; omega) _).alloc (by simp; omega) _).alloc (by simp; omega) _)
  rw [hW0]
  clear hW0 k2 k5 hz1 hB1
  have hle := digs_le s 10
  have hDl : (digD s 10).length = (digs s 10).length := by rw [← digD_map, List.length_map]
  refine wp_rangeFunc_list (gf := 52) (lb := #[.pointer (some ⟨w.heap.size + 1 + 1 + 1 + 1, 0, none⟩), .pointer (some ⟨w.heap.size + 1 + 1 + 1 + 1 + 1, 0, none⟩)]) rfl (enters_of Tryd.func52 (by kernel_rfl) rfl)
    (digits_stops (fun x : Dig 10 => x.1) (digD s 10) _ (by omega) (w.heap.size + 1 + 1 + 1 + 1) (w.heap.size + 1 + 1 + 1 + 1 + 1) (fun b => b = w.heap.size + 1 + 1 + 1 + 1 ∨ b = w.heap.size + 1 + 1 + 1 + 1 + 1) s 10 (by unfold maxLen; omega) (digD_map s 10) (.inl rfl) (.inr rfl) W0 (cell_of_box_l ps).1 (cell_of_box_l pb).1)
    (by rintro b (rfl | rfl) <;> omega) (fun _ => rfl)
    (fun pre W => (∃ v, vOf 10 (pre.map (·.1)) = some v ∧ W.cell? ⟨w.heap.size, 0, none⟩ = some (.int .u64 v) ∧ W.frozen? ⟨w.heap.size, 0, none⟩ = false ∧ W.cell? ⟨w.heap.size + 1, 0, none⟩ = some (.int .i64 10) ∧
      W.cell? ⟨w.heap.size + 1 + 1, 0, none⟩ = some (.int .i64 (pre.length : Int)) ∧ W.frozen? ⟨w.heap.size + 1 + 1, 0, none⟩ = false ∧ W.cell? ⟨w.heap.size + 1 + 1 + 1, 0, none⟩ = some (.bool false) ∧ W.frozen? ⟨w.heap.size + 1 + 1 + 1, 0, none⟩ = false) ∧ Below w.heap.size w W)
    (fun c pre W => (c = .exit 1 ∧ vOf 10 (pre.map (·.1)) = none ∧ (∃ v, W.cell? ⟨w.heap.size, 0, none⟩ = some v) ∧ W.frozen? ⟨w.heap.size, 0, none⟩ = false ∧ (∃ n : Nat, W.cell? ⟨w.heap.size + 1 + 1, 0, none⟩ = some (.int .i64 (n : Int))) ∧ W.cell? ⟨w.heap.size + 1 + 1 + 1, 0, none⟩ = some (.bool true)) ∧ Below w.heap.size w W)
    (OwnFrom.and (Own.from (fun s A B row hs hg hr => by
      obtain ⟨v, a1, a2, a3, a4, a5, a6, a7, a8⟩ := hs
      exact ⟨v, a1, cell_kept a2 hg hr, (frozen_kept a2 hg hr).trans a3, cell_kept a4 hg hr, cell_kept a5 hg hr, (frozen_kept a5 hg hr).trans a6, cell_kept a7 hg hr, (frozen_kept a7 hg hr).trans a8⟩) _) (ownFrom_below (Nat.le_refl _) (by omega)))
    (fun c => OwnFrom.and (Own.from (fun s A B row hs hg hr => by
      obtain ⟨a0, a1, ⟨v, a2⟩, a3, ⟨n, a4⟩, a5⟩ := hs
      exact ⟨a0, a1, ⟨v, cell_kept a2 hg hr⟩, (frozen_kept a2 hg hr).trans a3, ⟨n, cell_kept a4 hg hr⟩, cell_kept a5 hg hr⟩) _) (ownFrom_below (Nat.le_refl _) (by omega)))
    ⟨⟨0, rfl, (cell_of_box_l p2).1, (cell_of_box_l p2).2, (cell_of_box_l p5).1, (cell_of_box_l p7).1, (cell_of_box_l p7).2, (cell_of_box_l p8).1, (cell_of_box_l p8).2⟩, hB0⟩ ?a1 ?assign ?body ?done ?stop
  case assign =>
    intro l x W K hK
    gi_wp2
    exact hK
  case body =>
    rintro l pre x W ⟨⟨v, hv, c2, f2, c5, c7, f7, c8, f8⟩, hBW⟩ hlen
    have hvb := vOf_bound (by omega) hv
    have hx := x.2
    have hmx : Tryd.prog.follows .mixedOrders = true := by kernel_rfl
    have e1 : IntKind.u64.wrap x.1 = x.1 := by rw [IntKind.wrap_u64]; omega
    by_cases hq : (18446744073709551615 - x.1) / 10 < v
    · have hqb : decide ((18446744073709551615 - x.1) / 10 < v) = true := decide_eq_true hq
      have HQ := Lib.hid hq
      clear hq
      gi_wp2
      refine wpIn_round_quiet (by kernel_rfl) hmx (by kernel_rfl) ?_
      repeat (gi_big_quiet_step (fail))
      refine wpQuietIn_nil ?_
      intro _ hw'
      obtain ⟨nq, hw''⟩ := hw'
      subst hw''
      gi_wp2
      refine ⟨(others_of_below (pw_below_drewN (Below.refl W.heap.size W) nq)).trans (KeepsOthers.setCell _ _ _), ⟨rfl, ?_, ⟨_, (cell_far (p := ⟨w.heap.size + 1 + 1 + 1, 0, none⟩) (by simp; try omega) _).trans c2⟩, ?_, ⟨_, (cell_far (p := ⟨w.heap.size + 1 + 1 + 1, 0, none⟩) (by simp; try omega) _).trans c7⟩, ?_⟩, (pw_below_drewN hBW _).setCell (p := ⟨w.heap.size + 1 + 1 + 1, 0, none⟩) (by simp; omega) _⟩
      · rw [List.map_append, List.map_cons, List.map_nil, vOf_snoc, hv]
        simp only [vStep, Option.bind_some]
        rw [if_pos HQ.out]
      · rw [World.frozen?_setCell]; exact f2
      · exact World.cell?_setCell_same' _ _ _ (by show Option.isSome (W.cell? _) = true; rw [c8]; rfl)
    · have hq1 : v * 10 ≤ 18446744073709551615 - x.1 := by omega
      have hq2 : 0 ≤ v * 10 := by omega
      have hl1 : (pre.length : Int) + 1 ≤ 4294967281 := by omega
      have hvn : Hid (vOf 10 ((pre ++ [x]).map (·.1)) = some (v * 10 + x.1)) := Lib.hid (by
        rw [List.map_append, List.map_cons, List.map_nil, vOf_snoc, hv]
        simp only [vStep, Option.bind_some]
        rw [if_neg hq])
      have HQ1 := Lib.hid hq1
      have HQ2 := Lib.hid hq2
      have HVB := Lib.hid hvb
      have hqb : decide ((18446744073709551615 - x.1) / 10 < v) = false := decide_eq_false hq
      clear hv hq1 hq2 hvb hq
      gi_wp2
      refine wpIn_round_quiet (by kernel_rfl) hmx (by kernel_rfl) ?_
      repeat (gi_big_quiet_step (fail))
      refine wpQuietIn_nil ?_
      intro _ hw'
      obtain ⟨nq, hw''⟩ := hw'
      subst hw''
      gi_wp2
      have hw : IntKind.u64.wrap (IntKind.u64.wrap (v * 10) + x.1) = v * 10 + x.1 := by have := HQ1.out; have := HQ2.out; rw [IntKind.wrap_u64, IntKind.wrap_u64]; omega
      rw [hw]
      refine ⟨(others_of_below (pw_below_drewN (Below.refl W.heap.size W) nq)).trans ((KeepsOthers.setCell _ _ _).trans (KeepsOthers.setCell _ _ _)), (KeepS.of_below (pw_below_drewN (Below.refl W.heap.size W) nq)).trans ((KeepS.setCell _ (by rintro (h | h) <;> (simp at h; try omega))).trans (KeepS.setCell _ (by rintro (h | h) <;> (simp at h; try omega)))),
        ⟨_, hvn.out, ?_, ?_, ?_, ?_, ?_, ?_, ?_⟩, ((pw_below_drewN hBW _).setCell (p := ⟨w.heap.size, 0, none⟩) (Nat.le_refl _) _).setCell (p := ⟨w.heap.size + 1 + 1, 0, none⟩) (by show w.heap.size ≤ w.heap.size + 1 + 1; omega) _⟩
      · rw [cell_far (p := ⟨w.heap.size + 1 + 1, 0, none⟩) (by simp; try omega)]
        exact World.cell?_setCell_same' _ _ _ (by show Option.isSome (W.cell? _) = true; rw [c2]; rfl)
      · rw [World.frozen?_setCell, World.frozen?_setCell]; exact f2
      · exact ((cell_far (p := ⟨w.heap.size + 1 + 1, 0, none⟩) (by simp; try omega) _).trans (cell_far (p := ⟨w.heap.size, 0, none⟩) (by simp; try omega) _)).trans c5
      · rw [World.cell?_setCell_same' _ _ _ (by rw [cell_far (p := ⟨w.heap.size, 0, none⟩) (by simp; try omega)]; show Option.isSome (W.cell? _) = true; rw [c7]; rfl)]
        simp
      · rw [World.frozen?_setCell, World.frozen?_setCell]; exact f7
      · exact ((cell_far (p := ⟨w.heap.size + 1 + 1, 0, none⟩) (by simp; try omega) _).trans (cell_far (p := ⟨w.heap.size, 0, none⟩) (by simp; try omega) _)).trans c8
      · rw [World.frozen?_setCell, World.frozen?_setCell]; exact f8
  case done =>
    rintro B W hD ⟨⟨v, hv, c2, f2, c5, c7, f7, c8, f8⟩, hBW⟩ hK
    rw [digD_map] at hv
    rw [hDl] at c7
    have hBl : ∀ {W' : World}, Below w.heap.size w W' → W'.heap[B]? = some (.deferred (some [])) → Below w.heap.size w (W'.putObj B (.deferred none)) := fun hb hk => hb.trans (belowK_b (w := w) (Nat.le_refl _) _ B _ _ (by omega) hk rfl rfl)
    by_cases h0 : (digs s 10).length = 0
    · rw [h0] at c7
      have hres : intRes 10 s = (0, false, 40) := by unfold intRes; rw [hv]; simp only [h0, if_true]
      clear hDl hle
      go_wp2
      rw [Exit.noGoto_ret]
      have hK' := (KeepsOthers.setCell W ⟨w.heap.size, 0, none⟩ (.int .u64 0)).same B _ hK rfl
      have hc := cell_kept (World.cell?_setCell_same' W ⟨w.heap.size, 0, none⟩ (.int .u64 0) (by rw [c2]; rfl)) (grownBy_putObj' _ B (.deferred none)) (fun r e => by cases e; exact ⟨_, hK', rfl⟩)
      refine ⟨by simp, .inl ⟨_, _, rfl, run_takeDeferred hK', ?_⟩⟩
      refine ⟨_, ?_, by rw [HSE.out, hres], hBl (hBW.setCell (p := ⟨w.heap.size, 0, none⟩) (Nat.le_refl _) _) hK'⟩
      simp [results, Tryd.results28, go_sem, hc]
    · have hn0 : 0 < (digs s 10).length := by omega
      obtain ⟨nn, hnn⟩ : ∃ nn, (digs s 10).length = nn := ⟨_, rfl⟩
      have hres : Hid (intRes 10 s = intTail 10 v (sufOf s nn)) := Lib.hid (by unfold intRes; rw [hv]; rw [← hnn]; simp only [h0, if_false])
      rw [hnn] at c7 hle hn0
      clear hDl hnn h0 hv
      have hb0 : ((nn : Int) == 0) = false := beq_eq_false_iff_ne.mpr (by omega)
      have hcnt : (s.extract nn s.size).size + Lib.countB (s.extract nn s.size) ⟨#[85]⟩ * (⟨#[117]⟩ : ByteArray).size ≤ 140737488355328 := by
        have h1 := Lib.countB_le ⟨#[85]⟩ (by decide) _ (s.extract nn s.size) (Nat.le_refl _)
        have h3 : (⟨#[117]⟩ : ByteArray).size = 1 := rfl
        rw [h3]
        have h2 : (s.extract nn s.size).size ≤ s.size := by simp
        omega
      have hxs : (s.extract nn s.size).size < 4294967281 := by have h2 : (s.extract nn s.size).size ≤ s.size := by simp
                                                               omega
      have hmW : W.cell? ⟨0, 0, none⟩ = some (.int .i64 m) := (hBW.cell (p := ⟨0, 0, none⟩) (World.block_lt_of_cell? _ _ hm)).trans hm
      go_wp2_with (fail)
      refine (Tryd.strings_ReplaceAll (s.extract nn s.size) ⟨#[85]⟩ ⟨#[117]⟩ m _ hxs hmW (by decide) hcnt).mono ?_
      rintro e w3 ⟨rfl, hB3⟩
      have hres' : Hid (intRes 10 s = intTail 10 v (Lib.replaceAll (s.extract nn s.size).data.toList [85] [117])) := hres
      clear hres hxs hmW hcnt
      generalize Lib.replaceAll (s.extract nn s.size).data.toList [85] [117] = suf at hres' ⊢
      have d2 := (hB3.cell (p := ⟨w.heap.size, 0, none⟩) (World.block_lt_of_cell? _ _ c2)).trans c2
      have g2 := (hB3.frozen (p := ⟨w.heap.size, 0, none⟩) (World.block_lt_of_cell? _ _ c2)).trans f2
      have d5 := (hB3.cell (p := ⟨w.heap.size + 1, 0, none⟩) (World.block_lt_of_cell? _ _ c5)).trans c5
      have hK3 := (others_of_below hB3).same B _ hK rfl
      have hBW3 := hBW.trans (hB3.mono hBW.size)
      clear c2 f2 c5 c7 f7 c8 f8 hK hB3 hBW
      have hfin : ∀ (X : Int) (bb : Bool) (ee : Int), intTail 10 v suf = (X, bb, ee) →
          ((w3.setCell ⟨w.heap.size, 0, none⟩ (.int .u64 X)).putObj B (.deferred none)).cell? ⟨w.heap.size, 0, none⟩ = some (.int .u64 X) ∧
          Hid (Ending.returned (.tuple #[.int .u64 X, .bool bb, .int .i64 ee]) = .returned (.tuple #[.int .u64 (intRes 10 (t)).1, .bool (intRes 10 (t)).2.1, .int .i64 (intRes 10 (t)).2.2])) ∧
          Below w.heap.size w ((w3.setCell ⟨w.heap.size, 0, none⟩ (.int .u64 X)).putObj B (.deferred none)) ∧ (w3.setCell ⟨w.heap.size, 0, none⟩ (.int .u64 X)).heap[B]? = some (.deferred (some [])) := by
        intro X bb ee hX
        have hK4 := (KeepsOthers.setCell w3 ⟨w.heap.size, 0, none⟩ (.int .u64 X)).same B _ hK3 rfl
        refine ⟨cell_kept (World.cell?_setCell_same' w3 ⟨w.heap.size, 0, none⟩ (.int .u64 X) (by rw [d2]; rfl)) (grownBy_putObj' _ B (.deferred none)) (fun r e => by cases e; exact ⟨_, hK4, rfl⟩), Lib.hid ?_, hBl (hBW3.setCell (p := ⟨w.heap.size, 0, none⟩) (Nat.le_refl _) _) hK4, hK4⟩
        rw [HSE.out, hres'.out, hX]
      clear hres' hBW3 hK3 hBl
      by_cases hA : suf = [] ∨ suf = [108] ∨ suf = [76] ∨ suf = [108, 108] ∨ suf = [76, 76]
      · by_cases hv10 : 9223372036854775807 < v
        · obtain ⟨hc, HE, hb, hk⟩ := hfin 0 false 40 (by unfold intTail; rw [if_pos hA, if_pos ⟨rfl, hv10⟩])
          clear hfin
          rcases hA with rfl | rfl | rfl | rfl | rfl
          all_goals go_wp2
          all_goals rw [Exit.noGoto_ret]
          all_goals refine ⟨by simp, .inl ⟨_, _, rfl, run_takeDeferred hk, ?_⟩⟩
          all_goals refine ⟨_, ?_, HE.out, hb⟩
          all_goals simp [results, Tryd.results28, go_sem, hc]
        · obtain ⟨hc, HE, hb, hk⟩ := hfin v false 0 (by unfold intTail; rw [if_pos hA, if_neg (fun h => hv10 h.2)]; simp)
          have hv11 : decide (9223372036854775807 < v) = false := decide_eq_false hv10
          clear hfin hv10
          rcases hA with rfl | rfl | rfl | rfl | rfl
          all_goals go_wp2
          all_goals rw [Exit.noGoto_ret]
          all_goals refine ⟨by simp, .inl ⟨_, _, rfl, run_takeDeferred hk, ?_⟩⟩
          all_goals refine ⟨_, ?_, HE.out, hb⟩
          all_goals simp [results, Tryd.results28, go_sem, hc]
      by_cases hB : suf = [117] ∨ suf = [117, 108] ∨ suf = [117, 76] ∨ suf = [117, 108, 108] ∨ suf = [117, 76, 76] ∨ suf = [108, 117] ∨ suf = [76, 117] ∨ suf = [108, 108, 117] ∨ suf = [76, 76, 117]
      · obtain ⟨hc, HE, hb, hk⟩ := hfin v true 0 (by unfold intTail; rw [if_neg hA, if_pos hB])
        clear hfin hA
        rcases hB with rfl | rfl | rfl | rfl | rfl | rfl | rfl | rfl | rfl
        all_goals go_wp2
        all_goals rw [Exit.noGoto_ret]
        all_goals refine ⟨by simp, .inl ⟨_, _, rfl, run_takeDeferred hk, ?_⟩⟩
        all_goals refine ⟨_, ?_, HE.out, hb⟩
        all_goals simp [results, Tryd.results28, go_sem, hc]
      · obtain ⟨hc, HE, hb, hk⟩ := hfin 0 false 40 (by unfold intTail; rw [if_neg hA, if_neg hB])
        clear hfin
        simp only [not_or, ← beq_eq_false_iff_ne (α := List UInt8)] at hA hB
        obtain ⟨g0, g1, g3, g4, g5⟩ := hA
        obtain ⟨g6, g7, g8, g9, ga, gb, gc, gd, ge⟩ := hB
        have g0' : suf.isEmpty = false := by rw [List.isEmpty_eq_false_iff]; simpa using g0
        all_goals go_wp2
        all_goals rw [Exit.noGoto_ret]
        all_goals refine ⟨by simp, .inl ⟨_, _, rfl, run_takeDeferred hk, ?_⟩⟩
        all_goals refine ⟨_, ?_, HE.out, hb⟩
        all_goals simp [results, Tryd.results28, go_sem, hc]
  case stop =>
    rintro B c pre W hD hp ⟨⟨rfl, hvn, ⟨v, c2⟩, f2, ⟨n, c7⟩, c8⟩, hBW⟩ hK
    have hres : intRes 10 s = (0, false, 40) := by
      have hp' : pre.map (·.1) <+: digs s 10 := by rw [← digD_map]; exact hp.map _
      unfold intRes; rw [vOf_prefix hp' hvn]
    have hBl : ∀ {W' : World}, Below w.heap.size w W' → W'.heap[B]? = some (.deferred (some [])) → Below w.heap.size w (W'.putObj B (.deferred none)) := fun hb hk => hb.trans (belowK_b (w := w) (Nat.le_refl _) _ B _ _ (by omega) hk rfl rfl)
    have hK' := (KeepsOthers.setCell W ⟨w.heap.size, 0, none⟩ (.int .u64 0)).same B _ hK rfl
    have hc := cell_kept (World.cell?_setCell_same' W ⟨w.heap.size, 0, none⟩ (.int .u64 0) (by rw [c2]; rfl)) (grownBy_putObj' _ B (.deferred none)) (fun r e => by cases e; exact ⟨_, hK', rfl⟩)
    have HC := Lib.hid hc
    have HR := Lib.hid hres
    clear hc hres hvn hp hDl hle
    by_cases hn : n = 0
    · subst hn
      go_wp2
      rw [Exit.noGoto_ret]
      refine ⟨by simp, .inl ⟨_, _, rfl, run_takeDeferred hK', ?_⟩⟩
      refine ⟨_, ?_, by rw [HSE.out, HR.out], hBl (hBW.setCell (p := ⟨w.heap.size, 0, none⟩) (Nat.le_refl _) _) hK'⟩
      simp [results, Tryd.results28, go_sem, HC.out]
    · have hb0 : ((n : Int) == 0) = false := beq_eq_false_iff_ne.mpr (by omega)
      clear hn
      go_wp2
      rw [Exit.noGoto_ret]
      refine ⟨by simp, .inl ⟨_, _, rfl, run_takeDeferred hK', ?_⟩⟩
      refine ⟨_, ?_, by rw [HSE.out, HR.out], hBl (hBW.setCell (p := ⟨w.heap.size, 0, none⟩) (Nat.le_refl _) _) hK'⟩
      simp [results, Tryd.results28, go_sem, HC.out]
def ctok_Int.f (a0 : ByteArray) : Option (Int × Bool × Int) :=
  if a0.size < 4294967281 then (ctok_hexed.f a0).bind fun h => if h = true then (if 2 ≤ a0.size then some (intRes 16 (a0.extract 2 a0.size)) else none) else (strings_HasPrefix.f a0 ⟨#[48]⟩).bind fun z => if z = true then some (intRes 8 a0) else some (intRes 10 a0)
  else none
theorem ctok_Int.calls (a0 : ByteArray) (r1 : Int) (r2 : Bool) (r3 : Int) (w : World) (hsh : ∃ m, w.cell? ⟨0, 0, none⟩ = some (.int .i64 m)) (h : ctok_Int.f a0 = some (r1, r2, r3)) :
    Calls Tryd.prog 28 #[.string a0] w fun e w' => e = .returned (.tuple #[.int .u64 r1, .bool r2, .int .i64 r3]) ∧ Below w.heap.size w w' := by
  obtain ⟨m, hm⟩ := hsh
  unfold ctok_Int.f at h
  split at h
  · rename_i hs
    obtain ⟨b, hh, h⟩ := Option.bind_eq_some_iff.1 h
    cases b with
    | true =>
      simp only [if_true] at h
      split at h
      · rename_i h2
        injection h with h
        have := int16 a0 w hs hh h2 m hm
        rwa [h] at this
      · cases h
    | false =>
      rw [if_neg (by simp)] at h
      obtain ⟨z, hz, h⟩ := Option.bind_eq_some_iff.1 h
      cases z with
      | true =>
        simp only [if_true] at h
        injection h with h
        have := int8 a0 w hs hh hz m hm
        rwa [h] at this
      | false =>
        rw [if_neg (by simp)] at h
        injection h with h
        have := int10 a0 w hs hh hz m hm
        rwa [h] at this
  · cases h
def ctok_run.f (a0 : ByteArray) (a1 : Int) : Option Int := if a0.size ≤ 140737488355328 then some ((digs a0 a1).length : Int) else none
theorem ctok_run.calls (a0 : ByteArray) (a1 : Int) (r : Int) (w : World) (h : ctok_run.f a0 a1 = some r) : Calls Tryd.prog 32 #[.string a0, .int .i64 a1] w fun e w' => e = .returned (.int .i64 r) ∧ Below w.heap.size w w' := by
  unfold ctok_run.f at h
  split at h
  · injection h with h
    have := run_any a0 a1 w (by unfold maxLen; omega)
    rwa [h] at this
  · cases h
end Go.Proofs.YtcdleippdegibaaDoor.Digits
