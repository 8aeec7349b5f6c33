import Derived.Test.YtcdleippdegibaaDoorNFirst
import Derived.Test.YtcdleippdegibaaDoorNPSx5
import Derived.Test.YtcdleippdegibaaDoorNPHx1
namespace Go.Proofs.YtcdleippdegibaaDoor.One
open Go.RowKit Go.Shelf Go.Proofs Go.Proofs.YtcdleippdegibaaDoorW.PrintWords Go.Proofs.YtcdleippdegibaaDoor.Iter Go.Proofs.YtcdleippdegibaaDoor.PS Go.Proofs.YtcdleippdegibaaDoor.PH Go.Proofs.YtcdleippdegibaaDoor.LibG Go.Proofs.YtcdleippdegibaaDoor.First
attribute [local go_sem] Oper.semAt_some
def whiteB (b : UInt8) : Bool := b == 32 || b == 9 || b == 11 || b == 12
def wsk (l : List UInt8) : Nat := (l.takeWhile whiteB).length
theorem white_f (b : UInt8) : scan_white.f (b.toNat : Int) = some (whiteB b) := by
  have h : ∀ q : UInt8, ((b.toNat : Int) = (q.toNat : Int)) ↔ b = q := fun q => by rw [← UInt8.toNat_inj]; omega
  unfold scan_white.f whiteB
  have h32 := h 32
  have h9 := h 9
  have h11 := h 11
  have h12 := h 12
  simp only [show (((32 : UInt8).toNat : Int)) = 32 from rfl, show (((9 : UInt8).toNat : Int)) = 9 from rfl, show (((11 : UInt8).toNat : Int)) = 11 from rfl, show (((12 : UInt8).toNat : Int)) = 12 from rfl] at h32 h9 h11 h12
  by_cases e1 : b = 32
  · rw [if_pos (h32.2 e1)]; simp [e1]
  rw [if_neg (fun q => e1 (h32.1 q))]
  by_cases e2 : b = 9
  · rw [if_pos (h9.2 e2)]; simp [e2]
  rw [if_neg (fun q => e2 (h9.1 q))]
  by_cases e3 : b = 11
  · rw [if_pos (h11.2 e3)]; simp [e3]
  rw [if_neg (fun q => e3 (h11.1 q))]
  by_cases e4 : b = 12
  · subst e4; rfl
  · have : ¬ ((b.toNat : Int) = 12) := fun q => e4 (h12.1 q)
    rw [beq_eq_false_iff_ne.mpr this, beq_eq_false_iff_ne.mpr e1, beq_eq_false_iff_ne.mpr e2, beq_eq_false_iff_ne.mpr e3, beq_eq_false_iff_ne.mpr e4]
    rfl
theorem wsk_le : ∀ l : List UInt8, wsk l ≤ l.length := fun _ => (List.takeWhile_sublist _).length_le
theorem wsk_before : ∀ (l : List UInt8) (j : Nat), j < wsk l → ∃ h : j < l.length, whiteB l[j] = true
  | [], j, h => by simp [wsk] at h
  | b :: r, j, h => by
    unfold wsk at h
    rw [List.takeWhile_cons] at h
    split at h
    · rename_i hb
      cases j with
      | zero => exact ⟨by simp, hb⟩
      | succ j =>
        obtain ⟨h1, h2⟩ := wsk_before r j (by simpa [wsk] using h)
        exact ⟨by simpa using h1, by simpa using h2⟩
    · simp at h
theorem wsk_at : ∀ (l : List UInt8) (h : wsk l < l.length), whiteB (l[wsk l]) = false
  | [], h => by simp at h
  | b :: r, h => by
    by_cases hb : whiteB b = true
    · have e : wsk (b :: r) = wsk r + 1 := by unfold wsk; rw [List.takeWhile_cons, if_pos hb]; rfl
      simp only [e, List.getElem_cons_succ]
      exact wsk_at r (by simp [e] at h; omega)
    · have e : wsk (b :: r) = 0 := by unfold wsk; rw [List.takeWhile_cons, if_neg hb]; rfl
      simp only [e, List.getElem_cons_zero]
      simpa using hb
def firstTok (k : Nat) (t : ByteArray) : Option (Option (Value × Value)) :=
  if wsk t.data.toList < t.size then (scan_first.f k (t.extract (wsk t.data.toList) t.size) false).bind fun r =>
    if 0 ≤ r.2.1 ∧ r.2.1 ≤ (t.size : Int) - wsk t.data.toList then some (some (.agg #[.int .i64 r.1, .string (t.extract (wsk t.data.toList) ((wsk t.data.toList : Int) + r.2.1).toNat), .int .i64 (wsk t.data.toList : Int), .int .i64 ((wsk t.data.toList : Int) + r.2.1), .bool (decide (0 < wsk t.data.toList))], .int .i64 r.2.2)) else none
  else some none
set_option maxRecDepth 100000 in
set_option maxHeartbeats 4000000 in
theorem tokens1_first (n : Nat) (hn : 1 ≤ n) (Bs k : Nat) (t : ByteArray) (hs : t.size ≤ maxLen) (D : Option (Value × Value)) (hD : firstTok k t = some D) (w : World) (hsh : SH w) (hBs : w.cell? ⟨Bs, 0, none⟩ = some (.string t)) :
    SeqFirst Fence.wide n Tryd.prog 59 #[.pointer (some ⟨Bs, 0, none⟩)] (fun x : Value × Value => #[x.1, x.2]) D w := by
  intro l J Jx W hW hJ hJx hY h0
  unfold maxLen at hs
  have hcs0 : W.cell? ⟨Bs, 0, none⟩ = some (.string t) := (hW.cell (p := ⟨Bs, 0, none⟩) (World.block_lt_of_cell? _ _ hBs)).trans hBs
  have hsh0 := hsh.below hW
  have hws := wsk_le t.data.toList
  have hsz : t.data.toList.length = t.size := by simp
  have hbef := wsk_before t.data.toList
  have hat := wsk_at t.data.toList
  unfold firstTok at hD
  obtain ⟨ws, hwse⟩ : ∃ ws, wsk t.data.toList = ws := ⟨_, rfl⟩
  simp only [hwse] at hD hws hbef hat
  refine callsIn_of_wp Tryd.func59 rfl trivial ?_ rfl
  simp only [Tryd.ntmps59, List.size_toArray, List.length_cons, List.length_nil, Nat.reduceAdd, Nat.reduceSub, Array.replicate_succ, Array.replicate_zero, List.push_toArray, List.append_toArray, List.nil_append, List.cons_append]
  gi_wp2
  gi_loopw [3, 4, 5] (fun ln at_ sp wr => ∃ i : Nat, i ≤ ws ∧ ln = .slice none 0 0 ∧ at_ = .int .i64 i ∧ sp = .bool (decide (0 < i)) ∧ Below W.heap.size W wr)
    (fun _ i _ _ => t.size - (intOf i).toNat)
  case atStart => exact ⟨0, Nat.zero_le _, rfl, rfl, rfl, Below.refl _ _⟩
  case round =>
    obtain ⟨i, hi, rfl, rfl, rfl, hB⟩ := hrel
    have hcs : wr.cell? ⟨Bs, 0, none⟩ = some (.string t) := (hB.cell (p := ⟨Bs, 0, none⟩) (World.block_lt_of_cell? _ _ hcs0)).trans hcs0
    by_cases hlt : i < t.size
    · by_cases hiw : i < ws
      · obtain ⟨hl, hwb⟩ := hbef i hiw
        have hwf : scan_white.f ((t[i]'hlt).toNat : Int) = some true := by rw [white_f]; exact congrArg some hwb
        gi_wp2_with (refine ⟨trivial, ?_⟩; gi_at_call 60; refine (callsIn_wide.2 (scan_white.calls _ _ _ hwf)).mono ?_; rintro e w' ⟨rfl, ⟨nd, rfl⟩⟩)
        go_roundw
        case rel => exact ⟨i + 1, by omega, rfl, by simp, by simp, pw_below_drewN hB nd⟩
        case measure => simp [intOf]; omega
      · have hie : i = ws := by omega
        subst hie
        have hwf : scan_white.f ((t[i]'hlt).toNat : Int) = some false := by rw [white_f]; exact congrArg some (hat (by rw [hsz]; exact hlt))
        rw [if_pos hlt] at hD
        obtain ⟨⟨kd, m, er⟩, hf, hD⟩ := Option.bind_eq_some_iff.1 hD
        simp only at hD
        split at hD
        · rename_i hm
          obtain ⟨hm0, hm1⟩ := hm
          obtain rfl := Option.some.inj hD
          have HF := Lib.hid hf
          clear hf hD hat hbef hwse hws hi hiw
          have shr := (hsh0.below hB)
          have h1 : 0 ≤ (i : Int) + m := by omega
          have h3 : (i : Int) + m ≤ (t.size : Int) := by omega
          have hsl : ∀ w, (Instr.slice 9 (.string t) (some (.int .i64 (i : Int))) (some (.int .i64 ((i : Int) + m))) none).run Tryd.prog w = .ok (.string (t.extract i ((i : Int) + m).toNat)) w := fun w => by
            have := run_slice_string (P := Tryd.prog) w 9 t .i64 .i64 (i : Int) ((i : Int) + m) Tryd.underlying9 (by omega) (by omega) h3
            rwa [Int.toNat_natCast] at this
          gi_wp2_with (first | (refine ⟨trivial, ?_⟩; gi_at_call 60; refine (callsIn_wide.2 (scan_white.calls _ _ _ hwf)).mono ?_; rintro e w' ⟨rfl, ⟨nd, rfl⟩⟩) | (refine ⟨trivial, ?_⟩; gi_at_call 61; refine (callsIn_wide.2 (scan_first.calls k _ _ _ _ _ _ (shr.drewN _) HF.out)).mono ?_; rintro e w2 ⟨rfl, hb2⟩; have hcs2 : w2.cell? ⟨Bs, 0, none⟩ = some (.string t) := (hb2.cell (p := ⟨Bs, 0, none⟩) (World.block_lt_of_cell? _ _ (show (wr.drewN nd).cell? ⟨Bs, 0, none⟩ = some (.string t) from hcs))).trans hcs))
          have hB2 : Below W.heap.size W w2 := (pw_below_drewN hB nd).trans (hb2.mono (show W.heap.size ≤ (wr.drewN nd).heap.size from hB.size))
          have hB3 := hB2.alloc hB2.size (.cells #[.int .i64 kd, .string (t.extract i ((i : Int) + m).toNat), .int .i64 (i : Int), .int .i64 ((i : Int) + m), .bool (decide (0 < i))] 44)
          obtain ⟨fn, tmps, assign, body, hy, hR⟩ := hY _ _ rfl (hJ _ _ h0 hB3) hB3
          simp only at hy
          clear hY hD
          rw [hy]
          gi_wp2
          refine hR.mono ?_
          rintro e W3 ⟨rfl, hx3⟩
          gi_wp2
          refine bodyPost_ret (results_none rfl _ _ _) rfl ?_
          exact ⟨⟨_, rfl⟩, .inr ⟨_, rfl, hx3⟩⟩
        · cases hD
    · have hie : i = ws := by omega
      rw [if_neg (by omega)] at hD
      obtain rfl := Option.some.inj hD
      have hJw := hJ _ _ h0 hB
      clear hat hbef
      gi_wp2
      go_end0
      first | exact ⟨⟨_, rfl⟩, .inl ⟨rfl, hJw⟩⟩ | exact ⟨⟨_, rfl⟩, hJw⟩ | trace_state
set_option maxHeartbeats 1000000 in
theorem tokens_calls (t : ByteArray) (w : World) :
    Calls Tryd.prog 48 #[.string t] w fun e w' => e = .returned (.func (.func 59) #[] #[.pointer (some ⟨w.heap.size, 0, none⟩)]) ∧ w' = w.alloc (.cells #[.string t] 9) := by
  refine (callsIn_wide (n := 3)).1 ?_
  refine callsIn_of_wp Tryd.func48 rfl trivial ?_ rfl
  simp only [Tryd.ntmps48, List.size_toArray, List.length_cons, List.length_nil, Nat.reduceAdd, Nat.reduceSub, Array.replicate_succ, Array.replicate_zero, List.push_toArray, List.append_toArray, List.nil_append, List.cons_append]
  gi_wp2
  go_ret
  exact ⟨by simp, rfl⟩
theorem put_two {w W : World} {n0 : Nat} (_hn : w.heap.size = n0) (hBW : Below n0 w W) (q2 : W.heap[n0 + 1]? = some (.cells #[.int .i64 0] 3)) (q3 : W.heap[n0 + 1 + 1]? = some (.cells #[.bool false] 4)) (X : Int) (bb : Bool) :
    KeepsOthers W ((W.setCell ⟨n0 + 1, 0, none⟩ (.int .i64 X)).setCell ⟨n0 + 1 + 1, 0, none⟩ (.bool bb)) ∧ Below n0 w ((W.setCell ⟨n0 + 1, 0, none⟩ (.int .i64 X)).setCell ⟨n0 + 1 + 1, 0, none⟩ (.bool bb)) ∧
      ((W.setCell ⟨n0 + 1, 0, none⟩ (.int .i64 X)).setCell ⟨n0 + 1 + 1, 0, none⟩ (.bool bb)).heap[n0 + 1]? = some (.cells #[.int .i64 X] 3) ∧
      ((W.setCell ⟨n0 + 1, 0, none⟩ (.int .i64 X)).setCell ⟨n0 + 1 + 1, 0, none⟩ (.bool bb)).heap[n0 + 1 + 1]? = some (.cells #[.bool bb] 4) :=
  ⟨(KeepsOthers.setCell _ _ _).trans (KeepsOthers.setCell _ _ _), (hBW.setCell (p := ⟨n0 + 1, 0, none⟩) (by simp) _).setCell (p := ⟨n0 + 1 + 1, 0, none⟩) (by simp; omega) _,
    blk_far (blk_put (cs := #[.int .i64 0]) q2 0 _ rfl) (by simp) _, blk_put (cs := #[.bool false]) (blk_far q3 (by simp) _) 0 _ rfl⟩
set_option maxRecDepth 100000 in
set_option maxHeartbeats 4000000 in
theorem one_any (k : Nat) (t : ByteArray) (hs : t.size ≤ maxLen) (D : Option (Value × Value)) (hD : firstTok k t = some D) (R : Int × Bool)
    (hR0 : D = none → R = (0, false)) (hR1 : ∀ (kd : Int) (x : ByteArray) (a b : Int) (c : Bool) (er : Int), D = some (.agg #[.int .i64 kd, .string x, .int .i64 a, .int .i64 b, .bool c], .int .i64 er) → R = if er ≠ 0 ∨ x ≠ t then (0, false) else (kd, true))
    (hDs : D = none ∨ ∃ (kd : Int) (x : ByteArray) (a b : Int) (c : Bool) (er : Int), D = some (.agg #[.int .i64 kd, .string x, .int .i64 a, .int .i64 b, .bool c], .int .i64 er)) (w : World) (hsh : SH w) :
    Calls Tryd.prog 37 #[.string t] w fun e w' => e = .returned (.tuple #[.int .i64 R.1, .bool R.2]) ∧ Below w.heap.size w w' := by
  refine calls_marks (callsIn_of_wp_marks Tryd.func37 rfl trivial ?_ rfl)
  simp only [Tryd.ntmps37, List.size_toArray, List.length_cons, List.length_nil, Nat.reduceAdd, Nat.reduceSub, Array.replicate_succ, Array.replicate_zero, List.push_toArray, List.append_toArray, List.nil_append, List.cons_append]
  gi_wp2_with (refine ⟨trivial, ?_⟩; gi_at_call 48; refine (callsIn_wide.2 (tokens_calls _ _)).mono ?_; rintro e w' ⟨rfl, rfl⟩)
  obtain ⟨W0, hW0⟩ : ∃ W0, (((w.alloc (.cells #[.string t] 9)).alloc (.cells #[.int .i64 0] 3)).alloc (.cells #[.bool false] 4)).alloc (.cells #[.string t] 9) = W0 := ⟨_, rfl⟩
  have pt : W0.heap[w.heap.size]? = some (.cells #[.string t] 9) := by rw [← hW0]; exact blk_alloc (blk_alloc (blk_alloc (blk_new _ _) _) _) _
  have p2 : W0.heap[w.heap.size + 1]? = some (.cells #[.int .i64 0] 3) := by rw [← hW0]; exact blk_alloc (blk_alloc (by simpa using blk_new (w.alloc (.cells #[.string t] 9)) (.cells #[.int .i64 0] 3)) _) _
  have p3 : W0.heap[w.heap.size + 1 + 1]? = some (.cells #[.bool false] 4) := by rw [← hW0]; exact blk_alloc (by simpa using blk_new ((w.alloc (.cells #[.string t] 9)).alloc (.cells #[.int .i64 0] 3)) (.cells #[.bool false] 4)) _
  have ps : W0.heap[w.heap.size + 1 + 1 + 1]? = some (.cells #[.string t] 9) := by rw [← hW0]; simpa using blk_new (((w.alloc (.cells #[.string t] 9)).alloc (.cells #[.int .i64 0] 3)).alloc (.cells #[.bool false] 4)) (.cells #[.string t] 9)
  have hz : W0.heap.size = w.heap.size + 4 := by rw [← hW0]; simp
  have hB0 : Below w.heap.size w W0 := by rw [← hW0]; exact ((((Below.refl _ _).alloc (Nat.le_refl _) _).alloc (by simp) _).alloc (by simp; omega) _).alloc (by simp; omega) _
  rw [hW0]
  clear hW0
  have sh0 := hsh.below hB0
  refine wpIn_rangeFunc_first rfl (by omega) (gf := 59) (lb := #[.pointer (some ⟨w.heap.size + 1 + 1 + 1, 0, none⟩)]) rfl trivial (enters_of Tryd.func59 (by kernel_rfl) rfl)
    (tokens1_first _ (by omega) (w.heap.size + 1 + 1 + 1) k t hs D hD W0 sh0 (cell_of_box_l ps).1) (fun _ => rfl)
    (fun W => Below w.heap.size w W ∧ W0.heap.size ≤ W.heap.size ∧ W.heap[w.heap.size]? = some (.cells #[.string t] 9) ∧ W.heap[w.heap.size + 1]? = some (.cells #[.int .i64 0] 3) ∧ W.heap[w.heap.size + 1 + 1]? = some (.cells #[.bool false] 4))
    (fun W => Below w.heap.size w W ∧ W.heap[w.heap.size + 1]? = some (.cells #[.int .i64 R.1] 3) ∧ W.heap[w.heap.size + 1 + 1]? = some (.cells #[.bool R.2] 4))
    (fun A B h hb => ⟨h.1.trans (hb.mono h.1.size), Nat.le_trans h.2.1 hb.size, blk_below h.2.2.1 hb, blk_below h.2.2.2.1 hb, blk_below h.2.2.2.2 hb⟩)
    (fun A l o o' h hl ho hc hw => ⟨h.1.trans (belowK_b (w := W0) (by omega) A l o o' hl ho hc hw), Nat.le_trans h.2.1 (belowK_b (n₀ := 0) (w := W0) (by omega) A l o o' hl ho hc hw).size, (World.putObj_heap_other (by omega)).trans h.2.2.1, (World.putObj_heap_other (by omega)).trans h.2.2.2.1, (World.putObj_heap_other (by omega)).trans h.2.2.2.2⟩)
    (fun A B h hb => ⟨h.1.trans (hb.mono h.1.size), blk_below h.2.1 hb, blk_below h.2.2 hb⟩)
    (fun A l o o' h hl ho hc hw => ⟨h.1.trans (belowK_b (w := W0) (by omega) A l o o' hl ho hc hw), (World.putObj_heap_other (by omega)).trans h.2.1, (World.putObj_heap_other (by omega)).trans h.2.2⟩)
    ⟨hB0, Nat.le_refl _, pt, p2, p3⟩
    (fun x a1 W => ∃ (b : Nat) (cs : Array Value), x.1 = .agg cs ∧ w.heap.size + 4 ≤ b ∧ W.heap[b]? = some (.cells cs 44) ∧ a1 = { tmps := #[.string t, .pointer (some ⟨w.heap.size, 0, none⟩), .pointer (some ⟨w.heap.size + 1, 0, none⟩), .pointer (some ⟨w.heap.size + 1 + 1, 0, none⟩), .pointer (some ⟨b, 0, none⟩), x.2, .string t, .func (.func 59) #[] #[.pointer (some ⟨w.heap.size + 1 + 1 + 1, 0, none⟩)], x.1, x.2, undef, undef, undef, undef, undef, undef, undef, undef, undef, undef], defers := [] })
    ?ao ?assign ?body ?done ?stop
  case ao =>
    rintro x a1 B l o o' ⟨b, cs, h1, h2, h3, h4⟩ ho hc hw
    refine ⟨b, cs, h1, h2, ?_, h4⟩
    by_cases e : b = l
    · subst e
      rw [h3] at ho
      cases ho
      cases hc
    · exact (World.putObj_heap_other e).trans h3
  case assign =>
    intro l x W K hDx hI hK
    rcases hDs with h | ⟨kd, y, a, b, c, er, h⟩
    · rw [h] at hDx; cases hDx
    · rw [hDx] at h
      obtain rfl := Option.some.inj h
      gi_wp2
      exact hK _ _ ⟨W.heap.size, _, rfl, by omega, blk_new _ _, rfl⟩ ((Below.refl _ _).alloc (Nat.le_refl _) _)
  case body =>
    rintro l x a1 W hDx ⟨hBW, hzW, q1, q2, q3⟩ ⟨b, cs, h1, h2, h3, rfl⟩
    rcases hDs with h | ⟨kd, y, aa, bb, cc, er, h⟩
    · rw [h] at hDx; cases hDx
    have hRR := hR1 _ _ _ _ _ _ h
    rw [hDx] at h
    obtain rfl := Option.some.inj h
    simp only [Value.agg.injEq] at h1
    subst h1
    clear h hDx hD hR1 hR0
    have c1 : W.cell? ⟨w.heap.size, 0, none⟩ = some (.string t) := (cell_of_box_l q1).1
    have c2 := (cell_of_box_l q2).1
    have f2 := (cell_of_box_l q2).2
    have c3 := (cell_of_box_l q3).1
    have f3 := (cell_of_box_l q3).2
    have d0 : W.cell? ⟨b, 0, none⟩ = some (.int .i64 kd) := blk_cell h3 0
    have d1 : W.cell? ⟨b, 1, none⟩ = some (.string y) := blk_cell h3 1
    have hmx : Tryd.prog.follows .mixedOrders = true := by kernel_rfl
    by_cases he : er = 0
    · subst he
      have e0 : ((0 : Int) != 0) = false := rfl
      by_cases hy : y = t
      · subst hy
        rw [if_neg (by simp)] at hRR
        subst hRR
        gi_wp2
        exact put_two rfl hBW q2 q3 _ _
      · have hyb : (y.toList == t.toList) = false := beq_eq_false_iff_ne.mpr fun h => hy (ByteArray.ext (Array.toList_inj.1 (by simpa [ByteArray.toList_eq] using h)))
        rw [if_pos (.inr hy)] at hRR
        subst hRR
        gi_wp2
        exact put_two rfl hBW q2 q3 _ _
    · have e0 : (er == 0) = false := beq_eq_false_iff_ne.mpr he
      have e1 : (er != 0) = true := bne_iff_ne.mpr he
      rw [if_pos (.inl he)] at hRR
      subst hRR
      gi_wp2
      exact put_two rfl hBW q2 q3 _ _
  case done =>
    rintro K W hKz hDn ⟨hBW, hzW, q1, q2, q3⟩ hK
    have hRR := hR0 hDn
    subst hRR
    obtain ⟨k1, k2, k3, k4⟩ := put_two rfl hBW q2 q3 0 false
    have hK' := k1.same _ _ hK rfl
    have e2 := (cell_of_box_l k3).1
    have e3 := (cell_of_box_l k4).1
    have hBl := k2.trans (belowK_b (w := w) (Nat.le_refl _) _ K _ (.deferred none) (by omega) hK' rfl rfl)
    have g2 := cell_kept e2 (grownBy_putObj' _ K (.deferred none)) (fun r e => by cases e; exact ⟨_, hK', rfl⟩)
    have g3 := cell_kept e3 (grownBy_putObj' _ K (.deferred none)) (fun r e => by cases e; exact ⟨_, hK', rfl⟩)
    clear e2 e3 k1 k2 k3 k4 hR0 hR1 hDs
    have c2 := (cell_of_box_l q2).1
    have f2 := (cell_of_box_l q2).2
    have c3 := (cell_of_box_l q3).1
    have f3 := (cell_of_box_l q3).2
    gi_wp2
    refine ⟨by simp, .inl ⟨_, _, rfl, run_takeDeferred hK', ?_⟩⟩
    refine ⟨_, ?_, rfl, hBl⟩
    simp [results, Tryd.results37, go_sem, g2, g3]
  case stop =>
    rintro K x W hKz hDx ⟨hBW, q2, q3⟩ hK
    have c2 := (cell_of_box_l q2).1
    have f2 := (cell_of_box_l q2).2
    have c3 := (cell_of_box_l q3).1
    have f3 := (cell_of_box_l q3).2
    have hBl := hBW.trans (belowK_b (w := w) (Nat.le_refl _) _ K _ (.deferred none) (by omega) hK rfl rfl)
    have g2 := cell_kept c2 (grownBy_putObj' _ K (.deferred none)) (fun r e => by cases e; exact ⟨_, hK, rfl⟩)
    have g3 := cell_kept c3 (grownBy_putObj' _ K (.deferred none)) (fun r e => by cases e; exact ⟨_, hK, rfl⟩)
    clear hR0 hR1 hDs
    gi_wp2
    refine ⟨by simp, .inl ⟨_, _, rfl, run_takeDeferred hK, ?_⟩⟩
    refine ⟨_, ?_, rfl, hBl⟩
    simp [results, Tryd.results37, go_sem, g2, g3]
def scan_One.f (k : Nat) (a0 : ByteArray) : Option (Int × Bool) :=
  if a0.size ≤ 140737488355328 then
    (if wsk a0.data.toList < a0.size then (scan_first.f k (a0.extract (wsk a0.data.toList) a0.size) false).bind fun r =>
      if 0 ≤ r.2.1 ∧ r.2.1 ≤ (a0.size : Int) - wsk a0.data.toList then some (if r.2.2 ≠ 0 ∨ a0.extract (wsk a0.data.toList) ((wsk a0.data.toList : Int) + r.2.1).toNat ≠ a0 then (0, false) else (r.1, true)) else none
    else some (0, false))
  else none
theorem scan_One.calls (k : Nat) (a0 : ByteArray) (r1 : Int) (r2 : Bool) (w : World) (hsh : SH w) (h : scan_One.f k a0 = some (r1, r2)) :
    Calls Tryd.prog 37 #[.string a0] w fun e w' => e = .returned (.tuple #[.int .i64 r1, .bool r2]) ∧ Below w.heap.size w w' := by
  unfold scan_One.f at h
  split at h
  · rename_i hs
    have hs' : a0.size ≤ maxLen := by unfold maxLen; omega
    split at h
    · rename_i h2
      obtain ⟨⟨kd, m, er⟩, hq, h⟩ := Option.bind_eq_some_iff.1 h
      simp only at h
      split at h
      · rename_i hm
        have hD : firstTok k a0 = some (some (.agg #[.int .i64 kd, .string (a0.extract (wsk a0.data.toList) ((wsk a0.data.toList : Int) + m).toNat), .int .i64 (wsk a0.data.toList : Int), .int .i64 ((wsk a0.data.toList : Int) + m), .bool (decide (0 < wsk a0.data.toList))], .int .i64 er)) := by
          unfold firstTok
          rw [if_pos h2, hq, Option.bind_some, if_pos hm]
        refine one_any k a0 hs' _ hD (r1, r2) (fun h => by cases h) ?_ (.inr ⟨_, _, _, _, _, _, rfl⟩) w hsh
        intro kd' x a b c er' e
        have e' := Option.some.inj e
        simp only [Prod.mk.injEq, Value.agg.injEq, Array.mk.injEq, List.cons.injEq, Value.int.injEq, Value.string.injEq, true_and] at e'
        obtain ⟨⟨rfl, rfl, _⟩, rfl⟩ := e'
        exact (Option.some.inj h).symm
      · cases h
    · rename_i h2
      have hD : firstTok k a0 = some none := by unfold firstTok; rw [if_neg h2]
      exact one_any k a0 hs' _ hD (r1, r2) (fun _ => (Option.some.inj h).symm) (fun _ _ _ _ _ _ e => by cases e) (.inl rfl) w hsh
  · cases h
end Go.Proofs.YtcdleippdegibaaDoor.One
