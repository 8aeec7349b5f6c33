import Derived.Test.YtcdleippdegibaaDoorNShelf
import Derived.Test.YtcdleippdegibaaDoorNIter
namespace Go.Proofs.YtcdleippdegibaaDoor.Digits
open Go.RowKit Go.Shelf Go.Proofs Go.Proofs.YtcdleippdegibaaDoorW.PrintWords Go.Proofs.YtcdleippdegibaaDoor.Iter
attribute [local go_sem] Oper.semAt_some
def hexB : ByteArray := ⟨#[48, 49, 50, 51, 52, 53, 54, 55, 56, 57, 97, 98, 99, 100, 101, 102]⟩
def decB : ByteArray := ⟨#[48, 49, 50, 51, 52, 53, 54, 55, 56, 57]⟩
def dgI (x : Int) : Int := if x ≤ 57 then Lib.indexByte decB.data.toList x.toNat.toUInt8 else Lib.indexByte hexB.data.toList (Go.bits .or .u8 x 32).toNat.toUInt8
def digL (base : Int) : List UInt8 → List Int
  | [] => []
  | b :: r => if dgI b.toNat < 0 then [] else if dgI b.toNat ≥ base then [] else dgI b.toNat :: digL base r
def digs (s : ByteArray) (base : Int) : List Int := digL base s.data.toList
theorem digL_get (base : Int) : ∀ (l : List UInt8) (k : Nat), k < (digL base l).length → ∃ h : k < l.length, (digL base l)[k]? = some (dgI l[k].toNat) ∧ 0 ≤ dgI l[k].toNat ∧ dgI l[k].toNat < base
  | [], k, h => by simp [digL] at h
  | b :: r, k, h => by
    unfold digL at h ⊢
    split at h
    · simp at h
    · rename_i h1
      split at h
      · simp at h
      · rename_i h2
        rw [if_neg h1, if_neg h2]
        cases k with
        | zero => exact ⟨by simp, by simp, by simpa using h1, by simpa using h2⟩
        | succ k =>
          obtain ⟨h3, h4, h5, h6⟩ := digL_get base r k (by simpa using h)
          exact ⟨by simpa using h3, by simpa using h4, by simpa using h5, by simpa using h6⟩
theorem digL_end (base : Int) : ∀ (l : List UInt8), (digL base l).length < l.length → ∃ h : (digL base l).length < l.length, dgI (l[(digL base l).length]).toNat < 0 ∨ dgI (l[(digL base l).length]).toNat ≥ base
  | [], h => by simp [digL] at h
  | b :: r, h => by
    refine ⟨h, ?_⟩
    by_cases h1 : dgI b.toNat < 0
    · have e : digL base (b :: r) = [] := by simp [digL, h1]
      simp only [e]
      exact .inl h1
    · by_cases h2 : dgI b.toNat ≥ base
      · have e : digL base (b :: r) = [] := by simp [digL, h1, h2]
        simp only [e]
        exact .inr h2
      · have e : digL base (b :: r) = dgI b.toNat :: digL base r := by simp [digL, h1, h2]
        have hl : (digL base r).length < r.length := by rw [e] at h; simpa using h
        obtain ⟨_, h4⟩ := digL_end base r hl
        simp only [e, List.length_cons, List.getElem_cons_succ]
        exact h4
theorem digL_le (base : Int) : ∀ l : List UInt8, (digL base l).length ≤ l.length
  | [] => by simp [digL]
  | b :: r => by
    unfold digL
    split
    · simp
    · split
      · simp
      · simpa using digL_le base r
theorem digs_le (s : ByteArray) (base : Int) : (digs s base).length ≤ s.size := by
  have := digL_le base s.data.toList
  simpa [digs] using this
set_option maxRecDepth 100000 in
set_option maxHeartbeats 4000000 in
theorem digits1_in {α : Type} (f : α → Int) (D : List α) (n : Nat) (hn : 1 ≤ n) (l Bs Bb : Nat) (S : Nat → Prop) (s : ByteArray) (base : Int) (hs : s.size ≤ maxLen) (hD : D.map f = digs s base) (hb1 : S Bs) (hb2 : S Bb) (J Jx : List α → World → Prop)
    (hY : ∀ pre x W, J pre W → pre.length < D.length → YieldAt Fence.wide (n - 1) Tryd.prog l #[.int .i64 (f x)] W fun e W' =>
      (e = .returned (.bool true) ∧ J (pre ++ [x]) W' ∧ KeepS S W W') ∨ (e = .returned (.bool false) ∧ Jx (pre ++ [x]) W'))
    (W : World) (hBs : W.cell? ⟨Bs, 0, none⟩ = some (.string s)) (hBb : W.cell? ⟨Bb, 0, none⟩ = some (.int .i64 base)) (h0 : J [] W) :
    CallsIn Fence.wide n Tryd.prog 52 #[.func (.yield l) #[] #[], .pointer (some ⟨Bs, 0, none⟩), .pointer (some ⟨Bb, 0, none⟩)] W fun e W' => (∃ v, e = .returned v) ∧
      ((∃ ys, ys = D ∧ J ys W') ∨ (∃ pre, pre <+: D ∧ Jx pre W')) := by
  unfold maxLen at hs
  have hle := digs_le s base
  have hDl : D.length = (digs s base).length := by rw [← hD, List.length_map]
  refine callsIn_of_wp Tryd.func52 rfl trivial ?_ rfl
  simp only [Tryd.ntmps52, List.size_toArray, List.length_cons, List.length_nil, Nat.reduceAdd, Nat.reduceSub, Array.replicate_succ, Array.replicate_zero, List.push_toArray, List.append_toArray, List.nil_append, List.cons_append]
  gi_wp2
  gi_loopw [8] (fun i wr => ∃ k : Nat, k ≤ (digs s base).length ∧ i = .int .i64 k ∧ J (D.take k) wr ∧ KeepS S W wr)
    (fun i _ => s.size - (intOf i).toNat)
  case atStart => exact ⟨0, Nat.zero_le _, rfl, h0, KeepS.refl _ _⟩
  case round =>
    obtain ⟨k, hk, rfl, hJs, hnx⟩ := hrel
    have hcs : wr.cell? ⟨Bs, 0, none⟩ = some (.string s) := hnx.cell (p := ⟨Bs, 0, none⟩) hb1 hBs
    have hcb : wr.cell? ⟨Bb, 0, none⟩ = some (.int .i64 base) := hnx.cell (p := ⟨Bb, 0, none⟩) hb2 hBb
    by_cases hlt : k < s.size
    · by_cases h57 : ((s[k]'hlt).toNat : Int) ≤ 57
      · have hd : dgI ((s[k]'hlt).toNat : Int) = Lib.indexByte [48, 49, 50, 51, 52, 53, 54, 55, 56, 57] (s[k]'hlt) := by simp [dgI, h57, decB]
        by_cases hkl : k < (digs s base).length
        · obtain ⟨_, hget, hge, hlb⟩ := digL_get base s.data.toList k hkl
          have hget' : (digs s base)[k]? = some (Lib.indexByte [48, 49, 50, 51, 52, 53, 54, 55, 56, 57] (s[k]'hlt)) := by rw [← hd]; exact hget
          have hge' : 0 ≤ Lib.indexByte [48, 49, 50, 51, 52, 53, 54, 55, 56, 57] (s[k]'hlt) := by rw [← hd]; exact hge
          have hlb' : Lib.indexByte [48, 49, 50, 51, 52, 53, 54, 55, 56, 57] (s[k]'hlt) < base := by rw [← hd]; exact hlb
          obtain ⟨x, hx, hfx⟩ : ∃ x, D[k]? = some x ∧ f x = Lib.indexByte [48, 49, 50, 51, 52, 53, 54, 55, 56, 57] (s[k]'hlt) := by
            rw [← hD, List.getElem?_map] at hget'
            obtain ⟨x, hx, hfx⟩ := Option.map_eq_some_iff.1 hget'
            exact ⟨x, hx, hfx⟩
          obtain ⟨fn, tmps, assign, body, hy, hR⟩ := hY _ x wr hJs (by rw [List.length_take]; omega)
          rw [hfx] at hy
          have htk : Hid (D.take (k + 1) = D.take k ++ [x]) := Lib.hid (by rw [List.take_add_one, hx]; rfl)
          clear hd hget hget' hge hlb hfx hx hD hDl
          gi_wp2_with (refine ⟨trivial, ?_⟩; gi_at_call 53; refine (callsIn_wide.2 (Tryd.strings_IndexByte _ _ _)).mono ?_; rintro e w' ⟨rfl, rfl⟩)
          refine hR.mono ?_
          rintro e W3 (⟨rfl, hJ3, hk3⟩ | ⟨rfl, hJx3⟩)
          · gi_wp2
            go_roundw
            case rel => exact ⟨k + 1, by omega, by simp, by rw [htk.out]; exact hJ3, hnx.trans hk3⟩
            case measure => simp [intOf]; omega
          · gi_wp2
            refine bodyPost_ret (results_none rfl _ _ _) rfl ?_
            exact ⟨⟨_, rfl⟩, .inr ⟨_, by rw [← htk.out]; exact List.take_prefix _ _, hJx3⟩⟩
        · have hkl2 : k = (digs s base).length := by omega
          have hall : D.take k = D := List.take_of_length_le (by omega)
          rw [hall] at hJs
          have hbad : Lib.indexByte [48, 49, 50, 51, 52, 53, 54, 55, 56, 57] (s[k]'hlt) < 0 ∨ base ≤ Lib.indexByte [48, 49, 50, 51, 52, 53, 54, 55, 56, 57] (s[k]'hlt) := by
            rw [← hd]
            obtain ⟨_, h⟩ := digL_end base s.data.toList (by show (digs s base).length < _; rw [← hkl2]; simpa using hlt)
            have e : (s.data.toList[(digL base s.data.toList).length]) = s[k] := by
              show _ = s.data[k]
              simp only [Array.getElem_toList]
              congr 1
              exact hkl2.symm
            rw [e] at h
            exact h
          clear hd hkl2 hall hD hDl
          gi_wp2_with (refine ⟨trivial, ?_⟩; gi_at_call 53; refine (callsIn_wide.2 (Tryd.strings_IndexByte _ _ _)).mono ?_; rintro e w' ⟨rfl, rfl⟩)
          all_goals first
            | (exfalso; omega)
            | (go_end0; exact ⟨⟨_, rfl⟩, .inl ⟨_, rfl, hJs⟩⟩)
            | (refine ⟨fun _ h => (by cases h), ?_⟩; gi_wp2; refine bodyPost_ret (results_none rfl _ _ _) rfl ?_; exact ⟨⟨_, rfl⟩, .inl ⟨_, rfl, hJs⟩⟩)
      · have hd : dgI ((s[k]'hlt).toNat : Int) = Lib.indexByte [48, 49, 50, 51, 52, 53, 54, 55, 56, 57, 97, 98, 99, 100, 101, 102] (UInt8.ofNat (Go.bits .or .u8 ((s[k]'hlt).toNat : Int) 32).toNat) := by simp [dgI, h57, hexB]
        by_cases hkl : k < (digs s base).length
        · obtain ⟨_, hget, hge, hlb⟩ := digL_get base s.data.toList k hkl
          have hget' : (digs s base)[k]? = some (Lib.indexByte [48, 49, 50, 51, 52, 53, 54, 55, 56, 57, 97, 98, 99, 100, 101, 102] (UInt8.ofNat (Go.bits .or .u8 ((s[k]'hlt).toNat : Int) 32).toNat)) := by rw [← hd]; exact hget
          have hge' : 0 ≤ Lib.indexByte [48, 49, 50, 51, 52, 53, 54, 55, 56, 57, 97, 98, 99, 100, 101, 102] (UInt8.ofNat (Go.bits .or .u8 ((s[k]'hlt).toNat : Int) 32).toNat) := by rw [← hd]; exact hge
          have hlb' : Lib.indexByte [48, 49, 50, 51, 52, 53, 54, 55, 56, 57, 97, 98, 99, 100, 101, 102] (UInt8.ofNat (Go.bits .or .u8 ((s[k]'hlt).toNat : Int) 32).toNat) < base := by rw [← hd]; exact hlb
          obtain ⟨x, hx, hfx⟩ : ∃ x, D[k]? = some x ∧ f x = Lib.indexByte [48, 49, 50, 51, 52, 53, 54, 55, 56, 57, 97, 98, 99, 100, 101, 102] (UInt8.ofNat (Go.bits .or .u8 ((s[k]'hlt).toNat : Int) 32).toNat) := by
            rw [← hD, List.getElem?_map] at hget'
            obtain ⟨x, hx, hfx⟩ := Option.map_eq_some_iff.1 hget'
            exact ⟨x, hx, hfx⟩
          obtain ⟨fn, tmps, assign, body, hy, hR⟩ := hY _ x wr hJs (by rw [List.length_take]; omega)
          rw [hfx] at hy
          have htk : Hid (D.take (k + 1) = D.take k ++ [x]) := Lib.hid (by rw [List.take_add_one, hx]; rfl)
          clear hd hget hget' hge hlb hfx hx hD hDl
          gi_wp2_with (refine ⟨trivial, ?_⟩; gi_at_call 53; refine (callsIn_wide.2 (Tryd.strings_IndexByte _ _ _)).mono ?_; rintro e w' ⟨rfl, rfl⟩)
          refine hR.mono ?_
          rintro e W3 (⟨rfl, hJ3, hk3⟩ | ⟨rfl, hJx3⟩)
          · gi_wp2
            go_roundw
            case rel => exact ⟨k + 1, by omega, by simp, by rw [htk.out]; exact hJ3, hnx.trans hk3⟩
            case measure => simp [intOf]; omega
          · gi_wp2
            refine bodyPost_ret (results_none rfl _ _ _) rfl ?_
            exact ⟨⟨_, rfl⟩, .inr ⟨_, by rw [← htk.out]; exact List.take_prefix _ _, hJx3⟩⟩
        · have hkl2 : k = (digs s base).length := by omega
          have hall : D.take k = D := List.take_of_length_le (by omega)
          rw [hall] at hJs
          have hbad : Lib.indexByte [48, 49, 50, 51, 52, 53, 54, 55, 56, 57, 97, 98, 99, 100, 101, 102] (UInt8.ofNat (Go.bits .or .u8 ((s[k]'hlt).toNat : Int) 32).toNat) < 0 ∨ base ≤ Lib.indexByte [48, 49, 50, 51, 52, 53, 54, 55, 56, 57, 97, 98, 99, 100, 101, 102] (UInt8.ofNat (Go.bits .or .u8 ((s[k]'hlt).toNat : Int) 32).toNat) := by
            rw [← hd]
            obtain ⟨_, h⟩ := digL_end base s.data.toList (by show (digs s base).length < _; rw [← hkl2]; simpa using hlt)
            have e : (s.data.toList[(digL base s.data.toList).length]) = s[k] := by
              show _ = s.data[k]
              simp only [Array.getElem_toList]
              congr 1
              exact hkl2.symm
            rw [e] at h
            exact h
          clear hd hkl2 hall hD hDl
          gi_wp2_with (refine ⟨trivial, ?_⟩; gi_at_call 53; refine (callsIn_wide.2 (Tryd.strings_IndexByte _ _ _)).mono ?_; rintro e w' ⟨rfl, rfl⟩)
          all_goals first
            | (exfalso; omega)
            | (go_end0; exact ⟨⟨_, rfl⟩, .inl ⟨_, rfl, hJs⟩⟩)
            | (refine ⟨fun _ h => (by cases h), ?_⟩; gi_wp2; refine bodyPost_ret (results_none rfl _ _ _) rfl ?_; exact ⟨⟨_, rfl⟩, .inl ⟨_, rfl, hJs⟩⟩)
    · have hkl : k = (digs s base).length := by omega
      have hall : D.take k = D := List.take_of_length_le (by omega)
      rw [hall] at hJs
      clear hkl hall hD hDl
      gi_wp2
      go_end0
      exact ⟨⟨_, rfl⟩, .inl ⟨_, rfl, hJs⟩⟩
theorem digits_stops {α : Type} (f : α → Int) (D : List α) (n : Nat) (hn : 1 ≤ n) (Bs Bb : Nat) (S : Nat → Prop) (s : ByteArray) (base : Int) (hs : s.size ≤ maxLen) (hD : D.map f = digs s base) (hb1 : S Bs) (hb2 : S Bb) (w : World)
    (hBs : w.cell? ⟨Bs, 0, none⟩ = some (.string s)) (hBb : w.cell? ⟨Bb, 0, none⟩ = some (.int .i64 base)) :
    SeqStopsK Fence.wide n Tryd.prog 52 #[.pointer (some ⟨Bs, 0, none⟩), .pointer (some ⟨Bb, 0, none⟩)] (fun x : α => #[Value.int .i64 (f x)]) (KeepS S) (fun ys => ys = D) (fun pre => pre <+: D) D.length w :=
  fun l J Jx W hW _ _ hY h0 => digits1_in f D n hn l Bs Bb S s base hs hD hb1 hb2 J Jx hY W ((hW.cell (p := ⟨Bs, 0, none⟩) (World.block_lt_of_cell? _ _ hBs)).trans hBs) ((hW.cell (p := ⟨Bb, 0, none⟩) (World.block_lt_of_cell? _ _ hBb)).trans hBb) h0
set_option maxHeartbeats 1000000 in
theorem digits_in (n : Nat) (s : ByteArray) (base : Int) (w : World) :
    CallsIn Fence.wide n Tryd.prog 42 #[.string s, .int .i64 base] w fun e w' => e = .returned (.func (.func 52) #[] #[.pointer (some ⟨w.heap.size, 0, none⟩), .pointer (some ⟨w.heap.size + 1, 0, none⟩)]) ∧ w' = (w.alloc (.cells #[.string s] 9)).alloc (.cells #[.int .i64 base] 3) := by
  refine callsIn_of_wp Tryd.func42 rfl trivial ?_ rfl
  simp only [Tryd.ntmps42, List.size_toArray, List.length_cons, List.length_nil, Nat.reduceAdd, Nat.reduceSub, Array.replicate_succ, Array.replicate_zero, List.push_toArray, List.append_toArray, List.nil_append, List.cons_append]
  gi_wp2
  go_ret
  exact ⟨by simp, rfl⟩
end Go.Proofs.YtcdleippdegibaaDoor.Digits
