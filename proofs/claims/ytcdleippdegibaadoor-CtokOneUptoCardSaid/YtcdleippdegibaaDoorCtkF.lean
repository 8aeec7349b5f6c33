/- Plain laws of floating constants, in lists of bytes. -/
import Derived.Test.YtcdleippdegibaaDoorCtk
import Derived.Test.YtcdleippdegibaaDoorPCx2
namespace Go.Proofs.YtcdleippdegibaaDoor.Ctk
open Go Go.RowKit Go.Proofs Go.Proofs.YtcdleippdegibaaDoor Go.Proofs.YtcdleippdegibaaDoor.PB Go.Proofs.YtcdleippdegibaaDoor.PC Go.Proofs.YtcdleippdegibaaDoor.Digits Go.Lib Go.Proofs.YtcdleippdegibaaDoorW.PrintWords

theorem run_mk (l : List UInt8) (base : Int) (h : l.length ≤ 140737488355328) : ctok_run.f (mk l) base = some ((digL base l).length : Int) := if_pos h
theorem w64 {n : Int} (h : 0 ≤ n) (h2 : n ≤ 9223372036854775807) : wrap64 n = n := by unfold wrap64; omega

def signed (r : List UInt8) : Bool := r.head? == some 43 || r.head? == some 45
def expL (sm : Int) : List UInt8 → Nat
  | [] => 0
  | b :: r => if (Go.bits .or .u8 b.toNat 32) = sm then (if signed r = true then (if (digL 10 (r.drop 1)).length = 0 then 0 else 2 + (digL 10 (r.drop 1)).length) else (if (digL 10 r).length = 0 then 0 else 1 + (digL 10 r).length)) else 0
theorem expL_cons (sm : Int) (b : UInt8) (r : List UInt8) : expL sm (b :: r) = if (Go.bits .or .u8 b.toNat 32) = sm then (if signed r = true then (if (digL 10 (r.drop 1)).length = 0 then 0 else 2 + (digL 10 (r.drop 1)).length) else (if (digL 10 r).length = 0 then 0 else 1 + (digL 10 r).length)) else 0 := rfl
theorem j1_mk (l : List UInt8) (n : Nat) (b : Bool) (h : l.length ≤ 1000000000) (hn : n + (if b then 1 else 0) ≤ l.length) (k : Nat) :
    ctok_exponent.j1 (k + 1) (mk l) (n : Int) b = some (if (digL 10 (l.drop (n + if b then 1 else 0))).length = 0 then 0 else ((n + (if b then 1 else 0) + (digL 10 (l.drop (n + if b then 1 else 0))).length : Nat) : Int)) := by
  have hd : ∀ m, (digL 10 (l.drop m)).length ≤ l.length := fun m => Nat.le_trans (digL_le _ _) (by simp)
  rw [ctok_exponent.j1]
  have hsz : ((mk l).size : Int) = l.length := rfl
  cases b with
  | true =>
    simp only [if_true] at hn ⊢
    have e : wrap64 ((n : Int) + 1) = ((n + 1 : Nat) : Int) := by rw [w64 (by omega) (by omega)]; omega
    rw [e, hsz, if_pos (by omega), if_pos (by omega), Int.toNat_natCast, mk_extract, run_mk _ _ (by simp; omega), Option.bind_some]
    have hd1 := hd (n + 1)
    by_cases h0 : (digL 10 (l.drop (n + 1))).length = 0
    · rw [if_pos (by omega), if_pos h0]
    · rw [if_neg (by omega), if_neg h0, w64 (by omega) (by omega)]
      norm_cast
  | false =>
    simp only [Bool.false_eq_true, if_false, Nat.add_zero] at hn ⊢
    rw [hsz, if_pos (by omega), if_pos (by omega), Int.toNat_natCast, mk_extract, run_mk _ _ (by simp; omega), Option.bind_some]
    have hd1 := hd n
    by_cases h0 : (digL 10 (l.drop n)).length = 0
    · rw [if_pos (by omega), if_pos h0]
    · rw [if_neg (by omega), if_neg h0, w64 (by omega) (by omega)]
      norm_cast
theorem exp_mk (l : List UInt8) (sm : Int) (h : l.length ≤ 1000000000) (k : Nat) : ctok_exponent.f (k + 2) (mk l) sm = some ((expL sm l : Nat) : Int) := by
  unfold ctok_exponent.f
  rw [mk_toList]
  have hsz : ((mk l).size : Int) = l.length := rfl
  cases l with
  | nil => rfl
  | cons b r =>
    rw [if_neg (by simp), if_pos (by rw [hsz]; simp)]
    have hb : bt (mk (b :: r)) 0 = b.toNat := bt_mk (b :: r) 0 (by simp)
    rw [hb]
    rw [ctok_exponent.j0]
    rw [expL_cons]
    by_cases hs : (Go.bits .or .u8 b.toNat 32) = sm
    · rw [if_pos hs]
      have h1 : ¬ ((Go.bits .or .u8 b.toNat 32 != sm) = true) := by simp [hs]
      rw [if_neg h1, hsz]
      cases r with
      | nil =>
        rw [if_neg (by simp)]
        have := j1_mk [b] 1 false (by simp) (by simp) k
        rw [show ((1 : Nat) : Int) = 1 from rfl] at this
        rw [this]
        simp [signed, digL]
      | cons c r =>
        rw [if_pos (by simp; omega)]
        have hc : bt (mk (b :: c :: r)) 1 = c.toNat := bt_mk (b :: c :: r) 1 (by simp)
        rw [hc]
        have hj := fun x hx => j1_mk (b :: c :: r) 1 x h hx k
        rw [show ((1 : Nat) : Int) = 1 from rfl] at hj
        have hcc : ∀ q : UInt8, ((c.toNat : Int) = (q.toNat : Int)) ↔ c = q := fun q => by rw [← UInt8.toNat_inj]; omega
        by_cases h43 : c = 43
        · subst h43
          rw [if_pos (by rfl), hj true (by simp)]
          simp [signed]
          split <;> simp <;> omega
        · rw [if_neg (by rw [show (43 : Int) = ((43 : UInt8).toNat : Int) from rfl, hcc]; exact h43)]
          by_cases h45 : c = 45
          · subst h45
            rw [show (((45 : UInt8).toNat : Int) == 45) = true from rfl, hj true (by simp)]
            simp [signed]
            split <;> simp <;> omega
          · rw [show ((c.toNat : Int) == 45) = false from beq_eq_false_iff_ne.mpr (by rw [show (45 : Int) = ((45 : UInt8).toNat : Int) from rfl]; rw [Ne, hcc]; exact h45), hj false (by simp)]
            simp [signed, h43, h45]
            split <;> simp <;> omega
    · rw [if_neg hs]
      have h1 : ((Go.bits .or .u8 b.toNat 32 != sm) = true) := by simpa using hs
      rw [if_pos h1]
      rfl

theorem expL_le (sm : Int) : ∀ l : List UInt8, expL sm l ≤ l.length
  | [] => Nat.le_refl _
  | b :: r => by
    rw [expL_cons]
    have h1 := digL_le 10 (r.drop 1)
    have h2 := digL_le 10 r
    simp only [List.length_drop] at h1
    simp only [List.length_cons]
    split
    · split
      · split <;> omega
      · split <;> omega
    · omega
def good (r : List UInt8) : Bool := r == [] || r == [102] || r == [70] || r == [108] || r == [76]
def floatTail (base sm : Int) (r : List UInt8) (n : Nat) (point : Bool) : Bool :=
  if n = 0 ∨ (expL sm r = 0 ∧ (point = false ∨ base = 16)) then false else good (r.drop (expL sm r))
def floatL (base sm : Int) (l : List UInt8) : Bool :=
  if (l.drop (digL base l).length).head? = some 46 then
    floatTail base sm ((l.drop (digL base l).length).drop (1 + (digL base ((l.drop (digL base l).length).drop 1)).length)) ((digL base l).length + (digL base ((l.drop (digL base l).length).drop 1)).length) true
  else floatTail base sm (l.drop (digL base l).length) (digL base l).length false
theorem f3_mk (k : Nat) (l : List UInt8) (x : Nat) (h : x ≤ l.length) : ctok_Float.j3 (k + 1) (mk l) (x : Int) false = some (good (l.drop x)) := by
  rw [ctok_Float.j3, if_neg (by simp), if_pos (by omega), if_pos (show (x : Int) ≤ ((mk l).size : Int) from Int.ofNat_le.2 h), Int.toNat_natCast, mk_extract, mk_toList]
  unfold good
  generalize l.drop x = r
  by_cases h1 : r = []
  · subst h1; simp
  by_cases h2 : r = [102]
  · subst h2; simp
  by_cases h3 : r = [70]
  · subst h3; simp
  by_cases h4 : r = [108]
  · subst h4; simp
  by_cases h5 : r = [76]
  · subst h5; simp
  simp [h1, h2, h3, h4, h5]
theorem f2_mk (k : Nat) (base sm : Int) (l : List UInt8) (n : Nat) (point : Bool) (h : l.length ≤ 1000000000) :
    ctok_Float.j2 (k + 4) base sm (mk l) (n : Int) point = some (floatTail base sm l n point) := by
  rw [ctok_Float.j2, exp_mk l sm h (k + 1), Option.bind_some]
  have hx := expL_le sm l
  have bad : ctok_Float.j3 (k + 3) (mk l) ((expL sm l : Nat) : Int) true = some false := by rw [ctok_Float.j3, if_pos rfl]
  unfold floatTail
  by_cases hn : n = 0
  · rw [if_pos (by omega), if_pos (.inl hn), bad]
  · rw [if_neg (by omega)]
    by_cases h0 : expL sm l = 0
    · rw [if_pos (by omega)]
      cases point with
      | true =>
        rw [if_pos rfl]
        by_cases hb : base = 16
        · rw [if_pos (.inr ⟨h0, .inr hb⟩), show (base == 16) = true from by simp [hb], bad]
        · rw [if_neg (by simp [hn, hb]), show (base == 16) = false from by simp [hb], f3_mk _ _ _ hx]
      | false =>
        rw [if_neg (by simp), if_pos (.inr ⟨h0, .inl rfl⟩), bad]
    · rw [if_neg (by omega), if_neg (by simp [hn, h0]), f3_mk _ _ _ hx]
theorem f0_mk (k : Nat) (base sm : Int) (l : List UInt8) (h : l.length ≤ 1000000000) :
    ctok_Float.j0 (k + 6) base sm (mk l) = some (floatL base sm l) := by
  have hd := digL_le base l
  rw [ctok_Float.j0, run_mk _ _ (by omega), Option.bind_some]
  have hsz : ((mk l).size : Int) = l.length := rfl
  have hj : ∀ (b : Bool), b = ((l.drop (digL base l).length).head? == some 46) → ctok_Float.j1 (k + 5) base sm (mk l) ((digL base l).length : Int) b = some (floatL base sm l) := by
    intro b hb
    rw [ctok_Float.j1, if_pos (by omega), if_pos (by rw [hsz]; omega), Int.toNat_natCast, mk_extract]
    unfold floatL
    generalize hr : l.drop (digL base l).length = r at hb ⊢
    have hrl : r.length ≤ l.length := by rw [← hr]; simp
    cases b with
    | true =>
      have hh : r.head? = some 46 := by simpa using hb.symm
      rw [if_pos rfl, if_pos hh]
      have hr1 : 1 ≤ r.length := by cases r <;> simp_all
      have hd1 := digL_le base (r.drop 1)
      simp only [List.length_drop] at hd1
      have hr2 : ((mk r).size : Int) = r.length := rfl
      rw [hr2, if_pos (by omega), mk_extract, run_mk _ _ (by simp; omega), Option.bind_some, w64 (by omega) (by omega), if_pos (by omega), if_pos (by omega), w64 (by omega) (by omega)]
      rw [show (1 + ((digL base (r.drop 1)).length : Int)) = ((1 + (digL base (r.drop 1)).length : Nat) : Int) by omega, Int.toNat_natCast, mk_extract]
      rw [show (((digL base l).length : Int) + ((digL base (r.drop 1)).length : Int)) = (((digL base l).length + (digL base (r.drop 1)).length : Nat) : Int) by omega]
      rw [f2_mk _ _ _ _ _ _ (by simp; omega)]
    | false =>
      have hh : ¬ r.head? = some 46 := by simpa using hb.symm
      rw [if_neg (by simp), if_neg hh, f2_mk _ _ _ _ _ _ (by omega)]
  by_cases hlt : (digL base l).length < l.length
  · rw [hsz, if_pos (by omega), if_pos (by omega)]
    apply hj
    rw [bt_mk _ _ hlt]
    have e : (l.drop (digL base l).length).head? = some l[(digL base l).length] := by rw [List.head?_drop]; exact List.getElem?_eq_getElem hlt
    rw [e]
    have hcc : ((l[(digL base l).length].toNat : Int) = 46) ↔ l[(digL base l).length] = 46 := by rw [← UInt8.toNat_inj]; show _ ↔ _ = 46; omega
    by_cases hq : l[(digL base l).length] = 46
    · simp [hq]
    · have hq' := fun h => hq (hcc.1 h)
      rw [beq_eq_false_iff_ne.mpr hq']
      simp [hq]
  · rw [hsz, if_neg (by omega)]
    apply hj
    rw [List.drop_eq_nil_of_le (by omega)]
    rfl
theorem float_mk (k : Nat) (l : List UInt8) (h : l.length ≤ 1000000000) : ctok_Float.f (k + 6) (mk l) = some (if hexL l = true then floatL 16 112 (l.drop 2) else floatL 10 101 l) := by
  unfold ctok_Float.f
  rw [hexed_mk, Option.bind_some]
  by_cases hx : hexL l = true
  · obtain ⟨b, r, e, _⟩ := hexL_two hx
    rw [if_pos hx, if_pos hx, if_pos (show (2 : Int) ≤ ((mk l).size : Int) by rw [mk_size, e]; simp; omega), mk_extract, f0_mk _ _ _ _ (by simp; omega)]
  · rw [if_neg hx, if_neg hx, f0_mk _ _ _ _ h]

/-! ### No floating constant ends so -/
theorem good_under (m : List UInt8) : good (m ++ [95]) = false := by
  have h : ∀ l : List UInt8, l.getLast? ≠ some 95 → (m ++ [95] == l) = false := by
    intro l hl
    apply beq_eq_false_iff_ne.2
    rintro rfl
    exact hl (by simp)
  unfold good
  rw [h _ (by decide), h _ (by decide), h _ (by decide), h _ (by decide), h _ (by decide)]
  rfl
theorem expL_under (sm : Int) (m : List UInt8) (hsm : sm = 101 ∨ sm = 112) : expL sm (m ++ [95]) ≤ m.length := by
  cases m with
  | nil => rcases hsm with rfl | rfl <;> decide
  | cons b r =>
    rw [List.cons_append, expL_cons]
    have h2 := digL_le 10 r
    have hs : signed (r ++ [95]) = true → r ≠ [] := by rintro h rfl; simp [signed] at h
    split
    · split
      · rename_i hq
        obtain ⟨c, r', rfl⟩ := List.exists_cons_of_ne_nil (hs hq)
        have h3 := digL_le 10 r'
        rw [List.cons_append, List.drop_one, List.tail_cons, digL_under]
        simp only [List.length_cons]
        split <;> omega
      · rw [digL_under]
        simp only [List.length_cons]
        split <;> omega
    · omega
theorem floatTail_under (base sm : Int) (m : List UInt8) (n : Nat) (p : Bool) (hsm : sm = 101 ∨ sm = 112) : floatTail base sm (m ++ [95]) n p = false := by
  unfold floatTail
  split
  · rfl
  · rw [List.drop_append_of_le_length (expL_under sm m hsm), good_under]
theorem floatL_under (base sm : Int) (m : List UInt8) (hsm : sm = 101 ∨ sm = 112) : floatL base sm (m ++ [95]) = false := by
  unfold floatL
  rw [digL_under, List.drop_append_of_le_length (digL_le base m)]
  generalize m.drop (digL base m).length = r
  split
  · rename_i hh
    cases r with
    | nil => simp at hh
    | cons c r' =>
      rw [List.cons_append, List.drop_one, List.tail_cons, digL_under, Nat.add_comm 1, List.drop_succ_cons, List.drop_append_of_le_length (digL_le base r'), floatTail_under _ _ _ _ _ hsm]
  · rw [floatTail_under _ _ _ _ _ hsm]
theorem float_under (k : Nat) (m : List UInt8) (h : m.length < 1000000000) : ctok_Float.f (k + 6) (mk (m ++ [95])) = some false := by
  rw [float_mk _ _ (by simp; omega)]
  split
  · rename_i hx
    obtain ⟨b, r, e, hb⟩ := hexL_two hx
    match m, e with
    | [], e => simp at e
    | [a], e => simp at e; rcases hb with hb | hb <;> (rw [← e.2.1] at hb; cases hb)
    | a :: c :: m', _ => exact congrArg some (floatL_under 16 112 m' (.inr rfl))
  · rw [floatL_under 10 101 m (.inl rfl)]
end Go.Proofs.YtcdleippdegibaaDoor.Ctk
