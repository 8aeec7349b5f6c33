import Derived.Test.YtcdleippdegibaaDoorXM8
import Derived.Test.YtcdleippdegibaaDoorXM4
import Derived.Test.YtcdleippdegibaaDoorXM3
import Derived.Test.YtcdleippdegibaaDoorXM2
import Derived.Test.YtcdleippdegibaaDoorXM5
import Derived.Test.YtcdleippdegibaaDoorXM6
import Derived.Test.YtcdleippdegibaaDoorXM7
set_option maxHeartbeats 8000000
set_option maxRecDepth 100000
set_option linter.unusedVariables false
set_option linter.unusedSimpArgs false
set_option linter.unusedSectionVars false
namespace Go.Proofs.YtcdleippdegibaaDoor.Ctk
open Go Go.RowKit Go.Proofs Go.Proofs.YtcdleippdegibaaDoor Go.Proofs.YtcdleippdegibaaDoor.PB Go.Proofs.YtcdleippdegibaaDoor.PC Go.Proofs.YtcdleippdegibaaDoor.Digits Go.Lib Go.Proofs.YtcdleippdegibaaDoorW.PrintWords
theorem run_mk (l : List UInt8) (base : Int) (h : l.length ≤ 140737488355328) : ctok_run.f (mk l) base = some ((digL base l).length : Int) := if_pos h
theorem w64 {n : Int} (h : 0 ≤ n) (h2 : n ≤ 9223372036854775807) : wrap64 n = n := by unfold wrap64; omega
def signed (r : List UInt8) : Bool := r.head? == some 43 || r.head? == some 45
def expL (sm : Int) : List UInt8 → Nat
 | [] => 0
 | b :: r => if (Go.bits .or .u8 b.toNat 32) = sm then (if signed r = true then (if (digL 10 (r.drop 1)).length = 0 then 0 else 2 + (digL 10 (r.drop 1)).length) else (if (digL 10 r).length = 0 then 0 else 1 + (digL 10 r).length)) else 0
theorem expL_cons (sm : Int) (b : UInt8) (r : List UInt8) : expL sm (b :: r) = if (Go.bits .or .u8 b.toNat 32) = sm then (if signed r = true then (if (digL 10 (r.drop 1)).length = 0 then 0 else 2 + (digL 10 (r.drop 1)).length) else (if (digL 10 r).length = 0 then 0 else 1 + (digL 10 r).length)) else 0 := rfl
theorem j1_mk (l : List UInt8) (n : Nat) (b : Bool) (h : l.length ≤ 1000000000) (hn : n + (if b then 1 else 0) ≤ l.length) (k : Nat) :
  ctok_exponent.j1 (k + 1) (mk l) (n : Int) b = some (if (digL 10 (l.drop (n + if b then 1 else 0))).length = 0 then 0 else ((n + (if b then 1 else 0) + (digL 10 (l.drop (n + if b then 1 else 0))).length : Nat) : Int)) := by
 have hd : ∀ m, (digL 10 (l.drop m)).length ≤ l.length := fun m => Nat.le_trans (digL_le _ _) (by simp)
 rw [ctok_exponent.j1]
 have hsz : ((mk l).size : Int) = l.length := rfl
 cases b with
 | true =>
  simp only [if_true] at hn ⊢
  have e : wrap64 ((n : Int) + 1) = ((n + 1 : Nat) : Int) := by rw [w64 (by omega) (by omega)]; omega
  rw [e, hsz, if_pos (by omega), if_pos (by omega), Int.toNat_natCast, mk_extract, run_mk _ _ (by simp; omega), Option.bind_some]
  have hd1 := hd (n + 1)
  by_cases h0 : (digL 10 (l.drop (n + 1))).length = 0
  ·rw [if_pos (by omega), if_pos h0]
  rw [if_neg (by omega), if_neg h0, w64 (by omega) (by omega)]
  norm_cast
 | false =>
  simp only [Bool.false_eq_true, if_false, Nat.add_zero] at hn ⊢
  rw [hsz, if_pos (by omega), if_pos (by omega), Int.toNat_natCast, mk_extract, run_mk _ _ (by simp; omega), Option.bind_some]
  have hd1 := hd n
  by_cases h0 : (digL 10 (l.drop n)).length = 0
  ·rw [if_pos (by omega), if_pos h0]
  rw [if_neg (by omega), if_neg h0, w64 (by omega) (by omega)]
  norm_cast
theorem exp_mk (l : List UInt8) (sm : Int) (h : l.length ≤ 1000000000) (k : Nat) : ctok_exponent.f (k + 2) (mk l) sm = some ((expL sm l : Nat) : Int) := by
 unfold ctok_exponent.f
 rw [mk_toList]
 have hsz : ((mk l).size : Int) = l.length := rfl
 cases l with
 | nil => rfl
 | cons b r =>
  rw [if_neg (by simp), if_pos (by rw [hsz]; simp)]
  have hb : bt (mk (b :: r)) 0 = b.toNat := bt_mk (b :: r) 0 (by simp)
  rw [hb]
  rw [ctok_exponent.j0]
  rw [expL_cons]
  by_cases hs : (Go.bits .or .u8 b.toNat 32) = sm
  ·rw [if_pos hs]
   have h1 : ¬ ((Go.bits .or .u8 b.toNat 32 != sm) = true) := by simp [hs]
   rw [if_neg h1, hsz]
   cases r with
   | nil =>
    rw [if_neg (by simp)]
    have := j1_mk [b] 1 false (by simp) (by simp) k
    rw [show ((1 : Nat) : Int) = 1 from rfl] at this
    rw [this]
    simp [signed, digL]
   | cons c r =>
    rw [if_pos (by simp; omega)]
    have hc : bt (mk (b :: c :: r)) 1 = c.toNat := bt_mk (b :: c :: r) 1 (by simp)
    rw [hc]
    have hj := fun x hx => j1_mk (b :: c :: r) 1 x h hx k
    rw [show ((1 : Nat) : Int) = 1 from rfl] at hj
    have hcc : ∀ q : UInt8, ((c.toNat : Int) = (q.toNat : Int)) ↔ c = q := fun q => by rw [← UInt8.toNat_inj]; omega
    by_cases h43 : c = 43
    ·subst h43
     rw [if_pos (by rfl), hj true (by simp)]
     simp [signed]
     split <;> simp <;> omega
    rw [if_neg (by rw [show (43 : Int) = ((43 : UInt8).toNat : Int) from rfl, hcc]; exact h43)]
    by_cases h45 : c = 45
    ·subst h45
     rw [show (((45 : UInt8).toNat : Int) == 45) = true from rfl, hj true (by simp)]
     simp [signed]
     split <;> simp <;> omega
    rw [show ((c.toNat : Int) == 45) = false from beq_eq_false_iff_ne.mpr (by rw [show (45 : Int) = ((45 : UInt8).toNat : Int) from rfl]; rw [Ne, hcc]; exact h45), hj false (by simp)]
    simp [signed, h43, h45]
    split <;> simp <;> omega
  rw [if_neg hs]
  have h1 : ((Go.bits .or .u8 b.toNat 32 != sm) = true) := by simpa using hs
  rw [if_pos h1]
  rfl
theorem expL_le (sm : Int) : ∀ l : List UInt8, expL sm l ≤ l.length
 | [] => Nat.le_refl _
 | b :: r => by
  rw [expL_cons]
  have h1 := digL_le 10 (r.drop 1)
  have h2 := digL_le 10 r
  simp only [List.length_drop] at h1
  simp only [List.length_cons]
  split
  ·split
   ·split <;> omega
   split <;> omega
  omega
def good (r : List UInt8) : Bool := r == [] || r == [102] || r == [70] || r == [108] || r == [76]
def floatTail (base sm : Int) (r : List UInt8) (n : Nat) (point : Bool) : Bool :=
 if n = 0 ∨ (expL sm r = 0 ∧ (point = false ∨ base = 16)) then false else good (r.drop (expL sm r))
def floatL (base sm : Int) (l : List UInt8) : Bool :=
 if (l.drop (digL base l).length).head? = some 46 then
  floatTail base sm ((l.drop (digL base l).length).drop (1 + (digL base ((l.drop (digL base l).length).drop 1)).length)) ((digL base l).length + (digL base ((l.drop (digL base l).length).drop 1)).length) true
 else floatTail base sm (l.drop (digL base l).length) (digL base l).length false
theorem f3_mk (k : Nat) (l : List UInt8) (x : Nat) (h : x ≤ l.length) : ctok_Float.j3 (k + 1) (mk l) (x : Int) false = some (good (l.drop x)) := by
 rw [ctok_Float.j3, if_neg (by simp), if_pos (by omega), if_pos (show (x : Int) ≤ ((mk l).size : Int) from Int.ofNat_le.2 h), Int.toNat_natCast, mk_extract, mk_toList]
 unfold good
 generalize l.drop x = r
 by_cases h1 : r = []
 ·subst h1; simp
 by_cases h2 : r = [102]
 ·subst h2; simp
 by_cases h3 : r = [70]
 ·subst h3; simp
 by_cases h4 : r = [108]
 ·subst h4; simp
 by_cases h5 : r = [76]
 ·subst h5; simp
 simp [h1, h2, h3, h4, h5]
theorem f2_mk (k : Nat) (base sm : Int) (l : List UInt8) (n : Nat) (point : Bool) (h : l.length ≤ 1000000000) :
  ctok_Float.j2 (k + 4) base sm (mk l) (n : Int) point = some (floatTail base sm l n point) := by
 rw [ctok_Float.j2, exp_mk l sm h (k + 1), Option.bind_some]
 have hx := expL_le sm l
 have bad : ctok_Float.j3 (k + 3) (mk l) ((expL sm l : Nat) : Int) true = some false := by rw [ctok_Float.j3, if_pos rfl]
 unfold floatTail
 by_cases hn : n = 0
 ·rw [if_pos (by omega), if_pos (.inl hn), bad]
 rw [if_neg (by omega)]
 by_cases h0 : expL sm l = 0
 ·rw [if_pos (by omega)]
  cases point with
  | true =>
   rw [if_pos rfl]
   by_cases hb : base = 16
   ·rw [if_pos (.inr ⟨h0, .inr hb⟩), show (base == 16) = true from by simp [hb], bad]
   rw [if_neg (by simp [hn, hb]), show (base == 16) = false from by simp [hb], f3_mk _ _ _ hx]
  | false =>
   rw [if_neg (by simp), if_pos (.inr ⟨h0, .inl rfl⟩), bad]
 rw [if_neg (by omega), if_neg (by simp [hn, h0]), f3_mk _ _ _ hx]
theorem f0_mk (k : Nat) (base sm : Int) (l : List UInt8) (h : l.length ≤ 1000000000) :
  ctok_Float.j0 (k + 6) base sm (mk l) = some (floatL base sm l) := by
 have hd := digL_le base l
 rw [ctok_Float.j0, run_mk _ _ (by omega), Option.bind_some]
 have hsz : ((mk l).size : Int) = l.length := rfl
 have hj : ∀ (b : Bool), b = ((l.drop (digL base l).length).head? == some 46) → ctok_Float.j1 (k + 5) base sm (mk l) ((digL base l).length : Int) b = some (floatL base sm l) := by
  intro b hb
  rw [ctok_Float.j1, if_pos (by omega), if_pos (by rw [hsz]; omega), Int.toNat_natCast, mk_extract]
  unfold floatL
  generalize hr : l.drop (digL base l).length = r at hb ⊢
  have hrl : r.length ≤ l.length := by rw [← hr]; simp
  cases b with
  | true =>
   have hh : r.head? = some 46 := by simpa using hb.symm
   rw [if_pos rfl, if_pos hh]
   have hr1 : 1 ≤ r.length := by cases r <;> simp_all
   have hd1 := digL_le base (r.drop 1)
   simp only [List.length_drop] at hd1
   have hr2 : ((mk r).size : Int) = r.length := rfl
   rw [hr2, if_pos (by omega), mk_extract, run_mk _ _ (by simp; omega), Option.bind_some, w64 (by omega) (by omega), if_pos (by omega), if_pos (by omega), w64 (by omega) (by omega)]
   rw [show (1 + ((digL base (r.drop 1)).length : Int)) = ((1 + (digL base (r.drop 1)).length : Nat) : Int) by omega, Int.toNat_natCast, mk_extract]
   rw [show (((digL base l).length : Int) + ((digL base (r.drop 1)).length : Int)) = (((digL base l).length + (digL base (r.drop 1)).length : Nat) : Int) by omega]
   rw [f2_mk _ _ _ _ _ _ (by simp; omega)]
  | false =>
   have hh : ¬ r.head? = some 46 := by simpa using hb.symm
   rw [if_neg (by simp), if_neg hh, f2_mk _ _ _ _ _ _ (by omega)]
 by_cases hlt : (digL base l).length < l.length
 ·rw [hsz, if_pos (by omega), if_pos (by omega)]
  apply hj
  rw [bt_mk _ _ hlt]
  have e : (l.drop (digL base l).length).head? = some l[(digL base l).length] := by rw [List.head?_drop]; exact List.getElem?_eq_getElem hlt
  rw [e]
  have hcc : ((l[(digL base l).length].toNat : Int) = 46) ↔ l[(digL base l).length] = 46 := by rw [← UInt8.toNat_inj]; show _ ↔ _ = 46; omega
  by_cases hq : l[(digL base l).length] = 46
  ·simp [hq]
  have hq' := fun h => hq (hcc.1 h)
  rw [beq_eq_false_iff_ne.mpr hq']
  simp [hq]
 rw [hsz, if_neg (by omega)]
 apply hj
 rw [List.drop_eq_nil_of_le (by omega)]
 rfl
theorem float_mk (k : Nat) (l : List UInt8) (h : l.length ≤ 1000000000) : ctok_Float.f (k + 6) (mk l) = some (if hexL l = true then floatL 16 112 (l.drop 2) else floatL 10 101 l) := by
 unfold ctok_Float.f
 rw [hexed_mk, Option.bind_some]
 by_cases hx : hexL l = true
 ·obtain ⟨b, r, e, _⟩ := hexL_two hx
  rw [if_pos hx, if_pos hx, if_pos (show (2 : Int) ≤ ((mk l).size : Int) by rw [mk_size, e]; simp; omega), mk_extract, f0_mk _ _ _ _ (by simp; omega)]
 rw [if_neg hx, if_neg hx, f0_mk _ _ _ _ h]
end Go.Proofs.YtcdleippdegibaaDoor.Ctk
namespace Go.Proofs.YtcdleippdegibaaDoor.Ctk
open Go Go.RowKit Go.Proofs Go.Proofs.YtcdleippdegibaaDoor Go.Proofs.YtcdleippdegibaaDoor.PB Go.Proofs.YtcdleippdegibaaDoor.PS Go.Proofs.YtcdleippdegibaaDoor.Digits Go.Proofs.YtcdleippdegibaaDoor.One Go.Proofs.YtcdleippdegibaaDoor.LibG Go.Lib Go.Proofs.YtcdleippdegibaaDoorW.PrintWords
theorem all8 {p : UInt8 → Bool} (h : ((List.range 256).all fun n => p (UInt8.ofNat n)) = true) (b : UInt8) : p b = true := by
 have := List.all_eq_true.1 h b.toNat (List.mem_range.2 b.toNat_lt)
 rwa [UInt8.ofNat_toNat] at this
theorem w64' {n : Int} (h : 0 ≤ n) (h2 : n ≤ 9223372036854775807) : wrap64 n = n := by unfold wrap64; omega
theorem bt_app (p r : List UInt8) (b : UInt8) : bt (mk (p ++ b :: r)) (p.length : Int) = (b.toNat : Int) := by
 rw [bt_mk _ _ (by simp)]
 simp
theorem u8ne {a b : UInt8} (h : a ≠ b) : ¬ ((a.toNat : Int) = (b.toNat : Int)) := fun q => h (by rw [← UInt8.toNat_inj]; omega)
theorem head_ends (x : ByteArray) (q : Int) (hx : x.size ≤ 1000000000) : ∀ (m i : Nat), i + m = x.size + 1 → 1 ≤ i → ∀ K, ∃ r, scan_header.l0 (K + 2 * m + 2) x q (i : Int) = some r := by
 intro m
 induction m with
 | zero =>
  intro i hi h1 K
  refine ⟨0, ?_⟩
  rw [show K + 2 * 0 + 2 = (K + 1) + 1 by omega, scan_header.l0, if_neg (by omega), scan_header.j2, if_neg (by simp)]
 | succ m ih =>
  intro i hi h1 K
  by_cases hlt : i < x.size
  ·obtain ⟨r, hr⟩ := ih (i + 1) (by omega) (by omega) K
   rw [show K + 2 * (m + 1) + 2 = (K + 2 * m + 2) + 1 + 1 by omega, scan_header.l0, if_pos (by omega), if_pos (by omega), scan_header.j2]
   by_cases hb : (bt x (i : Int) != 10) = true
   ·rw [if_pos hb, if_pos (by omega), if_pos (by omega), w64' (by omega) (by omega)]
    by_cases hq : bt x (i : Int) = q
    ·rw [if_pos hq]; exact ⟨_, rfl⟩
    rw [if_neg hq]; exact ⟨r, by simpa using hr⟩
   rw [if_neg hb]; exact ⟨_, rfl⟩
  refine ⟨0, ?_⟩
  rw [show K + 2 * (m + 1) + 2 = (K + 2 * m + 2) + 1 + 1 by omega, scan_header.l0, if_neg (by omega), scan_header.j2, if_neg (by simp)]
end Go.Proofs.YtcdleippdegibaaDoor.Ctk
namespace Go.Proofs.YtcdleippdegibaaDoor.Ctk
open Go Go.RowKit Go.Proofs Go.Proofs.YtcdleippdegibaaDoorW.PrintWords Go.Proofs.YtcdleippdegibaaDoor Go.Proofs.YtcdleippdegibaaDoor.PB Go.Proofs.YtcdleippdegibaaDoor.PC Go.Proofs.YtcdleippdegibaaDoor.PR Go.Proofs.YtcdleippdegibaaDoor.Digits
theorem lift_mono {α : Type} {f : Nat → Option α} (h : ∀ k, LeO (f k) (f (k + 1))) : ∀ {m n : Nat}, m ≤ n → LeO (f m) (f n) := by
 intro m n hmn
 induction n with
 | zero =>
  obtain rfl : m = 0 := by omega
  exact LeO.refl _
 | succ n ih =>
  by_cases e : m = n + 1
  ·subst e; exact LeO.refl _
  exact LeO.trans (ih (by omega)) (h n)
def wI (b : UInt8) : Int := if 0 ≤ dgI b.toNat then dgI b.toNat else 99
theorem worth_mk (k : Nat) (b : UInt8) : d_worth.f (k + 3) (b.toNat : Int) = some (wI b) := by
 have h : d_worth.f 3 (b.toNat : Int) = some (wI b) := by
  have := all8 (p := fun b => decide (d_worth.f 3 (b.toNat : Int) = some (wI b))) (by kernel_rfl) b
  exact of_decide_eq_true this
 exact lift_mono (f := fun k => d_worth.f k (b.toNat : Int)) (fun k => d_worth.mono _ k) (by omega : 3 ≤ k + 3) _ h
theorem wI_lt (b : UInt8) (base : Int) (hb : base ≤ 16) : wI b < base ↔ 0 ≤ dgI b.toNat ∧ dgI b.toNat < base := by
 unfold wI
 split
 ·rename_i h; exact ⟨fun q => ⟨h, q⟩, fun q => q.2⟩
 rename_i h; exact ⟨fun q => absurd q (by omega), fun q => absurd q.1 h⟩
theorem runL (l : List UInt8) (base : Int) (a : Nat) (hb : base ≤ 16) (hl : l.length ≤ 1000000000) (ha : a ≤ l.length) : ∀ (m i : Nat), a + i + m = l.length → ∀ K, d_run.l0 (K + m + 4) (mk l) (a : Int) base (i : Int) = some ((i + (digL base (l.drop (a + i))).length : Nat) : Int)
 | 0, i, h, K => by
  have hd : l.drop (a + i) = [] := List.drop_eq_nil_of_le (by omega)
  rw [hd, d_run.l0, mk_size, w64 (by omega) (by omega), if_neg (by omega)]
  simp [digL]
 | m + 1, i, h, K => by
  have hi : a + i < l.length := by omega
  rw [show K + (m + 1) + 4 = (K + m + 4) + 1 by omega, d_run.l0, mk_size, w64 (by omega) (by omega), if_pos (by omega), if_pos (by omega)]
  rw [show ((a : Int) + (i : Int)) = ((a + i : Nat) : Int) by omega, bt_mk l (a + i) hi, show K + m + 4 = (K + m + 1) + 3 by omega, worth_mk, Option.bind_some, List.drop_eq_getElem_cons hi]
  by_cases hw : wI l[a + i] < base
  ·rw [if_pos hw, w64 (by omega) (by omega)]
   have hd := (wI_lt _ _ hb).1 hw
   have ih := runL l base a hb hl ha m (i + 1) (by omega) K
   rw [show ((i : Int) + 1) = ((i + 1 : Nat) : Int) by omega, show K + m + 1 + 3 = K + m + 4 by omega, ih]
   rw [digL, if_neg (by omega), if_neg (by omega), List.length_cons, show a + (i + 1) = a + i + 1 by omega]
   congr 2
   omega
  rw [if_neg hw]
  have hd : ¬ (0 ≤ dgI l[a + i].toNat ∧ dgI l[a + i].toNat < base) := fun q => hw ((wI_lt _ _ hb).2 q)
  rw [digL_cons_no (by omega)]
  simp
theorem run_ref (l : List UInt8) (base : Int) (a : Nat) (hb : base ≤ 16) (hl : l.length ≤ 1000000000) (ha : a ≤ l.length) (K : Nat) : d_run.f (K + l.length + 4) (mk l) (a : Int) base = some (((digL base (l.drop a)).length : Nat) : Int) := by
 unfold d_run.f
 have := runL l base a hb hl ha (l.length - a) 0 (by omega) (K + a)
 rw [show ((0 : Nat) : Int) = 0 from rfl, show K + a + (l.length - a) + 4 = K + l.length + 4 by omega] at this
 rw [this]
 simp
theorem hex_ref (l : List UInt8) : d_hex.f (mk l) = some (hexL l) := by
 unfold d_hex.f
 rw [mk_size]
 match l with
 | [] => rfl
 | [b] =>
  rw [if_neg (by simp)]
  unfold hexL
  split <;> simp_all
 | b :: c :: r =>
  rw [if_pos (by simp; omega), if_pos (by simp; omega)]
  have h0 : bt (mk (b :: c :: r)) 0 = b.toNat := bt_mk (b :: c :: r) 0 (by simp)
  have h1 : bt (mk (b :: c :: r)) 1 = c.toNat := bt_mk (b :: c :: r) 1 (by simp)
  rw [h0, h1]
  have q : ∀ (x y : UInt8), ((x.toNat : Int) = (y.toNat : Int)) ↔ x = y := fun x y => by rw [← UInt8.toNat_inj]; omega
  have e48 : ((b.toNat : Int) = 48) ↔ b = 48 := q b 48
  have e120 : ((c.toNat : Int) = 120) ↔ c = 120 := q c 120
  have e88 : ((c.toNat : Int) = 88) ↔ c = 88 := q c 88
  by_cases hb : b = 48
  ·rw [if_pos (e48.2 hb), if_pos (by simp; omega)]
   by_cases hc : c = 120
   ·rw [if_pos (e120.2 hc)]
    subst hb; subst hc
    simp [hexL]
   rw [if_neg (fun h => hc (e120.1 h))]
   subst hb
   by_cases hc2 : c = 88
   ·subst hc2; simp [hexL]
   have : ((c.toNat : Int) == 88) = false := beq_eq_false_iff_ne.mpr (fun h => hc2 (e88.1 h))
   rw [this]
   simp [hexL, hc, hc2]
  rw [if_neg (fun h => hb (e48.1 h))]
  simp [hexL, hb]
def endsL (sm gr : UInt8) (may : Bool) : List UInt8 → Bool
 | [] => may
 | b :: r => if b = sm ∨ b = gr then (if (digL 10 (r.drop (if signed r = true then 1 else 0))).length = 0 then false else good (r.drop ((if signed r = true then 1 else 0) + (digL 10 (r.drop (if signed r = true then 1 else 0))).length))) else may && good (b :: r)
theorem endsL_cons (sm gr : UInt8) (may : Bool) (b : UInt8) (r : List UInt8) : endsL sm gr may (b :: r) = if b = sm ∨ b = gr then (if (digL 10 (r.drop (if signed r = true then 1 else 0))).length = 0 then false else good (r.drop ((if signed r = true then 1 else 0) + (digL 10 (r.drop (if signed r = true then 1 else 0))).length))) else may && good (b :: r) := rfl
theorem goodIf (r : List UInt8) : (if r = ([] : List UInt8) then (some true) else (if r = ([102] : List UInt8) then (some true) else (if r = ([70] : List UInt8) then (some true) else (if r = ([108] : List UInt8) then (some true) else (some (r == ([76] : List UInt8))))))) = some (good r) := by
 unfold good
 by_cases h0 : r = []
 ·rw [if_pos h0, h0]; rfl
 rw [if_neg h0]
 by_cases h1 : r = [102]
 ·rw [if_pos h1, h1]; rfl
 rw [if_neg h1]
 by_cases h2 : r = [70]
 ·rw [if_pos h2, h2]; rfl
 rw [if_neg h2]
 by_cases h3 : r = [108]
 ·rw [if_pos h3, h3]; rfl
 rw [if_neg h3]
 simp [h0, h1, h2, h3]
theorem ends_j1 (l : List UInt8) (a : Nat) (s : Bool) (hl : l.length ≤ 1000000000) (ha : a + (if s = true then 1 else 0) ≤ l.length) (K : Nat) :
  d_ends.j1 (K + l.length + 5) (mk l) (a : Int) s = some (if (digL 10 (l.drop (a + (if s = true then 1 else 0)))).length = 0 then false else good (l.drop (a + (if s = true then 1 else 0) + (digL 10 (l.drop (a + (if s = true then 1 else 0)))).length))) := by
 have hd : ∀ m, m + (digL 10 (l.drop m)).length ≤ l.length ∨ l.length < m := fun m => by
  have := digL_le 10 (l.drop m)
  simp only [List.length_drop] at this
  omega
 rw [show K + l.length + 5 = (K + l.length + 4) + 1 by omega, d_ends.j1]
 have fin : ∀ n : Nat, n ≤ l.length → (d_run.f (K + l.length + 4) (mk l) (n : Int) 10).bind (fun t102 => (if t102 = 0 then (some false) else (if 0 ≤ (wrap64 ((n : Int) + t102)) then (if (wrap64 ((n : Int) + t102)) ≤ ((mk l).size : Int) then (if ((mk l).extract ((wrap64 ((n : Int) + t102)) : Int).toNat (mk l).size).toList = ([] : List UInt8) then (some true) else (if ((mk l).extract ((wrap64 ((n : Int) + t102)) : Int).toNat (mk l).size).toList = ([102] : List UInt8) then (some true) else (if ((mk l).extract ((wrap64 ((n : Int) + t102)) : Int).toNat (mk l).size).toList = ([70] : List UInt8) then (some true) else (if ((mk l).extract ((wrap64 ((n : Int) + t102)) : Int).toNat (mk l).size).toList = ([108] : List UInt8) then (some true) else (some (((mk l).extract ((wrap64 ((n : Int) + t102)) : Int).toNat (mk l).size).toList == ([76] : List UInt8))))))) else (none)) else (none)))) = some (if (digL 10 (l.drop n)).length = 0 then false else good (l.drop (n + (digL 10 (l.drop n)).length))) := by
  intro n hn
  have h := hd n
  rw [run_ref l 10 n (by omega) hl hn, Option.bind_some]
  by_cases h0 : (digL 10 (l.drop n)).length = 0
  ·rw [if_pos (by omega), if_pos h0]
  rw [if_neg (by omega), if_neg h0, w64 (by omega) (by omega), mk_size, if_pos (by omega), if_pos (by omega)]
  rw [show ((n : Int) + (((digL 10 (l.drop n)).length : Nat) : Int)) = ((n + (digL 10 (l.drop n)).length : Nat) : Int) by omega, Int.toNat_natCast]
  rw [show (mk l).extract (n + (digL 10 (l.drop n)).length) l.length = mk (l.drop (n + (digL 10 (l.drop n)).length)) from mk_extract l _, mk_toList, goodIf]
 cases s with
 | true =>
  simp only [if_true] at ha ⊢
  rw [w64 (by omega) (by omega), show ((a : Int) + 1) = ((a + 1 : Nat) : Int) by omega]
  exact fin (a + 1) ha
 | false =>
  simp only [Bool.false_eq_true, if_false, Nat.add_zero] at ha ⊢
  exact fin a ha
theorem u8i (x y : UInt8) : ((x.toNat : Int) = (y.toNat : Int)) ↔ x = y := by rw [← UInt8.toNat_inj]; omega
theorem u8ib (x y : UInt8) : ((x.toNat : Int) == (y.toNat : Int)) = (x == y) := by
 by_cases h : x = y
 ·subst h; simp
 rw [beq_eq_false_iff_ne.mpr h, beq_eq_false_iff_ne.mpr (fun q => h ((u8i x y).1 q))]
theorem ends_j0f (l : List UInt8) (a : Nat) (may : Bool) (hl : l.length ≤ 1000000000) (ha : a ≤ l.length) (K : Nat) : d_ends.j0 (K + 1) (mk l) (a : Int) may false = some (may && good (l.drop a)) := by
 rw [d_ends.j0, if_neg (by simp)]
 cases may with
 | false => rw [if_neg (by simp)]; rfl
 | true => rw [if_pos rfl, mk_size, if_pos (by omega), if_pos (by omega), Int.toNat_natCast, show (mk l).extract a l.length = mk (l.drop a) from mk_extract l a, mk_toList, goodIf]; rfl
theorem ends_j0t (l : List UInt8) (a : Nat) (may : Bool) (hl : l.length ≤ 1000000000) (ha : a < l.length) (K : Nat) : d_ends.j0 (K + l.length + 6) (mk l) (a : Int) may true = some (if (digL 10 ((l.drop (a + 1)).drop (if signed (l.drop (a + 1)) = true then 1 else 0))).length = 0 then false else good ((l.drop (a + 1)).drop ((if signed (l.drop (a + 1)) = true then 1 else 0) + (digL 10 ((l.drop (a + 1)).drop (if signed (l.drop (a + 1)) = true then 1 else 0))).length))) := by
 rw [show K + l.length + 6 = (K + l.length + 5) + 1 by omega, d_ends.j0, if_pos rfl, w64 (by omega) (by omega), mk_size]
 rw [show ((a : Int) + 1) = ((a + 1 : Nat) : Int) by omega]
 simp only [List.drop_drop]
 by_cases h1 : a + 1 < l.length
 ·rw [if_pos (by omega), if_pos (by omega), bt_mk l (a + 1) h1]
  have hs : signed (l.drop (a + 1)) = (l[a + 1] == 43 || l[a + 1] == 45) := by
   simp [signed, List.getElem?_eq_getElem h1]
  rw [hs]
  have e43 : ((l[a + 1].toNat : Int) = 43) ↔ l[a + 1] = 43 := u8i _ 43
  have e45 : ((l[a + 1].toNat : Int) == 45) = (l[a + 1] == 45) := u8ib _ 45
  by_cases h43 : l[a + 1] = 43
  ·rw [if_pos (e43.2 h43), ends_j1 l (a + 1) true hl (by simp; omega)]
   simp only [h43, beq_self_eq_true, Bool.true_or, if_true, Nat.add_assoc]
  rw [if_neg (fun q => h43 (e43.1 q)), e45]
  have e : (l[a + 1] == 43) = false := beq_eq_false_iff_ne.mpr h43
  rw [e, Bool.false_or, ends_j1 l (a + 1) (l[a + 1] == 45) hl (by split <;> omega)]
  simp only [Nat.add_assoc]
 rw [if_neg (by omega), ends_j1 l (a + 1) false hl (by simp; omega)]
 have hn : l.drop (a + 1) = [] := List.drop_eq_nil_of_le (by omega)
 have hs : signed (l.drop (a + 1)) = false := by rw [hn]; rfl
 rw [hs]
 simp only [Nat.add_assoc]
theorem ends_ref (l : List UInt8) (a : Nat) (sm gr : UInt8) (may : Bool) (hl : l.length ≤ 1000000000) (ha : a ≤ l.length) (K : Nat) :
  d_ends.f (K + l.length + 6) (mk l) (a : Int) (sm.toNat : Int) (gr.toNat : Int) may = some (endsL sm gr may (l.drop a)) := by
 unfold d_ends.f
 rw [mk_size]
 by_cases h : a < l.length
 ·rw [if_pos (by omega), if_pos (by omega), bt_mk l a h, List.drop_eq_getElem_cons h]
  rw [endsL_cons]
  by_cases hb : l[a] = sm
  ·rw [if_pos ((u8i _ _).2 hb), ends_j0t l a may hl h, if_pos (Or.inl hb)]
  rw [if_neg (fun q => hb ((u8i _ _).1 q)), u8ib]
  by_cases hg : l[a] = gr
  ·rw [beq_iff_eq.2 hg, ends_j0t l a may hl h, if_pos (Or.inr hg)]
  rw [beq_eq_false_iff_ne.mpr hg, ends_j0f l a may hl ha, if_neg (fun q => q.elim hb hg), ← List.drop_eq_getElem_cons h]
 rw [if_neg (by omega), ends_j0f l a may hl ha, List.drop_eq_nil_of_le (by omega)]
 cases may <;> rfl
theorem low_or (b : UInt8) (sm gr : UInt8) (h : (sm = 101 ∧ gr = 69) ∨ (sm = 112 ∧ gr = 80)) : ((Go.bits .or .u8 b.toNat 32) = (sm.toNat : Int)) ↔ (b = sm ∨ b = gr) := by
 rcases h with ⟨rfl, rfl⟩ | ⟨rfl, rfl⟩
 ·have := all8 (p := fun b => decide ((Go.bits .or .u8 b.toNat 32) = 101) == (decide (b = 101) || decide (b = 69))) (by kernel_rfl) b
  rw [beq_iff_eq, Bool.eq_iff_iff] at this
  simpa using this
 have := all8 (p := fun b => decide ((Go.bits .or .u8 b.toNat 32) = 112) == (decide (b = 112) || decide (b = 80))) (by kernel_rfl) b
 rw [beq_iff_eq, Bool.eq_iff_iff] at this
 simpa using this
theorem good_letter (b : UInt8) (r : List UInt8) (h : b ≠ 102 ∧ b ≠ 70 ∧ b ≠ 108 ∧ b ≠ 76) : good (b :: r) = false := by
 unfold good
 simp [h.1, h.2.1, h.2.2.1, h.2.2.2]
theorem tail_ends (base : Int) (sm gr : UInt8) (h : (sm = 101 ∧ gr = 69) ∨ (sm = 112 ∧ gr = 80)) (r : List UInt8) (n : Nat) (point : Bool) :
  floatTail base (sm.toNat : Int) r n point = if n = 0 then false else endsL sm gr (point && decide (base ≠ 16)) r := by
 unfold floatTail
 by_cases hn : n = 0
 ·rw [if_pos (Or.inl hn), if_pos hn]
 rw [if_neg hn]
 cases r with
 | nil =>
  have e : expL (sm.toNat : Int) [] = 0 := rfl
  rw [e]
  by_cases hp : point = false ∨ base = 16
  ·rw [if_pos (Or.inr ⟨rfl, hp⟩)]
   rcases hp with hp | hp <;> simp [endsL, hp]
  rw [if_neg (by rintro (q | ⟨_, q⟩); exact hn q; exact hp q)]
  rw [not_or] at hp
  have : point = true := by simpa using hp.1
  simp [endsL, this, hp.2, good]
 | cons b r =>
  rw [endsL_cons]
  by_cases hb : b = sm ∨ b = gr
  ·rw [if_pos hb]
   have he := (low_or b sm gr h).2 hb
   have hlet : good (b :: r) = false := good_letter b r (by rcases h with ⟨rfl, rfl⟩ | ⟨rfl, rfl⟩ <;> rcases hb with rfl | rfl <;> decide)
   have hx : expL (sm.toNat : Int) (b :: r) = if (digL 10 (r.drop (if signed r = true then 1 else 0))).length = 0 then 0 else 1 + ((if signed r = true then 1 else 0) + (digL 10 (r.drop (if signed r = true then 1 else 0))).length) := by
    rw [expL_cons, if_pos he]
    by_cases hs : signed r = true
    ·simp only [hs, if_true]; split <;> omega
    simp only [hs, Bool.false_eq_true, if_false, List.drop_zero]; split <;> omega
   rw [hx]
   by_cases hd : (digL 10 (r.drop (if signed r = true then 1 else 0))).length = 0
   ·rw [if_pos hd, if_pos hd, List.drop_zero, hlet]
    split <;> rfl
   rw [if_neg hd, if_neg hd, if_neg (by rintro (q | ⟨q, _⟩); exact hn q; omega)]
   rw [Nat.add_comm 1, List.drop_succ_cons]
  rw [if_neg hb]
  have hx : expL (sm.toNat : Int) (b :: r) = 0 := by rw [expL_cons, if_neg (fun q => hb ((low_or b sm gr h).1 q))]
  rw [hx, List.drop_zero]
  by_cases hp : point = false ∨ base = 16
  ·rw [if_pos (Or.inr ⟨rfl, hp⟩)]
   rcases hp with hp | hp <;> simp [hp]
  rw [if_neg (by rintro (q | ⟨_, q⟩); exact hn q; exact hp q)]
  rw [not_or] at hp
  have : point = true := by simpa using hp.1
  simp [this, hp.2]
theorem fj2_ref (l : List UInt8) (a n : Nat) (point : Bool) (base : Int) (hb : base = 16 ∨ base = 10) (hl : l.length ≤ 1000000000) (ha : a ≤ l.length) (K : Nat) :
  d_Float.j2 (K + l.length + 7) (mk l) base (a : Int) (n : Int) point = some (if base = 16 then floatTail 16 112 (l.drop a) n point else floatTail 10 101 (l.drop a) n point) := by
 rw [show K + l.length + 7 = (K + l.length + 6) + 1 by omega, d_Float.j2]
 have t16 := tail_ends 16 112 80 (.inr ⟨rfl, rfl⟩) (l.drop a) n point
 have t10 := tail_ends 10 101 69 (.inl ⟨rfl, rfl⟩) (l.drop a) n point
 rw [show ((112 : UInt8).toNat : Int) = 112 from rfl] at t16
 rw [show ((101 : UInt8).toNat : Int) = 101 from rfl] at t10
 have e16 := ends_ref l a 112 80 false hl ha K
 have e10 := ends_ref l a 101 69 point hl ha K
 rw [show ((112 : UInt8).toNat : Int) = 112 from rfl, show ((80 : UInt8).toNat : Int) = 80 from rfl] at e16
 rw [show ((101 : UInt8).toNat : Int) = 101 from rfl, show ((69 : UInt8).toNat : Int) = 69 from rfl] at e10
 rw [t16, t10]
 by_cases hn : n = 0
 ·rw [if_pos (by omega), if_pos hn, if_pos hn]
  simp
 rw [if_neg (by omega), if_neg hn, if_neg hn]
 rcases hb with rfl | rfl
 ·rw [if_pos rfl, if_pos rfl, e16, Option.bind_some]
  simp
 rw [if_neg (by omega), if_neg (by omega), e10, Option.bind_some]
 simp
theorem fj0_ref (l : List UInt8) (a : Nat) (base : Int) (hb : base = 16 ∨ base = 10) (hl : l.length ≤ 1000000000) (ha : a ≤ l.length) (K : Nat) :
  d_Float.j0 (K + l.length + 9) (mk l) base (a : Int) = some (if base = 16 then floatL 16 112 (l.drop a) else floatL 10 101 (l.drop a)) := by
 have hb16 : base ≤ 16 := by omega
 rw [show K + l.length + 9 = (K + 4 + l.length + 4) + 1 by omega, d_Float.j0, run_ref l base a hb16 hl ha, Option.bind_some]
 obtain ⟨n, hn⟩ : ∃ n, (digL base (l.drop a)).length = n := ⟨_, rfl⟩
 have hle := digL_le base (l.drop a)
 rw [hn] at hle
 simp only [List.length_drop] at hle
 rw [hn, w64 (by omega) (by omega), mk_size, show ((a : Int) + (n : Int)) = ((a + n : Nat) : Int) by omega]
 have key : ∀ pt : Bool, (pt = true → a + n < l.length) → d_Float.j1 (K + 4 + l.length + 4) (mk l) base ((a + n : Nat) : Int) (n : Int) pt = some (if base = 16 then (if pt = true then floatTail 16 112 (l.drop (a + n + 1 + (digL base (l.drop (a + n + 1))).length)) (n + (digL base (l.drop (a + n + 1))).length) true else floatTail 16 112 (l.drop (a + n)) n false) else (if pt = true then floatTail 10 101 (l.drop (a + n + 1 + (digL base (l.drop (a + n + 1))).length)) (n + (digL base (l.drop (a + n + 1))).length) true else floatTail 10 101 (l.drop (a + n)) n false)) := by
  intro pt hpt
  rw [show K + 4 + l.length + 4 = (K + l.length + 7) + 1 by omega, d_Float.j1]
  cases pt with
  | false => rw [if_neg (by simp), fj2_ref l (a + n) n false base hb hl (by omega) K]; simp
  | true =>
   have := hpt rfl
   rw [if_pos rfl, w64 (by omega) (by omega), show (((a + n : Nat) : Int) + 1) = ((a + n + 1 : Nat) : Int) by omega, show K + l.length + 7 = (K + 3) + l.length + 4 by omega, run_ref l base (a + n + 1) hb16 hl (by omega), Option.bind_some]
   have hl2 := digL_le base (l.drop (a + n + 1))
   simp only [List.length_drop] at hl2
   rw [w64 (by omega) (by omega), w64 (by omega) (by omega), show (((a + n + 1 : Nat) : Int) + (((digL base (l.drop (a + n + 1))).length : Nat) : Int)) = ((a + n + 1 + (digL base (l.drop (a + n + 1))).length : Nat) : Int) by omega, show ((n : Int) + (((digL base (l.drop (a + n + 1))).length : Nat) : Int)) = ((n + (digL base (l.drop (a + n + 1))).length : Nat) : Int) by omega, show K + 3 + l.length + 4 = K + l.length + 7 by omega, fj2_ref l _ _ true base hb hl (by omega) K]
   simp
 have hfl : ∀ sm : Int, floatL base sm (l.drop a) = if (l.drop (a + n)).head? = some 46 then floatTail base sm (l.drop (a + n + 1 + (digL base (l.drop (a + n + 1))).length)) (n + (digL base (l.drop (a + n + 1))).length) true else floatTail base sm (l.drop (a + n)) n false := by
  intro sm
  unfold floatL
  rw [hn]
  simp only [List.drop_drop, Nat.add_assoc]
 by_cases h1 : a + n < l.length
 ·rw [if_pos (by omega), if_pos (by omega), bt_mk l (a + n) h1]
  have hh : (l.drop (a + n)).head? = some l[a + n] := by rw [List.drop_eq_getElem_cons h1]; rfl
  have e46 : ((l[a + n].toNat : Int) == 46) = (l[a + n] == 46) := u8ib _ 46
  rw [e46, key _ (fun _ => h1)]
  rcases hb with rfl | rfl
  ·rw [if_pos rfl, if_pos rfl, hfl, hh]
   by_cases hq : l[a + n] = 46 <;> simp [hq]
  rw [if_neg (show ¬ ((10 : Int) = 16) by decide), if_neg (show ¬ ((10 : Int) = 16) by decide), hfl, hh]
  by_cases hq : l[a + n] = 46 <;> simp [hq]
 rw [if_neg (by omega), key false (by simp)]
 have hh : (l.drop (a + n)).head? = none := by rw [List.drop_eq_nil_of_le (by omega)]; rfl
 rcases hb with rfl | rfl
 ·rw [if_pos rfl, if_pos rfl, hfl, hh]; simp
 rw [if_neg (show ¬ ((10 : Int) = 16) by decide), if_neg (show ¬ ((10 : Int) = 16) by decide), hfl, hh]; simp
theorem float_ref (l : List UInt8) (hl : l.length ≤ 1000000000) (K : Nat) : d_Float.f (K + l.length + 9) (mk l) = some (if hexL l = true then floatL 16 112 (l.drop 2) else floatL 10 101 l) := by
 unfold d_Float.f
 rw [hex_ref, Option.bind_some]
 by_cases hx : hexL l = true
 ·rw [if_pos hx, if_pos hx]
  obtain ⟨b, r, rfl, _⟩ := hexL_two hx
  have := fj0_ref (48 :: b :: r) 2 16 (.inl rfl) hl (by simp) K
  rw [show ((2 : Nat) : Int) = 2 from rfl] at this
  rw [this, if_pos rfl]
 rw [if_neg hx, if_neg hx]
 have := fj0_ref l 0 10 (.inr rfl) hl (by omega) K
 rw [show ((0 : Nat) : Int) = 0 from rfl] at this
 rw [this, if_neg (by omega), List.drop_zero]
def refTail (base : Int) (u : Bool) : Option Int → Int × Bool × Int
 | none => (0, false, 40)
 | some v => if base = 10 then (if u = true then (v, true, 0) else (if v > 9223372036854775807 then (0, false, 40) else (v, false, 0))) else (if u = true then (v, true, 0) else (if v > 9223372036854775807 then (v, (base != 10), 0) else (v, false, 0)))
theorem u64id {n : Int} (h : 0 ≤ n) (h2 : n ≤ 18446744073709551615) : IntKind.u64.wrap n = n := by rw [IntKind.wrap_u64]; omega
theorem il0 (l : List UInt8) (base : Int) (u : Bool) (a n : Nat) (hb : base = 8 ∨ base = 10 ∨ base = 16) (hl : l.length ≤ 1000000000) (ha : a ≤ l.length) (hn : n = (digL base (l.drop a)).length) :
  ∀ (m i : Nat) (v : Int), i + m = n → 0 ≤ v → v ≤ 18446744073709551615 → vOf base ((digL base (l.drop a)).take i) = some v → ∀ K,
  d_Int.l0 (K + m + 4) (mk l) base (a : Int) (n : Int) u v ((a + i : Nat) : Int) = some (refTail base u (vOf base (digL base (l.drop a)))) := by
 have hle := digL_le base (l.drop a)
 simp only [List.length_drop] at hle
 intro m
 induction m with
 | zero =>
  intro i v h h0 h1 hv K
  rw [d_Int.l0, w64 (by omega) (by omega), if_neg (by omega)]
  rw [List.take_of_length_le (by omega)] at hv
  rw [hv]
  unfold refTail
  simp only
  split
  ·split
   ·rfl
   split <;> rfl
  split
  ·rfl
  split <;> rfl
 | succ m ih =>
  intro i v h h0 h1 hv K
  have hi : i < (digL base (l.drop a)).length := by omega
  obtain ⟨hk, hg, hd0, hd1⟩ := digL_get base (l.drop a) i hi
  have hk2 : a + i < l.length := by simp only [List.length_drop] at hk; omega
  have hel : (l.drop a)[i] = l[a + i] := by simp
  rw [hel] at hg hd0 hd1
  obtain ⟨d, hd⟩ : ∃ d, dgI l[a + i].toNat = d := ⟨_, rfl⟩
  rw [hd] at hg hd0 hd1
  have hw : wI l[a + i] = d := by unfold wI; rw [hd, if_pos hd0]
  have htk : (digL base (l.drop a)).take (i + 1) = (digL base (l.drop a)).take i ++ [d] := by
   rw [List.take_add_one, hg]; rfl
  rw [show K + (m + 1) + 4 = (K + m + 4) + 1 by omega, d_Int.l0, w64 (by omega) (by omega), if_pos (by omega), if_pos (by omega), mk_size, if_pos (by omega), bt_mk l (a + i) hk2]
  rw [show K + m + 4 = (K + m + 1) + 3 by omega, worth_mk, Option.bind_some, hw]
  have hbp : 0 < base ∧ base ≤ 16 := by omega
  have e1 : IntKind.u64.wrap base = base := u64id (by omega) (by omega)
  have e2 : IntKind.u64.wrap d = d := u64id (by omega) (by omega)
  have e3 : IntKind.u64.wrap (18446744073709551615 - d) = 18446744073709551615 - d := u64id (by omega) (by omega)
  have q0 : 0 ≤ (18446744073709551615 - d) / base := Int.ediv_nonneg (by omega) (by omega)
  have q1 : (18446744073709551615 - d) / base ≤ 18446744073709551615 := Int.le_trans (Int.ediv_le_self _ (by omega)) (by omega)
  have e4 : IntKind.u64.wrap (Int.tdiv (18446744073709551615 - d) base) = (18446744073709551615 - d) / base := by
   rw [Int.tdiv_eq_ediv_of_nonneg (by omega)]
   exact u64id q0 q1
  rw [e1, e2, e3, e4, if_neg (by omega)]
  have hst : vOf base ((digL base (l.drop a)).take (i + 1)) = vStep base (some v) d := by rw [htk, vOf_snoc, hv]
  by_cases hq : v > (18446744073709551615 - d) / base
  ·rw [if_pos hq]
   have hno : vOf base ((digL base (l.drop a)).take (i + 1)) = none := by
    rw [hst]; simp [vStep, hq]
   rw [vOf_prefix (List.take_prefix _ _) hno]
   rfl
  rw [if_neg hq]
  have hm : v * base ≤ 18446744073709551615 - d := by
   have : v ≤ (18446744073709551615 - d) / base := by omega
   exact (Int.le_ediv_iff_mul_le hbp.1).1 this
  have hm0 : 0 ≤ v * base := Int.mul_nonneg h0 (by omega)
  rw [u64id hm0 (by omega), u64id (by omega) (by omega), w64 (by omega) (by omega)]
  have := ih (i + 1) (v * base + d) (by omega) (by omega) (by omega) (by rw [hst]; simp [vStep, hq]) K
  rw [show (((a + i : Nat) : Int) + 1) = ((a + (i + 1) : Nat) : Int) by omega, show K + m + 1 + 3 = K + m + 4 by omega, this]
def el (r : List UInt8) : Bool := r == [] || r == [108] || r == [76] || r == [108, 108] || r == [76, 76]
theorem elIf (r : List UInt8) (x : Bool) : (if r = ([] : List UInt8) then (some (true, x)) else (if r = ([108] : List UInt8) then (some (true, x)) else (if r = ([76] : List UInt8) then (some (true, x)) else (if r = ([108, 108] : List UInt8) then (some (true, x)) else (some ((r == ([76, 76] : List UInt8)), x)))))) = some (el r, x) := by
 unfold el
 by_cases h0 : r = []
 ·rw [if_pos h0, h0]; rfl
 rw [if_neg h0]
 by_cases h1 : r = [108]
 ·rw [if_pos h1, h1]; rfl
 rw [if_neg h1]
 by_cases h2 : r = [76]
 ·rw [if_pos h2, h2]; rfl
 rw [if_neg h2]
 by_cases h3 : r = [108, 108]
 ·rw [if_pos h3, h3]; rfl
 rw [if_neg h3]
 simp [h0, h1, h2, h3]
def sufL (s : List UInt8) : Bool × Bool :=
 if s.head? = some 117 ∨ s.head? = some 85 then (el (s.drop 1), true)
 else if s.getLast? = some 117 ∨ s.getLast? = some 85 then (el (s.take (s.length - 1)), true)
 else (el s, false)
theorem mk_take (l : List UInt8) (n : Nat) : (mk l).extract 0 n = mk (l.take n) := by
 apply ByteArray.ext
 apply Array.ext'
 simp [ByteArray.data_extract]
theorem suf_j0f (s : List UInt8) (hl : s.length ≤ 1000000000) (K : Nat) : d_suffix.j0 (K + 1) (mk s) 0 (mk s) false = some (if s.getLast? = some 117 ∨ s.getLast? = some 85 then (el (s.take (s.length - 1)), true) else (el s, false)) := by
 rw [d_suffix.j0, if_neg (by simp), mk_size]
 by_cases h : 0 < s.length
 ·rw [if_pos (by omega), w64 (by omega) (by omega), if_pos (by omega), if_pos (by omega)]
  rw [show ((s.length : Int) - 1) = ((s.length - 1 : Nat) : Int) by omega, bt_mk s (s.length - 1) (by omega), Int.toNat_natCast, mk_take, mk_toList, mk_toList]
  have hg : s.getLast? = some (s[s.length - 1]'(by omega)) := by rw [List.getLast?_eq_getElem?]; exact List.getElem?_eq_getElem _
  obtain ⟨c, hc⟩ : ∃ c, (s[s.length - 1]'(by omega)) = c := ⟨_, rfl⟩
  rw [hc] at hg ⊢
  rw [hg]
  have e117 : ((c.toNat : Int) = 117) ↔ c = 117 := u8i c 117
  have e85 : ((c.toNat : Int) = 85) ↔ c = 85 := u8i c 85
  by_cases h1 : c = 117
  ·rw [if_pos (e117.2 h1), if_pos (by omega), elIf, if_pos (by simp [h1])]
   rfl
  rw [if_neg (fun q => h1 (e117.1 q))]
  by_cases h2 : c = 85
  ·rw [if_pos (e85.2 h2), if_pos (by omega), elIf, if_pos (by simp [h2])]
   rfl
  rw [if_neg (fun q => h2 (e85.1 q)), elIf, if_neg (by simp [h1, h2])]
  rfl
 obtain rfl : s = [] := List.length_eq_zero_iff.1 (by omega)
 rw [if_neg (by simp), mk_toList, elIf]
 simp
theorem suf_ref (s : List UInt8) (hl : s.length ≤ 1000000000) (K : Nat) : d_suffix.f (K + 1) (mk s) = some (sufL s) := by
 unfold d_suffix.f sufL
 rw [mk_size]
 cases s with
 | nil =>
  rw [if_neg (by simp), suf_j0f [] (by simp)]
  simp
 | cons b r =>
  have hb : bt (mk (b :: r)) 0 = b.toNat := bt_mk (b :: r) 0 (by simp)
  have e117 : ((b.toNat : Int) = 117) ↔ b = 117 := u8i b 117
  have e85 : ((b.toNat : Int) == 85) = (b == 85) := u8ib b 85
  rw [if_pos (by simp), if_pos (by simp), hb, e85]
  have jt : d_suffix.j0 (K + 1) (mk (b :: r)) 0 (mk (b :: r)) true = some (el r, true) := by
   rw [d_suffix.j0, if_pos rfl, mk_size, if_pos (by simp; omega), show (mk (b :: r)).extract 1 (b :: r).length = mk ((b :: r).drop 1) from mk_extract _ 1, mk_toList, elIf]
   rfl
  by_cases h1 : b = 117
  ·rw [if_pos (e117.2 h1), jt, if_pos (by simp [h1])]; rfl
  rw [if_neg (fun q => h1 (e117.1 q))]
  by_cases h2 : b = 85
  ·rw [beq_iff_eq.2 h2, jt, if_pos (by simp [h2])]; rfl
  rw [beq_eq_false_iff_ne.mpr h2, suf_j0f _ hl, if_neg (show ¬ ((b :: r).head? = some 117 ∨ (b :: r).head? = some 85) by simp [h1, h2])]
theorem suf_lift (s : List UInt8) (hl : s.length ≤ 1000000000) (k : Nat) (hk : 1 ≤ k) : d_suffix.f k (mk s) = some (sufL s) := by
 obtain ⟨K, rfl⟩ : ∃ K, k = K + 1 := ⟨k - 1, by omega⟩
 exact suf_ref s hl K
def refL (base : Int) (r : List UInt8) : Int × Bool × Int :=
 if (digL base r).length = 0 ∨ (sufL (r.drop (digL base r).length)).1 = false then (0, false, 40) else refTail base (sufL (r.drop (digL base r).length)).2 (vOf base (digL base r))
theorem ij0 (l : List UInt8) (base : Int) (a : Nat) (hb : base = 8 ∨ base = 10 ∨ base = 16) (hl : l.length ≤ 1000000000) (ha : a ≤ l.length) (K : Nat) :
  d_Int.j0 (K + l.length + 8) (mk l) base (a : Int) = some (refL base (l.drop a)) := by
 rw [show K + l.length + 8 = (K + 3 + l.length + 4) + 1 by omega, d_Int.j0, run_ref l base a (by omega) hl ha, Option.bind_some]
 obtain ⟨n, hn⟩ : ∃ n, (digL base (l.drop a)).length = n := ⟨_, rfl⟩
 have hle := digL_le base (l.drop a)
 rw [hn] at hle
 simp only [List.length_drop] at hle
 unfold refL
 rw [hn, w64 (by omega) (by omega), mk_size, show mn (l.length : Int) ((a : Int) + (n : Int)) = ((a + n : Nat) : Int) by unfold mn; split <;> omega]
 rw [if_pos (by omega), if_pos (by omega), Int.toNat_natCast, show (mk l).extract (a + n) l.length = mk (l.drop (a + n)) from mk_extract l _, suf_lift _ (by simp; omega) _ (by omega), Option.bind_some, List.drop_drop]
 obtain ⟨⟨may, u⟩, hs⟩ : ∃ p, sufL (l.drop (a + n)) = p := ⟨_, rfl⟩
 rw [hs]
 dsimp only
 by_cases h0 : n = 0
 ·rw [if_pos (by omega), if_pos (Or.inl h0), show K + 3 + l.length + 4 = (K + l.length + 6) + 1 by omega, d_Int.j1, if_pos rfl]
 rw [if_neg (by omega), show K + 3 + l.length + 4 = (K + l.length + 6) + 1 by omega, d_Int.j1]
 cases may with
 | false => rw [if_pos (show (!false) = true from rfl), if_pos (Or.inr rfl)]
 | true =>
  rw [if_neg (by simp), if_neg (by simp [h0])]
  have := il0 l base u a n hb hl ha hn.symm n 0 0 (by omega) (by omega) (by omega) (by simp [vOf]) (K + l.length + 2 - n)
  rw [show K + l.length + 2 - n + n + 4 = K + l.length + 6 by omega, show ((a + 0 : Nat) : Int) = (a : Int) by simp] at this
  exact this
theorem int_ref (l : List UInt8) (hl : l.length ≤ 1000000000) (K : Nat) :
  d_Int.f (K + l.length + 8) (mk l) = some (if hexL l = true then refL 16 (l.drop 2) else if l.head? = some 48 then refL 8 l else refL 10 l) := by
 unfold d_Int.f
 rw [hex_ref, Option.bind_some]
 have j := fun base hb => ij0 l base 0 hb hl (by omega) K
 rw [show ((0 : Nat) : Int) = 0 from rfl, List.drop_zero] at j
 by_cases hx : hexL l = true
 ·rw [if_pos hx, if_pos hx]
  obtain ⟨b, r, rfl, _⟩ := hexL_two hx
  have := ij0 (48 :: b :: r) 16 2 (.inr (.inr rfl)) hl (by simp) K
  rw [show ((2 : Nat) : Int) = 2 from rfl] at this
  rw [this]
 rw [if_neg hx, if_neg hx, mk_size]
 cases l with
 | nil => rw [if_neg (by simp), j 10 (.inr (.inl rfl))]; rfl
 | cons b r =>
  have hb : bt (mk (b :: r)) 0 = b.toNat := bt_mk (b :: r) 0 (by simp)
  have e48 : ((b.toNat : Int) = 48) ↔ b = 48 := u8i b 48
  rw [if_pos (by simp), if_pos (by simp), hb]
  by_cases h : b = 48
  ·rw [if_pos (e48.2 h), if_pos (by simp [h]), j 8 (.inl rfl)]
  rw [if_neg (fun q => h (e48.1 q)), if_neg (by simp [h]), j 10 (.inr (.inl rfl))]
def sufV (v : List UInt8) : Bool × Bool :=
 if v.head? = some 117 then (el (v.drop 1), true) else if v.getLast? = some 117 then (el (v.take (v.length - 1)), true) else (el v, false)
theorem el_iff (r : List UInt8) : el r = true ↔ (r = [] ∨ r = [108] ∨ r = [76] ∨ r = [108, 108] ∨ r = [76, 76]) := by
 simp [el, or_assoc]
theorem low_inj : ∀ (r t : List UInt8), (∀ b ∈ t, b ≠ 117 ∧ b ≠ 85) → (low r = t ↔ r = t)
 | [], [], _ => by simp [low]
 | [], b :: t, _ => by simp [low]
 | b :: r, [], _ => by simp [low]
 | b :: r, c :: t, h => by
  have hc := h c (by simp)
  have ih := low_inj r t (fun x hx => h x (by simp [hx]))
  unfold low at ih ⊢
  rw [List.map_cons, List.cons.injEq, List.cons.injEq, ih]
  by_cases hb : b = 85
  ·subst hb
   rw [if_pos rfl]
   constructor
   ·rintro ⟨q, _⟩; exact absurd q.symm hc.1
   rintro ⟨q, _⟩; exact absurd q.symm hc.2
  rw [if_neg hb]
theorem el_low (r : List UInt8) : el (low r) = el r := by
 rw [Bool.eq_iff_iff, el_iff, el_iff]
 have h := fun t h => low_inj r t h
 rw [h [] (by simp), h [108] (by simp), h [76] (by simp), h [108, 108] (by simp), h [76, 76] (by simp)]
theorem low_b (b : UInt8) : ((if b = 85 then (117 : UInt8) else b) = 117) ↔ (b = 117 ∨ b = 85) := by
 by_cases h : b = 85
 ·simp [h]
 simp [h]
theorem low_head (s : List UInt8) : (low s).head? = some 117 ↔ (s.head? = some 117 ∨ s.head? = some 85) := by
 cases s with
 | nil => simp [low]
 | cons b r => simp only [low, List.map_cons, List.head?_cons, Option.some.injEq]; exact low_b b
theorem low_last (s : List UInt8) : (low s).getLast? = some 117 ↔ (s.getLast? = some 117 ∨ s.getLast? = some 85) := by
 unfold low
 rw [List.getLast?_map]
 cases s.getLast? with
 | none => simp
 | some b => simp only [Option.map_some, Option.some.injEq]; exact low_b b
theorem suf_low (s : List UInt8) : sufL s = sufV (low s) := by
 unfold sufL sufV
 have e1 : (low s).drop 1 = low (s.drop 1) := by simp [low]
 have e2 : (low s).take ((low s).length - 1) = low (s.take (s.length - 1)) := by simp [low]
 rw [e1, e2, el_low, el_low, el_low]
 by_cases h1 : s.head? = some 117 ∨ s.head? = some 85
 ·rw [if_pos h1, if_pos ((low_head s).2 h1)]
 rw [if_neg h1, if_neg (fun q => h1 ((low_head s).1 q))]
 by_cases h2 : s.getLast? = some 117 ∨ s.getLast? = some 85
 ·rw [if_pos h2, if_pos ((low_last s).2 h2)]
 rw [if_neg h2, if_neg (fun q => h2 ((low_last s).1 q))]
theorem sufV_plain (v : List UInt8) : sufV v = (true, false) ↔ (v = [] ∨ v = [108] ∨ v = [76] ∨ v = [108, 108] ∨ v = [76, 76]) := by
 constructor
 ·intro h
  unfold sufV at h
  split at h
  ·simp at h
  split at h
  ·simp at h
  simp only [Prod.mk.injEq, and_true] at h
  exact (el_iff v).1 h
 rintro (rfl | rfl | rfl | rfl | rfl) <;> decide
theorem sufV_u (v : List UInt8) : sufV v = (true, true) ↔ (v = [117] ∨ v = [117, 108] ∨ v = [117, 76] ∨ v = [117, 108, 108] ∨ v = [117, 76, 76] ∨ v = [108, 117] ∨ v = [76, 117] ∨ v = [108, 108, 117] ∨ v = [76, 76, 117]) := by
 constructor
 ·intro h
  unfold sufV at h
  split at h
  ·rename_i hh
   simp only [Prod.mk.injEq, and_true] at h
   cases v with
   | nil => simp at hh
   | cons b r =>
    simp only [List.head?_cons, Option.some.injEq] at hh
    subst hh
    rw [List.drop_one, List.tail_cons, el_iff] at h
    rcases h with rfl | rfl | rfl | rfl | rfl <;> simp
  split at h
  ·rename_i hh
   simp only [Prod.mk.injEq, and_true] at h
   obtain ⟨ys, rfl⟩ := List.getLast?_eq_some_iff.1 hh
   have ht : (ys ++ [117]).take ((ys ++ [117]).length - 1) = ys := by simp
   rw [ht, el_iff] at h
   rcases h with rfl | rfl | rfl | rfl | rfl <;> simp
  simp at h
 rintro (rfl | rfl | rfl | rfl | rfl | rfl | rfl | rfl | rfl) <;> decide
theorem tail_eq (base : Int) (v : Int) (s : List UInt8) : (intTail base v (low s)).2.2 = 0 ↔ ((sufL s).1 = true ∧ (refTail base (sufL s).2 (some v)).2.2 = 0) := by
 have hp := sufV_plain (low s)
 have hu := sufV_u (low s)
 rw [← suf_low] at hp hu
 unfold intTail
 by_cases h1 : sufL s = (true, false)
 ·rw [if_pos (hp.1 h1), h1]
  unfold refTail
  by_cases hb : base = 10
  ·by_cases hv : v > 9223372036854775807 <;> simp [hb, hv]
  by_cases hv : v > 9223372036854775807 <;> simp [hb, hv]
 rw [if_neg (fun q => h1 (hp.2 q))]
 by_cases h2 : sufL s = (true, true)
 ·rw [if_pos (hu.1 h2), h2]
  unfold refTail
  simp
 rw [if_neg (fun q => h2 (hu.2 q))]
 have : (sufL s).1 = false := by
  rcases hq : sufL s with ⟨x, y⟩
  cases x
  ·rfl
  cases y
  ·exact absurd hq h1
  exact absurd hq h2
 simp [this]
theorem intL_refL (base : Int) (l : List UInt8) : (intL base l).2.2 = 0 ↔ (refL base l).2.2 = 0 := by
 unfold intL refL
 cases hv : vOf base (digL base l) with
 | none =>
  by_cases h : (digL base l).length = 0 ∨ (sufL (l.drop (digL base l).length)).1 = false
  ·rw [if_pos h]
  rw [if_neg h]; rfl
 | some v =>
  dsimp only
  by_cases h0 : (digL base l).length = 0
  ·rw [if_pos h0, if_pos (Or.inl h0)]
  rw [if_neg h0, tail_eq]
  by_cases hs : (sufL (l.drop (digL base l).length)).1 = false
  ·rw [if_pos (Or.inr hs)]; simp [hs]
  rw [if_neg (by rintro (q | q); exact h0 q; exact hs q)]
  simp at hs
  simp [hs]
theorem int_both (l : List UInt8) (hl : l.length ≤ 1000) : ∃ n r r', ctok_Int.f (mk l) = some r ∧ d_Int.f n (mk l) = some r' ∧ (r.2.2 = 0 ↔ r'.2.2 = 0) := by
 refine ⟨_, _, _, int_mk l (by omega), int_ref l (by omega) 0, ?_⟩
 split
 ·exact intL_refL _ _
 split
 ·exact intL_refL _ _
 exact intL_refL _ _
end Go.Proofs.YtcdleippdegibaaDoor.Ctk
namespace Go.Proofs.YtcdleippdegibaaDoor.Ctk
open Go Go.RowKit Go.Proofs Go.Proofs.YtcdleippdegibaaDoorW.PrintWords Go.Proofs.YtcdleippdegibaaDoor Go.Proofs.YtcdleippdegibaaDoor.PB Go.Proofs.YtcdleippdegibaaDoor.PS Go.Proofs.YtcdleippdegibaaDoor.PR
def litL (q : UInt8) : List UInt8 → Option Nat
 | [] => none
 | [b] => if b = q then some 1 else none
 | b :: c :: r => if b = q then some 1 else if b = 10 then none else if b = 92 then (if c = 10 then none else (litL q r).map (· + 2)) else (litL q (c :: r)).map (· + 1)
def pieL (q : UInt8) : List UInt8 → Bool
 | [] => true
 | [b] => !(b == q || b == 10 || b == 92)
 | b :: c :: r => if b = q ∨ b = 10 then false else if b = 92 then (if c = 10 then false else pieL q r) else pieL q (c :: r)
theorem lit_l0 (l : List UInt8) (q : UInt8) (hl : l.length ≤ 1000000000) : ∀ (m n : Nat), l.length ≤ n + m → n ≤ l.length + 1 → 1 ≤ n → ∀ K,
  scan_literal.l0 (K + m + 1) (mk l) (q.toNat : Int) (n : Int) = some (if q = 39 ∧ n = 1 ∧ (l.drop n).head? = some q then 0 else match litL q (l.drop n) with | none => 0 | some j => ((n + j : Nat) : Int))
 | 0, n, h, h2, h1, K => by
  rw [scan_literal.l0, mk_size, if_neg (by omega), List.drop_eq_nil_of_le (by omega)]
  simp [litL]
 | m + 1, n, h, h2, h1, K => by
  rw [scan_literal.l0, mk_size]
  by_cases hn : n < l.length
  ·rw [if_pos (by omega), if_pos (by omega), bt_mk l n hn]
   have hd := List.drop_eq_getElem_cons hn
   have e39 : ((q.toNat : Int) = 39) ↔ q = 39 := u8i q 39
   have e10 : ((l[n].toNat : Int) = 10) ↔ l[n] = 10 := u8i _ 10
   have e92 : ((l[n].toNat : Int) = 92) ↔ l[n] = 92 := u8i _ 92
   have n1 : ((n : Int) = 1) ↔ n = 1 := by omega
   rw [hd]
   by_cases hq : l[n] = q
   ·rw [if_pos ((u8i _ _).2 hq)]
    have hlit : litL q (l[n] :: l.drop (n + 1)) = some 1 := by
     cases l.drop (n + 1) <;> simp [litL, hq]
    rw [hlit, w64 (by omega) (by omega)]
    simp only [List.head?_cons, hq, e39, n1]
    by_cases h39 : q = 39
    ·rw [if_pos h39]
     by_cases h1 : n = 1
     ·rw [if_pos h1, if_pos ⟨h39, h1, trivial⟩]
     rw [if_neg h1, if_neg (fun q => h1 q.2.1)]
     simp
    rw [if_neg h39, if_neg (fun q => h39 q.1)]
    simp
   rw [if_neg (fun x => hq ((u8i _ _).1 x))]
   rw [if_neg (show ¬ (q = 39 ∧ n = 1 ∧ (l[n] :: l.drop (n + 1)).head? = some q) from fun x => hq (Option.some.inj x.2.2))]
   by_cases h10 : l[n] = 10
   ·rw [if_pos (e10.2 h10)]
    have : litL q (l[n] :: l.drop (n + 1)) = none := by
     cases l.drop (n + 1) <;> simp [litL, hq, h10]
     all_goals (intro x; exact absurd (h10.trans x) hq)
    rw [this]
   rw [if_neg (fun x => h10 (e10.1 x))]
   by_cases h92 : l[n] = 92
   ·rw [if_pos (e92.2 h92), w64 (by omega) (by omega), w64 (by omega) (by omega)]
    by_cases hn2 : n + 1 < l.length
    ·have e10' : ((l[n + 1].toNat : Int) = 10) ↔ l[n + 1] = 10 := u8i _ 10
     rw [if_pos (by omega), if_pos (by omega), show ((n : Int) + 1) = ((n + 1 : Nat) : Int) by omega, bt_mk l (n + 1) hn2, List.drop_eq_getElem_cons hn2]
     have hlit : litL q (l[n] :: l[n + 1] :: l.drop (n + 1 + 1)) = if l[n + 1] = 10 then none else (litL q (l.drop (n + 1 + 1))).map (· + 2) := by
      rw [litL, if_neg hq, if_neg h10, if_pos h92]
     rw [hlit]
     by_cases hc : l[n + 1] = 10
     ·rw [if_pos (e10'.2 hc), if_pos hc]
     rw [if_neg (fun x => hc (e10'.1 x)), if_neg hc, show (((n + 1 : Nat) : Int) + 1) = ((n + 2 : Nat) : Int) by omega, show K + (m + 1) = (K + m) + 1 by omega]
     rw [lit_l0 l q hl m (n + 2) (by omega) (by omega) (by omega) K, if_neg (by omega), show n + 1 + 1 = n + 2 by omega]
     cases litL q (l.drop (n + 2)) with
     | none => rfl
     | some j => exact congrArg (fun x : Nat => some (x : Int)) (show n + 2 + j = n + (j + 2) by omega)
    rw [if_neg (by omega), show ((n : Int) + 1 + 1) = ((n + 2 : Nat) : Int) by omega, show K + (m + 1) = (K + m) + 1 by omega, lit_l0 l q hl m (n + 2) (by omega) (by omega) (by omega) K, if_neg (by omega), List.drop_eq_nil_of_le (show l.length ≤ n + 2 by omega), List.drop_eq_nil_of_le (show l.length ≤ n + 1 by omega)]
    simp [litL, hq]
   rw [if_neg (fun x => h92 (e92.1 x)), w64 (by omega) (by omega), show ((n : Int) + 1) = ((n + 1 : Nat) : Int) by omega, show K + (m + 1) = (K + m) + 1 by omega, lit_l0 l q hl m (n + 1) (by omega) (by omega) (by omega) K, if_neg (by omega)]
   cases hr : l.drop (n + 1) with
   | nil => simp [litL, hq]
   | cons c r =>
    rw [show litL q (l[n] :: c :: r) = (litL q (c :: r)).map (· + 1) by rw [litL, if_neg hq, if_neg h10, if_neg h92]]
    cases litL q (c :: r) with
    | none => rfl
    | some j => exact congrArg (fun x : Nat => some (x : Int)) (show n + 1 + j = n + (j + 1) by omega)
  rw [if_neg (by omega), List.drop_eq_nil_of_le (by omega)]
  simp [litL]
def litF (q : UInt8) : List UInt8 → Nat
 | [] => 0
 | b :: r => if b = q then (if q = 39 ∧ r.head? = some q then 0 else match litL q r with | none => 0 | some j => 1 + j) else 0
theorem lit_f (l : List UInt8) (q : UInt8) (hl : l.length ≤ 1000000000) (K : Nat) : scan_literal.f (K + l.length + 2) (mk l) (q.toNat : Int) = some ((litF q l : Nat) : Int) := by
 unfold scan_literal.f
 rw [mk_toList]
 cases l with
 | nil => rw [if_pos rfl, show K + ([] : List UInt8).length + 2 = (K + 1) + 1 by simp, scan_literal.j0, if_pos rfl]; rfl
 | cons b r =>
  have hb : bt (mk (b :: r)) 0 = b.toNat := bt_mk (b :: r) 0 (by simp)
  rw [if_neg (by simp), mk_size, if_pos (by simp), hb, show K + (b :: r).length + 2 = (K + 1 + r.length + 1) + 1 by simp; omega, scan_literal.j0]
  by_cases h : b = q
  ·have e : ((b.toNat : Int) != (q.toNat : Int)) = false := by simp [h]
   rw [e, if_neg (by simp)]
   have := lit_l0 (b :: r) q hl r.length 1 (by simp; omega) (by simp) (by omega) (K + 1)
   rw [show ((1 : Nat) : Int) = 1 from rfl] at this
   rw [this]
   simp only [List.drop_succ_cons, List.drop_zero, litF, h, if_true, true_and]
   congr 1
   by_cases h2 : q = 39 ∧ r.head? = some q
   ·rw [if_pos h2, if_pos h2]; rfl
   rw [if_neg h2, if_neg h2]
   cases litL q r with
   | none => rfl
   | some j => rfl
  have e : ((b.toNat : Int) != (q.toNat : Int)) = true := bne_iff_ne.mpr (fun x => h ((u8i _ _).1 x))
  rw [e, if_pos rfl]
  simp [litF, h]
theorem pie_l0 (l : List UInt8) (q : UInt8) (hl : l.length ≤ 1000000000) : ∀ (m n : Nat), l.length ≤ n + m → n ≤ l.length → ∀ K,
  b_pieces.l0 (K + 2 * m + 1) (mk l) (q.toNat : Int) (n : Int) = some (pieL q (l.drop n))
 | 0, n, h, h2, K => by
  rw [b_pieces.l0, mk_size, if_neg (by omega), List.drop_eq_nil_of_le (by omega)]
  rfl
 | m + 1, n, h, h2, K => by
  rw [b_pieces.l0, mk_size]
  by_cases hn : n < l.length
  ·rw [if_pos (by omega), if_pos (by omega), bt_mk l n hn, List.drop_eq_getElem_cons hn]
   have e10 : ((l[n].toNat : Int) == 10) = (l[n] == 10) := u8ib _ 10
   have e92 : ((l[n].toNat : Int) = 92) ↔ l[n] = 92 := u8i _ 92
   rw [show K + 2 * (m + 1) = (K + 2 * m + 1) + 1 by omega]
   by_cases hq : l[n] = q
   ·rw [if_pos ((u8i _ _).2 hq), b_pieces.j1, if_pos rfl]
    cases l.drop (n + 1) <;> simp [pieL, hq]
   rw [if_neg (fun x => hq ((u8i _ _).1 x)), e10, b_pieces.j1]
   by_cases h10 : l[n] = 10
   ·rw [if_pos (by simp [h10])]
    cases l.drop (n + 1) <;> simp [pieL, h10]
   rw [if_neg (by simp [h10]), mk_size, if_pos (by omega), if_pos (by omega), bt_mk l n hn, w64 (by omega) (by omega)]
   by_cases h92 : l[n] = 92
   ·rw [if_pos (e92.2 h92)]
    by_cases hn2 : n + 1 < l.length
    ·have e10' : ((l[n + 1].toNat : Int) = 10) ↔ l[n + 1] = 10 := u8i _ 10
     rw [if_neg (by omega), if_pos (by omega), if_pos (by omega), show ((n : Int) + 1) = ((n + 1 : Nat) : Int) by omega, bt_mk l (n + 1) hn2, List.drop_eq_getElem_cons hn2]
     rw [show pieL q (l[n] :: l[n + 1] :: l.drop (n + 1 + 1)) = if l[n + 1] = 10 then false else pieL q (l.drop (n + 1 + 1)) by rw [pieL, if_neg (by simp [hq, h10]), if_pos h92]]
     by_cases hc : l[n + 1] = 10
     ·rw [if_pos (e10'.2 hc), if_pos hc]
     rw [if_neg (fun x => hc (e10'.1 x)), if_neg hc, w64 (by omega) (by omega), show (((n + 1 : Nat) : Int) + 1) = ((n + 2 : Nat) : Int) by omega, pie_l0 l q hl m (n + 2) (by omega) (by omega) K]
    rw [if_pos (by omega), List.drop_eq_nil_of_le (show l.length ≤ n + 1 by omega)]
    simp [pieL, h92]
   rw [if_neg (fun x => h92 (e92.1 x)), show ((n : Int) + 1) = ((n + 1 : Nat) : Int) by omega, pie_l0 l q hl m (n + 1) (by omega) (by omega) K]
   cases hr : l.drop (n + 1) with
   | nil => simp [pieL, hq, h10, h92]
   | cons c r => rw [pieL, if_neg (by simp [hq, h10]), if_neg h92]
  rw [if_neg (by omega), List.drop_eq_nil_of_le (by omega)]
  rfl
theorem pie_f (l : List UInt8) (q : UInt8) (hl : l.length ≤ 1000000000) (K : Nat) : b_pieces.f (K + 2 * l.length + 1) (mk l) (q.toNat : Int) = some (pieL q l) := by
 unfold b_pieces.f
 have := pie_l0 l q hl l.length 0 (by omega) (by omega) K
 rw [show ((0 : Nat) : Int) = 0 from rfl, List.drop_zero] at this
 exact this
theorem map_add {o : Option Nat} {a n : Nat} : o.map (· + a) = some (n + a) ↔ o = some n := by
 cases o with
 | none => simp
 | some j => simp
theorem lit_pie (q : UInt8) (h10 : q ≠ 10) (h92 : q ≠ 92) : ∀ t : List UInt8, litL q (t ++ [q]) = some (t.length + 1) ↔ pieL q t = true
 | [] => by simp [litL, pieL]
 | [b] => by
  show litL q [b, q] = some 2 ↔ _
  rw [litL, pieL]
  by_cases hq : b = q
  ·simp [hq]
  by_cases hb : b = 10
  ·subst hb; simp [hq]
  by_cases h : b = 92
  ·subst h; simp [hq, h10, litL]
  simp [hq, hb, h, litL]
 | b :: c :: r => by
  rw [show (b :: c :: r) ++ [q] = b :: c :: (r ++ [q]) from rfl, litL, pieL]
  by_cases hq : b = q
  ·rw [if_pos hq, if_pos (Or.inl hq)]; simp
  rw [if_neg hq]
  by_cases hb : b = 10
  ·rw [if_pos hb, if_pos (Or.inr hb)]; simp
  rw [if_neg hb, if_neg (show ¬ (b = q ∨ b = 10) from fun x => x.elim hq hb)]
  by_cases h : b = 92
  ·rw [if_pos h, if_pos h]
   by_cases hc : c = 10
   ·rw [if_pos hc, if_pos hc]; simp
   rw [if_neg hc, if_neg hc, show (b :: c :: r).length + 1 = (r.length + 1) + 2 by simp, map_add]
   exact lit_pie q h10 h92 r
  rw [if_neg h, if_neg h, show (b :: c :: r).length + 1 = ((c :: r).length + 1) + 1 by simp, map_add, show c :: (r ++ [q]) = (c :: r) ++ [q] from rfl]
  exact lit_pie q h10 h92 (c :: r)
theorem lit_le (q : UInt8) : ∀ (r : List UInt8) (j : Nat), litL q r = some j → 1 ≤ j ∧ j ≤ r.length ∧ r[j - 1]? = some q
 | [], j, h => by simp [litL] at h
 | [b], j, h => by
  rw [litL] at h
  by_cases hq : b = q
  ·rw [if_pos hq] at h; injection h with h; subst h; simp [hq]
  rw [if_neg hq] at h; cases h
 | b :: c :: r, j, h => by
  rw [litL] at h
  by_cases hq : b = q
  ·rw [if_pos hq] at h; injection h with h; subst h; simp [hq]
  rw [if_neg hq] at h
  by_cases hb : b = 10
  ·rw [if_pos hb] at h; cases h
  rw [if_neg hb] at h
  by_cases h92 : b = 92
  ·rw [if_pos h92] at h
   by_cases hc : c = 10
   ·rw [if_pos hc] at h; cases h
   rw [if_neg hc] at h
   obtain ⟨i, hi, rfl⟩ := Option.map_eq_some_iff.1 h
   have ih := lit_le q r i hi
   refine ⟨by omega, by simp; omega, ?_⟩
   rw [show i + 2 - 1 = (i - 1) + 1 + 1 by omega]
   simpa using ih.2.2
  rw [if_neg h92] at h
  obtain ⟨i, hi, rfl⟩ := Option.map_eq_some_iff.1 h
  have ih := lit_le q (c :: r) i hi
  refine ⟨by omega, by have := ih.2.1; simp at this ⊢; omega, ?_⟩
  rw [show i + 1 - 1 = (i - 1) + 1 by omega]
  simpa using ih.2.2
theorem lit_full (q : UInt8) (h10 : q ≠ 10) (h92 : q ≠ 92) (r : List UInt8) : litL q r = some r.length ↔ ∃ t, r = t ++ [q] ∧ pieL q t = true := by
 constructor
 ·intro h
  obtain ⟨h1, _, h3⟩ := lit_le q r _ h
  have hl : r.getLast? = some q := by rw [List.getLast?_eq_getElem?]; exact h3
  obtain ⟨t, rfl⟩ := List.getLast?_eq_some_iff.1 hl
  refine ⟨t, rfl, (lit_pie q h10 h92 t).1 ?_⟩
  rw [h]; simp
 rintro ⟨t, rfl, ht⟩
 rw [(lit_pie q h10 h92 t).2 ht]
 simp
def startsL (l p : List UInt8) : Bool := l.take p.length == p && decide (p.length ≤ l.length)
def quoL (l : List UInt8) : List (List UInt8) → Int × Nat
 | [] => (0, 0)
 | p :: ps => if startsL l p = true then (if litF 34 (l.drop p.length) > 0 then (4, p.length + litF 34 (l.drop p.length)) else if litF 39 (l.drop p.length) > 0 then (if p = [117, 56] then quoL l ps else (3, p.length + litF 39 (l.drop p.length))) else quoL l ps) else quoL l ps
theorem quoL_cons (l p : List UInt8) (ps : List (List UInt8)) : quoL l (p :: ps) = if startsL l p = true then (if litF 34 (l.drop p.length) > 0 then (4, p.length + litF 34 (l.drop p.length)) else if litF 39 (l.drop p.length) > 0 then (if p = [117, 56] then quoL l ps else (3, p.length + litF 39 (l.drop p.length))) else quoL l ps) else quoL l ps := rfl
theorem litF_cons (q b : UInt8) (r : List UInt8) : litF q (b :: r) = if b = q then (if q = 39 ∧ r.head? = some q then 0 else match litL q r with | none => 0 | some j => 1 + j) else 0 := rfl
theorem litF_le (q : UInt8) (l : List UInt8) : litF q l ≤ l.length := by
 cases l with
 | nil => simp [litF]
 | cons b r =>
  rw [litF_cons]
  by_cases hb : b = q
  ·rw [if_pos hb]
   by_cases h2 : q = 39 ∧ r.head? = some q
   ·rw [if_pos h2]; omega
   rw [if_neg h2]
   cases h : litL q r with
   | none => simp
   | some j => have := lit_le q r j h; simp; omega
  rw [if_neg hb]; omega
theorem lit_f' (l : List UInt8) (q : UInt8) (hl : l.length ≤ 1000000000) (k : Nat) (hk : l.length + 2 ≤ k) : scan_literal.f k (mk l) (q.toNat : Int) = some ((litF q l : Nat) : Int) := by
 obtain ⟨K, rfl⟩ : ∃ K, k = K + l.length + 2 := ⟨k - (l.length + 2), by omega⟩
 exact lit_f l q hl K
theorem quo_l0 (l : List UInt8) (hl : l.length ≤ 1000000000) (P : List (List UInt8)) (hP : ∀ p ∈ P, p.length ≤ 10) (hn : P.length ≤ 10) : ∀ (m i : Nat), i + m = P.length → ∀ K,
  scan_quoted.l0 (K + m + l.length + 3) (mk l) (P.map mk) ((P.length : Nat) : Int) (i : Int) = some ((quoL l (P.drop i)).1, ((quoL l (P.drop i)).2 : Int))
 | 0, i, h, K => by
  rw [show K + 0 + l.length + 3 = (K + l.length + 2) + 1 by omega, scan_quoted.l0, if_neg (by omega), List.drop_eq_nil_of_le (by omega)]
  rfl
 | m + 1, i, h, K => by
  have hi : i < P.length := by omega
  have hr : rdOf ByteArray.empty (P.map mk) (i : Int) = mk P[i] := by
   unfold rdOf
   simp [hi]
  have hp := hP P[i] (List.getElem_mem hi)
  rw [show K + (m + 1) + l.length + 3 = (K + m + l.length + 3) + 1 by omega, scan_quoted.l0, if_pos (by omega), if_pos (by omega), if_pos (by simp; omega), hr, pre_mk, Option.bind_some, List.drop_eq_getElem_cons hi]
  have ih := quo_l0 l hl P hP hn m (i + 1) (by omega) K
  have hw : wrap64 ((i : Int) + 1) = ((i + 1 : Nat) : Int) := by rw [w64 (by omega) (by omega)]; omega
  rw [hw, ih]
  rw [quoL_cons, show (l.take P[i].length == P[i] && decide (P[i].length ≤ l.length)) = startsL l P[i] from rfl]
  by_cases hs : startsL l P[i] = true
  ·rw [if_pos hs, if_pos hs]
   have hle : P[i].length ≤ l.length := by unfold startsL at hs; simp at hs; exact hs.2
   have hx : (mk l).extract ((((mk P[i]).size : Nat) : Int)).toNat (mk l).size = mk (l.drop P[i].length) := by rw [Int.toNat_natCast, mk_size]; exact mk_extract l _
   rw [mk_size, mk_size] at hx
   rw [mk_size, mk_size, if_pos (by omega), if_pos (by omega), hx]
   have f34 := lit_f' (l.drop P[i].length) 34 (by simp; omega) (K + m + l.length + 3) (by simp; omega)
   have f39 := lit_f' (l.drop P[i].length) 39 (by simp; omega) (K + m + l.length + 3) (by simp; omega)
   rw [show ((34 : UInt8).toNat : Int) = 34 from rfl] at f34
   rw [show ((39 : UInt8).toNat : Int) = 39 from rfl] at f39
   have l34 := litF_le 34 (l.drop P[i].length)
   have l39 := litF_le 39 (l.drop P[i].length)
   simp only [List.length_drop] at l34 l39
   rw [f34, Option.bind_some]
   by_cases h34 : litF 34 (l.drop P[i].length) > 0
   ·rw [if_pos (by omega), if_pos h34, w64 (by omega) (by omega)]
    simp
   rw [if_neg (by omega), if_neg h34, f39, Option.bind_some]
   by_cases h39 : litF 39 (l.drop P[i].length) > 0
   ·rw [if_pos (by omega), if_pos h39, mk_toList]
    by_cases h8 : P[i] = [117, 56]
    ·rw [if_pos h8, if_pos h8]
    rw [if_neg h8, if_neg h8, w64 (by omega) (by omega)]
    simp
   rw [if_neg (by omega), if_neg h39]
  rw [if_neg hs, if_neg hs]
def pres : List (List UInt8) := [[117, 56], [117], [85], [76], []]
theorem quo_f (l : List UInt8) (hl : l.length ≤ 1000000000) (K : Nat) : scan_quoted.f (K + l.length + 8) (mk l) = some ((quoL l pres).1, ((quoL l pres).2 : Int)) := by
 unfold scan_quoted.f
 rw [Option.bind_some]
 have := quo_l0 l hl pres (by decide) (by decide) 5 0 rfl K
 rw [show K + l.length + 8 = K + 5 + l.length + 3 by omega]
 exact this
end Go.Proofs.YtcdleippdegibaaDoor.Ctk
namespace Go.Proofs.YtcdleippdegibaaDoor.Ctk
open Go Go.RowKit Go.Proofs Go.Proofs.YtcdleippdegibaaDoorW.PrintWords Go.Proofs.YtcdleippdegibaaDoor Go.Proofs.YtcdleippdegibaaDoor.PB Go.Proofs.YtcdleippdegibaaDoor.PR
def midL (l : List UInt8) (n : Nat) : List UInt8 := (l.take (l.length - 1)).drop (n + 1)
def isL (q : UInt8) (l : List UInt8) : List (List UInt8) → Bool
 | [] => false
 | p :: ps => if p.length + 2 ≤ l.length ∧ l.take p.length = p ∧ l[p.length]? = some q ∧ l[l.length - 1]? = some q ∧ pieL q (midL l p.length) = true then (decide (q = 34) || decide (p.length + 2 < l.length)) else isL q l ps
theorem isL_cons (q : UInt8) (l p : List UInt8) (ps : List (List UInt8)) : isL q l (p :: ps) = if p.length + 2 ≤ l.length ∧ l.take p.length = p ∧ l[p.length]? = some q ∧ l[l.length - 1]? = some q ∧ pieL q (midL l p.length) = true then (decide (q = 34) || decide (p.length + 2 < l.length)) else isL q l ps := rfl
theorem mk_mid (l : List UInt8) (n : Nat) : (mk l).extract (n + 1) (l.length - 1) = mk (midL l n) := by
 unfold midL
 apply ByteArray.ext
 apply Array.ext'
 simp [ByteArray.data_extract, List.extract_eq_take_drop, List.drop_take]
theorem pie_f' (l : List UInt8) (q : UInt8) (hl : l.length ≤ 1000000000) (k : Nat) (hk : 2 * l.length + 1 ≤ k) : b_pieces.f k (mk l) (q.toNat : Int) = some (pieL q l) := by
 obtain ⟨K, rfl⟩ : ∃ K, k = K + 2 * l.length + 1 := ⟨k - (2 * l.length + 1), by omega⟩
 exact pie_f l q hl K
theorem isl_l0 (l : List UInt8) (q : UInt8) (hl : l.length ≤ 1000000000) (P : List (List UInt8)) (hP : ∀ p ∈ P, p.length ≤ 10) (hn : P.length ≤ 10) : ∀ (m i : Nat), i + m = P.length → ∀ K,
  b_IsLiteral.l0 (K + m + 2 * l.length + 3) (mk l) (q.toNat : Int) (P.map mk) (i : Int) = some (isL q l (P.drop i))
 | 0, i, h, K => by
  rw [show K + 0 + 2 * l.length + 3 = (K + 2 * l.length + 2) + 1 by omega, b_IsLiteral.l0, if_neg (by simp; omega), List.drop_eq_nil_of_le (by omega)]
  rfl
 | m + 1, i, h, K => by
  have hi : i < P.length := by omega
  have hr : rdOf ByteArray.empty (P.map mk) (i : Int) = mk P[i] := by
   unfold rdOf
   simp [hi]
  have hp := hP P[i] (List.getElem_mem hi)
  rw [show K + (m + 1) + 2 * l.length + 3 = (K + m + 2 * l.length + 3) + 1 by omega, b_IsLiteral.l0, if_pos (by simp; omega), if_pos (by omega), hr, List.drop_eq_getElem_cons hi]
  have ih := isl_l0 l q hl P hP hn m (i + 1) (by omega) K
  have hw : wrap64 ((i : Int) + 1) = ((i + 1 : Nat) : Int) := by rw [w64 (by omega) (by omega)]; omega
  rw [hw, ih, isL_cons, mk_size, mk_size]
  obtain ⟨p, hpe⟩ : ∃ p, P[i] = p := ⟨_, rfl⟩
  rw [hpe] at hp ⊢
  rw [w64 (by omega) (by omega)]
  by_cases c1 : p.length + 2 ≤ l.length
  ·rw [if_pos (by omega), if_pos (by omega), if_pos (by omega), Int.toNat_natCast, mk_take, mk_toList, mk_toList]
   by_cases c2 : l.take p.length = p
   ·rw [if_pos c2, if_pos (by omega), bt_mk l p.length (by omega)]
    have g3 : l[p.length]? = some (l[p.length]'(by omega)) := List.getElem?_eq_getElem _
    have g4 : l[l.length - 1]? = some (l[l.length - 1]'(by omega)) := List.getElem?_eq_getElem _
    by_cases c3 : l[p.length]'(by omega) = q
    ·have e1 : wrap64 ((l.length : Int) - 1) = ((l.length - 1 : Nat) : Int) := by rw [w64 (by omega) (by omega)]; omega
     have e2 : wrap64 ((p.length : Int) + 1) = ((p.length + 1 : Nat) : Int) := by rw [w64 (by omega) (by omega)]; omega
     rw [if_pos ((u8i _ _).2 c3), e1, e2, if_pos (by omega), if_pos (by omega), bt_mk l (l.length - 1) (by omega)]
     by_cases c4 : l[l.length - 1]'(by omega) = q
     ·rw [if_pos ((u8i _ _).2 c4), if_pos (by omega), if_pos (by omega), if_pos (by omega), Int.toNat_natCast, Int.toNat_natCast, mk_mid]
      have hml : (midL l p.length).length ≤ l.length := by unfold midL; simp; omega
      rw [pie_f' _ q (by omega) _ (by omega), Option.bind_some]
      have e34 : ((q.toNat : Int) = 34) ↔ q = 34 := u8i q 34
      by_cases c5 : pieL q (midL l p.length) = true
      ·have h5 : p.length + 2 ≤ l.length ∧ l.take p.length = p ∧ l[p.length]? = some q ∧ l[l.length - 1]? = some q ∧ pieL q (midL l p.length) = true := ⟨c1, c2, by rw [g3, c3], by rw [g4, c4], c5⟩
       rw [if_pos c5, if_pos h5]
       by_cases h34 : q = 34
       ·rw [if_pos (e34.2 h34)]; simp [h34]
       rw [if_neg (fun x => h34 (e34.1 x))]
       simp only [h34, decide_false, Bool.false_or]
       congr 1
       exact decide_eq_decide.2 (by omega)
      rw [if_neg c5, if_neg (fun x => c5 x.2.2.2.2)]
     rw [if_neg (fun x => c4 ((u8i _ _).1 x)), if_neg (fun x => c4 (Option.some.inj (g4.symm.trans x.2.2.2.1)))]
    rw [if_neg (fun x => c3 ((u8i _ _).1 x)), if_neg (fun x => c3 (Option.some.inj (g3.symm.trans x.2.2.1)))]
   rw [if_neg c2, if_neg (fun x => c2 x.2.1)]
  rw [if_neg (by omega), if_neg (fun x => c1 x.1)]
end Go.Proofs.YtcdleippdegibaaDoor.Ctk
namespace Go.Proofs.YtcdleippdegibaaDoor.Ctk
open Go Go.RowKit Go.Proofs Go.Proofs.YtcdleippdegibaaDoorW.PrintWords Go.Proofs.YtcdleippdegibaaDoor Go.Proofs.YtcdleippdegibaaDoor.PR
def whole (q : UInt8) (r : List UInt8) : Prop := ∃ t, r = q :: (t ++ [q]) ∧ pieL q t = true ∧ (q = 39 → t ≠ [])
theorem pie_head (q b : UInt8) (t : List UInt8) (h : pieL q (b :: t) = true) : b ≠ q := by
 intro e
 subst e
 cases t with
 | nil => simp [pieL] at h
 | cons c t => simp [pieL] at h
theorem litF_whole (q : UInt8) (h10 : q ≠ 10) (h92 : q ≠ 92) (r : List UInt8) : (litF q r = r.length ∧ 0 < litF q r) ↔ whole q r := by
 cases r with
 | nil =>
  constructor
  ·rintro ⟨_, h⟩; simp [litF] at h
  rintro ⟨t, h, _⟩; cases h
 | cons b r =>
  rw [litF_cons]
  constructor
  ·rintro ⟨h1, h2⟩
   by_cases hb : b = q
   ·rw [if_pos hb] at h1 h2
    by_cases hh : q = 39 ∧ r.head? = some q
    ·rw [if_pos hh] at h2; omega
    rw [if_neg hh] at h1 h2
    cases hl : litL q r with
    | none => rw [hl] at h2; simp at h2
    | some j =>
     rw [hl] at h1
     simp only [List.length_cons] at h1
     obtain rfl : j = r.length := by omega
     obtain ⟨t, ht, hp⟩ := (lit_full q h10 h92 r).1 hl
     refine ⟨t, by rw [hb, ht], hp, ?_⟩
     rintro h39 rfl
     exact hh ⟨h39, by rw [ht]; rfl⟩
   rw [if_neg hb] at h2; omega
  rintro ⟨t, h, hp, hne⟩
  injection h with h1 h2
  rw [if_pos h1]
  have hh : ¬ (q = 39 ∧ r.head? = some q) := by
   rintro ⟨h39, hd⟩
   have := hne h39
   cases t with
   | nil => exact this rfl
   | cons c t =>
    rw [h2] at hd
    simp at hd
    exact pie_head q c t hp hd
  rw [if_neg hh, (lit_full q h10 h92 r).2 ⟨t, h2, hp⟩]
  simp
  omega
theorem mid_of (l p : List UInt8) (q : UInt8) (h1 : p.length + 2 ≤ l.length) (h2 : l.take p.length = p) (h3 : l[p.length]? = some q) (h4 : l[l.length - 1]? = some q) : l = p ++ q :: (midL l p.length ++ [q]) := by
 have hd : l.drop (l.length - 1) = [q] := by
  rw [List.drop_eq_getElem_cons (by omega), List.drop_eq_nil_of_le (by omega)]
  rw [List.getElem?_eq_getElem (by omega)] at h4
  rw [Option.some.inj h4]
 have hlast : l.take (l.length - 1) ++ [q] = l := by rw [← hd]; exact List.take_append_drop _ _
 have hdr : l.drop (p.length + 1) = midL l p.length ++ [q] := by
  unfold midL
  rw [← List.drop_append_of_le_length (by simp; omega), hlast]
 rw [← hdr]
 rw [List.getElem?_eq_getElem (by omega)] at h3
 have hc : l.drop p.length = q :: l.drop (p.length + 1) := by
  rw [List.drop_eq_getElem_cons (by omega), Option.some.inj h3]
 rw [← hc]
 have ht := List.take_append_drop p.length l
 rw [h2] at ht
 exact ht.symm
theorem mid_app (p t : List UInt8) (q : UInt8) : midL (p ++ q :: (t ++ [q])) p.length = t := by
 unfold midL
 have e : p ++ q :: (t ++ [q]) = (p ++ q :: t) ++ [q] := by simp
 rw [e, List.take_append_of_le_length (by simp), show (p ++ q :: t ++ [q]).length - 1 = (p ++ q :: t).length by simp, List.take_length]
 rw [show p ++ q :: t = (p ++ [q]) ++ t by simp, show p.length + 1 = (p ++ [q]).length by simp, List.drop_left]
theorem isL_iff (q : UInt8) (hq : q = 39 ∨ q = 34) (l : List UInt8) : ∀ ps : List (List UInt8), (∀ p ∈ ps, ∀ p' ∈ ps, ∀ r r', p ++ q :: r = p' ++ q :: r' → p = p') → (isL q l ps = true ↔ ∃ p ∈ ps, ∃ r, l = p ++ r ∧ whole q r)
 | [], _ => by simp [isL]
 | p :: ps, hu => by
  have ih := isL_iff q hq l ps (fun a ha b hb => hu a (by simp [ha]) b (by simp [hb]))
  rw [isL_cons]
  by_cases h : p.length + 2 ≤ l.length ∧ l.take p.length = p ∧ l[p.length]? = some q ∧ l[l.length - 1]? = some q ∧ pieL q (midL l p.length) = true
  ·rw [if_pos h]
   obtain ⟨h1, h2, h3, h4, h5⟩ := h
   have hl := mid_of l p q h1 h2 h3 h4
   have hml : (midL l p.length).length + p.length + 2 = l.length := by
    have := congrArg List.length hl
    simp at this
    omega
   constructor
   ·intro hd
    refine ⟨p, by simp, _, hl, midL l p.length, rfl, h5, ?_⟩
    rintro rfl hnil
    rw [hnil] at hml
    simp at hd hml
    omega
   rintro ⟨p', hp', r, hr, t, rfl, ht, hne⟩
   have hpp : p = p' := hu p (by simp) p' hp' _ _ (hl.symm.trans hr)
   subst hpp
   rcases hq with rfl | rfl
   ·have := hne rfl
    have hlen := congrArg List.length hr
    simp at hlen
    have : 0 < t.length := List.length_pos_iff.2 this
    simp
    omega
   simp
  rw [if_neg h, ih]
  constructor
  ·rintro ⟨a, ha, x⟩; exact ⟨a, by simp [ha], x⟩
  rintro ⟨a, ha, r, hr, hw⟩
  rcases List.mem_cons.1 ha with rfl | ha
  ·exfalso
   obtain ⟨t, rfl, ht, hne⟩ := hw
   apply h
   subst hr
   refine ⟨by simp, by simp, by simp, by simp, by rw [mid_app]; exact ht⟩
  exact ⟨a, ha, r, hr, hw⟩
theorem starts_iff (l p : List UInt8) : startsL l p = true ↔ l = p ++ l.drop p.length := by
 unfold startsL
 simp only [Bool.and_eq_true, beq_iff_eq, decide_eq_true_iff]
 constructor
 ·rintro ⟨h, _⟩
  have ht := List.take_append_drop p.length l
  rw [h] at ht
  exact ht.symm
 intro h
 have hlen := congrArg List.length h
 simp at hlen
 refine ⟨?_, by omega⟩
 rw [h]
 simp
theorem litF_head (q : UInt8) (d : List UInt8) (h : 0 < litF q d) : ∃ r, d = q :: r := by
 cases d with
 | nil => simp [litF] at h
 | cons b r =>
  rw [litF_cons] at h
  by_cases hb : b = q
  ·exact ⟨r, by rw [hb]⟩
  rw [if_neg hb] at h; omega
theorem whole_pos (q : UInt8) (h10 : q ≠ 10) (h92 : q ≠ 92) (d : List UInt8) (h : whole q d) : 0 < litF q d := ((litF_whole q h10 h92 d).2 h).2
def isq (b : UInt8) : Prop := b = 34 ∨ b = 39
theorem whole_head (q : UInt8) (r : List UInt8) (h : whole q r) : ∃ r', r = q :: r' := by
 obtain ⟨t, h, _⟩ := h
 exact ⟨_, h⟩
theorem quoL_iff (l : List UInt8) (hne : l ≠ []) (q : UInt8) (kd : Int) (hq : (q = 34 ∧ kd = 4) ∨ (q = 39 ∧ kd = 3)) : ∀ ps : List (List UInt8), (∀ p ∈ ps, ∀ p' ∈ ps, ∀ a b r r', isq a → isq b → p ++ a :: r = p' ++ b :: r' → p = p') →
  (quoL l ps = (kd, l.length) ↔ ∃ p ∈ ps, (q = 39 → p ≠ [117, 56]) ∧ ∃ r, l = p ++ r ∧ whole q r)
 | [], _ => by
  have : 0 < l.length := List.length_pos_iff.2 hne
  simp [quoL]
  intro h
  omega
 | p :: ps, hu => by
  have ih := quoL_iff l hne q kd hq ps (fun a ha b hb => hu a (by simp [ha]) b (by simp [hb]))
  have hqq : isq q := by rcases hq with ⟨rfl, _⟩ | ⟨rfl, _⟩ <;> simp [isq]
  have h10 : q ≠ 10 := by rcases hq with ⟨rfl, _⟩ | ⟨rfl, _⟩ <;> decide
  have h92 : q ≠ 92 := by rcases hq with ⟨rfl, _⟩ | ⟨rfl, _⟩ <;> decide
  rw [quoL_cons]
  have skip : (∀ r, l = p ++ r → whole q r → (q = 39 ∧ p = [117, 56])) → (quoL l ps = (kd, l.length) ↔ ∃ a ∈ p :: ps, (q = 39 → a ≠ [117, 56]) ∧ ∃ r, l = a ++ r ∧ whole q r) := by
   intro hs
   rw [ih]
   constructor
   ·rintro ⟨a, ha, x⟩; exact ⟨a, by simp [ha], x⟩
   rintro ⟨a, ha, h8, r, hr, hw⟩
   rcases List.mem_cons.1 ha with rfl | ha
   ·have := hs r hr hw
    exact absurd this.2 (h8 this.1)
   exact ⟨a, ha, h8, r, hr, hw⟩
  by_cases hs : startsL l p = true
  ·rw [if_pos hs]
   have hl := (starts_iff l p).1 hs
   obtain ⟨d, hd⟩ : ∃ d, l.drop p.length = d := ⟨_, rfl⟩
   rw [hd] at hl ⊢
   have same : ∀ a r, isq a → d = a :: r → ∀ p' ∈ p :: ps, ∀ r', l = p' ++ r' → whole q r' → p' = p ∧ r' = d ∧ a = q := by
    intro a r ha hdr p' hp' r' hr' hw
    obtain ⟨r2, hr2⟩ := whole_head q r' hw
    subst hr2
    have e : p ++ a :: r = p' ++ q :: r2 := by rw [← hdr, ← hl]; exact hr'
    have hpp := hu p (by simp) p' hp' a q r r2 ha hqq e
    subst hpp
    have e2 := List.append_cancel_left e
    exact ⟨rfl, by rw [hdr, e2], by injection e2⟩
   have hit : ∀ c kc, (c = 34 ∧ kc = 4) ∨ (c = 39 ∧ kc = 3) → 0 < litF c d → (c = 39 → p ≠ [117, 56]) → (((kc : Int), p.length + litF c d) = (kd, l.length) ↔ ∃ a ∈ p :: ps, (q = 39 → a ≠ [117, 56]) ∧ ∃ r, l = a ++ r ∧ whole q r) := by
    intro c kc hc hpos h8
    have hcq : isq c := by rcases hc with ⟨rfl, _⟩ | ⟨rfl, _⟩ <;> simp [isq]
    obtain ⟨r, hr⟩ := litF_head c d hpos
    have hlen := congrArg List.length hl
    simp only [List.length_append] at hlen
    constructor
    ·intro h
     injection h with hk hn
     have hcq2 : c = q := by
      rcases hc with ⟨rfl, rfl⟩ | ⟨rfl, rfl⟩ <;> rcases hq with ⟨rfl, rfl⟩ | ⟨rfl, rfl⟩ <;> first | rfl | (exact absurd hk (by decide))
     subst hcq2
     exact ⟨p, by simp, h8, d, hl, (litF_whole c h10 h92 d).1 ⟨by omega, hpos⟩⟩
    rintro ⟨a, ha, _, r', hr', hw⟩
    obtain ⟨rfl, rfl, rfl⟩ := same c r hcq hr a ha r' hr' hw
    have hk : kc = kd := by
     rcases hc with ⟨rfl, rfl⟩ | ⟨rfl, rfl⟩ <;> rcases hq with ⟨h, rfl⟩ | ⟨h, rfl⟩ <;> first | rfl | (exact absurd h (by decide))
    have := ((litF_whole _ h10 h92 _).2 hw).1
    rw [hk, this]
    congr 1
    omega
   by_cases h34 : litF 34 d > 0
   ·rw [if_pos h34]
    exact hit 34 4 (.inl ⟨rfl, rfl⟩) h34 (fun h => absurd h (by decide))
   rw [if_neg h34]
   by_cases h39 : litF 39 d > 0
   ·rw [if_pos h39]
    obtain ⟨r, hr⟩ := litF_head 39 d h39
    by_cases h8 : p = [117, 56]
    ·rw [if_pos h8]
     refine skip fun r' hr' hw => ?_
     obtain ⟨_, _, h⟩ := same 39 r (.inr rfl) hr p (by simp) r' hr' hw
     exact ⟨h.symm, h8⟩
    rw [if_neg h8]
    exact hit 39 3 (.inr ⟨rfl, rfl⟩) h39 (fun _ => h8)
   rw [if_neg h39]
   refine skip fun r' hr' hw => ?_
   have : r' = d := List.append_cancel_left (hr'.symm.trans hl)
   subst this
   have := whole_pos q h10 h92 _ hw
   rcases hq with ⟨rfl, _⟩ | ⟨rfl, _⟩
   ·exact absurd this h34
   exact absurd this h39
  rw [if_neg hs]
  refine skip fun r' hr' hw => ?_
  exfalso
  apply hs
  rw [starts_iff]
  have : l.drop p.length = r' := by rw [hr']; simp
  rw [this]
  exact hr'
theorem uniq : ∀ p ∈ pres, ∀ p' ∈ pres, ∀ a b r r', isq a → isq b → p ++ a :: r = p' ++ b :: r' → p = p' := by
 intro p hp p' hp' a b r r' ha hb h
 simp only [pres, List.mem_cons, List.not_mem_nil, or_false] at hp hp'
 unfold isq at ha hb
 rcases hp with rfl | rfl | rfl | rfl | rfl <;> rcases hp' with rfl | rfl | rfl | rfl | rfl <;> first | rfl | (exfalso; simp at h; done) | (exfalso; simp at h; rcases ha with rfl | rfl <;> rcases hb with rfl | rfl <;> simp_all)
def pre39 : List (List UInt8) := [[], [117], [85], [76]]
def pre34 : List (List UInt8) := [[], [117, 56], [117], [85], [76]]
theorem in39 (p : List UInt8) : p ∈ pre39 ↔ (p ∈ pres ∧ p ≠ [117, 56]) := by
 simp only [pre39, pres, List.mem_cons, List.not_mem_nil, or_false]
 constructor
 ·rintro (rfl | rfl | rfl | rfl) <;> simp
 rintro ⟨rfl | rfl | rfl | rfl | rfl, h⟩ <;> simp_all
theorem in34 (p : List UInt8) : p ∈ pre34 ↔ p ∈ pres := by
 simp only [pre34, pres, List.mem_cons, List.not_mem_nil, or_false]
 constructor
 ·rintro (rfl | rfl | rfl | rfl | rfl) <;> simp
 rintro (rfl | rfl | rfl | rfl | rfl) <;> simp
theorem chars_iff (l : List UInt8) (hne : l ≠ []) : quoL l pres = (3, l.length) ↔ isL 39 l pre39 = true := by
 rw [quoL_iff l hne 39 3 (.inr ⟨rfl, rfl⟩) pres uniq, isL_iff 39 (.inl rfl) l pre39 (fun p hp p' hp' r r' h => uniq p ((in39 p).1 hp).1 p' ((in39 p').1 hp').1 39 39 r r' (.inr rfl) (.inr rfl) h)]
 constructor
 ·rintro ⟨p, hp, h8, x⟩; exact ⟨p, (in39 p).2 ⟨hp, h8 rfl⟩, x⟩
 rintro ⟨p, hp, x⟩; exact ⟨p, ((in39 p).1 hp).1, fun _ => ((in39 p).1 hp).2, x⟩
theorem str_iff (l : List UInt8) (hne : l ≠ []) : quoL l pres = (4, l.length) ↔ isL 34 l pre34 = true := by
 rw [quoL_iff l hne 34 4 (.inl ⟨rfl, rfl⟩) pres uniq, isL_iff 34 (.inr rfl) l pre34 (fun p hp p' hp' r r' h => uniq p ((in34 p).1 hp) p' ((in34 p').1 hp') 34 34 r r' (.inl rfl) (.inl rfl) h)]
 constructor
 ·rintro ⟨p, hp, h8, x⟩; exact ⟨p, (in34 p).2 hp, x⟩
 rintro ⟨p, hp, x⟩; exact ⟨p, (in34 p).1 hp, fun h => absurd h (by decide), x⟩
theorem isl_39 (l : List UInt8) (hl : l.length ≤ 1000000000) (K : Nat) : b_IsLiteral.f (K + 4 + 2 * l.length + 3) (mk l) 39 (pre39.map mk) = some (isL 39 l pre39) := isl_l0 l 39 hl pre39 (by decide) (by decide) 4 0 rfl K
theorem isl_34 (l : List UInt8) (hl : l.length ≤ 1000000000) (K : Nat) : b_IsLiteral.f (K + 5 + 2 * l.length + 3) (mk l) 34 (pre34.map mk) = some (isL 34 l pre34) := isl_l0 l 34 hl pre34 (by decide) (by decide) 5 0 rfl K
end Go.Proofs.YtcdleippdegibaaDoor.Ctk
namespace Go.Proofs.YtcdleippdegibaaDoor.Ctk
open Go Go.RowKit Go.Proofs Go.Proofs.YtcdleippdegibaaDoorW.PrintWords Go.Proofs.YtcdleippdegibaaDoor Go.Proofs.YtcdleippdegibaaDoor.PB Go.Proofs.YtcdleippdegibaaDoor.PR
def noq (l : List UInt8) : Prop := ∀ c ∈ l, c ≠ 34 ∧ c ≠ 39
theorem noq_nil : noq [] := by intro c h; cases h
theorem noq_cons {b : UInt8} {r : List UInt8} (h : b ≠ 34 ∧ b ≠ 39) (h2 : noq r) : noq (b :: r) := by
 intro c hc
 rcases List.mem_cons.1 hc with rfl | hc
 ·exact h
 exact h2 c hc
theorem letter_some (b : UInt8) : ∃ r, b_letter.f (b.toNat : Int) = some r ∧ (r = true → b ≠ 34 ∧ b ≠ 39) := by
 have := all8 (p := fun b => (b_letter.f (b.toNat : Int)).isSome && ((b_letter.f (b.toNat : Int) != some true) || (b != 34 && b != 39))) (by kernel_rfl) b
 simp only [Bool.and_eq_true, Bool.or_eq_true, bne_iff_ne] at this
 obtain ⟨h1, h2⟩ := this
 obtain ⟨r, hr⟩ := Option.isSome_iff_exists.1 h1
 refine ⟨r, hr, ?_⟩
 rintro rfl
 exact h2.resolve_left (fun h => h hr)
theorem digit_some (b : UInt8) : ∃ r, b_digit.f (b.toNat : Int) = some r ∧ (r = true → b ≠ 34 ∧ b ≠ 39) := by
 have := all8 (p := fun b => (b_digit.f (b.toNat : Int)).isSome && ((b_digit.f (b.toNat : Int) != some true) || (b != 34 && b != 39))) (by kernel_rfl) b
 simp only [Bool.and_eq_true, Bool.or_eq_true, bne_iff_ne] at this
 obtain ⟨h1, h2⟩ := this
 obtain ⟨r, hr⟩ := Option.isSome_iff_exists.1 h1
 refine ⟨r, hr, ?_⟩
 rintro rfl
 exact h2.resolve_left (fun h => h hr)
theorem word_l0 (l : List UInt8) (hl : l.length ≤ 1000000000) : ∀ (m i : Nat), i + m = l.length → ∀ K, ∃ r, b_IsWord.l0 (K + m + 1) (mk l) (i : Int) = some r ∧ (r = true → noq (l.drop i))
 | 0, i, h, K => by
  rw [b_IsWord.l0, mk_size, if_neg (by omega), List.drop_eq_nil_of_le (by omega)]
  exact ⟨_, rfl, fun _ => noq_nil⟩
 | m + 1, i, h, K => by
  have hi : i < l.length := by omega
  obtain ⟨r, hr, hq⟩ := word_l0 l hl m (i + 1) (by omega) K
  have hw : wrap64 ((i : Int) + 1) = ((i + 1 : Nat) : Int) := by rw [w64 (by omega) (by omega)]; omega
  rw [show K + (m + 1) + 1 = (K + m + 1) + 1 by omega, b_IsWord.l0, mk_size, if_pos (by omega), if_pos (by omega), bt_mk l i hi, hw, hr, List.drop_eq_getElem_cons hi]
  obtain ⟨a, ha, ha2⟩ := letter_some l[i]
  obtain ⟨d, hd, hd2⟩ := digit_some l[i]
  rw [ha, hd, Option.bind_some, Option.bind_some]
  cases a with
  | true => rw [if_pos rfl]; exact ⟨r, rfl, fun h => noq_cons (ha2 rfl) (hq h)⟩
  | false =>
   rw [if_neg (by simp)]
   by_cases h0 : (i : Int) = 0
   ·rw [if_pos h0]; exact ⟨false, rfl, fun h => by cases h⟩
   rw [if_neg h0]
   cases d with
   | true => rw [if_pos rfl]; exact ⟨r, rfl, fun h => noq_cons (hd2 rfl) (hq h)⟩
   | false => rw [if_neg (by simp)]; exact ⟨false, rfl, fun h => by cases h⟩
theorem word_some (l : List UInt8) (hl : l.length ≤ 1000000000) (K : Nat) : ∃ r, b_IsWord.f (K + l.length + 1) (mk l) = some r ∧ (r = true → noq l) := by
 have := word_l0 l hl l.length 0 (by omega) K
 rw [show ((0 : Nat) : Int) = 0 from rfl, List.drop_zero] at this
 exact this
theorem sign_some (b : UInt8) : ∃ r, b_sign.f (b.toNat : Int) = some r ∧ (r = true → b ≠ 34 ∧ b ≠ 39) := by
 have := all8 (p := fun b => (b_sign.f (b.toNat : Int)).isSome && ((b_sign.f (b.toNat : Int) != some true) || (b != 34 && b != 39))) (by kernel_rfl) b
 simp only [Bool.and_eq_true, Bool.or_eq_true, bne_iff_ne] at this
 obtain ⟨h1, h2⟩ := this
 obtain ⟨r, hr⟩ := Option.isSome_iff_exists.1 h1
 refine ⟨r, hr, ?_⟩
 rintro rfl
 exact h2.resolve_left (fun h => h hr)
theorem expo_some (b : UInt8) : ∃ r, b_expo.f (b.toNat : Int) = some r ∧ (r = true → b ≠ 34 ∧ b ≠ 39) := by
 have := all8 (p := fun b => (b_expo.f (b.toNat : Int)).isSome && ((b_expo.f (b.toNat : Int) != some true) || (b != 34 && b != 39))) (by kernel_rfl) b
 simp only [Bool.and_eq_true, Bool.or_eq_true, bne_iff_ne] at this
 obtain ⟨h1, h2⟩ := this
 obtain ⟨r, hr⟩ := Option.isSome_iff_exists.1 h1
 refine ⟨r, hr, ?_⟩
 rintro rfl
 exact h2.resolve_left (fun h => h hr)
theorem noq_snoc (l : List UInt8) (n : Nat) (hn : n < l.length) (he : n + 1 = l.length) (h : noq (l.take n)) (hb : l[n] ≠ 34 ∧ l[n] ≠ 39) : noq l := by
 intro c hc
 have e : l = l.take n ++ [l[n]] := by
  have ht := List.take_append_drop n l
  rw [List.drop_eq_getElem_cons hn, List.drop_eq_nil_of_le (by omega)] at ht
  exact ht.symm
 rw [e, List.mem_append] at hc
 rcases hc with hc | hc
 ·exact h c hc
 obtain rfl := List.mem_singleton.1 hc
 exact hb
theorem num_j0 (l : List UInt8) (n : Nat) (hn : l.length = n) (h2 : 2 ≤ n) (hl : n ≤ 1000000000) (fl : Bool) (hf : fl = true → n = 2 ∧ l[0]? = some 46) (K : Nat)
  (ih : ∀ m, m < n → ∀ t : List UInt8, t.length = m → ∀ K, ∃ r, b_IsNumber.f (K + 2 * m + 2) (mk t) = some r ∧ (r = true → noq t)) :
  ∃ r, b_IsNumber.j0 (K + 2 * n + 1) (mk l) (n : Int) fl = some r ∧ (r = true → noq l) := by
 rw [b_IsNumber.j0, mk_size, hn]
 cases fl with
 | true =>
  obtain ⟨e, h0⟩ := hf rfl
  subst e
  obtain ⟨a, b, rfl⟩ : ∃ a b, l = [a, b] := by
   match l, hn with
   | [a, b], _ => exact ⟨a, b, rfl⟩
  have hb : bt (mk [a, b]) 1 = b.toNat := bt_mk [a, b] 1 (by simp)
  obtain ⟨d, hd, hd2⟩ := digit_some b
  rw [if_pos rfl, if_pos (by omega), hb, hd, Option.bind_some]
  refine ⟨d, rfl, fun h => ?_⟩
  simp at h0
  subst h0
  exact noq_cons (by decide) (noq_cons (hd2 h) noq_nil)
 | false =>
  have w1 : wrap64 ((n : Int) - 1) = ((n - 1 : Nat) : Int) := by rw [w64 (by omega) (by omega)]; omega
  have w2 : wrap64 ((n : Int) - 2) = ((n - 2 : Nat) : Int) := by rw [w64 (by omega) (by omega)]; omega
  have c1 : n - 1 < l.length := by omega
  have c2 : n - 2 < l.length := by omega
  obtain ⟨r1, hr1, q1⟩ := ih (n - 1) (by omega) (l.take (n - 1)) (by simp; omega) K
  obtain ⟨r2, hr2, q2⟩ := ih (n - 2) (by omega) (l.take (n - 2)) (by simp; omega) (K + 2)
  rw [show K + 2 * (n - 1) + 2 = K + 2 * n by omega] at hr1
  rw [show K + 2 + 2 * (n - 2) + 2 = K + 2 * n by omega] at hr2
  rw [if_neg (by simp), w1, w2, if_pos (by omega), if_pos (by omega), if_pos (show (0 : Int) ≤ ((n - 2 : Nat) : Int) by omega), if_pos (show ((n - 2 : Nat) : Int) < (n : Int) by omega)]
  rw [bt_mk l (n - 1) c1, bt_mk l (n - 2) c2, Int.toNat_natCast, Int.toNat_natCast, mk_take, mk_take, hr1, hr2]
  obtain ⟨s, hs, hs2⟩ := sign_some l[n - 1]
  obtain ⟨x, hx, hx2⟩ := expo_some l[n - 2]
  obtain ⟨d, hd, hd2⟩ := digit_some l[n - 1]
  obtain ⟨a, ha, ha2⟩ := letter_some l[n - 1]
  rw [hs, hx, hd, ha]
  simp only [Option.bind_some]
  have last : l[n - 1] ≠ 34 ∧ l[n - 1] ≠ 39 → (r1 = true → noq l) := fun hb h => noq_snoc l (n - 1) c1 (by omega) (q1 h) hb
  cases s with
  | true =>
   rw [if_pos rfl]
   by_cases h3 : (n : Int) > 2
   ·rw [if_pos h3]
    cases x with
    | true =>
     rw [if_pos rfl, if_pos (by omega)]
     refine ⟨r2, rfl, fun h => noq_snoc l (n - 1) c1 (by omega) ?_ (hs2 rfl)⟩
     refine noq_snoc (l.take (n - 1)) (n - 2) (by simp; omega) (by simp; omega) ?_ ?_
     ·rw [List.take_take, Nat.min_eq_left (by omega)]; exact q2 h
     simpa using hx2 rfl
    | false => rw [if_neg (by simp)]; exact ⟨false, rfl, fun h => by cases h⟩
   rw [if_neg h3]; exact ⟨false, rfl, fun h => by cases h⟩
  | false =>
   rw [if_neg (by simp)]
   cases d with
   | true => rw [if_pos rfl, if_pos (by omega)]; exact ⟨r1, rfl, last (hd2 rfl)⟩
   | false =>
    rw [if_neg (by simp)]
    cases a with
    | true => rw [if_pos rfl, if_pos (by omega)]; exact ⟨r1, rfl, last (ha2 rfl)⟩
    | false =>
     rw [if_neg (by simp)]
     have e46 : ((l[n - 1].toNat : Int) = 46) ↔ l[n - 1] = 46 := u8i _ 46
     by_cases h46 : l[n - 1] = 46
     ·rw [if_pos (e46.2 h46), if_pos (by omega)]
      exact ⟨r1, rfl, last (by rw [h46]; decide)⟩
     rw [if_neg (fun h => h46 (e46.1 h))]; exact ⟨false, rfl, fun h => by cases h⟩
theorem num_some (n : Nat) : ∀ l : List UInt8, l.length = n → n ≤ 1000000000 → ∀ K, ∃ r, b_IsNumber.f (K + 2 * n + 2) (mk l) = some r ∧ (r = true → noq l) := by
 induction n using Nat.strongRecOn with
 | _ n ih =>
  intro l hn hl K
  have ih' : ∀ m, m < n → ∀ t : List UInt8, t.length = m → ∀ K, ∃ r, b_IsNumber.f (K + 2 * m + 2) (mk t) = some r ∧ (r = true → noq t) := fun m hm t ht K => ih m hm t ht (by omega) K
  rw [show K + 2 * n + 2 = (K + 2 * n + 1) + 1 by omega, b_IsNumber.f, mk_size, hn]
  by_cases h0 : n = 0
  ·rw [if_pos (by omega)]; exact ⟨false, rfl, fun h => by cases h⟩
  rw [if_neg (by omega)]
  have c0 : 0 < l.length := by omega
  have hb : bt (mk l) 0 = (l[0].toNat : Int) := bt_mk l 0 c0
  by_cases h1 : n = 1
  ·obtain ⟨d, hd, hd2⟩ := digit_some l[0]
   rw [if_pos (by omega), if_pos (by omega), hb, hd, Option.bind_some]
   refine ⟨d, rfl, fun h => noq_snoc l 0 c0 (by omega) (by simpa using noq_nil) (hd2 h)⟩
  rw [if_neg (by omega)]
  by_cases h2 : n = 2
  ·rw [if_pos (by omega), if_pos (by omega), hb, show ((l[0].toNat : Int) == 46) = (l[0] == 46) from u8ib _ 46]
   exact num_j0 l n hn (by omega) hl _ (fun h => ⟨h2, by rw [List.getElem?_eq_getElem c0]; simpa using h⟩) K ih'
  rw [if_neg (by omega)]
  exact num_j0 l n hn (by omega) hl false (fun h => by cases h) K ih'
theorem punct_l1 (W : List UInt8) (hW : W.length ≤ 1000000002) : ∀ (m i : Nat), i + m = 144 → ∀ K, ∃ r, b_IsPunct.l1 (K + m + 1) (mk W) (i : Int) = some r
 | 0, i, h, K => by
  rw [b_IsPunct.l1, mk_size]
  have e1 : wrap64 ((i : Int) + (W.length : Int)) = (i : Int) + (W.length : Int) := w64 (by omega) (by omega)
  simp only [e1]
  rw [if_neg (by omega)]
  exact ⟨_, rfl⟩
 | m + 1, i, h, K => by
  rw [show K + (m + 1) + 1 = (K + m + 1) + 1 by omega, b_IsPunct.l1, mk_size]
  have e1 : wrap64 ((i : Int) + (W.length : Int)) = (i : Int) + (W.length : Int) := w64 (by omega) (by omega)
  have e2 : wrap64 ((i : Int) + 1) = ((i + 1 : Nat) : Int) := by rw [w64 (by omega) (by omega)]; omega
  simp only [e1, e2]
  by_cases hle : (i : Int) + (W.length : Int) ≤ 143
  ·have a1 : (0 : Int) ≤ (i : Int) := by omega
   have a2 : (i : Int) ≤ (i : Int) + (W.length : Int) := by omega
   rw [if_pos hle, if_pos a1, if_pos a2]
   obtain ⟨r, hr⟩ := punct_l1 W hW m (i + 1) (by omega) K
   rw [hr]
   split
   ·exact ⟨_, rfl⟩
   exact ⟨_, rfl⟩
  rw [if_neg hle]; exact ⟨_, rfl⟩
theorem punct_l0 (l W : List UInt8) (hl : l.length ≤ 1000000000) (hW : W.length ≤ 1000000002) : ∀ (m i : Nat), i + m = l.length → ∀ K, ∃ r, b_IsPunct.l0 (K + 144 + m + 2) (mk l) (mk W) (i : Int) = some r
 | 0, i, h, K => by
  rw [show K + 144 + 0 + 2 = (K + 144 + 1) + 1 by omega, b_IsPunct.l0, mk_size, if_neg (by omega)]
  exact punct_l1 W hW 144 0 rfl K
 | m + 1, i, h, K => by
  have hi : i < l.length := by omega
  have e2 : wrap64 ((i : Int) + 1) = ((i + 1 : Nat) : Int) := by rw [w64 (by omega) (by omega)]; omega
  rw [show K + 144 + (m + 1) + 2 = (K + 144 + m + 2) + 1 by omega, b_IsPunct.l0, mk_size, if_pos (by omega), if_pos (by omega), e2]
  split
  ·exact ⟨_, rfl⟩
  exact punct_l0 l W hl hW m (i + 1) (by omega) K
theorem punct_some (l : List UInt8) (hl : l.length ≤ 1000000000) (K : Nat) : ∃ r, b_IsPunct.f (K + l.length + 147) (mk l) = some r := by
 unfold b_IsPunct.f
 have hz : ((⟨#[32]⟩ : ByteArray) ++ mk l).size = l.length + 1 := by
  show (mk [32] ++ mk l).size = _
  rw [mk_append, mk_size]
  simp
 have hp : ((⟨#[32]⟩ : ByteArray) ++ mk l) ++ (⟨#[32]⟩ : ByteArray) = mk (32 :: l ++ [32]) := by
  show (mk [32] ++ mk l) ++ mk [32] = _
  rw [mk_append, mk_append]
  rfl
 rw [mk_size, if_pos (by omega), hz, if_pos (by omega), hp]
 have j : ∀ b, ∃ r, b_IsPunct.j0 (K + l.length + 147) (mk l) (mk (32 :: l ++ [32])) b = some r := by
  intro b
  rw [show K + l.length + 147 = (K + 144 + l.length + 2) + 1 by omega, b_IsPunct.j0]
  cases b with
  | true => exact ⟨_, rfl⟩
  | false => rw [if_neg (by simp)]; exact punct_l0 l _ hl (by simp; omega) l.length 0 (by omega) K
 split
 ·exact j _
 exact j _
theorem isL_mem (q : UInt8) (hq : q = 39 ∨ q = 34) (l : List UInt8) (ps : List (List UInt8)) (hu : ∀ p ∈ ps, ∀ p' ∈ ps, ∀ r r', p ++ q :: r = p' ++ q :: r' → p = p') (h : isL q l ps = true) : q ∈ l ∧ l.getLast? = some q := by
 obtain ⟨p, _, r, rfl, t, rfl, _, _⟩ := (isL_iff q hq l ps hu).1 h
 refine ⟨by simp, ?_⟩
 rw [show p ++ q :: (t ++ [q]) = (p ++ q :: t) ++ [q] by simp, List.getLast?_append]
 rfl
theorem u39 : ∀ p ∈ pre39, ∀ p' ∈ pre39, ∀ r r', p ++ (39 : UInt8) :: r = p' ++ 39 :: r' → p = p' := fun p hp p' hp' r r' h => uniq p ((in39 p).1 hp).1 p' ((in39 p').1 hp').1 39 39 r r' (.inr rfl) (.inr rfl) h
theorem u34 : ∀ p ∈ pre34, ∀ p' ∈ pre34, ∀ r r', p ++ (34 : UInt8) :: r = p' ++ 34 :: r' → p = p' := fun p hp p' hp' r r' h => uniq p ((in34 p).1 hp) p' ((in34 p').1 hp') 34 34 r r' (.inl rfl) (.inl rfl) h
theorem lift_some {α : Type} {f : Nat → Option α} (h : ∀ k, LeO (f k) (f (k + 1))) {m k : Nat} {r : α} (hm : m ≤ k) (hr : f m = some r) : f k = some r := lift_mono h hm _ hr
theorem kind_some (l : List UInt8) (hl : l.length ≤ 1000000000) (k : Nat) (hk : 2 * l.length + 200 ≤ k) : ∃ r, b_Kind.f k (mk l) = some r ∧ 0 ≤ r ∧ (r = 3 ↔ isL 39 l pre39 = true) ∧ (r = 4 ↔ isL 34 l pre34 = true) := by
 obtain ⟨w, hw, hw2⟩ := word_some l hl 0
 have hw' := lift_some (k := k) (f := fun k => b_IsWord.f k (mk l)) (fun k => b_IsWord.mono _ k) (by omega) hw
 obtain ⟨n, hn, hn2⟩ := num_some l.length l rfl hl 0
 have hn' := lift_some (k := k) (f := fun k => b_IsNumber.f k (mk l)) (fun k => b_IsNumber.mono _ k) (by omega) hn
 have h39 := lift_some (k := k) (f := fun k => b_IsLiteral.f k (mk l) 39 (pre39.map mk)) (fun k => b_IsLiteral.mono _ _ _ k) (by omega) (isl_39 l hl 0)
 have h34 := lift_some (k := k) (f := fun k => b_IsLiteral.f k (mk l) 34 (pre34.map mk)) (fun k => b_IsLiteral.mono _ _ _ k) (by omega) (isl_34 l hl 0)
 obtain ⟨u, hu⟩ := punct_some l hl 0
 have hu' := lift_some (k := k) (f := fun k => b_IsPunct.f k (mk l)) (fun k => b_IsPunct.mono _ k) (by omega) hu
 have m39 : isL 39 l pre39 = true → (39 : UInt8) ∈ l ∧ l.getLast? = some 39 := isL_mem 39 (.inl rfl) l pre39 u39
 have m34 : isL 34 l pre34 = true → (34 : UInt8) ∈ l ∧ l.getLast? = some 34 := isL_mem 34 (.inr rfl) l pre34 u34
 unfold b_Kind.f
 rw [mk_toList]
 by_cases h0 : l = [10]
 ·rw [if_pos h0]
  refine ⟨9, rfl, by omega, ⟨fun h => by omega, fun h => ?_⟩, ⟨fun h => by omega, fun h => ?_⟩⟩
  ·have := (m39 h).1; rw [h0] at this; simp at this
  have := (m34 h).1; rw [h0] at this; simp at this
 rw [if_neg h0, hw', Option.bind_some]
 cases w with
 | true =>
  rw [if_pos rfl]
  refine ⟨1, rfl, by omega, ⟨fun h => by omega, fun h => ?_⟩, ⟨fun h => by omega, fun h => ?_⟩⟩
  ·exact absurd rfl (hw2 rfl 39 (m39 h).1).2
  exact absurd rfl (hw2 rfl 34 (m34 h).1).1
 | false =>
  rw [if_neg (by simp), hn', Option.bind_some]
  cases n with
  | true =>
   rw [if_pos rfl]
   refine ⟨2, rfl, by omega, ⟨fun h => by omega, fun h => ?_⟩, ⟨fun h => by omega, fun h => ?_⟩⟩
   ·exact absurd rfl (hn2 rfl 39 (m39 h).1).2
   exact absurd rfl (hn2 rfl 34 (m34 h).1).1
  | false =>
   rw [if_neg (by simp)]
   have e39 : b_IsLiteral.f k (mk l) 39 (([(⟨#[]⟩ : ByteArray), (⟨#[117]⟩ : ByteArray), (⟨#[85]⟩ : ByteArray), (⟨#[76]⟩ : ByteArray)] : List ByteArray)) = some (isL 39 l pre39) := h39
   have e34 : b_IsLiteral.f k (mk l) 34 (([(⟨#[]⟩ : ByteArray), (⟨#[117, 56]⟩ : ByteArray), (⟨#[117]⟩ : ByteArray), (⟨#[85]⟩ : ByteArray), (⟨#[76]⟩ : ByteArray)] : List ByteArray)) = some (isL 34 l pre34) := h34
   rw [e39, Option.bind_some, e34, Option.bind_some, hu', Option.bind_some]
   cases a39 : isL 39 l pre39 with
   | true =>
    rw [if_pos rfl]
    refine ⟨3, rfl, by omega, ⟨fun _ => rfl, fun _ => rfl⟩, ⟨fun h => by omega, fun h => ?_⟩⟩
    have x := (m39 a39).2
    have y := (m34 h).2
    rw [x] at y
    exact absurd (Option.some.inj y) (by decide)
   | false =>
    rw [if_neg (by simp)]
    cases a34 : isL 34 l pre34 with
    | true => rw [if_pos rfl]; exact ⟨4, rfl, by omega, ⟨fun h => by omega, fun h => by cases h⟩, ⟨fun _ => rfl, fun _ => rfl⟩⟩
    | false =>
     rw [if_neg (by simp)]
     cases u with
     | true => rw [if_pos rfl]; exact ⟨5, rfl, by omega, ⟨fun h => by omega, fun h => by cases h⟩, ⟨fun h => by omega, fun h => by cases h⟩⟩
     | false => rw [if_neg (by simp)]; exact ⟨0, rfl, by omega, ⟨fun h => by omega, fun h => by cases h⟩, ⟨fun h => by omega, fun h => by cases h⟩⟩
def TokLit (r : Int) (l : List UInt8) : Prop := (r = 3 → isL 39 l pre39 = true) ∧ (r = 4 → isL 34 l pre34 = true)
theorem TokLit.other {r : Int} (l : List UInt8) (h3 : r ≠ 3) (h4 : r ≠ 4) : TokLit r l := ⟨fun h => absurd h h3, fun h => absurd h h4⟩
theorem long_l1 (l : List UInt8) (hl : l.length ≤ 1000000000) (h0 : 0 < l.length) : ∀ (n : Nat), n ≤ l.length → ∀ k, 2 * l.length + 201 + n ≤ k → ∃ r s, b_longest.l1 k (mk l) (n : Int) = some (r, s) ∧ 0 ≤ s ∧ s ≤ l.length ∧ TokLit r (l.take s.toNat)
 | 0, h, k, hk => by
  obtain ⟨K, rfl⟩ : ∃ K, k = K + 1 := ⟨k - 1, by omega⟩
  rw [b_longest.l1, if_neg (by omega), mk_size, if_pos (by omega)]
  split
  ·exact ⟨0, 0, rfl, by omega, by omega, .other _ (by decide) (by decide)⟩
  split
  ·exact ⟨0, 0, rfl, by omega, by omega, .other _ (by decide) (by decide)⟩
  exact ⟨6, 1, rfl, by omega, by omega, .other _ (by decide) (by decide)⟩
 | n + 1, h, k, hk => by
  obtain ⟨K, rfl⟩ : ∃ K, k = K + 1 := ⟨k - 1, by omega⟩
  obtain ⟨r, hr, hr0, h3, h4⟩ := kind_some (l.take (n + 1)) (by simp; omega) K (by simp; omega)
  have w1 : wrap64 (((n + 1 : Nat) : Int) - 1) = (n : Int) := by rw [w64 (by omega) (by omega)]; omega
  rw [b_longest.l1, if_pos (by omega), if_pos (by omega), mk_size, if_pos (by omega), Int.toNat_natCast, mk_take, hr, Option.bind_some, w1]
  by_cases hp : r > 0
  ·rw [if_pos hp]; exact ⟨r, _, rfl, by omega, by omega, by rw [Int.toNat_natCast]; exact h3.1, by rw [Int.toNat_natCast]; exact h4.1⟩
  rw [if_neg hp]; exact long_l1 l hl h0 n (by omega) K (by omega)
theorem long_j1 (l : List UInt8) (hl : l.length ≤ 1000000000) (h0 : 0 < l.length) (n : Nat) (h : n ≤ l.length) (k : Nat) (hk : 2 * l.length + 202 + n ≤ k) : ∃ r s, b_longest.j1 k (mk l) (n : Int) = some (r, s) ∧ 0 ≤ s ∧ s ≤ l.length ∧ TokLit r (l.take s.toNat) := by
 obtain ⟨K, rfl⟩ : ∃ K, k = K + 1 := ⟨k - 1, by omega⟩
 rw [b_longest.j1]
 by_cases hn : (n : Int) = 0
 ·rw [if_pos hn]; exact ⟨9, 1, rfl, by omega, by omega, .other _ (by decide) (by decide)⟩
 rw [if_neg hn]; exact long_l1 l hl h0 n h K (by omega)
theorem long_l0 (l : List UInt8) (hl : l.length ≤ 1000000000) (h0 : 0 < l.length) : ∀ (m i : Nat), i + m = l.length → ∀ k, 3 * l.length + 203 + m ≤ k → ∃ r s, b_longest.l0 k (mk l) (i : Int) = some (r, s) ∧ 0 ≤ s ∧ s ≤ l.length ∧ TokLit r (l.take s.toNat)
 | 0, i, h, k, hk => by
  obtain ⟨K, rfl⟩ : ∃ K, k = K + 1 := ⟨k - 1, by omega⟩
  rw [b_longest.l0, mk_size, if_neg (by omega)]
  exact long_j1 l hl h0 i (by omega) K (by omega)
 | m + 1, i, h, k, hk => by
  obtain ⟨K, rfl⟩ : ∃ K, k = K + 1 := ⟨k - 1, by omega⟩
  have w1 : wrap64 ((i : Int) + 1) = ((i + 1 : Nat) : Int) := by rw [w64 (by omega) (by omega)]; omega
  rw [b_longest.l0, mk_size, if_pos (by omega), if_pos (by omega), w1]
  split
  ·exact long_j1 l hl h0 i (by omega) K (by omega)
  exact long_l0 l hl h0 m (i + 1) (by omega) K (by omega)
theorem long_whole (l : List UInt8) (hl : l.length ≤ 1000000000) (h0 : 0 < l.length) (hn : (10 : UInt8) ∉ l) (c : Int) (hc : c > 0) (hk : ∀ k, 2 * l.length + 200 ≤ k → b_Kind.f k (mk l) = some c) : ∀ (m i : Nat), i + m = l.length → ∀ k, 3 * l.length + 203 + m ≤ k → b_longest.l0 k (mk l) (i : Int) = some (c, (l.length : Int))
 | 0, i, h, k, hk2 => by
  obtain ⟨K, rfl⟩ : ∃ K, k = K + 1 + 1 + 1 := ⟨k - 3, by omega⟩
  obtain rfl : i = l.length := by omega
  rw [b_longest.l0, mk_size, if_neg (by omega), b_longest.j1, if_neg (by omega), b_longest.l1, if_pos (by omega), if_pos (by omega), mk_size, if_pos (by omega), Int.toNat_natCast, mk_take, List.take_length, hk K (by omega), Option.bind_some, if_pos hc]
 | m + 1, i, h, k, hk2 => by
  obtain ⟨K, rfl⟩ : ∃ K, k = K + 1 := ⟨k - 1, by omega⟩
  have hi : i < l.length := by omega
  have w1 : wrap64 ((i : Int) + 1) = ((i + 1 : Nat) : Int) := by rw [w64 (by omega) (by omega)]; omega
  have e10 : ((l[i].toNat : Int) = 10) ↔ l[i] = 10 := u8i _ 10
  rw [b_longest.l0, mk_size, if_pos (by omega), if_pos (by omega), w1, bt_mk l i hi, if_neg (fun q => hn (by rw [← e10.1 q]; exact List.getElem_mem hi))]
  exact long_whole l hl h0 hn c hc hk m (i + 1) (by omega) K (by omega)
end Go.Proofs.YtcdleippdegibaaDoor.Ctk
namespace Go.Proofs.YtcdleippdegibaaDoor.Ctk
open Go Go.RowKit Go.Proofs Go.Proofs.YtcdleippdegibaaDoorW.PrintWords Go.Proofs.YtcdleippdegibaaDoor Go.Proofs.YtcdleippdegibaaDoor.PB Go.Proofs.YtcdleippdegibaaDoor.PR Go.Proofs.YtcdleippdegibaaDoor.PK
theorem mk_sub (l : List UInt8) (a b : Nat) : (mk l).extract a b = mk ((l.drop a).take (b - a)) := by
 apply ByteArray.ext
 apply Array.ext'
 simp [ByteArray.data_extract, List.extract_eq_take_drop]
theorem white2_some (b : UInt8) : ∃ r, b_White.f (b.toNat : Int) = some r ∧ (r = true ↔ (b = 32 ∨ b = 9 ∨ b = 11 ∨ b = 12)) := by
 have := all8 (p := fun b => decide (b_White.f (b.toNat : Int) = some (b == 32 || b == 9 || b == 11 || b == 12))) (by kernel_rfl) b
 exact ⟨_, of_decide_eq_true this, by simp [or_assoc]⟩
theorem named_l0 (x : ByteArray) (q : Int) (hx : x.size ≤ 1000000000) : ∀ (m i : Nat), i + m = x.size + 1 → 1 ≤ i → ∀ k, 2 * m + 2 ≤ k → ∃ r, b_named.l0 k x q (i : Int) = some r ∧ 0 ≤ r ∧ r ≤ x.size
 | 0, i, hi, h1, k, hk => by
  obtain ⟨K, rfl⟩ : ∃ K, k = K + 1 + 1 := ⟨k - 2, by omega⟩
  exact ⟨0, by rw [b_named.l0, if_neg (by omega), b_named.j3, if_neg (by simp)], by omega, by omega⟩
 | m + 1, i, hi, h1, k, hk => by
  obtain ⟨K, rfl⟩ : ∃ K, k = K + 1 + 1 := ⟨k - 2, by omega⟩
  by_cases hlt : i < x.size
  ·rw [b_named.l0, if_pos (by omega), if_pos (by omega), b_named.j3]
   by_cases hb : (bt x (i : Int) != 10) = true
   ·rw [if_pos hb, if_pos (by omega), if_pos (by omega), w64' (by omega) (by omega)]
    by_cases hq : bt x (i : Int) = q
    ·rw [if_pos hq]; exact ⟨_, rfl, by omega, by omega⟩
    rw [if_neg hq]
    exact named_l0 x q hx m (i + 1) (by omega) (by omega) K (by omega)
   rw [if_neg hb]; exact ⟨_, rfl, by omega, by omega⟩
  exact ⟨0, by rw [b_named.l0, if_neg (by omega), b_named.j3, if_neg (by simp)], by omega, by omega⟩
theorem named_some (x : ByteArray) (hx : x.size ≤ 1000000000) (h0 : 0 < x.size) (k : Nat) (hk : 2 * x.size + 4 ≤ k) : ∃ r, b_named.f k x = some r ∧ 0 ≤ r ∧ r ≤ x.size := by
 obtain ⟨K, rfl⟩ : ∃ K, k = K + 1 + 1 := ⟨k - 2, by omega⟩
 have j : ∀ b, ∃ r, b_named.j0 (K + 1 + 1) x b = some r ∧ 0 ≤ r ∧ r ≤ x.size := by
  intro b
  rw [b_named.j0]
  cases b with
  | true => exact ⟨0, rfl, by omega, by omega⟩
  | false =>
   rw [if_neg (by simp), if_pos (by omega)]
   split
   ·rw [b_named.j1]; exact named_l0 x _ hx x.size 1 (by omega) (by omega) K (by omega)
   rw [b_named.j1]; exact named_l0 x _ hx x.size 1 (by omega) (by omega) K (by omega)
 unfold b_named.f
 rw [if_pos (by omega)]
 split
 ·exact j _
 exact j _
theorem remark_l0 (x : ByteArray) (hx : x.size ≤ 1000000000) (h2 : 2 ≤ x.size) : ∀ (m i : Nat), i + m = x.size → 2 ≤ i → ∀ k, 2 * m + 2 ≤ k → ∃ r, b_remark.l0 k x (i : Int) = some r ∧ r ≤ x.size
 | 0, i, hi, h1, k, hk => by
  obtain ⟨K, rfl⟩ : ∃ K, k = K + 1 := ⟨k - 1, by omega⟩
  rw [b_remark.l0, if_neg (by omega), if_pos (by omega)]
  split
  ·exact ⟨_, rfl, by omega⟩
  exact ⟨_, rfl, by omega⟩
 | m + 1, i, hi, h1, k, hk => by
  obtain ⟨K, rfl⟩ : ∃ K, k = K + 1 + 1 := ⟨k - 2, by omega⟩
  have w1 : wrap64 ((i : Int) + 1) = ((i + 1 : Nat) : Int) := by rw [w64' (by omega) (by omega)]; omega
  have w2 : wrap64 ((i : Int) - 1) = ((i - 1 : Nat) : Int) := by rw [w64' (by omega) (by omega)]; omega
  obtain ⟨r, hr, hr2⟩ := remark_l0 x hx h2 m (i + 1) (by omega) (by omega) K (by omega)
  have j : ∀ b, ∃ r, b_remark.j2 (K + 1) x (i : Int) b = some r ∧ r ≤ x.size := by
   intro b
   rw [b_remark.j2, w1, w2, hr]
   cases b with
   | true => rw [if_pos rfl]; exact ⟨_, rfl, by omega⟩
   | false =>
    rw [if_neg (by simp), if_pos (by omega)]
    split
    ·split
     ·rw [if_pos (by omega), if_pos (by omega)]
      split
      ·rw [if_pos (by omega), if_pos (by omega)]
       split
       ·exact ⟨_, rfl, by omega⟩
       exact ⟨_, rfl, hr2⟩
      exact ⟨_, rfl, hr2⟩
     exact ⟨_, rfl, hr2⟩
    exact ⟨_, rfl, hr2⟩
  rw [b_remark.l0, if_pos (by omega), if_pos (by omega)]
  split
  ·rw [if_pos (by omega)]; exact j _
  exact j _
theorem remark_some (x : ByteArray) (hx : x.size ≤ 1000000000) (h0 : 0 < x.size) (k : Nat) (hk : 2 * x.size + 4 ≤ k) : ∃ r, b_remark.f k x = some r ∧ r ≤ x.size ∧ (bt x 0 ≠ 47 → r = 0) := by
 obtain ⟨K, rfl⟩ : ∃ K, k = K + 1 := ⟨k - 1, by omega⟩
 have j : ∀ b, (b = false → 2 ≤ x.size) → ∃ r, b_remark.j0 (K + 1) x b = some r ∧ r ≤ x.size ∧ (b = true → r = 0) := by
  intro b hb
  rw [b_remark.j0]
  cases b with
  | true => exact ⟨0, rfl, by omega, fun _ => rfl⟩
  | false =>
   rw [if_neg (by simp)]
   have h2 := hb rfl
   obtain ⟨r, hr, hr2⟩ := remark_l0 x hx h2 (x.size - 2) 2 (by omega) (by omega) K (by omega)
   exact ⟨r, hr, hr2, fun h => by cases h⟩
 unfold b_remark.f
 by_cases h2 : (x.size : Int) < 2
 ·rw [if_pos h2]
  obtain ⟨r, hr, hr2, hr3⟩ := j true (by simp)
  exact ⟨r, hr, hr2, fun _ => hr3 rfl⟩
 rw [if_neg h2, if_pos (by omega)]
 by_cases h47 : bt x 0 = 47
 ·rw [if_pos h47, if_pos (by omega)]
  split
  ·obtain ⟨r, hr, hr2, hr3⟩ := j false (fun _ => by omega)
   exact ⟨r, hr, hr2, fun h => absurd h47 h⟩
  obtain ⟨r, hr, hr2, hr3⟩ := j (bt x 1 != 42) (fun _ => by omega)
  exact ⟨r, hr, hr2, fun h => absurd h47 h⟩
 rw [if_neg h47]
 obtain ⟨r, hr, hr2, hr3⟩ := j true (by simp)
 exact ⟨r, hr, hr2, fun _ => hr3 rfl⟩
def AllLit (ts : List S44) : Prop := ∀ t ∈ ts, TokLit t.f0 t.f1.toList
def Ends (o : Option (List S44 × Int)) : Prop := ∃ out e, o = some (out, e) ∧ AllLit out
theorem Ends.of (out : List S44) (e : Int) (h : AllLit out) : Ends (some (out, e)) := ⟨out, e, rfl, h⟩
theorem AllLit.nil : AllLit [] := fun t h => by cases h
theorem Ends.ite {c : Prop} [Decidable c] {a b : Option (List S44 × Int)} (ha : Ends a) (hb : Ends b) : Ends (if c then a else b) := by split <;> assumption
section
variable (l : List UInt8) (hl : l.length ≤ 1000000000) (i : Nat) (hlt : i < l.length) (x4 : List S44) (x5 : List ByteArray) (sp : Bool) (K : Nat) (hk : 4 * l.length + 300 ≤ K) (h4 : x4.length ≤ i) (h5 : x5.length ≤ i) (ha : AllLit x4)
 (go : ∀ (n : Nat) (y4 : List S44) (y5 : List ByteArray), 1 ≤ n → i + n ≤ l.length → y4.length ≤ i + n → y5.length ≤ i + n → AllLit y4 → Ends (b_Tokens.l0 K (mk l) y4 y5 ((i + n : Nat) : Int) false))
include hl hlt hk h4 h5 ha go
theorem tok_j4 (c : Int) (n : Nat) (hn : n ≤ l.length - i) (ht : TokLit c ((l.drop i).take n)) : Ends (b_Tokens.j4 (K + 1) (mk l) x4 x5 (i : Int) sp c (n : Int)) := by
 rw [b_Tokens.j4, mk_size]
 by_cases hz : (n : Int) = 0
 ·rw [if_pos hz]; exact .of _ _ .nil
 have w3 : wrap64 ((i : Int) + (n : Int)) = ((i + n : Nat) : Int) := by rw [w64' (by omega) (by omega)]; omega
 rw [if_neg hz, w3, if_pos (by omega), if_pos (by omega), if_pos (by omega), if_pos (by omega), Option.bind_some]
 obtain ⟨tk, htk⟩ : ∃ tk, (⟨c, (mk l).extract (i : Int).toNat (((i + n : Nat) : Int)).toNat, (i : Int), ((i + n : Nat) : Int), sp⟩ : S44) = tk := ⟨_, rfl⟩
 have ha' : AllLit (x4 ++ [tk]) := by
  intro t h
  rcases List.mem_append.1 h with h | h
  ·exact ha t h
  obtain rfl := List.mem_singleton.1 h
  rw [← htk]
  show TokLit c _
  rw [Int.toNat_natCast, Int.toNat_natCast, mk_sub, mk_toList]
  rwa [show i + n - i = n by omega]
 rw [htk]
 have hx : (x4 ++ [tk]).length ≤ i + n := by simp; omega
 refine .ite ?_ (.ite ?_ ?_)
 ·exact go n _ [] (by omega) (by omega) hx (by simp) ha'
 ·exact go n _ x5 (by omega) (by omega) hx (by omega) ha'
 rw [if_pos (by omega)]
 exact go n _ _ (by omega) (by omega) hx (by simp; omega) ha'
theorem tok_ex : (mk l).extract (i : Int).toNat l.length = mk (l.drop i) := by
 rw [Int.toNat_natCast]; exact mk_extract l i
theorem tok_j3 (c n : Int) (hn : n ≤ l.length - i) (hc : c ≠ 3 ∧ c ≠ 4) : Ends (b_Tokens.j3 (K + 1 + 1) (mk l) x4 x5 (i : Int) sp c n) := by
 have hex := tok_ex l hl i hlt x4 x5 K hk h4 h5 ha go
 rw [b_Tokens.j3, mk_size]
 by_cases hneg : n < 0
 ·rw [if_pos hneg]; exact .of _ _ .nil
 rw [if_neg hneg]
 by_cases hz : n = 0
 ·rw [if_pos hz, if_pos (by omega), if_pos (by omega), hex]
  obtain ⟨r, s, hrs, h0, h1, h2⟩ := long_l0 (l.drop i) (by simp; omega) (by simp; omega) (l.drop i).length 0 (by omega) (K + 1) (by simp; omega)
  rw [show b_longest.f (K + 1) (mk (l.drop i)) = some (r, s) from hrs, Option.bind_some]
  obtain ⟨s, rfl⟩ : ∃ s' : Nat, s = s' := ⟨s.toNat, by omega⟩
  simp only [List.length_drop] at h1
  rw [Int.toNat_natCast] at h2
  exact tok_j4 l hl i hlt x4 x5 sp K hk h4 h5 ha go r s (by omega) h2
 rw [if_neg hz]
 obtain ⟨n, rfl⟩ : ∃ n' : Nat, n = n' := ⟨n.toNat, by omega⟩
 exact tok_j4 l hl i hlt x4 x5 sp K hk h4 h5 ha go c n (by omega) (.other _ hc.1 hc.2)
theorem tok_j2 (c n : Int) (hn0 : 0 ≤ n) (hn : n ≤ l.length - i) (hc : c ≠ 3 ∧ c ≠ 4) : Ends (b_Tokens.j2 (K + 1 + 1 + 1) (mk l) x4 x5 (i : Int) sp c n) := by
 have hex := tok_ex l hl i hlt x4 x5 K hk h4 h5 ha go
 rw [b_Tokens.j2, mk_size]
 by_cases hz : n = 0
 ·rw [if_pos hz, if_pos (by omega), if_pos (by omega), hex]
  obtain ⟨r, hr, h1, _⟩ := remark_some (mk (l.drop i)) (by rw [mk_size]; simp; omega) (by rw [mk_size]; simp; omega) (K + 1 + 1) (by rw [mk_size]; simp; omega)
  rw [hr, Option.bind_some]
  rw [mk_size, List.length_drop] at h1
  exact tok_j3 l hl i hlt x4 x5 sp K hk h4 h5 ha go 8 r (by omega) (by decide)
 rw [if_neg hz]; exact tok_j3 l hl i hlt x4 x5 sp K hk h4 h5 ha go c n hn hc
theorem tok_j1 (b : Bool) : Ends (b_Tokens.j1 (K + 1 + 1 + 1 + 1) (mk l) x4 x5 (i : Int) sp 0 0 b) := by
 have hex := tok_ex l hl i hlt x4 x5 K hk h4 h5 ha go
 rw [b_Tokens.j1, mk_size]
 cases b with
 | true =>
  rw [if_pos rfl, if_pos (by omega), if_pos (by omega), hex]
  obtain ⟨r, hr, h0, h1⟩ := named_some (mk (l.drop i)) (by rw [mk_size]; simp; omega) (by rw [mk_size]; simp; omega) (K + 1 + 1 + 1) (by rw [mk_size]; simp; omega)
  rw [hr, Option.bind_some]
  rw [mk_size, List.length_drop] at h1
  exact tok_j2 l hl i hlt x4 x5 sp K hk h4 h5 ha go 7 r h0 (by omega) (by decide)
 | false => rw [if_neg (by simp)]; exact tok_j2 l hl i hlt x4 x5 sp K hk h4 h5 ha go 0 0 (by omega) (by omega) (by decide)
theorem tok_in : Ends (if (x5.length : Int) = 2 then (if 0 < (x5.length : Int) then (if (rdOf ByteArray.empty x5 0).toList = ([35] : List UInt8) then (if 1 < (x5.length : Int) then (b_Tokens.j1 (K + 1 + 1 + 1 + 1) (mk l) x4 x5 (i : Int) sp 0 0 ((rdOf ByteArray.empty x5 1).toList == ([105, 110, 99, 108, 117, 100, 101] : List UInt8))) else (none)) else (if (rdOf ByteArray.empty x5 0).toList = ([37, 58] : List UInt8) then (if 1 < (x5.length : Int) then (b_Tokens.j1 (K + 1 + 1 + 1 + 1) (mk l) x4 x5 (i : Int) sp 0 0 ((rdOf ByteArray.empty x5 1).toList == ([105, 110, 99, 108, 117, 100, 101] : List UInt8))) else (none)) else (b_Tokens.j1 (K + 1 + 1 + 1 + 1) (mk l) x4 x5 (i : Int) sp 0 0 false))) else (none)) else (b_Tokens.j1 (K + 1 + 1 + 1 + 1) (mk l) x4 x5 (i : Int) sp 0 0 false)) := by
 have j := fun b => tok_j1 l hl i hlt x4 x5 sp K hk h4 h5 ha go b
 by_cases h2 : (x5.length : Int) = 2
 ·have h1 : (1 : Int) < (x5.length : Int) := by omega
  rw [if_pos h2, if_pos (show (0 : Int) < (x5.length : Int) by omega)]
  simp only [if_pos h1]
  exact .ite (j _) (.ite (j _) (j _))
 rw [if_neg h2]; exact j _
end
theorem tok_l0 (l : List UInt8) (hl : l.length ≤ 1000000000) (m : Nat) : ∀ (i : Nat), i + m = l.length → ∀ (x4 : List S44) (x5 : List ByteArray) (sp : Bool) (k : Nat), 5 * m + 5 * l.length + 400 ≤ k → x4.length ≤ i → x5.length ≤ i → AllLit x4 →
  Ends (b_Tokens.l0 k (mk l) x4 x5 (i : Int) sp) := by
 induction m using Nat.strongRecOn with
 | _ m ih =>
  intro i hi x4 x5 sp k hk h4 h5 ha
  obtain ⟨K, rfl⟩ : ∃ K, k = K + 1 + 1 + 1 + 1 + 1 := ⟨k - 5, by omega⟩
  rw [b_Tokens.l0, mk_size]
  by_cases hlt : i < l.length
  ·rw [if_pos (by omega), if_pos (by omega), bt_mk l i hlt]
   obtain ⟨w, hw, hw2⟩ := white2_some l[i]
   rw [hw, Option.bind_some]
   have w1 : wrap64 ((i : Int) + 1) = ((i + 1 : Nat) : Int) := by rw [w64' (by omega) (by omega)]; omega
   cases w with
   | true =>
    rw [if_pos rfl, w1]
    exact ih (m - 1) (by omega) (i + 1) (by omega) x4 x5 true _ (by omega) (by omega) (by omega) ha
   | false =>
    rw [if_neg (by simp)]
    exact tok_in l hl i hlt x4 x5 sp K (by omega) h4 h5 ha (fun n y4 y5 hn hin hy4 hy5 hya => ih (m - n) (by omega) (i + n) (by omega) y4 y5 false K (by omega) hy4 hy5 hya)
  rw [if_neg (by omega)]; exact .of _ _ ha
theorem lit_head (q : UInt8) (hq : q = 39 ∨ q = 34) (ps : List (List UInt8)) (hps : ∀ p ∈ ps, p ∈ pres) (hu : ∀ p ∈ ps, ∀ p' ∈ ps, ∀ r r', p ++ q :: r = p' ++ q :: r' → p = p') (l : List UInt8) (h : isL q l ps = true) :
  ∃ b r, l = b :: r ∧ (b = 39 ∨ b = 34 ∨ b = 117 ∨ b = 85 ∨ b = 76) := by
 obtain ⟨p, hp, r, rfl, t, rfl, _, _⟩ := (isL_iff q hq l ps hu).1 h
 have := hps p hp
 simp only [pres, List.mem_cons, List.not_mem_nil, or_false] at this
 rcases this with rfl | rfl | rfl | rfl | rfl
 ·exact ⟨_, _, rfl, by simp⟩
 ·exact ⟨_, _, rfl, by simp⟩
 ·exact ⟨_, _, rfl, by simp⟩
 ·exact ⟨_, _, rfl, by simp⟩
 exact ⟨_, _, rfl, by rcases hq with rfl | rfl <;> simp⟩
theorem pie_no10 (q : UInt8) : ∀ (n : Nat) (t : List UInt8), t.length ≤ n → pieL q t = true → (10 : UInt8) ∉ t
 | _, [], _, _ => by simp
 | _, [b], _, h => by
  simp only [pieL, Bool.not_eq_true', Bool.or_eq_false_iff, beq_eq_false_iff_ne] at h
  simp
  exact fun e => h.1.2 e.symm
 | n + 1, b :: c :: r, hn, h => by
  rw [pieL] at h
  by_cases h1 : b = q ∨ b = 10
  ·rw [if_pos h1] at h; cases h
  rw [if_neg h1] at h
  by_cases h2 : b = 92
  ·rw [if_pos h2] at h
   by_cases h3 : c = 10
   ·rw [if_pos h3] at h; cases h
   rw [if_neg h3] at h
   have := pie_no10 q n r (by simp at hn; omega) h
   simp only [List.mem_cons, not_or]
   exact ⟨fun e => h1 (.inr e.symm), fun e => h3 e.symm, this⟩
  rw [if_neg h2] at h
  have := pie_no10 q n (c :: r) (by simp at hn ⊢; omega) h
  rw [List.mem_cons, not_or]
  exact ⟨fun e => h1 (.inr e.symm), this⟩
theorem lit_no10 (q : UInt8) (hq : q = 39 ∨ q = 34) (ps : List (List UInt8)) (hps : ∀ p ∈ ps, p ∈ pres) (hu : ∀ p ∈ ps, ∀ p' ∈ ps, ∀ r r', p ++ q :: r = p' ++ q :: r' → p = p') (l : List UInt8) (h : isL q l ps = true) : (10 : UInt8) ∉ l := by
 obtain ⟨p, hp, r, rfl, t, rfl, ht, _⟩ := (isL_iff q hq l ps hu).1 h
 have := hps p hp
 have h10 := pie_no10 q _ t (Nat.le_refl _) ht
 have hp10 : (10 : UInt8) ∉ p := by
  simp only [pres, List.mem_cons, List.not_mem_nil, or_false] at this
  rcases this with rfl | rfl | rfl | rfl | rfl <;> decide
 have hq10 : (10 : UInt8) ≠ q := by rcases hq with rfl | rfl <;> decide
 simp only [List.mem_append, List.mem_cons, List.not_mem_nil, or_false, not_or]
 exact ⟨hp10, hq10, h10, hq10⟩
theorem one_of_tok (k : Nat) (x : ByteArray) (t : S44) (h : b_Tokens.f k x = some ([t], 0)) (h2 : t.f1.toList = x.toList) : b_One.f k x = some (t.f0, true) := by
 unfold b_One.f
 rw [h, Option.bind_some]
 simp [rd_T44, h2]
theorem one_of_tok' (k : Nat) (x : ByteArray) (out : List S44) (e : Int) (h : b_Tokens.f k x = some (out, e)) : ∃ r b, b_One.f k x = some (r, b) ∧ (b = true → ∃ t, out = [t] ∧ t.f1.toList = x.toList ∧ t.f0 = r) := by
 unfold b_One.f
 rw [h, Option.bind_some]
 show ∃ r b, (if e = 0 then (if ((out.length : Nat) : Int) = 1 then (if 0 < ((out.length : Nat) : Int) then (if (rd_T44 out 0).f1.toList = x.toList then some ((rd_T44 out 0).f0, true) else some (0, false)) else none) else some (0, false)) else some (0, false)) = some (r, b) ∧ _
 by_cases he : e = 0
 ·rw [if_pos he]
  by_cases h1 : ((out.length : Nat) : Int) = 1
  ·obtain ⟨t, rfl⟩ : ∃ t, out = [t] := List.length_eq_one_iff.1 (by omega)
   rw [if_pos h1, if_pos (by omega)]
   by_cases h2 : (rd_T44 [t] 0).f1.toList = x.toList
   ·rw [if_pos h2]; exact ⟨_, _, rfl, fun _ => ⟨t, rfl, h2, rfl⟩⟩
   rw [if_neg h2]; exact ⟨_, _, rfl, fun h => by cases h⟩
  rw [if_neg h1]; exact ⟨_, _, rfl, fun h => by cases h⟩
 rw [if_neg he]; exact ⟨_, _, rfl, fun h => by cases h⟩
theorem one_lit (l : List UInt8) (hl : l.length ≤ 1000000000) (c : Int) (hc : c = 3 ∨ c = 4) (h3 : c = 3 → isL 39 l pre39 = true) (h4 : c = 4 → isL 34 l pre34 = true) (k : Nat) (hk : 10 * l.length + 400 ≤ k) : b_One.f k (mk l) = some (c, true) := by
 obtain ⟨b, r, hbr, hb⟩ : ∃ b r, l = b :: r ∧ (b = 39 ∨ b = 34 ∨ b = 117 ∨ b = 85 ∨ b = 76) := by
  rcases hc with h | h
  ·exact lit_head 39 (.inl rfl) pre39 (fun p hp => ((in39 p).1 hp).1) u39 l (h3 h)
  exact lit_head 34 (.inr rfl) pre34 (fun p hp => (in34 p).1 hp) u34 l (h4 h)
 have h10 : (10 : UInt8) ∉ l := by
  rcases hc with h | h
  ·exact lit_no10 39 (.inl rfl) pre39 (fun p hp => ((in39 p).1 hp).1) u39 l (h3 h)
  exact lit_no10 34 (.inr rfl) pre34 (fun p hp => (in34 p).1 hp) u34 l (h4 h)
 have hlen : 0 < l.length := by rw [hbr]; simp
 have hkind : ∀ k, 2 * l.length + 200 ≤ k → b_Kind.f k (mk l) = some c := by
  intro k hk
  obtain ⟨r, hr, _, k3, k4⟩ := kind_some l hl k hk
  rcases hc with h | h
  ·rw [hr, k3.2 (h3 h), h]
  rw [hr, k4.2 (h4 h), h]
 obtain ⟨K, rfl⟩ : ∃ K, k = K + 1 + 1 + 1 + 1 + 1 + 1 := ⟨k - 6, by omega⟩
 have hb0 : bt (mk l) 0 = (b.toNat : Int) := by
  refine (bt_mk l 0 hlen).trans ?_
  congr 2
  simp [hbr]
 have htok : b_Tokens.f (K + 1 + 1 + 1 + 1 + 1 + 1) (mk l) = some ([(⟨c, mk l, 0, (l.length : Int), false⟩ : S44)], 0) := by
  unfold b_Tokens.f
  rw [b_Tokens.l0, mk_size, if_pos (by omega), if_pos (by omega), hb0]
  obtain ⟨w, hw, hw2⟩ := white2_some b
  have hwf : w = false := by
   cases w with
   | false => rfl
   | true =>
    have := hw2.1 rfl
    rcases hb with rfl | rfl | rfl | rfl | rfl <;> exact absurd this (by decide)
  subst hwf
  have hex : (mk l).extract (0 : Int).toNat l.length = mk l := by
   have := mk_extract l 0
   rw [mk_size, List.drop_zero] at this
   exact this
  rw [hw, Option.bind_some, if_neg (by simp), if_neg (by simp), b_Tokens.j1, if_neg (by simp), b_Tokens.j2, if_pos rfl, mk_size, if_pos (by omega), if_pos (by omega), hex]
  obtain ⟨r2, hr2, _, hz⟩ := remark_some (mk l) (by rw [mk_size]; omega) (by rw [mk_size]; omega) (K + 1 + 1 + 1) (by rw [mk_size]; omega)
  have hz0 : r2 = 0 := hz (by rw [hb0]; rcases hb with rfl | rfl | rfl | rfl | rfl <;> decide)
  subst hz0
  rw [hr2, Option.bind_some, b_Tokens.j3, if_neg (by omega), if_pos rfl, mk_size, if_pos (by omega), if_pos (by omega), hex]
  rw [show b_longest.f (K + 1 + 1) (mk l) = some (c, (l.length : Int)) from long_whole l hl hlen h10 c (by omega) hkind l.length 0 (by omega) _ (by omega), Option.bind_some]
  have w3 : wrap64 ((0 : Int) + (l.length : Int)) = (l.length : Int) := by rw [w64' (by omega) (by omega)]; omega
  rw [b_Tokens.j4, mk_size]
  show (if (l.length : Int) = 0 then _ else _) = _
  rw [if_neg (by omega), w3, if_pos (by omega), if_pos (by omega), if_pos (by omega), if_pos (by simp), Option.bind_some]
  show (if c = 9 then _ else _) = _
  rw [if_neg (by omega)]
  show (if c = 8 then _ else _) = _
  rw [if_neg (by omega), if_pos (by simp), b_Tokens.l0, mk_size, if_neg (by omega)]
  rw [Int.toNat_natCast, hex]
  rfl
 exact one_of_tok _ (mk l) _ htok (by rfl)
theorem one_ref (l : List UInt8) (hl : l.length ≤ 1000000000) (k : Nat) (hk : 10 * l.length + 400 ≤ k) : ∃ r b, b_One.f k (mk l) = some (r, b) ∧ ((b = true ∧ r = 3) ↔ isL 39 l pre39 = true) ∧ ((b = true ∧ r = 4) ↔ isL 34 l pre34 = true) := by
 obtain ⟨out, e, ho, ha⟩ := tok_l0 l hl l.length 0 (by omega) [] [] false k (by omega) (by simp) (by simp) (fun t h => by cases h)
 have key : ∃ r b, b_One.f k (mk l) = some (r, b) ∧ (b = true → TokLit r l) := by
  obtain ⟨r, b, h1, h2⟩ := one_of_tok' k (mk l) out e ho
  refine ⟨r, b, h1, fun hb => ?_⟩
  obtain ⟨t, rfl, ht, hr⟩ := h2 hb
  have := ha t (by simp)
  rwa [ht, mk_toList, hr] at this
 obtain ⟨r, b, h1, h2⟩ := key
 refine ⟨r, b, h1, ⟨fun ⟨hb, hr⟩ => (h2 hb).1 hr, fun h => ?_⟩, ⟨fun ⟨hb, hr⟩ => (h2 hb).2 hr, fun h => ?_⟩⟩
 ·have := one_lit l hl 3 (.inl rfl) (fun _ => h) (fun h => by omega) k hk
  rw [h1] at this
  injection this with this
  injection this with x y
  exact ⟨y, x⟩
 have := one_lit l hl 4 (.inr rfl) (fun h => by omega) (fun _ => h) k hk
 rw [h1] at this
 injection this with this
 injection this with x y
 exact ⟨y, x⟩
end Go.Proofs.YtcdleippdegibaaDoor.Ctk
namespace Go.Proofs.YtcdleippdegibaaDoor.Ctk
open Go Go.RowKit Go.Proofs Go.Lib Go.Proofs.YtcdleippdegibaaDoorW.PrintWords Go.Proofs.YtcdleippdegibaaDoor Go.Proofs.YtcdleippdegibaaDoor.PB Go.Proofs.YtcdleippdegibaaDoor.PS Go.Proofs.YtcdleippdegibaaDoor.LibG Go.Proofs.YtcdleippdegibaaDoor.One
theorem header_some (x : ByteArray) (hx : x.size ≤ 1000000000) (k : Nat) (hk : 2 * x.size + 4 ≤ k) : ∃ r, scan_header.f k x = some r := by
 have j : ∀ q, ∃ r, scan_header.j0 k x q = some r := by
  intro q
  obtain ⟨K, rfl⟩ : ∃ K, k = K + 2 * x.size + 2 + 1 := ⟨k - (2 * x.size + 3), by omega⟩
  rw [scan_header.j0]
  exact head_ends x q hx x.size 1 (by omega) (by omega) K
 have hp : ∀ p, ∃ b, strings_HasPrefix.f x p = some b := fun p => ⟨_, pre_mk x.data.toList p.data.toList⟩
 unfold scan_header.f
 obtain ⟨b, hb⟩ := hp ⟨#[60]⟩
 rw [hb, Option.bind_some]
 split
 ·exact j _
 obtain ⟨c, hc⟩ := hp ⟨#[34]⟩
 rw [hc, Option.bind_some]
 split
 ·exact j _
 exact ⟨_, rfl⟩
theorem pre_ne (b c : UInt8) (r p : List UInt8) (h : b ≠ c) : strings_HasPrefix.f (mk (b :: r)) (mk (c :: p)) = some false := by
 rw [pre_mk]
 simp only [List.length_cons, List.take_succ_cons]
 rw [show (b :: List.take p.length r == c :: p) = false from by
  rw [List.cons_beq_cons, beq_eq_false_iff_ne.2 h]; rfl]
 rfl
theorem comment_some (l : List UInt8) (hl : l.length ≤ 1000000000) : ∃ r, scan_comment.f (mk l) = some r ∧ r ≤ l.length ∧ (∀ b t, l = b :: t → b ≠ 47 → r = 0) := by
 unfold scan_comment.f
 rw [show (⟨#[47, 47]⟩ : ByteArray) = mk [47, 47] from rfl, show (⟨#[47, 42]⟩ : ByteArray) = mk [47, 42] from rfl]
 by_cases h47 : ∃ b t, l = b :: t ∧ b ≠ 47
 ·obtain ⟨b, t, rfl, hb⟩ := h47
  rw [pre_ne b 47 t [47] hb, Option.bind_some, if_neg (by simp), pre_ne b 47 t [42] hb, Option.bind_some, if_neg (by simp)]
  exact ⟨0, rfl, by omega, fun _ _ _ _ => rfl⟩
 have hno : ∀ b t, l = b :: t → b ≠ 47 → False := fun b t h1 h2 => h47 ⟨b, t, h1, h2⟩
 rw [pre_mk, pre_mk, Option.bind_some, Option.bind_some]
 split
 ·unfold strings_IndexByte.f
  rw [Option.bind_some, mk_list]
  have hle : indexByte l 10 ≤ l.length := by rw [← index_one]; exact index_le l [10]
  split
  ·exact ⟨_, rfl, hle, fun b t h1 h2 => absurd h2 (fun h => hno b t h1 h)⟩
  rw [mk_size]; exact ⟨_, rfl, by omega, fun b t h1 h2 => absurd h2 (fun h => hno b t h1 h)⟩
 split
 ·rename_i h2
  simp only [Bool.and_eq_true, decide_eq_true_eq] at h2
  have h2' : 2 ≤ l.length := h2.2
  rw [mk_size, if_pos (by omega), show (mk l).extract 2 l.length = mk (l.drop 2) from mk_extract l 2]
  unfold strings_Index.f
  rw [mk_size, if_pos (by simp; omega), Option.bind_some, mk_list]
  have hr := index_room (l.drop 2) [42, 47]
  have hg := index_ge (l.drop 2) [42, 47]
  obtain ⟨j, hj⟩ : ∃ j, index (l.drop 2) [42, 47] = j := ⟨_, rfl⟩
  rw [show (⟨#[42, 47]⟩ : ByteArray).data.toList = [42, 47] from rfl, hj]
  rw [hj] at hr hg
  split
  ·exact ⟨_, rfl, by omega, fun b t h1 h2 => absurd h2 (fun h => hno b t h1 h)⟩
  have := hr (by omega)
  simp only [List.length_cons, List.length_nil, List.length_drop] at this
  rw [w64' (by omega) (by omega)]
  exact ⟨_, rfl, by omega, fun b t h1 h2 => absurd h2 (fun h => hno b t h1 h)⟩
 exact ⟨_, rfl, by omega, fun _ _ _ _ => rfl⟩
theorem quoL_le (l : List UInt8) : ∀ ps : List (List UInt8), (quoL l ps).2 ≤ l.length
 | [] => by simp [quoL]
 | p :: ps => by
  have ih := quoL_le l ps
  rw [quoL_cons]
  split
  ·rename_i hs
   have hp := congrArg List.length ((starts_iff l p).1 hs)
   have h1 := litF_le 34 (l.drop p.length)
   have h2 := litF_le 39 (l.drop p.length)
   simp only [List.length_append, List.length_drop] at hp h1 h2
   split
   ·show p.length + litF 34 (l.drop p.length) ≤ _; omega
   split
   ·split
    ·exact ih
    show p.length + litF 39 (l.drop p.length) ≤ _; omega
   exact ih
  exact ih
theorem letter3_some (b : UInt8) : ∃ r, scan_letter.f (b.toNat : Int) = some r := by
 have := all8 (p := fun b => (scan_letter.f (b.toNat : Int)).isSome) (by kernel_rfl) b
 exact Option.isSome_iff_exists.1 this
theorem digit3_some (b : UInt8) : ∃ r, scan_digit.f (b.toNat : Int) = some r := by
 have := all8 (p := fun b => (scan_digit.f (b.toNat : Int)).isSome) (by kernel_rfl) b
 exact Option.isSome_iff_exists.1 this
theorem word3_l0 (l : List UInt8) (hl : l.length ≤ 1000000000) : ∀ (m i : Nat), i + m = l.length → ∀ k, m + 1 ≤ k → ∃ r, scan_word.l0 k (mk l) (i : Int) = some r ∧ 0 ≤ r ∧ r ≤ l.length
 | 0, i, h, k, hk => by
  obtain ⟨K, rfl⟩ : ∃ K, k = K + 1 := ⟨k - 1, by omega⟩
  rw [scan_word.l0, mk_size, if_neg (by omega)]; exact ⟨_, rfl, by omega, by omega⟩
 | m + 1, i, h, k, hk => by
  obtain ⟨K, rfl⟩ : ∃ K, k = K + 1 := ⟨k - 1, by omega⟩
  have hi : i < l.length := by omega
  have w1 : wrap64 ((i : Int) + 1) = ((i + 1 : Nat) : Int) := by rw [w64' (by omega) (by omega)]; omega
  obtain ⟨a, ha⟩ := letter3_some l[i]
  obtain ⟨d, hd⟩ := digit3_some l[i]
  have go := word3_l0 l hl m (i + 1) (by omega) K (by omega)
  rw [scan_word.l0, mk_size, if_pos (by omega), if_pos (by omega), bt_mk l i hi, ha, hd, w1, Option.bind_some, Option.bind_some]
  split
  ·exact go
  split
  ·split
   ·exact go
   exact ⟨_, rfl, by omega, by omega⟩
  exact ⟨_, rfl, by omega, by omega⟩
theorem number3_l0 (l : List UInt8) (hl : l.length ≤ 1000000000) (m : Nat) : ∀ (i : Nat), i + m = l.length → ∀ k, 2 * m + 2 ≤ k → ∃ r, scan_number.l0 k (mk l) (i : Int) = some r ∧ 0 ≤ r ∧ r ≤ l.length := by
 induction m using Nat.strongRecOn with
 | _ m ih =>
  intro i hi k hk
  obtain ⟨K, rfl⟩ : ∃ K, k = K + 1 + 1 := ⟨k - 2, by omega⟩
  by_cases hlt : i < l.length
  ·have w1 : wrap64 ((i : Int) + 1) = ((i + 1 : Nat) : Int) := by rw [w64' (by omega) (by omega)]; omega
   have w2 : wrap64 ((i : Int) + 2) = ((i + 2 : Nat) : Int) := by rw [w64' (by omega) (by omega)]; omega
   obtain ⟨a, ha⟩ := letter3_some l[i]
   obtain ⟨d, hd⟩ := digit3_some l[i]
   have go := ih (m - 1) (by omega) (i + 1) (by omega) K (by omega)
   have j : ∀ b, (b = true → i + 2 ≤ l.length) → ∃ r, scan_number.j3 (K + 1) (mk l) (i : Int) b = some r ∧ 0 ≤ r ∧ r ≤ l.length := by
    intro b hb
    rw [scan_number.j3, mk_size, bt_mk l i hlt, ha, hd, w1, w2]
    cases b with
    | true => rw [if_pos rfl]; have := hb rfl; exact ih (m - 2) (by omega) (i + 2) (by omega) K (by omega)
    | false =>
     rw [if_neg (by simp), if_pos (by omega), if_pos (by omega), Option.bind_some, Option.bind_some]
     split
     ·exact go
     split
     ·exact go
     split
     ·exact go
     exact ⟨_, rfl, by omega, by omega⟩
   rw [scan_number.l0, mk_size, if_pos (by omega), if_pos (by omega), w1]
   unfold strings_IndexByte.f
   rw [Option.bind_some]
   split
   ·split
    ·rw [if_pos (by omega)]
     split
     ·exact j _ (fun _ => by omega)
     exact j _ (fun _ => by omega)
    exact j _ (fun h => by cases h)
   exact j _ (fun h => by cases h)
  rw [scan_number.l0, mk_size, if_neg (by omega)]; exact ⟨_, rfl, by omega, by omega⟩
theorem number3_some (l : List UInt8) (hl : l.length ≤ 1000000000) (k : Nat) (hk : 2 * l.length + 5 ≤ k) : ∃ r, scan_number.f k (mk l) = some r ∧ 0 ≤ r ∧ r ≤ l.length := by
 obtain ⟨K, rfl⟩ : ∃ K, k = K + 1 + 1 := ⟨k - 2, by omega⟩
 have j : ∀ b, (b = true → 0 < l.length) → ∃ r, scan_number.j0 (K + 1 + 1) (mk l) b = some r ∧ 0 ≤ r ∧ r ≤ l.length := by
  intro b hb
  rw [scan_number.j0, mk_size]
  cases b with
  | true =>
   rw [if_pos rfl, scan_number.j1]
   have := hb rfl
   exact number3_l0 l hl (l.length - 1) 1 (by omega) K (by omega)
  | false =>
   rw [if_neg (by simp)]
   split
   ·rw [if_pos (by omega)]
    split
    ·obtain ⟨d, hd⟩ := digit3_some (l[1]'(by omega))
     rw [show bt (mk l) 1 = ((l[1]'(by omega)).toNat : Int) from bt_mk l 1 (by omega), hd, Option.bind_some]
     split
     ·rw [scan_number.j1]
      exact number3_l0 l hl (l.length - 2) 2 (by omega) K (by omega)
     exact ⟨_, rfl, by omega, by omega⟩
    exact ⟨_, rfl, by omega, by omega⟩
   exact ⟨_, rfl, by omega, by omega⟩
 unfold scan_number.f
 rw [mk_toList]
 split
 ·exact j _ (fun h => by cases h)
 rename_i hne
 have h0 : 0 < l.length := List.length_pos_iff.2 hne
 obtain ⟨d, hd⟩ := digit3_some (l[0]'h0)
 rw [mk_size, if_pos (by omega), show bt (mk l) 0 = ((l[0]'h0).toNat : Int) from bt_mk l 0 h0, hd, Option.bind_some]
 exact j _ (fun _ => h0)
theorem ite_ex {c : Prop} [Decidable c] {a b : Option Int} {P : Int → Prop} (ha : ∃ r, a = some r ∧ P r) (hb : ∃ r, b = some r ∧ P r) : ∃ r, (if c then a else b) = some r ∧ P r := by split <;> assumption
theorem punct3_l0 (l : List UInt8) (hl : l.length ≤ 1000000000) : ∀ (n : Nat), n ≤ l.length → ∀ k, n + 1 ≤ k → ∃ r, scan_punct.l0 k (mk l) (n : Int) = some r ∧ (0 ≤ r ∧ r ≤ l.length)
 | 0, h, k, hk => by
  obtain ⟨K, rfl⟩ : ∃ K, k = K + 1 := ⟨k - 1, by omega⟩
  rw [scan_punct.l0, if_neg (by omega)]; exact ⟨_, rfl, by omega, by omega⟩
 | n + 1, h, k, hk => by
  obtain ⟨K, rfl⟩ : ∃ K, k = K + 1 := ⟨k - 1, by omega⟩
  have w1 : wrap64 (((n + 1 : Nat) : Int) - 1) = (n : Int) := by rw [w64' (by omega) (by omega)]; omega
  obtain ⟨X, hX⟩ : ∃ X, ((n + 1 : Nat) : Int) = X := ⟨_, rfl⟩
  have go := punct3_l0 l hl n (by omega) K (by omega)
  rw [hX] at w1 ⊢
  rw [scan_punct.l0, mk_size, if_pos (by omega), if_pos (by omega), if_pos (by omega), w1]
  have hP : 0 ≤ X ∧ X ≤ (l.length : Int) := by omega
  repeat (refine ite_ex ⟨_, rfl, hP⟩ ?_)
  exact go
theorem punct3_some (l : List UInt8) (hl : l.length ≤ 1000000000) (k : Nat) (hk : 6 ≤ k) : ∃ r, scan_punct.f k (mk l) = some r ∧ 0 ≤ r ∧ r ≤ l.length := by
 unfold scan_punct.f
 rw [mk_size]
 obtain ⟨n, hn, hn2, hn4⟩ : ∃ n : Nat, mn 4 (l.length : Int) = (n : Int) ∧ n ≤ l.length ∧ n ≤ 4 := by
  refine ⟨min 4 l.length, ?_, by omega, by omega⟩
  unfold mn
  split <;> omega
 rw [hn]
 exact punct3_l0 l hl n hn2 k (by omega)
theorem first_some (d : List UInt8) (hl : d.length ≤ 1000000000) (h0 : 0 < d.length) (k : Nat) (hk : 3 * d.length + 50 ≤ k) :
  ∃ r n e, scan_first.f k (mk d) false = some (r, n, e) ∧ 0 ≤ n ∧ n ≤ d.length ∧ ((r = 3 ∨ r = 4) → quoL d pres = (r, n.toNat)) ∧
   (∀ c b t, quoL d pres = (c, d.length) → d = b :: t → b ≠ 47 → b ≠ 10 → r = c ∧ n = d.length ∧ e = 0) := by
 obtain ⟨K, rfl⟩ : ∃ K, k = K + 1 := ⟨k - 1, by omega⟩
 obtain ⟨b0, t0, hd⟩ : ∃ b t, d = b :: t := by
  match d, h0 with
  | b :: t, _ => exact ⟨b, t, rfl⟩
 have hbt : bt (mk d) 0 = (b0.toNat : Int) := by
  refine (bt_mk d 0 h0).trans ?_
  congr 2
  simp [hd]
 obtain ⟨h, hh⟩ := header_some (mk d) (by rw [mk_size]; omega) (K + 1) (by rw [mk_size]; omega)
 unfold scan_first.f
 rw [hh, Option.bind_some, if_neg (by simp), scan_first.j0, if_neg (by simp)]
 obtain ⟨c, hc, hc1, hc2⟩ := comment_some d hl
 rw [hc, Option.bind_some]
 by_cases hneg : c < 0
 ·rw [if_pos hneg]
  refine ⟨0, 0, 20, rfl, by omega, by omega, fun h => by omega, fun c' b t _ hb h47 _ => ?_⟩
  have := hc2 b t hb h47
  omega
 rw [if_neg hneg]
 by_cases hpos : c > 0
 ·rw [if_pos hpos]
  refine ⟨8, c, 0, rfl, by omega, by omega, fun h => by omega, fun c' b t _ hb h47 _ => ?_⟩
  have := hc2 b t hb h47
  omega
 rw [if_neg hpos, mk_size, if_pos (by omega), hbt]
 by_cases h10 : (b0.toNat : Int) = 10
 ·rw [if_pos h10]
  refine ⟨9, 1, 0, rfl, by omega, by omega, fun h => by omega, fun c' b t _ hb _ hb10 => ?_⟩
  rw [hd] at hb
  injection hb with hb _
  subst hb
  exact absurd ((u8i b0 10).1 h10) hb10
 rw [if_neg h10]
 have hq := lift_some (k := K) (f := fun k => scan_quoted.f k (mk d)) (fun k => scan_quoted.mono _ k) (by omega) (quo_f d hl 0)
 rw [hq, Option.bind_some]
 have hql := quoL_le d pres
 obtain ⟨⟨qk, qn⟩, hqq⟩ : ∃ q, quoL d pres = q := ⟨_, rfl⟩
 rw [hqq] at hql ⊢
 by_cases hqp : (qn : Int) > 0
 ·rw [if_pos (show ((qk, (qn : Int)) : Int × Int).2 > 0 from hqp)]
  refine ⟨qk, qn, 0, rfl, by omega, by simpa using hql, fun _ => by simp, fun c' b t h _ _ _ => ?_⟩
  injection h with h1 h2
  subst h1; subst h2
  exact ⟨rfl, rfl, rfl⟩
 rw [if_neg (show ¬ ((qk, (qn : Int)) : Int × Int).2 > 0 from hqp)]
 have nq : ∀ (c' : Int), (qk, qn) = (c', d.length) → False := by
  intro c' h
  injection h with _ h2
  omega
 have fin : ∀ (r n e : Int), 0 ≤ n → n ≤ d.length → r ≠ 3 → r ≠ 4 → ∃ r' n' e', (some (r, n, e) : Option (Int × Int × Int)) = some (r', n', e') ∧ 0 ≤ n' ∧ n' ≤ d.length ∧ ((r' = 3 ∨ r' = 4) → (qk, qn) = (r', n'.toNat)) ∧ (∀ c b t, (qk, qn) = (c, d.length) → d = b :: t → b ≠ 47 → b ≠ 10 → r' = c ∧ n' = d.length ∧ e' = 0) :=
  fun r n e a1 a2 a3 a4 => ⟨r, n, e, rfl, a1, a2, fun h => by omega, fun c' b t h _ _ _ => absurd h (nq c')⟩
 obtain ⟨w, hw, hw0, hw1⟩ := word3_l0 d hl d.length 0 (by omega) K (by omega)
 rw [show scan_word.f K (mk d) = some w from hw, Option.bind_some]
 by_cases hwp : w > 0
 ·rw [if_pos hwp]; exact fin 1 w 0 hw0 hw1 (by decide) (by decide)
 rw [if_neg hwp]
 obtain ⟨m, hm, hm0, hm1⟩ := number3_some d hl K (by omega)
 rw [hm, Option.bind_some]
 by_cases hmp : m > 0
 ·rw [if_pos hmp]; exact fin 2 m 0 hm0 hm1 (by decide) (by decide)
 rw [if_neg hmp]
 obtain ⟨p, hp, hp0, hp1⟩ := punct3_some d hl K (by omega)
 rw [hp, Option.bind_some]
 by_cases hpp : p > 0
 ·rw [if_pos hpp]; exact fin 5 p 0 hp0 hp1 (by decide) (by decide)
 rw [if_neg hpp]
 split
 ·exact fin 0 0 21 (by omega) (by omega) (by decide) (by decide)
 split
 ·exact fin 0 0 21 (by omega) (by omega) (by decide) (by decide)
 exact fin 6 1 0 (by omega) (by omega) (by decide) (by decide)
theorem wsk_lit (l : List UInt8) (b : UInt8) (r : List UInt8) (h : l = b :: r) (hb : b = 39 ∨ b = 34 ∨ b = 117 ∨ b = 85 ∨ b = 76) : wsk l = 0 := by
 subst h
 unfold wsk
 have : whiteB b = false := by rcases hb with rfl | rfl | rfl | rfl | rfl <;> rfl
 rw [List.takeWhile_cons, this]
 rfl
theorem one_mk (l : List UInt8) (hl : l.length ≤ 1000000000) (k : Nat) (hk : 3 * l.length + 60 ≤ k) : ∃ r b, scan_One.f k (mk l) = some (r, b) ∧ ((b = true ∧ r = 3) ↔ isL 39 l pre39 = true) ∧ ((b = true ∧ r = 4) ↔ isL 34 l pre34 = true) := by
 have l39 := fun h => lit_head 39 (.inl rfl) pre39 (fun p hp => ((in39 p).1 hp).1) u39 l h
 have l34 := fun h => lit_head 34 (.inr rfl) pre34 (fun p hp => (in34 p).1 hp) u34 l h
 unfold scan_One.f
 rw [mk_list, mk_size, if_pos (by omega)]
 by_cases hw : wsk l < l.length
 ·rw [if_pos hw, show (mk l).extract (wsk l) l.length = mk (l.drop (wsk l)) from mk_extract l (wsk l)]
  obtain ⟨r, n, e, hf, h0, h1, h2, h3⟩ := first_some (l.drop (wsk l)) (by simp; omega) (by simp; omega) k (by simp; omega)
  simp only [List.length_drop] at h1
  rw [hf, Option.bind_some]
  show ∃ r' b, (if 0 ≤ n ∧ n ≤ (l.length : Int) - (wsk l : Int) then some (if e ≠ 0 ∨ (mk l).extract (wsk l) ((wsk l : Int) + n).toNat ≠ mk l then ((0 : Int), false) else (r, true)) else none) = some (r', b) ∧ _
  rw [if_pos (by omega)]
  have key : ∀ (q : UInt8) (c : Int) (ps : List (List UInt8)), (c = 3 ∨ c = 4) → (isL q l ps = true → ∃ b r, l = b :: r ∧ (b = 39 ∨ b = 34 ∨ b = 117 ∨ b = 85 ∨ b = 76)) → (l ≠ [] → (quoL l pres = (c, l.length) ↔ isL q l ps = true)) →
    (((if e ≠ 0 ∨ (mk l).extract (wsk l) ((wsk l : Int) + n).toNat ≠ mk l then ((0 : Int), false) else (r, true)).2 = true ∧ (if e ≠ 0 ∨ (mk l).extract (wsk l) ((wsk l : Int) + n).toNat ≠ mk l then ((0 : Int), false) else (r, true)).1 = c) ↔ isL q l ps = true) := by
   intro q c ps hc hhd hiff
   have hne : l ≠ [] := by intro h; rw [h] at hw; simp at hw
   constructor
   ·by_cases hz : e ≠ 0 ∨ (mk l).extract (wsk l) ((wsk l : Int) + n).toNat ≠ mk l
    ·rw [if_pos hz]; rintro ⟨h, _⟩; cases h
    rw [if_neg hz]
    rintro ⟨_, hr⟩
    simp only [not_or, Decidable.not_not] at hz
    obtain ⟨_, hz⟩ := hz
    have hr' : r = c := hr
    rw [mk_sub] at hz
    have hz' := congrArg (fun x : ByteArray => x.data.toList.length) hz
    simp only [mk_list, List.length_take, List.length_drop] at hz'
    have hw0 : wsk l = 0 := by omega
    rw [hw0, List.drop_zero] at h2
    have := h2 (by omega)
    rw [hr', show n.toNat = l.length by omega] at this
    exact (hiff hne).1 this
   intro h
   obtain ⟨b, t, hbt, hb⟩ := hhd h
   have hw0 := wsk_lit l b t hbt hb
   rw [hw0, List.drop_zero] at h3
   obtain ⟨a1, a2, a3⟩ := h3 c b t ((hiff hne).2 h) hbt (by rcases hb with rfl | rfl | rfl | rfl | rfl <;> decide) (by rcases hb with rfl | rfl | rfl | rfl | rfl <;> decide)
   have hx : (mk l).extract (wsk l) ((wsk l : Int) + n).toNat = mk l := by
    rw [mk_sub, hw0, List.drop_zero, a2, List.take_of_length_le (by omega)]
   rw [if_neg (by rw [hx, a3]; simp)]
   exact ⟨rfl, a1⟩
  refine ⟨_, _, rfl, key 39 3 pre39 (.inl rfl) l39 (fun hne => chars_iff l hne), key 34 4 pre34 (.inr rfl) l34 (fun hne => str_iff l hne)⟩
 rw [if_neg hw]
 have no : ∀ (b : UInt8) (r : List UInt8), l = b :: r → (b = 39 ∨ b = 34 ∨ b = 117 ∨ b = 85 ∨ b = 76) → False := by
  intro b r h hb
  have := wsk_lit l b r h hb
  rw [this, h] at hw
  simp at hw
 refine ⟨0, false, rfl, ⟨fun h => (by cases h.1), fun h => ?_⟩, ⟨fun h => (by cases h.1), fun h => ?_⟩⟩
 ·obtain ⟨b, r, h1, h2⟩ := l39 h; exact (no b r h1 h2).elim
 obtain ⟨b, r, h1, h2⟩ := l34 h; exact (no b r h1 h2).elim
end Go.Proofs.YtcdleippdegibaaDoor.Ctk
