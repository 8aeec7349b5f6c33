import Derived.Test.YtcdleippdegibaaDoorXM7
import Derived.Test.YtcdleippdegibaaDoorXM3
import Derived.Test.YtcdleippdegibaaDoorXM9
import Derived.Test.YtcdleippdegibaaDoorXM4
import Derived.Test.YtcdleippdegibaaDoorXM8
import Derived.Test.YtcdleippdegibaaDoorXM5
import Derived.Lib.IndexMore
set_option maxHeartbeats 8000000
set_option maxRecDepth 100000
set_option linter.unusedVariables false
set_option linter.unusedSimpArgs false
set_option linter.unusedSectionVars false
namespace Go.Proofs.YtcdleippdegibaaDoor.Ctk
open Go Go.RowKit Go.Proofs Go.Lib Go.Proofs.YtcdleippdegibaaDoorW.PrintWords Go.Proofs.YtcdleippdegibaaDoor Go.Proofs.YtcdleippdegibaaDoor.PB Go.Proofs.YtcdleippdegibaaDoor.PR Go.Proofs.YtcdleippdegibaaDoor.PE Go.Proofs.YtcdleippdegibaaDoor.Digits Go.Proofs.YtcdleippdegibaaDoor.LibG
def escI (b : UInt8) : Int := indexByte [39, 34, 63, 92, 97, 98, 102, 110, 114, 116, 118] b
def escR (base fr : Int) (ds : List Int) : Int × Int := if ds.length = 0 then (0, 0) else (eOf base ds, fr + (ds.length : Int))
def escL : List UInt8 → Int × Int
 | [] => (0, 0)
 | b :: r => if 0 ≤ escI b then (bt simB (escI b), 2) else if b = 120 then escR 16 2 (digL 16 r) else escR 8 1 ((digL 8 (b :: r)).take 3)
theorem escL_cons (b : UInt8) (r : List UInt8) : escL (b :: r) = if 0 ≤ escI b then (bt simB (escI b), 2) else if b = 120 then escR 16 2 (digL 16 r) else escR 8 1 ((digL 8 (b :: r)).take 3) := rfl
theorem escI_facts (b : UInt8) : (0 ≤ escI b → escI b < 11 ∧ 0 < bt simB (escI b) ∧ bt simB (escI b) ≤ 255) ∧ d_simple.f 1 (b.toNat : Int) = some (if 0 ≤ escI b then bt simB (escI b) else 0) := by
 have := all8 (p := fun b => decide ((0 ≤ escI b → escI b < 11 ∧ 0 < bt simB (escI b) ∧ bt simB (escI b) ≤ 255) ∧ d_simple.f 1 (b.toNat : Int) = some (if 0 ≤ escI b then bt simB (escI b) else 0))) (by kernel_rfl) b
 exact of_decide_eq_true this
theorem esc_mk (r : List UInt8) (hl : r.length ≤ 999999999) : ctok_escape.f (mk (92 :: r)) = some (escL r) := by
 unfold ctok_escape.f
 rw [if_pos (by rw [mk_size]; simp; omega)]
 cases r with
 | nil => rw [dif_neg (by rw [mk_size]; simp)]; rfl
 | cons b r =>
  rw [dif_pos (by rw [mk_size]; simp)]
  have hb : (mk (92 :: b :: r))[1]'(by rw [mk_size]; simp) = b := rfl
  obtain ⟨hi, _⟩ := escI_facts b
  simp only [hb]
  show (if 0 ≤ escI b then (if escI b < 11 then some (bt simB (escI b), 2) else none) else if (b.toNat : Int) = 120 then some (escRes 16 2 (92 :: b :: r).length ((mk (92 :: b :: r)).extract 2 (92 :: b :: r).length)) else some (escRes 8 1 3 ((mk (92 :: b :: r)).extract 1 (92 :: b :: r).length))) = _
  rw [escL_cons]
  by_cases h0 : 0 ≤ escI b
  ·rw [if_pos h0, if_pos h0, if_pos (hi h0).1]
  rw [if_neg h0, if_neg h0, show (mk (92 :: b :: r)).extract 2 (92 :: b :: r).length = mk r from mk_extract (92 :: b :: r) 2, show (mk (92 :: b :: r)).extract 1 (92 :: b :: r).length = mk (b :: r) from mk_extract (92 :: b :: r) 1]
  have e : ((b.toNat : Int) = 120) ↔ b = 120 := u8i b 120
  by_cases hx : b = 120
  ·rw [if_pos (e.2 hx), if_pos hx]
   unfold escRes escR digs
   have := digL_le 16 r
   rw [mk_list, List.take_of_length_le (by simp; omega)]
  rw [if_neg (fun h => hx (e.1 h)), if_neg hx]
  rfl
theorem eStep_mn (base v d : Int) : eStep base v d = mn (v * base + d) 1099511627776 := by
 unfold eStep mn
 split <;> omega
theorem eStep_bd (base v d : Int) (hb : 0 ≤ base) (hv : 0 ≤ v) (hd : 0 ≤ d) : 0 ≤ eStep base v d ∧ eStep base v d ≤ 1099511627776 := by
 unfold eStep
 have := Int.mul_nonneg hv hb
 omega
theorem eOf_snoc (base : Int) (l : List Int) (d : Int) : eOf base (l ++ [d]) = eStep base (eOf base l) d := by
 unfold eOf; rw [List.foldl_append]; rfl
theorem eOf_bd (base : Int) (hb : 0 ≤ base) (l : List Int) (h : ∀ d ∈ l, 0 ≤ d) : 0 ≤ eOf base l ∧ eOf base l ≤ 1099511627776 := by
 have g : ∀ (l : List Int) (v : Int), (∀ d ∈ l, 0 ≤ d) → 0 ≤ v → v ≤ 1099511627776 → 0 ≤ l.foldl (eStep base) v ∧ l.foldl (eStep base) v ≤ 1099511627776 := by
  intro l
  induction l with
  | nil => intro v _ h0 h1; exact ⟨h0, h1⟩
  | cons d l ih =>
   intro v hd h0 h1
   have := eStep_bd base v d hb h0 (hd d (by simp))
   exact ih _ (fun x hx => hd x (by simp [hx])) this.1 this.2
 exact g l 0 h (by omega) (by omega)
theorem digL_nonneg (base : Int) (l : List UInt8) : ∀ d ∈ digL base l, 0 ≤ d := by
 intro d hd
 obtain ⟨i, hi, rfl⟩ := List.getElem_of_mem hd
 obtain ⟨_, hg, h0, _⟩ := digL_get base l i hi
 rw [List.getElem?_eq_getElem hi] at hg
 rw [Option.some.inj hg]
 exact h0
theorem wSucc {n : Nat} (h : n + 1 ≤ 4000000000) : wrap64 ((n : Int) + 1) = ((n + 1 : Nat) : Int) := by rw [w64 (by omega) (by omega)]; omega
theorem wAdd {n m : Nat} (h : n + m ≤ 4000000000) : wrap64 ((n : Int) + (m : Int)) = ((n + m : Nat) : Int) := by rw [w64 (by omega) (by omega)]; omega
theorem one_l0 (l : List UInt8) (base : Int) (hb : base = 8 ∨ base = 16) (hl : l.length ≤ 1000000000) (a at_ n : Nat) (ha : a ≤ l.length) (hat : at_ ≤ a) (hn : n ≤ (digL base (l.drop a)).length) :
  ∀ (m i : Nat), i + m = n → ∀ k, m + 4 ≤ k → d_one.l0 k (mk l) (at_ : Int) (eOf base ((digL base (l.drop a)).take i)) base (a : Int) (n : Int) ((a + i : Nat) : Int) = some (eOf base ((digL base (l.drop a)).take n), ((a + n - at_ : Nat) : Int)) := by
 have hle := digL_le base (l.drop a)
 simp only [List.length_drop] at hle
 intro m
 induction m with
 | zero =>
  intro i h k hk
  obtain ⟨K, rfl⟩ : ∃ K, k = K + 1 := ⟨k - 1, by omega⟩
  have w1 : wrap64 ((a : Int) + (n : Int)) = ((a + n : Nat) : Int) := by rw [w64 (by omega) (by omega)]; omega
  rw [d_one.l0, w1, if_neg (by omega)]
  rw [w64 (by omega) (by omega)]
  obtain rfl : i = n := by omega
  congr 2
  omega
 | succ m ih =>
  intro i h k hk
  obtain ⟨K, rfl⟩ : ∃ K, k = (K + 3) + 1 := ⟨k - 4, by omega⟩
  have hi : i < (digL base (l.drop a)).length := by omega
  obtain ⟨hk', hg, hd0, hd1⟩ := digL_get base (l.drop a) i hi
  have hk2 : a + i < l.length := by simp only [List.length_drop] at hk'; omega
  have w00 : a + n ≤ 4000000000 := by clear hg hd0 hd1 ih; omega
  have w0 : a + i + 1 ≤ 4000000000 := by clear hg hd0 hd1 ih; omega
  have c1 : ((a + i : Nat) : Int) < ((a + n : Nat) : Int) := by clear hg hd0 hd1 ih; omega
  have c2 : (0 : Int) ≤ ((a + i : Nat) : Int) := by clear hg hd0 hd1 ih; omega
  have c3 : ((a + i : Nat) : Int) < ((mk l).size : Int) := by rw [mk_size]; clear hg hd0 hd1 ih; omega
  have hb0 : 0 ≤ base ∧ base ≤ 16 := by clear hg hd0 hd1 ih; omega
  have nx := ih (i + 1) (by clear hg hd0 hd1 ih; omega) (K + 3) (by clear hg hd0 hd1 ih; omega)
  have w1 := wAdd w00
  have w2 := wSucc w0
  clear ih
  rw [← Nat.add_assoc] at nx
  have hel : (l.drop a)[i] = l[a + i] := by simp
  rw [hel] at hg hd0 hd1
  obtain ⟨d, hd⟩ : ∃ d, dgI l[a + i].toNat = d := ⟨_, rfl⟩
  rw [hd] at hg hd0 hd1
  have hw : wI l[a + i] = d := by unfold wI; rw [hd, if_pos hd0]
  have htk : (digL base (l.drop a)).take (i + 1) = (digL base (l.drop a)).take i ++ [d] := by
   rw [List.take_add_one, hg]; rfl
  rw [d_one.l0, w1, if_pos c1, if_pos c2, if_pos c3, bt_mk l (a + i) hk2, worth_mk, Option.bind_some, hw, w2]
  have hbd := eOf_bd base hb0.1 ((digL base (l.drop a)).take i) (fun x hx => digL_nonneg base _ x (List.mem_of_mem_take hx))
  have hst := eOf_snoc base ((digL base (l.drop a)).take i) d
  rw [← htk] at hst
  have hd16 : d < 16 := Int.lt_of_lt_of_le hd1 hb0.2
  clear hw htk hg hd hd1 c1 c2 c3 w1 w2 hel hle
  obtain ⟨v, hv⟩ : ∃ v, eOf base ((digL base (l.drop a)).take i) = v := ⟨_, rfl⟩
  rw [hv] at hbd hst ⊢
  have hm0 : 0 ≤ v * base := Int.mul_nonneg hbd.1 hb0.1
  have hm1 : v * base ≤ 1099511627776 * 16 := Int.mul_le_mul hbd.2 hb0.2 hb0.1 (by decide)
  obtain ⟨z, hz⟩ : ∃ z, v * base = z := ⟨_, rfl⟩
  have e1 : wrap64 (v * base) = v * base := by rw [hz] at hm0 hm1 ⊢; exact w64 hm0 (by clear nx hst; omega)
  have e2 : wrap64 (v * base + d) = v * base + d := by rw [hz] at hm0 hm1 ⊢; exact w64 (by clear nx hst; omega) (by clear nx hst; omega)
  rw [e1, e2, ← eStep_mn, ← hst]
  exact nx
theorem one_j0 (l : List UInt8) (base : Int) (hb : base = 8 ∨ base = 16) (hl : l.length ≤ 1000000000) (a at_ n : Nat) (ha : a ≤ l.length) (hat : at_ ≤ a) (hn : n ≤ (digL base (l.drop a)).length) (k : Nat) (hk : l.length + 6 ≤ k) :
  d_one.j0 k (mk l) (at_ : Int) 0 base (a : Int) (n : Int) = some (escR base ((a - at_ : Nat) : Int) ((digL base (l.drop a)).take n)) := by
 obtain ⟨K, rfl⟩ : ∃ K, k = K + 1 := ⟨k - 1, by omega⟩
 have hle := digL_le base (l.drop a)
 simp only [List.length_drop] at hle
 unfold escR
 rw [d_one.j0, List.length_take, Nat.min_eq_left hn]
 by_cases h : n = 0
 ·rw [if_pos (by omega), if_pos h]
 rw [if_neg (by omega), if_neg h]
 have := one_l0 l base hb hl a at_ n ha hat hn n 0 (by omega) K (by omega)
 rw [List.take_zero, show eOf base [] = 0 from rfl, Nat.add_zero] at this
 rw [this]
 congr 2
 omega
theorem run_lift (l : List UInt8) (base : Int) (a : Nat) (hb : base ≤ 16) (hl : l.length ≤ 1000000000) (ha : a ≤ l.length) (k : Nat) (hk : l.length + 4 ≤ k) : d_run.f k (mk l) (a : Int) base = some (((digL base (l.drop a)).length : Nat) : Int) := by
 obtain ⟨K, rfl⟩ : ∃ K, k = K + l.length + 4 := ⟨k - (l.length + 4), by omega⟩
 exact run_ref l base a hb hl ha K
theorem one_esc (l : List UInt8) (hl : l.length ≤ 999999999) (i : Nat) (r : List UInt8) (h : l.drop i = 92 :: r) (k : Nat) (hk : l.length + 10 ≤ k) : d_one.f k (mk l) (i : Int) = some (escL r) := by
 have hi : i < l.length := by
  have := congrArg List.length h
  simp at this
  omega
 have hr : l.drop (i + 1) = r := by rw [← List.drop_drop, h]; rfl
 have hlr : r.length + i + 1 = l.length := by rw [← hr]; simp; omega
 have hi0 : l[i] = 92 := by
  rw [List.drop_eq_getElem_cons hi] at h
  injection h
 have w1 : wrap64 ((i : Int) + 1) = ((i + 1 : Nat) : Int) := by rw [w64 (by omega) (by omega)]; omega
 have w2 : wrap64 ((i : Int) + 2) = ((i + 2 : Nat) : Int) := by rw [w64 (by omega) (by omega)]; omega
 unfold d_one.f
 rw [mk_size, if_pos (by omega), if_pos (by omega), bt_mk l i hi, hi0, if_pos (by rfl), w1, w2]
 cases r with
 | nil =>
  simp only [List.length_nil] at hlr
  rw [if_pos (by omega)]; rfl
 | cons b r =>
  simp only [List.length_cons] at hlr
  have hb1 : i + 1 < l.length := by omega
  have hb : l[i + 1] = b := by
   rw [List.drop_eq_getElem_cons hb1] at hr
   injection hr
  have hr2 : l.drop (i + 2) = r := by
   rw [show i + 2 = (i + 1) + 1 by omega, ← List.drop_drop, hr]; rfl
  obtain ⟨hf, hs⟩ := escI_facts b
  have hs' := lift_some (k := k) (f := fun k => d_simple.f k (b.toNat : Int)) (fun k => d_simple.mono _ k) (by omega) hs
  rw [if_neg (by omega), if_pos (by omega), if_pos (by omega), bt_mk l (i + 1) hb1, hb, hs', Option.bind_some]
  rw [escL_cons]
  by_cases h0 : 0 ≤ escI b
  ·rw [if_pos h0, if_pos h0, if_pos (hf h0).2.1]
  rw [if_neg h0, if_neg h0, if_neg (by omega)]
  have h8 := run_lift l 8 (i + 1) (by omega) (by omega) (by omega) k (by omega)
  have h16 := run_lift l 16 (i + 2) (by omega) (by omega) (by omega) k (by omega)
  rw [hr] at h8
  rw [hr2] at h16
  rw [h8, h16, Option.bind_some, Option.bind_some]
  have e : ((b.toNat : Int) = 120) ↔ b = 120 := u8i b 120
  by_cases hx : b = 120
  ·rw [if_pos (e.2 hx), if_pos hx]
   have := one_j0 l 16 (.inr rfl) (by omega) (i + 2) i (digL 16 r).length (by omega) (by omega) (by rw [hr2]; omega) k (by omega)
   rw [hr2, List.take_length, show i + 2 - i = 2 by omega] at this
   exact this
  rw [if_neg (fun h => hx (e.1 h)), if_neg hx]
  have hmn : mn 3 (((digL 8 (b :: r)).length : Nat) : Int) = ((min 3 (digL 8 (b :: r)).length : Nat) : Int) := by
   unfold mn; split <;> omega
  rw [hmn]
  have := one_j0 l 8 (.inl rfl) (by omega) (i + 1) i (min 3 (digL 8 (b :: r)).length) (by omega) (by omega) (by rw [hr]; omega) k (by omega)
  rw [hr, show i + 1 - i = 1 by omega] at this
  rw [this]
  have : (digL 8 (b :: r)).take (min 3 (digL 8 (b :: r)).length) = (digL 8 (b :: r)).take 3 := by
   by_cases hh : 3 ≤ (digL 8 (b :: r)).length
   ·rw [Nat.min_eq_left hh]
   rw [Nat.min_eq_right (by omega), List.take_length, List.take_of_length_le (by omega)]
  rw [this]
  rfl
theorem escL_bd (r : List UInt8) : 0 ≤ (escL r).1 ∧ (escL r).1 ≤ 1099511627776 ∧ 0 ≤ (escL r).2 ∧ (escL r).2 ≤ (r.length : Int) + 1 := by
 cases r with
 | nil => simp [escL]
 | cons b r =>
  rw [escL_cons]
  obtain ⟨hf, _⟩ := escI_facts b
  have hR : ∀ base fr ds, 0 ≤ base → (∀ d ∈ ds, (0 : Int) ≤ d) → 0 ≤ fr → fr + (ds.length : Int) ≤ ((b :: r).length : Int) + 1 → 0 ≤ (escR base fr ds).1 ∧ (escR base fr ds).1 ≤ 1099511627776 ∧ 0 ≤ (escR base fr ds).2 ∧ (escR base fr ds).2 ≤ ((b :: r).length : Int) + 1 := by
   intro base fr ds hb hd h0 h1
   unfold escR
   split
   ·refine ⟨by decide, by decide, by decide, by show (0 : Int) ≤ _; omega⟩
   have := eOf_bd base hb ds hd
   exact ⟨this.1, this.2, by show 0 ≤ fr + _; omega, h1⟩
  by_cases h0 : 0 ≤ escI b
  ·rw [if_pos h0]
   have := hf h0
   exact ⟨by show 0 ≤ bt simB (escI b); omega, by show bt simB (escI b) ≤ _; omega, by show (0 : Int) ≤ 2; omega, by show (2 : Int) ≤ _; simp only [List.length_cons]; omega⟩
  rw [if_neg h0]
  by_cases hx : b = 120
  ·rw [if_pos hx]
   have := digL_le 16 r
   exact hR 16 2 _ (by omega) (digL_nonneg 16 r) (by omega) (by simp only [List.length_cons]; omega)
  rw [if_neg hx]
  have := digL_le 8 (b :: r)
  have h3 := List.length_take_le 3 (digL 8 (b :: r))
  have h4 := List.length_take_le' 3 (digL 8 (b :: r))
  exact hR 8 1 _ (by omega) (fun d hd => digL_nonneg 8 _ d (List.mem_of_mem_take hd)) (by omega) (by simp only [List.length_cons] at *; omega)
def Both (p : ByteArray) (ne : Prop) (x : Option (List Int × ByteArray × Int)) (y : Option (List Int × Bool)) : Prop :=
 (∃ out, x = some (out, p, 0) ∧ y = some (out, true) ∧ (ne → out ≠ [])) ∨ (∃ p', x = some ([], p', 40) ∧ y = some ([], false))
theorem els_l0 (s : List UInt8) (hl : s.length ≤ 1000000) (p : ByteArray) (top : Int) (h255 : 255 ≤ top) (m : Nat) : ∀ (i : Nat), i + m = s.length → ∀ (acc : List Int), acc.length ≤ i → ∀ k, m + s.length + 20 ≤ k →
  Both p (acc ≠ [] ∨ 0 < m) (ctok_elements.l0 k p (mk (s.drop i)) top acc) (d_elements.l0 k top (mk s) acc (i : Int)) := by
 induction m using Nat.strongRecOn with
 | _ m ih =>
  intro i hi acc ha k hk
  obtain ⟨K, rfl⟩ : ∃ K, k = K + 1 := ⟨k - 1, by omega⟩
  rw [ctok_elements.l0, d_elements.l0, mk_toList, mk_size, mk_size]
  cases hd : s.drop i with
  | nil =>
   have : s.length ≤ i := List.drop_eq_nil_iff.1 hd
   rw [if_pos rfl, if_neg (by omega)]
   exact .inl ⟨acc, rfl, rfl, fun h => h.resolve_right (by omega)⟩
  | cons b r =>
   have hlen := congrArg List.length hd
   simp only [List.length_drop, List.length_cons] at hlen
   have hlt : i < s.length := by omega
   have hb : bt (mk (b :: r)) 0 = (b.toNat : Int) := bt_mk (b :: r) 0 (by simp)
   have hsb : s[i] = b := by
    rw [List.drop_eq_getElem_cons hlt] at hd
    injection hd
   rw [if_neg (show ¬ (b :: r = []) by simp), if_pos (show (0 : Int) < ((b :: r).length : Int) by simp only [List.length_cons]; omega), hb, if_pos (show (i : Int) < (s.length : Int) by omega)]
   have step : ∀ (v n : Int), 0 ≤ v → v ≤ 1099511627776 → 0 < n → n ≤ s.length - i →
     Both p (acc ≠ [] ∨ 0 < m) (if acc.length < 17592186044416 then (if 0 ≤ n then (if n ≤ ((b :: r).length : Int) then ctok_elements.l0 K p ((mk (b :: r)).extract n.toNat (b :: r).length) top (acc ++ [wrap64 v]) else none) else none) else none) (if acc.length < 17592186044416 then d_elements.l0 K top (mk s) (acc ++ [v]) (wrap64 ((i : Int) + n)) else none) := by
    intro v n h0 h1 hn hn2
    obtain ⟨n, rfl⟩ : ∃ n' : Nat, n = n' := ⟨n.toNat, by omega⟩
    have e : (mk (b :: r)).extract ((n : Int)).toNat (b :: r).length = mk (s.drop (i + n)) := by
     rw [Int.toNat_natCast, show (mk (b :: r)).extract n (b :: r).length = mk ((b :: r).drop n) from mk_extract (b :: r) n, ← hd, List.drop_drop]
    rw [if_pos (by omega), if_pos (by omega), if_pos (by simp only [List.length_cons]; omega), if_pos (by omega), e]
    have nx := ih (m - n) (by omega) (i + n) (by omega) (acc ++ [v]) (by simp; omega) K (by omega)
    have ew : i + n ≤ 4000000000 := by omega
    rw [w64 h0 (by omega), wAdd ew]
    rcases nx with ⟨out, h1, h2, h3⟩ | ⟨p', h1, h2⟩
    ·exact .inl ⟨out, h1, h2, fun _ => h3 (.inl (by simp))⟩
    exact .inr ⟨p', h1, h2⟩
   have e92 : ((b.toNat : Int) = 92) ↔ b = 92 := u8i b 92
   by_cases h92 : b = 92
   ·subst h92
    have hone := one_esc s (by omega) i r hd K (by omega)
    have hesc := esc_mk r (by omega)
    have hbd := escL_bd r
    rw [if_pos (by rfl), hone, hesc, Option.bind_some, Option.bind_some]
    obtain ⟨⟨v, n⟩, hvn⟩ : ∃ vn, escL r = vn := ⟨_, rfl⟩
    rw [hvn] at hbd ⊢
    obtain ⟨b0, b1, b2, b3⟩ := hbd
    have b0 : 0 ≤ v := b0
    have b1 : v ≤ 1099511627776 := b1
    have b2 : 0 ≤ n := b2
    have b3 : n ≤ (r.length : Int) + 1 := b3
    show Both p _ (if n = 0 then _ else (if v > top then _ else _)) (if n = 0 then _ else (if v > top then _ else _))
    by_cases hn : n = 0
    ·rw [if_pos hn, if_pos hn]; exact .inr ⟨_, rfl, rfl⟩
    rw [if_neg hn, if_neg hn]
    by_cases hv : v > top
    ·rw [if_pos hv, if_pos hv]; exact .inr ⟨_, rfl, rfl⟩
    rw [if_neg hv, if_neg hv]
    exact step v n b0 b1 (by omega) (by omega)
   have hu := b.toNat_lt
   have hu2 : ¬ (b.toNat : Int) > top := by omega
   have this := step (b.toNat : Int) 1 (by omega) (by omega) (by decide) (by omega)
   have c1 : (0 : Int) ≤ (i : Int) := by omega
   have c2 : (i : Int) < ((mk s).size : Int) := by rw [mk_size]; omega
   have e1 : IntKind.u64.wrap (b.toNat : Int) = (b.toNat : Int) := u64id (by omega) (by omega)
   have e2 : wrap64 (b.toNat : Int) = (b.toNat : Int) := w64 (by omega) (by omega)
   have hone : d_one.f K (mk s) (i : Int) = some ((b.toNat : Int), 1) := by
    unfold d_one.f
    rw [if_pos c1, if_pos c2, bt_mk s i hlt, hsb, if_neg (fun h => h92 (e92.1 h)), e2]
   rw [if_neg (fun h => h92 (e92.1 h)), if_neg (by decide), e1, if_neg hu2, hone, Option.bind_some]
   show Both p _ _ (if (1 : Int) = 0 then _ else (if (b.toNat : Int) > top then _ else _))
   rw [if_neg (show ¬ ((1 : Int) = 0) by decide), if_neg hu2]
   rw [if_pos (show (0 : Int) ≤ 1 by decide)] at this
   exact this
theorem cut_lit (q : UInt8) (p r : List UInt8) (hp : q ∉ p) : cut (p ++ q :: r) [q] = (p, r, true) := by
 have hix : index (p ++ q :: r) [q] = (p.length : Int) := by
  refine index_first (by simp) ?_ ?_
  ·unfold occAt
   rw [List.drop_left]
   simp
  intro j hj
  unfold occAt
  rw [List.drop_append_of_le_length (by omega), List.drop_eq_getElem_cons hj]
  have : q ≠ p[j] := fun h => hp (h ▸ List.getElem_mem hj)
  show (q == p[j] && _) = false
  rw [beq_eq_false_iff_ne.2 this]
  rfl
 unfold cut
 rw [hix, if_pos (by omega), Int.toNat_natCast]
 simp
theorem prefix_lit (q : UInt8) (hq : q = 39 ∨ q = 34) (p r : List UInt8) (hp : ∀ c ∈ p, c ≠ 39 ∧ c ≠ 34) (hl : (p ++ q :: r).length ≤ 1000000) : ∀ (m i : Nat), i + m = p.length → ∀ k, m + 1 ≤ k → d_prefix.l0 k (mk (p ++ q :: r)) (i : Int) = some (p.length : Int)
 | 0, i, h, k, hk => by
  obtain ⟨K, rfl⟩ : ∃ K, k = K + 1 := ⟨k - 1, by omega⟩
  obtain rfl : i = p.length := by omega
  rw [d_prefix.l0, mk_size, if_pos (by omega), if_pos (by simp only [List.length_append, List.length_cons]; omega), bt_app]
  rcases hq with rfl | rfl
  ·rw [if_pos (by rfl)]
  rw [if_neg (by decide), if_pos (by rfl)]
 | m + 1, i, h, k, hk => by
  obtain ⟨K, rfl⟩ : ∃ K, k = K + 1 := ⟨k - 1, by omega⟩
  have hi : i < p.length := by omega
  have hi2 : i < (p ++ q :: r).length := by simp; omega
  have hg : (p ++ q :: r)[i] = p[i] := List.getElem_append_left hi
  obtain ⟨n39, n34⟩ := hp p[i] (List.getElem_mem hi)
  rw [d_prefix.l0, mk_size, if_pos (by omega), if_pos (by omega), bt_mk _ i hi2, hg, if_neg (show ¬ (p[i].toNat : Int) = 39 from u8ne (b := 39) n39), if_neg (show ¬ (p[i].toNat : Int) = 34 from u8ne (b := 34) n34)]
  have nx := prefix_lit q hq p r hp hl m (i + 1) (by omega) K (by omega)
  have e : i + 1 ≤ 4000000000 := by omega
  rw [wSucc e]
  exact nx
def topOf (p : List UInt8) : Int := if p = [117] then 65535 else if p = [85] ∨ p = [76] then 4294967295 else 255
theorem topOf_ge (p : List UInt8) : 255 ≤ topOf p := by
 unfold topOf
 split
 ·decide
 split <;> decide
theorem els_both (q : UInt8) (hq : q = 39 ∨ q = 34) (p t : List UInt8) (hp : ∀ c ∈ p, c ≠ 39 ∧ c ≠ 34) (hl : (p ++ q :: (t ++ [q])).length ≤ 1000000) (k : Nat) (hk : 3 * (p ++ q :: (t ++ [q])).length + 40 ≤ k) :
  Both (mk p) (t ≠ []) (ctok_elements.f k (mk (p ++ q :: (t ++ [q]))) (mk [q])) (d_elements.f k (mk (p ++ q :: (t ++ [q]))) (p.length : Int)) := by
 obtain ⟨K, rfl⟩ : ∃ K, k = K + 1 + 1 + 1 := ⟨k - 3, by omega⟩
 have hlen : (p ++ q :: (t ++ [q])).length = p.length + t.length + 2 := by simp; omega
 have hqp : q ∉ p := fun h => by
  rcases hq with rfl | rfl
  ·exact (hp _ h).1 rfl
  exact (hp _ h).2 rfl
 have main : ∀ k1 k2, t.length + t.length + 20 ≤ k1 → t.length + t.length + 20 ≤ k2 → Both (mk p) (t ≠ []) (ctok_elements.l0 k1 (mk p) (mk t) (topOf p) []) (d_elements.l0 k2 (topOf p) (mk t) [] 0) := by
  intro k1 k2 h1 h2
  have := els_l0 t (by omega) (mk p) (topOf p) (topOf_ge p) t.length 0 (by omega) [] (by simp) (t.length + t.length + 20) (by omega)
  rw [List.drop_zero] at this
  rcases this with ⟨out, a, b, c⟩ | ⟨p', a, b⟩
  ·refine .inl ⟨out, lift_some (f := fun k => ctok_elements.l0 k (mk p) (mk t) (topOf p) []) (fun k => (ctok_elements.mono_l k).2 _ _ _ _) h1 a, lift_some (f := fun k => d_elements.l0 k (topOf p) (mk t) [] 0) (fun k => (d_elements.mono_l k).2.2.2 _ _ _ _) h2 b, fun h => c (.inr (List.length_pos_iff.2 h))⟩
  exact .inr ⟨p', lift_some (f := fun k => ctok_elements.l0 k (mk p) (mk t) (topOf p) []) (fun k => (ctok_elements.mono_l k).2 _ _ _ _) h1 a, lift_some (f := fun k => d_elements.l0 k (topOf p) (mk t) [] 0) (fun k => (d_elements.mono_l k).2.2.2 _ _ _ _) h2 b⟩
 have hP : ctok_elements.f (K + 1 + 1 + 1) (mk (p ++ q :: (t ++ [q]))) (mk [q]) = ctok_elements.l0 (K + 1 + 1) (mk p) (mk t) (topOf p) [] := by
  have hc : strings_Cut.f (mk (p ++ q :: (t ++ [q]))) (mk [q]) = some (mk p, mk (t ++ [q]), true) := by
   unfold strings_Cut.f
   rw [mk_size, if_pos (by omega), mk_list, mk_list, cut_lit q p _ hqp]
  have hj : ∀ top, ctok_elements.j0 (K + 1 + 1 + 1) (mk p) (mk (t ++ [q])) true top = ctok_elements.l0 (K + 1 + 1) (mk p) (mk t) top [] := by
   intro top
   have e : wrap64 (((t ++ [q]).length : Int) - 1) = (t.length : Int) := by
    rw [w64 (by simp) (by simp; omega)]; simp
   rw [ctok_elements.j0, if_pos rfl, mk_size, e, if_pos (by omega), if_pos (by simp only [List.length_append]; omega), Int.toNat_natCast, mk_take, List.take_left]
  unfold ctok_elements.f
  rw [hc, Option.bind_some]
  simp only [mk_toList, hj]
  unfold topOf
  by_cases h1 : p = [117]
  ·rw [if_pos h1, if_pos h1]
  rw [if_neg h1, if_neg h1]
  by_cases h2 : p = [85]
  ·rw [if_pos h2, if_pos (.inl h2)]
  rw [if_neg h2]
  by_cases h3 : p = [76]
  ·rw [if_pos h3, if_pos (.inr h3)]
  rw [if_neg h3, if_neg (by simp [h2, h3])]
 have hR : ∃ k2, t.length + t.length + 20 ≤ k2 ∧ d_elements.f (K + 1 + 1 + 1) (mk (p ++ q :: (t ++ [q]))) (p.length : Int) = d_elements.l0 k2 (topOf p) (mk t) [] 0 := by
  refine ⟨K, by omega, ?_⟩
  have hex : (mk (p ++ q :: (t ++ [q]))).extract 0 ((p.length : Nat) : Int).toNat = mk p := by
   rw [Int.toNat_natCast, mk_take, List.take_left]
  have hmid : (mk (p ++ q :: (t ++ [q]))).extract (p.length + 1) (p.length + t.length + 1) = mk t := by
   have := mk_mid (p ++ q :: (t ++ [q])) p.length
   rw [mid_app, hlen] at this
   exact this
  have j2 : ∀ top, d_elements.j2 (K + 1) (mk (p ++ q :: (t ++ [q]))) (p.length : Int) top = d_elements.l0 K top (mk t) [] 0 := by
   intro top
   have e1 : wrap64 ((p.length : Int) + 1) = ((p.length + 1 : Nat) : Int) := wSucc (by omega)
   have e2 : wrap64 (((p ++ q :: (t ++ [q])).length : Int) - 1) = ((p.length + t.length + 1 : Nat) : Int) := by
    rw [hlen, w64 (by omega) (by omega)]; omega
   rw [d_elements.j2, mk_size, e1, e2, if_pos (by clear e1 e2; omega), if_pos (by clear e1 e2; omega), if_pos (by clear e1 e2; rw [hlen]; omega), Int.toNat_natCast, Int.toNat_natCast, hmid]
  have j1 : ∀ top b, d_elements.j1 (K + 1 + 1) (mk (p ++ q :: (t ++ [q]))) (p.length : Int) top b = d_elements.l0 K (if b = true then 4294967295 else top) (mk t) [] 0 := by
   intro top b
   rw [d_elements.j1, j2, j2]
   cases b <;> simp
  have j0 : ∀ top, d_elements.j0 (K + 1 + 1 + 1) (mk (p ++ q :: (t ++ [q]))) (p.length : Int) top = d_elements.l0 K (if p = [85] ∨ p = [76] then 4294967295 else top) (mk t) [] 0 := by
   intro top
   rw [d_elements.j0, mk_size, if_pos (by omega), if_pos (by rw [hlen]; omega), hex, mk_toList, j1, j1]
   by_cases h2 : p = [85]
   ·rw [if_pos h2, if_pos rfl, if_pos (.inl h2)]
   rw [if_neg h2]
   by_cases h3 : p = [76]
   ·rw [if_pos (by simp [h3]), if_pos (.inr h3)]
   rw [if_neg (by simp [h3]), if_neg (by simp [h2, h3])]
  unfold d_elements.f
  rw [mk_size, if_pos (by omega), if_pos (by rw [hlen]; omega), hex, mk_toList, j0, j0]
  unfold topOf
  by_cases h1 : p = [117]
  ·rw [if_pos h1, if_pos h1, if_neg (by rw [h1]; decide)]
  rw [if_neg h1, if_neg h1]
 obtain ⟨k2, h2, hR⟩ := hR
 rw [hP, hR]
 exact main _ _ (by omega) h2
end Go.Proofs.YtcdleippdegibaaDoor.Ctk
namespace Go.Proofs.YtcdleippdegibaaDoor.Ctk
open Go Go.RowKit Go.Proofs Go.Proofs.YtcdleippdegibaaDoorW.PrintWords Go.Proofs.YtcdleippdegibaaDoor Go.Proofs.YtcdleippdegibaaDoor.PB Go.Proofs.YtcdleippdegibaaDoor.PR
set_option maxRecDepth 100000
def kws : List (List UInt8) := [[97, 117, 116, 111], [98, 114, 101, 97, 107], [99, 97, 115, 101], [99, 104, 97, 114], [99, 111, 110, 115, 116], [99, 111, 110, 116, 105, 110, 117, 101], [100, 101, 102, 97, 117, 108, 116], [100, 111], [100, 111, 117, 98, 108, 101], [101, 108, 115, 101], [101, 110, 117, 109], [101, 120, 116, 101, 114, 110], [102, 108, 111, 97, 116], [102, 111, 114], [103, 111, 116, 111], [105, 102], [105, 110, 108, 105, 110, 101], [105, 110, 116], [108, 111, 110, 103], [114, 101, 103, 105, 115, 116, 101, 114], [114, 101, 115, 116, 114, 105, 99, 116], [114, 101, 116, 117, 114, 110], [115, 104, 111, 114, 116], [115, 105, 103, 110, 101, 100], [115, 105, 122, 101, 111, 102], [115, 116, 97, 116, 105, 99], [115, 116, 114, 117, 99, 116], [115, 119, 105, 116, 99, 104], [116, 121, 112, 101, 100, 101, 102], [117, 110, 105, 111, 110], [117, 110, 115, 105, 103, 110, 101, 100], [118, 111, 105, 100], [118, 111, 108, 97, 116, 105, 108, 101], [119, 104, 105, 108, 101], [95, 65, 108, 105, 103, 110, 97, 115], [95, 65, 108, 105, 103, 110, 111, 102], [95, 65, 116, 111, 109, 105, 99], [95, 66, 111, 111, 108], [95, 67, 111, 109, 112, 108, 101, 120], [95, 71, 101, 110, 101, 114, 105, 99], [95, 73, 109, 97, 103, 105, 110, 97, 114, 121], [95, 78, 111, 114, 101, 116, 117, 114, 110], [95, 83, 116, 97, 116, 105, 99, 95, 97, 115, 115, 101, 114, 116], [95, 84, 104, 114, 101, 97, 100, 95, 108, 111, 99, 97, 108]]
def kall : List UInt8 := [32, 97, 117, 116, 111, 32, 98, 114, 101, 97, 107, 32, 99, 97, 115, 101, 32, 99, 104, 97, 114, 32, 99, 111, 110, 115, 116, 32, 99, 111, 110, 116, 105, 110, 117, 101, 32, 100, 101, 102, 97, 117, 108, 116, 32, 100, 111, 32, 100, 111, 117, 98, 108, 101, 32, 101, 108, 115, 101, 32, 101, 110, 117, 109, 32, 101, 120, 116, 101, 114, 110, 32, 102, 108, 111, 97, 116, 32, 102, 111, 114, 32, 103, 111, 116, 111, 32, 105, 102, 32, 105, 110, 108, 105, 110, 101, 32, 105, 110, 116, 32, 108, 111, 110, 103, 32, 114, 101, 103, 105, 115, 116, 101, 114, 32, 114, 101, 115, 116, 114, 105, 99, 116, 32, 114, 101, 116, 117, 114, 110, 32, 115, 104, 111, 114, 116, 32, 115, 105, 103, 110, 101, 100, 32, 115, 105, 122, 101, 111, 102, 32, 115, 116, 97, 116, 105, 99, 32, 115, 116, 114, 117, 99, 116, 32, 115, 119, 105, 116, 99, 104, 32, 116, 121, 112, 101, 100, 101, 102, 32, 117, 110, 105, 111, 110, 32, 117, 110, 115, 105, 103, 110, 101, 100, 32, 118, 111, 105, 100, 32, 118, 111, 108, 97, 116, 105, 108, 101, 32, 119, 104, 105, 108, 101, 32, 95, 65, 108, 105, 103, 110, 97, 115, 32, 95, 65, 108, 105, 103, 110, 111, 102, 32, 95, 65, 116, 111, 109, 105, 99, 32, 95, 66, 111, 111, 108, 32, 95, 67, 111, 109, 112, 108, 101, 120, 32, 95, 71, 101, 110, 101, 114, 105, 99, 32, 95, 73, 109, 97, 103, 105, 110, 97, 114, 121, 32, 95, 78, 111, 114, 101, 116, 117, 114, 110, 32, 95, 83, 116, 97, 116, 105, 99, 95, 97, 115, 115, 101, 114, 116, 32, 95, 84, 104, 114, 101, 97, 100, 95, 108, 111, 99, 97, 108, 32]
def chain : List (List UInt8) → ByteArray → Option Bool
 | [], _ => some false
 | w :: ws, a => if a.toList = w then some true else chain ws a
theorem chain_mem : ∀ (ws : List (List UInt8)) (a : ByteArray), chain ws a = some (decide (a.toList ∈ ws))
 | [], a => by simp [chain]
 | w :: ws, a => by
  simp only [chain, chain_mem ws a, List.mem_cons]
  by_cases h : a.toList = w
  ·rw [if_pos h]; simp [h]
  rw [if_neg h]; simp [h]
theorem kw_chain (a : ByteArray) : ctok_Keyword.f a = chain kws a := rfl
theorem kw_mk (l : List UInt8) : ctok_Keyword.f (mk l) = some (decide (l ∈ kws)) := by rw [kw_chain, chain_mem, mk_toList]
def at_ (W : List UInt8) (j : Nat) : Bool := decide (j + W.length ≤ 315) && ((kall.drop j).take W.length == W)
theorem kallB : (⟨#[32, 97, 117, 116, 111, 32, 98, 114, 101, 97, 107, 32, 99, 97, 115, 101, 32, 99, 104, 97, 114, 32, 99, 111, 110, 115, 116, 32, 99, 111, 110, 116, 105, 110, 117, 101, 32, 100, 101, 102, 97, 117, 108, 116, 32, 100, 111, 32, 100, 111, 117, 98, 108, 101, 32, 101, 108, 115, 101, 32, 101, 110, 117, 109, 32, 101, 120, 116, 101, 114, 110, 32, 102, 108, 111, 97, 116, 32, 102, 111, 114, 32, 103, 111, 116, 111, 32, 105, 102, 32, 105, 110, 108, 105, 110, 101, 32, 105, 110, 116, 32, 108, 111, 110, 103, 32, 114, 101, 103, 105, 115, 116, 101, 114, 32, 114, 101, 115, 116, 114, 105, 99, 116, 32, 114, 101, 116, 117, 114, 110, 32, 115, 104, 111, 114, 116, 32, 115, 105, 103, 110, 101, 100, 32, 115, 105, 122, 101, 111, 102, 32, 115, 116, 97, 116, 105, 99, 32, 115, 116, 114, 117, 99, 116, 32, 115, 119, 105, 116, 99, 104, 32, 116, 121, 112, 101, 100, 101, 102, 32, 117, 110, 105, 111, 110, 32, 117, 110, 115, 105, 103, 110, 101, 100, 32, 118, 111, 105, 100, 32, 118, 111, 108, 97, 116, 105, 108, 101, 32, 119, 104, 105, 108, 101, 32, 95, 65, 108, 105, 103, 110, 97, 115, 32, 95, 65, 108, 105, 103, 110, 111, 102, 32, 95, 65, 116, 111, 109, 105, 99, 32, 95, 66, 111, 111, 108, 32, 95, 67, 111, 109, 112, 108, 101, 120, 32, 95, 71, 101, 110, 101, 114, 105, 99, 32, 95, 73, 109, 97, 103, 105, 110, 97, 114, 121, 32, 95, 78, 111, 114, 101, 116, 117, 114, 110, 32, 95, 83, 116, 97, 116, 105, 99, 95, 97, 115, 115, 101, 114, 116, 32, 95, 84, 104, 114, 101, 97, 100, 95, 108, 111, 99, 97, 108, 32]⟩ : ByteArray) = mk kall := by kernel_rfl
theorem l0_blank (l : List UInt8) (x3 : ByteArray) (hl : l.length ≤ 1000) : ∀ (m i : Nat), i + m = l.length → ∀ K, d_Keyword.l0 (K + m + 1) (mk l) x3 (i : Int) = if (32 : UInt8) ∈ l.drop i then some false else d_Keyword.l1 K (mk l) x3 0
 | 0, i, h, K => by
  have : l.drop i = [] := List.drop_eq_nil_of_le (by omega)
  rw [this, d_Keyword.l0, mk_size]
  rw [if_neg (by omega), if_neg (by simp)]
 | m + 1, i, h, K => by
  have hi : i < l.length := by omega
  have e : K + (m + 1) + 1 = (K + m + 1) + 1 := by omega
  rw [e]
  rw [d_Keyword.l0, mk_size]
  rw [if_pos (by omega), if_pos (by omega), bt_mk l i hi, List.drop_eq_getElem_cons hi]
  by_cases hb : l[i] = 32
  ·rw [if_pos (by rw [hb]; rfl), if_pos (by rw [hb]; exact List.mem_cons_self)]
  rw [if_neg (fun q => hb (by rw [← UInt8.toNat_inj]; have : (32 : UInt8).toNat = 32 := rfl; omega)), w64 (by omega) (by omega)]
  have := l0_blank l x3 hl m (i + 1) (by omega) K
  rw [show ((i : Int) + 1) = ((i + 1 : Nat) : Int) by omega, this]
  have hc : (32 : UInt8) ∈ l[i] :: l.drop (i + 1) ↔ (32 : UInt8) ∈ l.drop (i + 1) := by
   rw [List.mem_cons]
   exact ⟨fun h => h.resolve_left (fun q => hb q.symm), .inr⟩
  simp only [hc]
theorem l1_find (l W : List UInt8) (hW : W.length = l.length + 2) (hl : l.length ≤ 1000) (hn : 0 < l.length) : ∀ (m i : Nat), i + m = 316 → ∀ K, d_Keyword.l1 (K + 2 * m + 2) (mk l) (mk W) (i : Int) = some ((List.range' i m).any (at_ W))
 | 0, i, h, K => by
  obtain rfl : i = 316 := by omega
  rw [d_Keyword.l1]
  simp only [mk_size, List.range'_zero, List.any_nil]
  rw [w64 (by omega) (by omega), if_neg (by omega)]
  simp [d_Keyword.j2]
 | m + 1, i, h, K => by
  have e : K + 2 * (m + 1) + 2 = (K + 2 * m + 2) + 1 + 1 := by omega
  rw [e]
  rw [d_Keyword.l1]
  simp only [mk_size, List.range'_succ, List.any_cons]
  rw [w64 (by omega) (by omega)]
  by_cases hle : i + W.length ≤ 315
  ·rw [if_pos (by omega), decide_eq_true (by omega : (l.length : Int) > 0)]
   rw [d_Keyword.j2, kallB]
   simp only [mk_size]
   have e1 : wrap64 ((i : Int) + (W.length : Int)) = (i : Int) + (W.length : Int) := w64 (by omega) (by omega)
   have e2 : (i : Int) ≤ (i : Int) + (W.length : Int) := by omega
   have e3 : (i : Int) + (W.length : Int) ≤ 315 := by omega
   have e4 : (0 : Int) ≤ (i : Int) := by omega
   rw [if_pos trivial, if_pos e4]
   simp only [e1]
   rw [if_pos e2, if_pos e3]
   have hx : ((mk kall).extract ((i : Int) : Int).toNat (((i : Int) + (W.length : Int)) : Int).toNat) = mk ((kall.drop i).take W.length) := by
    rw [show ((i : Int) + (W.length : Int)).toNat = i + W.length by omega, Int.toNat_natCast]
    apply ByteArray.ext
    apply Array.ext'
    simp [ByteArray.data_extract, List.extract_eq_take_drop]
   rw [hx, mk_toList, mk_toList]
   by_cases hq : (kall.drop i).take W.length = W
   ·rw [if_pos hq]
    simp [at_, hle, hq]
   rw [if_neg hq, w64 (by omega) (by omega), show ((i : Int) + 1) = ((i + 1 : Nat) : Int) by omega, l1_find l W hW hl hn m (i + 1) (by omega) K]
   simp [at_, hq]
  rw [if_neg (by omega)]
  rw [d_Keyword.j2, if_neg (by simp)]
  have : ∀ j ∈ i :: List.range' (i + 1) m, at_ W j = false := by
   intro j hj
   have : i ≤ j := by
    rcases List.mem_cons.1 hj with rfl | hj
    ·omega
    have := (List.mem_range'_1.1 hj).1; omega
   unfold at_
   rw [decide_eq_false (by omega)]
   rfl
  rw [this i (by simp), Bool.false_or]
  congr 1
  symm
  rw [List.any_eq_false]
  intro j hj
  rw [this j (by simp [hj])]
  simp
theorem kws_noblank : (kws.all fun w => !w.contains 32) = true := by kernel_rfl
theorem kws_found : (kws.all fun w => (List.range' 0 316).any (at_ (32 :: w ++ [32]))) = true := by kernel_rfl
def segs (j : Nat) : Bool := ((kall.drop j).head? != some 32) || ((kall.drop (j + 1)).takeWhile (· != 32) == []) || kws.contains ((kall.drop (j + 1)).takeWhile (· != 32))
theorem segs_all : ((List.range' 0 316).all segs) = true := by kernel_rfl
theorem takeWhile_stop (l r : List UInt8) (h : (32 : UInt8) ∉ l) : (l ++ 32 :: r).takeWhile (· != 32) = l := by
 induction l with
 | nil => simp
 | cons b l ih =>
  simp only [List.mem_cons, not_or] at h
  rw [List.cons_append, List.takeWhile_cons, if_pos (by simpa using fun q => h.1 q.symm), ih h.2]
theorem found_iff (l : List UInt8) (h : (32 : UInt8) ∉ l) (hne : l ≠ []) : (List.range' 0 316).any (at_ (32 :: l ++ [32])) = decide (l ∈ kws) := by
 rw [Bool.eq_iff_iff, List.any_eq_true, decide_eq_true_iff]
 constructor
 ·rintro ⟨j, hj, ha⟩
  simp only [at_, Bool.and_eq_true, decide_eq_true_iff, beq_iff_eq] at ha
  obtain ⟨_, ht⟩ := ha
  have hd : kall.drop j = 32 :: (l ++ 32 :: (kall.drop j).drop (32 :: l ++ [32]).length) := by
   have := List.take_append_drop (32 :: l ++ [32]).length (kall.drop j)
   rw [ht] at this
   rw [← this]
   simp
  have hs := List.all_eq_true.1 segs_all j hj
  have hd1 : kall.drop (j + 1) = l ++ 32 :: (kall.drop j).drop (32 :: l ++ [32]).length := by
   rw [← List.drop_drop (i := 1) (j := j), hd]
   simp
  unfold segs at hs
  rw [hd1, takeWhile_stop l _ h] at hs
  rw [hd] at hs
  simp only [List.head?_cons, bne_self_eq_false, Bool.false_or, Bool.or_eq_true, beq_iff_eq] at hs
  rcases hs with hs | hs
  ·exact absurd hs hne
  simpa using hs
 intro hm
 have := List.all_eq_true.1 kws_found l hm
 exact List.any_eq_true.1 this
theorem pad_mk (l : List UInt8) : ((⟨#[32]⟩ : ByteArray) ++ mk l) ++ (⟨#[32]⟩ : ByteArray) = mk (32 :: l ++ [32]) := by
 show (mk [32] ++ mk l) ++ mk [32] = _
 rw [mk_append, mk_append]
 rfl
theorem kw_nil : d_Keyword.l1 (0 + 2 * 316 + 2) (mk []) (mk (32 :: [] ++ [32])) 0 = some false := by kernel_rfl
theorem kw_ref (l : List UInt8) (hl : l.length ≤ 1000) : ∃ n, d_Keyword.f n (mk l) = some (decide (l ∈ kws)) := by
 refine ⟨(0 + 2 * 316 + 2) + l.length + 1, ?_⟩
 unfold d_Keyword.f
 have hz : ((⟨#[32]⟩ : ByteArray) ++ mk l).size = l.length + 1 := by
  show (mk [32] ++ mk l).size = _
  rw [mk_append, mk_size]
  simp
 rw [mk_size, if_pos (by omega), hz, if_pos (by omega), pad_mk]
 have h0 := l0_blank l (mk (32 :: l ++ [32])) hl l.length 0 (by omega) (0 + 2 * 316 + 2)
 rw [show ((0 : Nat) : Int) = 0 from rfl] at h0
 rw [h0, List.drop_zero]
 by_cases hb : (32 : UInt8) ∈ l
 ·rw [if_pos hb, decide_eq_false]
  intro hm
  have := List.all_eq_true.1 kws_noblank l hm
  simp [hb] at this
 rw [if_neg hb]
 by_cases hne : l = []
 ·subst hne
  have h1 : ([] : List UInt8) ∉ kws := by decide
  rw [decide_eq_false h1]
  exact kw_nil
 have hpos : 0 < l.length := List.length_pos_iff.2 hne
 have h1 := l1_find l (32 :: l ++ [32]) (by simp) hl hpos 316 0 (by omega) 0
 rw [show ((0 : Nat) : Int) = 0 from rfl] at h1
 rw [h1, found_iff l hb hne]
end Go.Proofs.YtcdleippdegibaaDoor.Ctk
namespace Go.Proofs.YtcdleippdegibaaDoor.Ctk
open Go Go.RowKit Go.Proofs Go.Lib Go.Proofs.YtcdleippdegibaaDoorW.PrintWords Go.Proofs.YtcdleippdegibaaDoor Go.Proofs.YtcdleippdegibaaDoor.PB Go.Proofs.YtcdleippdegibaaDoor.PC Go.Proofs.YtcdleippdegibaaDoor.PR Go.Proofs.YtcdleippdegibaaDoor.PE Go.Proofs.YtcdleippdegibaaDoor.Digits Go.Proofs.YtcdleippdegibaaDoor.LibG Go.Proofs.YtcdleippdegibaaDoor.ClassH Go.Proofs.YtcdleippdegibaaDoor.One
theorem char_l0 (out : List Int) (h1 : 0 < out.length) (h4 : out.length ≤ 4) : ∀ (m i : Nat), i + m = out.length → ∀ (x : Int) (k : Nat), m + 1 ≤ k → ∃ v, ctok_Char.l0 k out x out (out.length : Int) (i : Int) = some (v, 0)
 | 0, i, h, x, k, hk => by
  obtain ⟨K, rfl⟩ : ∃ K, k = K + 1 := ⟨k - 1, by omega⟩
  have w1 : wrap64 (8 * (out.length : Int)) = 8 * (out.length : Int) := w64 (by omega) (by omega)
  have w2 : wrap64 (8 * (out.length : Int) - 1) = 8 * (out.length : Int) - 1 := w64 (by omega) (by omega)
  have a1 : (0 : Int) ≤ 8 * (out.length : Int) - 1 := by clear w1 w2; omega
  have a2 : (0 : Int) ≤ 8 * (out.length : Int) := by clear w1 w2; omega
  have a3 : ¬ (i : Int) < (out.length : Int) := by clear w1 w2; omega
  rw [ctok_Char.l0, if_neg a3, w1, w2, if_pos a1]
  split
  ·first | exact ⟨_, rfl⟩ | (rw [if_pos a2]; exact ⟨_, rfl⟩)
  exact ⟨_, rfl⟩
 | m + 1, i, h, x, k, hk => by
  obtain ⟨K, rfl⟩ : ∃ K, k = K + 1 := ⟨k - 1, by omega⟩
  have a1 : (i : Int) < (out.length : Int) := by omega
  have a2 : (0 : Int) ≤ (i : Int) := by omega
  have e : i + 1 ≤ 4000000000 := by omega
  rw [ctok_Char.l0, if_pos a1, if_pos a2, if_pos a1, wSucc e]
  exact char_l0 out h1 h4 m (i + 1) (by omega) _ K (by omega)
theorem rchar_l0 (out : List Int) (h4 : out.length ≤ 1000000) (x6 : Int) : ∀ (m i : Nat), i + m = out.length → ∀ (x y : Int) (k : Nat), m + 1 ≤ k → ∃ v, d_Char.l0 k x6 out x y (i : Int) = some (v, 0)
 | 0, i, h, x, y, k, hk => by
  obtain ⟨K, rfl⟩ : ∃ K, k = K + 1 := ⟨k - 1, by omega⟩
  rw [d_Char.l0, if_neg (by omega)]
  split
  ·split <;> exact ⟨_, rfl⟩
  exact ⟨_, rfl⟩
 | m + 1, i, h, x, y, k, hk => by
  obtain ⟨K, rfl⟩ : ∃ K, k = K + 1 := ⟨k - 1, by omega⟩
  have e : i + 1 ≤ 4000000000 := by omega
  rw [d_Char.l0, if_pos (by omega), if_pos (by omega), wSucc e]
  exact rchar_l0 out h4 x6 m (i + 1) (by omega) _ _ K (by omega)
theorem pj1 (out : List Int) (p : ByteArray) (b : Bool) (h1 : b = false → 0 < out.length ∧ out.length ≤ 4) (k : Nat) (hk : 20 ≤ k) : ∃ v, ctok_Char.j1 k out p b = some (v, if b = true then 40 else 0) := by
 obtain ⟨K, rfl⟩ : ∃ K, k = K + 1 := ⟨k - 1, by omega⟩
 rw [ctok_Char.j1]
 cases b with
 | true => exact ⟨0, rfl⟩
 | false =>
  obtain ⟨h1, h4⟩ := h1 rfl
  rw [if_neg (show ¬ (false = true) by simp), if_neg (show ¬ (false = true) by simp)]
  by_cases hp : p.toList = []
  ·rw [if_pos hp]
   exact char_l0 out h1 h4 out.length 0 (by omega) 0 K (by omega)
  rw [if_neg hp, if_pos (by omega)]; exact ⟨_, rfl⟩
theorem rj1 (out : List Int) (p : Int) (b : Bool) (h1 : b = false → out.length ≤ 4) (k : Nat) (hk : 20 ≤ k) : ∃ v, d_Char.j1 k p out b = some (v, if b = true then 40 else 0) := by
 obtain ⟨K, rfl⟩ : ∃ K, k = K + 1 := ⟨k - 1, by omega⟩
 rw [d_Char.j1]
 cases b with
 | true => exact ⟨0, rfl⟩
 | false =>
  have h4 := h1 rfl
  rw [if_neg (by simp), if_neg (by simp)]
  exact rchar_l0 out (by omega) p out.length 0 (by omega) 0 1 K (by omega)
theorem pre_noq (p : List UInt8) (h : p ∈ pres) : ∀ c ∈ p, c ≠ 39 ∧ c ≠ 34 := by
 simp only [pres, List.mem_cons, List.not_mem_nil, or_false] at h
 rcases h with rfl | rfl | rfl | rfl | rfl <;> decide
theorem char_both (l : List UInt8) (hl : l.length ≤ 1000) (k : Nat) (hk : 10 * l.length + 500 ≤ k) : ∃ v v' e, ctok_Char.f k (mk l) = some (v, e) ∧ d_Char.f k (mk l) = some (v', e) := by
 obtain ⟨K, rfl⟩ : ∃ K, k = K + 1 := ⟨k - 1, by omega⟩
 obtain ⟨r, b, ho, h3, _⟩ := one_mk l (by omega) (K + 1) (by omega)
 obtain ⟨r', b', ho', h3', _⟩ := one_ref l (by omega) (K + 1) (by omega)
 unfold ctok_Char.f d_Char.f
 rw [ho, ho', Option.bind_some, Option.bind_some]
 by_cases h39 : isL 39 l pre39 = true
 ·obtain ⟨rfl, rfl⟩ := h3.2 h39
  obtain ⟨rfl, rfl⟩ := h3'.2 h39
  rw [if_pos rfl, if_pos rfl]
  show ∃ v v' e, ctok_Char.j0 (K + 1) (mk l) false = some (v, e) ∧ d_Char.j0 (K + 1) (mk l) false = some (v', e)
  obtain ⟨p, hp, rr, rfl, t, rfl, _, hne⟩ := (isL_iff 39 (.inl rfl) l pre39 u39).1 h39
  have hpn := pre_noq p ((in39 p).1 hp).1
  have hel := els_both 39 (.inl rfl) p t hpn (by omega) K (by omega)
  have hpre : d_prefix.f K (mk (p ++ 39 :: (t ++ [39]))) = some (p.length : Int) := prefix_lit 39 (.inl rfl) p (t ++ [39]) hpn (by omega) p.length 0 (by omega) K (by simp only [List.length_append, List.length_cons] at hk; omega)
  rw [ctok_Char.j0, d_Char.j0, if_neg (by simp), if_neg (by simp), hpre, Option.bind_some]
  rcases hel with ⟨out, e1, e2, e3⟩ | ⟨p', e1, e2⟩
  ·have hout : out ≠ [] := e3 (hne rfl)
   have hpos : 0 < out.length := List.length_pos_iff.2 hout
   rw [show (⟨#[39]⟩ : ByteArray) = mk [39] from rfl, e1, e2, Option.bind_some, Option.bind_some]
   have kk : 20 ≤ K := by omega
   show ∃ v v' e, (if (0 : Int) = 0 then (if (out.length : Int) = 0 then (ctok_Char.j1 K out (mk p) true) else (if (out.length : Int) > 4 then (ctok_Char.j1 K out (mk p) true) else (if (mk p).toList = ([] : List UInt8) then (ctok_Char.j1 K out (mk p) false) else (ctok_Char.j1 K out (mk p) (decide ((out.length : Int) > 1)))))) else (ctok_Char.j1 K out (mk p) true)) = some (v, e) ∧ (if (true : Bool) = true then (if (out.length : Int) > 4 then (d_Char.j1 K (p.length : Int) out true) else (if (p.length : Int) > 0 then (d_Char.j1 K (p.length : Int) out (decide ((out.length : Int) > 1))) else (d_Char.j1 K (p.length : Int) out false))) else (d_Char.j1 K (p.length : Int) out true)) = some (v', e)
   rw [if_pos rfl, if_neg (by omega), if_pos rfl, mk_toList]
   by_cases h4 : (out.length : Int) > 4
   ·rw [if_pos h4, if_pos h4]
    obtain ⟨v, hv⟩ := pj1 out (mk p) true (by simp) K kk
    obtain ⟨v', hv'⟩ := rj1 out (p.length : Int) true (by simp) K kk
    exact ⟨v, v', _, hv, hv'⟩
   rw [if_neg h4, if_neg h4]
   have fin : ∀ b, ∃ v v' e, ctok_Char.j1 K out (mk p) b = some (v, e) ∧ d_Char.j1 K (p.length : Int) out b = some (v', e) := by
    intro b
    obtain ⟨v, hv⟩ := pj1 out (mk p) b (fun _ => ⟨hpos, by omega⟩) K kk
    obtain ⟨v', hv'⟩ := rj1 out (p.length : Int) b (fun _ => by omega) K kk
    exact ⟨v, v', _, hv, hv'⟩
   by_cases hp0 : p = []
   ·rw [if_pos hp0, if_neg (by rw [hp0]; simp)]; exact fin false
   have := List.length_pos_iff.2 hp0
   rw [if_neg hp0, if_pos (by omega)]; exact fin _
  rw [show (⟨#[39]⟩ : ByteArray) = mk [39] from rfl, e1, e2, Option.bind_some, Option.bind_some]
  obtain ⟨v, hv⟩ := pj1 [] p' true (by simp) K (by omega)
  obtain ⟨v', hv'⟩ := rj1 [] (p.length : Int) true (by simp) K (by omega)
  refine ⟨v, v', 40, ?_, ?_⟩
  ·rw [if_neg (show ¬ ((40 : Int)) = 0 by decide)]; exact hv
  rw [if_neg (show ¬ (([] : List Int), false).2 = true by decide)]; exact hv'
 have t1 : ctok_Char.j0 (K + 1) (mk l) true = some (0, 40) := by rw [ctok_Char.j0, if_pos rfl]
 have t2 : d_Char.j0 (K + 1) (mk l) true = some (0, 40) := by rw [d_Char.j0, if_pos rfl]
 refine ⟨0, 0, 40, ?_, ?_⟩
 ·cases b with
  | false => rw [if_neg (by simp)]; exact t1
  | true =>
   have : (r != 3) = true := by
    rw [bne_iff_ne]; exact fun h => h39 (h3.1 ⟨rfl, h⟩)
   rw [if_pos rfl]
   show ctok_Char.j0 (K + 1) (mk l) (r != 3) = _
   rw [this]; exact t1
 cases b' with
 | false => rw [if_neg (by simp)]; exact t2
 | true =>
  have : (r' != 3) = true := by
   rw [bne_iff_ne]; exact fun h => h39 (h3'.1 ⟨rfl, h⟩)
  rw [if_pos rfl]
  show d_Char.j0 (K + 1) (mk l) (r' != 3) = _
  rw [this]; exact t2
theorem str_both (l : List UInt8) (hl : l.length ≤ 1000) (k : Nat) (hk : 10 * l.length + 500 ≤ k) : ∃ v e, ctok_Str.f k (mk l) = some (v, e) ∧ d_Str.f k (mk l) = some (v, e) := by
 obtain ⟨K, rfl⟩ : ∃ K, k = K + 1 := ⟨k - 1, by omega⟩
 obtain ⟨r, b, ho, _, h4⟩ := one_mk l (by omega) (K + 1) (by omega)
 obtain ⟨r', b', ho', _, h4'⟩ := one_ref l (by omega) (K + 1) (by omega)
 unfold ctok_Str.f d_Str.f
 rw [ho, ho', Option.bind_some, Option.bind_some]
 by_cases h34 : isL 34 l pre34 = true
 ·obtain ⟨rfl, rfl⟩ := h4.2 h34
  obtain ⟨rfl, rfl⟩ := h4'.2 h34
  rw [if_pos rfl, if_pos rfl, if_pos rfl]
  show ∃ v e, (ctok_elements.f (K + 1) (mk l) (mk [34])).bind (fun bt114 => some (bt114.1, bt114.2.2)) = some (v, e) ∧ d_Str.j0 (K + 1) (mk l) false = some (v, e)
  obtain ⟨p, hp, rr, rfl, t, rfl, _, hne⟩ := (isL_iff 34 (.inr rfl) l pre34 u34).1 h34
  have hpn := pre_noq p ((in34 p).1 hp)
  have hel := els_both 34 (.inr rfl) p t hpn (by omega) K (by omega)
  have hpre : d_prefix.f K (mk (p ++ 34 :: (t ++ [34]))) = some (p.length : Int) := prefix_lit 34 (.inr rfl) p (t ++ [34]) hpn (by omega) p.length 0 (by omega) K (by simp only [List.length_append, List.length_cons] at hk; omega)
  rw [d_Str.j0, if_neg (by simp), hpre, Option.bind_some]
  have up := ctok_elements.mono (mk (p ++ 34 :: (t ++ [34]))) (mk [34]) K
  rcases hel with ⟨out, e1, e2, e3⟩ | ⟨p', e1, e2⟩
  ·rw [up _ e1, e2, Option.bind_some, Option.bind_some]
   exact ⟨out, 0, rfl, rfl⟩
  rw [up _ e1, e2, Option.bind_some, Option.bind_some]
  exact ⟨[], 40, rfl, rfl⟩
 refine ⟨[], 40, ?_, ?_⟩
 ·cases b with
  | false => rw [if_neg (by simp)]
  | true =>
   have : ¬ r = 4 := fun h => h34 (h4.1 ⟨rfl, h⟩)
   rw [if_pos rfl]
   show (if r = 4 then _ else _) = _
   rw [if_neg this]
 have t2 : d_Str.j0 (K + 1) (mk l) true = some ([], 40) := by rw [d_Str.j0, if_pos rfl]
 cases b' with
 | false => rw [if_neg (by simp)]; exact t2
 | true =>
  have : (r' != 4) = true := by
   rw [bne_iff_ne]; exact fun h => h34 (h4'.1 ⟨rfl, h⟩)
  rw [if_pos rfl]
  show d_Str.j0 (K + 1) (mk l) (r' != 4) = _
  rw [this]; exact t2
theorem class_join (k : Nat) (c e : Int) (x : ByteArray) (h : d_class.f k c x = some e) : d_Class.f k c x = if e = 0 then some (0, ⟨#[]⟩, 40) else if e = 7 then (d_Canon.f x).bind fun t => some (e, t, 0) else some (e, x, 0) := by
 unfold d_Class.f
 rw [h, Option.bind_some]
theorem class_both (c : Int) (l : List UInt8) (hl : l.length ≤ 1000) : ∃ n r, ∀ k, n ≤ k → ctok_Class.f k c (mk l) = some r ∧ d_Class.f k c (mk l) = some r := by
 obtain ⟨nk, hkw⟩ := kw_ref l hl
 obtain ⟨ni, ir, ir', hi, hi', hie⟩ := int_both l hl
 refine ⟨nk + ni + 10 * l.length + 500, ?_⟩
 have hfl := fun (k : Nat) (hk : l.length + 9 ≤ k) => lift_some (k := k) (f := fun k => d_Float.f k (mk l)) (fun k => d_Float.mono _ k) (by omega) (float_ref l (by omega) 0)
 have hfm := fun (k : Nat) (hk : 6 ≤ k) => lift_some (k := k) (f := fun k => ctok_Float.f k (mk l)) (fun k => ctok_Float.mono _ k) (by omega) (float_mk 0 l (by omega))
 obtain ⟨fl, hfe⟩ : ∃ fl, (if hexL l = true then floatL 16 112 (l.drop 2) else floatL 10 101 l) = fl := ⟨_, rfl⟩
 rw [hfe] at hfl hfm
 by_cases c1 : c = 1
 ·subst c1
  refine ⟨(if decide (l ∈ kws) = true then 1 else 2, mk l, 0), fun k hk => ?_⟩
  have hk1 := lift_some (k := k) (f := fun k => d_Keyword.f k (mk l)) (fun k => d_Keyword.mono _ k) (by omega) hkw
  have hc : d_class.f k 1 (mk l) = some (if decide (l ∈ kws) = true then 1 else 2) := by
   unfold d_class.f
   rw [if_pos rfl, hk1, Option.bind_some]
   split <;> rfl
  constructor
  ·unfold ctok_Class.f
   rw [if_pos rfl, kw_mk, Option.bind_some]
   split <;> rfl
  rw [class_join k 1 _ (mk l) hc]
  split <;> rfl
 by_cases c2 : c = 2
 ·subst c2
  refine ⟨if ir.2.2 = 0 then (3, mk l, 0) else if fl = true then (4, mk l, 0) else (0, ⟨#[]⟩, 40), fun k hk => ?_⟩
  have hi1 := lift_some (k := k) (f := fun k => d_Int.f k (mk l)) (fun k => d_Int.mono _ k) (by omega) hi'
  have hc : d_class.f k 2 (mk l) = some (if ir.2.2 = 0 then 3 else if fl = true then 4 else 0) := by
   unfold d_class.f
   rw [if_neg (by decide), if_pos rfl, hi1, Option.bind_some, hfl k (by omega), Option.bind_some]
   by_cases h0 : ir.2.2 = 0
   ·rw [if_pos (hie.1 h0), if_pos h0]
   rw [if_neg (fun h => h0 (hie.2 h)), if_neg h0]
   split <;> rfl
  constructor
  ·unfold ctok_Class.f
   rw [if_neg (by decide), if_pos rfl, hi, Option.bind_some, hfm k (by omega), Option.bind_some]
   split
   ·rfl
   split <;> rfl
  rw [class_join k 2 _ (mk l) hc]
  by_cases h0 : ir.2.2 = 0
  ·simp only [if_pos h0]; rfl
  simp only [if_neg h0]
  cases fl <;> rfl
 by_cases c3 : c = 3
 ·subst c3
  obtain ⟨_, _, e0, ha, hb⟩ := char_both l hl (10 * l.length + 500) (by omega)
  refine ⟨if e0 = 0 then (5, mk l, 0) else (0, ⟨#[]⟩, 40), fun k hk => ?_⟩
  have ha1 := lift_some (k := k) (f := fun k => ctok_Char.f k (mk l)) (fun k => ctok_Char.mono _ k) (by omega) ha
  have hb1 := lift_some (k := k) (f := fun k => d_Char.f k (mk l)) (fun k => d_Char.mono _ k) (by omega) hb
  have hc : d_class.f k 3 (mk l) = some (if e0 = 0 then 5 else 0) := by
   unfold d_class.f
   rw [if_neg (by decide), if_neg (by decide), if_pos rfl, hb1, Option.bind_some]
   by_cases h0 : e0 = 0
   ·rw [if_pos (show _ = (0 : Int) from h0), if_pos h0]
   rw [if_neg (show ¬ _ = (0 : Int) from h0), if_neg h0]
  constructor
  ·unfold ctok_Class.f
   rw [if_neg (by decide), if_neg (by decide), if_pos rfl, ha1, Option.bind_some]
   by_cases h0 : e0 = 0
   ·rw [if_pos (show _ = (0 : Int) from h0), if_pos h0]
   rw [if_neg (show ¬ _ = (0 : Int) from h0), if_neg h0]
  rw [class_join k 3 _ (mk l) hc]
  by_cases h0 : e0 = 0
  ·simp only [if_pos h0]; rfl
  simp only [if_neg h0]; rfl
 by_cases c4 : c = 4
 ·subst c4
  obtain ⟨_, e0, ha, hb⟩ := str_both l hl (10 * l.length + 500) (by omega)
  refine ⟨if e0 = 0 then (6, mk l, 0) else (0, ⟨#[]⟩, 40), fun k hk => ?_⟩
  have ha1 := lift_some (k := k) (f := fun k => ctok_Str.f k (mk l)) (fun k => ctok_Str.mono _ k) (by omega) ha
  have hb1 := lift_some (k := k) (f := fun k => d_Str.f k (mk l)) (fun k => d_Str.mono _ k) (by omega) hb
  have hc : d_class.f k 4 (mk l) = some (if e0 = 0 then 6 else 0) := by
   unfold d_class.f
   rw [if_neg (by decide), if_neg (by decide), if_neg (by decide), if_pos rfl, hb1, Option.bind_some]
   by_cases h0 : e0 = 0
   ·rw [if_pos (show _ = (0 : Int) from h0), if_pos h0]
   rw [if_neg (show ¬ _ = (0 : Int) from h0), if_neg h0]
  constructor
  ·unfold ctok_Class.f
   rw [if_neg (by decide), if_neg (by decide), if_neg (by decide), if_pos rfl, ha1, Option.bind_some]
   by_cases h0 : e0 = 0
   ·rw [if_pos (show _ = (0 : Int) from h0), if_pos h0]
   rw [if_neg (show ¬ _ = (0 : Int) from h0), if_neg h0]
  rw [class_join k 4 _ (mk l) hc]
  by_cases h0 : e0 = 0
  ·simp only [if_pos h0]; rfl
  simp only [if_neg h0]; rfl
 by_cases c5 : c = 5
 ·subst c5
  obtain ⟨t, ht⟩ : ∃ t, ctok_Canon.f (mk l) = some t := by
   unfold ctok_Canon.f
   repeat (split; exact ⟨_, rfl⟩)
   exact ⟨_, rfl⟩
  have ht' : d_Canon.f (mk l) = some t := ht
  refine ⟨(7, t, 0), fun k hk => ?_⟩
  have hc : d_class.f k 5 (mk l) = some 7 := by
   unfold d_class.f
   rw [if_neg (by decide), if_neg (by decide), if_neg (by decide), if_neg (by decide), if_pos rfl]
  constructor
  ·unfold ctok_Class.f
   rw [if_neg (by decide), if_neg (by decide), if_neg (by decide), if_neg (by decide), if_pos rfl, ht]
   rfl
  rw [class_join k 5 _ (mk l) hc, ht']
  rfl
 refine ⟨(0, ⟨#[]⟩, 40), fun k hk => ?_⟩
 have hc : d_class.f k c (mk l) = some 0 := by
  unfold d_class.f
  rw [if_neg c1, if_neg c2, if_neg c3, if_neg c4, if_neg c5]
 constructor
 ·unfold ctok_Class.f
  rw [if_neg c1, if_neg c2, if_neg c3, if_neg c4, if_neg c5]
 rw [class_join k c _ (mk l) hc]
 rfl
end Go.Proofs.YtcdleippdegibaaDoor.Ctk
namespace Go.Proofs.YtcdleippdegibaaDoor.Ctk
open Go Go.RowKit Go.Proofs Go.Lib Go.Proofs.YtcdleippdegibaaDoorW.PrintWords Go.Proofs.YtcdleippdegibaaDoor Go.Proofs.YtcdleippdegibaaDoor.PK Go.Proofs.YtcdleippdegibaaDoor.PF Go.Proofs.YtcdleippdegibaaDoor.PT Go.Proofs.YtcdleippdegibaaDoor.PR Go.Proofs.YtcdleippdegibaaDoor.ClassH
def Ev {α : Type} (f : Nat → Option α) (r : α) : Prop := ∃ n, ∀ k, n ≤ k → f k = some r
theorem Ev.step {α : Type} {f g : Nat → Option α} {r : α} (h : ∀ k, f (k + 1) = g k) (hg : Ev g r) : Ev f r := by
 obtain ⟨n, hn⟩ := hg
 refine ⟨n + 1, fun k hk => ?_⟩
 obtain ⟨K, rfl⟩ : ∃ K, k = K + 1 := ⟨k - 1, by omega⟩
 rw [h, hn K (by omega)]
theorem Ev.bind {α β : Type} {f : Nat → Option α} {a : α} {g : Nat → α → Option β} {r : β} (hf : Ev f a) (hg : Ev (fun k => g k a) r) : Ev (fun k => (f k).bind (g k)) r := by
 obtain ⟨n, hn⟩ := hf
 obtain ⟨m, hm⟩ := hg
 refine ⟨n + m, fun k hk => ?_⟩
 show (f k).bind (g k) = _
 rw [hn k (by omega), Option.bind_some]
 exact hm k (by omega)
theorem Ev.const {α : Type} (r : α) : Ev (fun _ => some r) r := ⟨0, fun _ _ => rfl⟩
theorem Ev.congr {α : Type} {f g : Nat → Option α} {r : α} (h : ∀ k, f k = g k) (hg : Ev g r) : Ev f r := by
 obtain ⟨n, hn⟩ := hg
 exact ⟨n, fun k hk => (h k).trans (hn k hk)⟩
def isGap (t : S44) : Bool := t.f0 == 8 || t.f0 == 9
def spaced (t : S44) (left : Bool) : S44 := ⟨t.f0, t.f1, t.f2, t.f3, t.f4 || left⟩
def bareL : Bool → List S44 → List S44
 | _, [] => []
 | left, t :: r => if isGap t = true then bareL true r else spaced t left :: bareL false r
theorem rd44 (l : List S44) (i : Nat) (h : i < l.length) : rd_T44 l (i : Int) = l[i] := by
 unfold rd_T44
 rw [Int.toNat_natCast, List.getD_eq_getElem?_getD, List.getElem?_eq_getElem h]
 rfl
theorem wNext {n : Nat} (h : n + 1 ≤ 3000000000000) : wrap64 ((n : Int) + 1) = ((n + 1 : Nat) : Int) := by
 rw [w64 (by omega) (by omega)]; omega
theorem bare_l0 (l : List S44) (hl : l.length ≤ 2932031007400) : ∀ (m i : Nat), i + m = l.length → ∀ (acc : List S44) (left : Bool), acc.length ≤ i →
  Ev (fun k => scan_Bare.l0 k acc left l (l.length : Int) (i : Int)) (acc ++ bareL left (l.drop i))
 | 0, i, h, acc, left, ha => by
  refine .step (g := fun _ => some acc) (fun k => ?_) ?_
  ·rw [scan_Bare.l0, if_neg (by omega)]
  rw [List.drop_eq_nil_of_le (by omega)]
  simpa [bareL] using Ev.const acc
 | m + 1, i, h, acc, left, ha => by
  have hi : i < l.length := by omega
  have e : i + 1 ≤ 3000000000000 := by omega
  have a1 : (i : Int) < (l.length : Int) := by omega
  have a2 : (0 : Int) ≤ (i : Int) := by omega
  have a3 : acc.length < 2932031007402 := by omega
  rw [List.drop_eq_getElem_cons hi]
  by_cases h8 : l[i].f0 = 8
  ·refine .step (g := fun k => scan_Bare.l0 k acc true l (l.length : Int) ((i + 1 : Nat) : Int)) (fun k => ?_) ?_
   ·rw [scan_Bare.l0, if_pos a1, if_pos a2, if_pos a1, rd44 l i hi, if_pos h8, wNext e]
   have := bare_l0 l hl m (i + 1) (by omega) acc true (by omega)
   have hg : isGap l[i] = true := by simp [isGap, h8]
   rw [bareL, if_pos hg]
   exact this
  by_cases h9 : l[i].f0 = 9
  ·refine .step (g := fun k => scan_Bare.l0 k acc true l (l.length : Int) ((i + 1 : Nat) : Int)) (fun k => ?_) ?_
   ·rw [scan_Bare.l0, if_pos a1, if_pos a2, if_pos a1, rd44 l i hi, if_neg h8, if_pos h9, wNext e]
   have := bare_l0 l hl m (i + 1) (by omega) acc true (by omega)
   have hg : isGap l[i] = true := by simp [isGap, h9]
   rw [bareL, if_pos hg]
   exact this
  refine .step (g := fun k => scan_Bare.l0 k (acc ++ [spaced l[i] left]) false l (l.length : Int) ((i + 1 : Nat) : Int)) (fun k => ?_) ?_
  ·rw [scan_Bare.l0, if_pos a1, if_pos a2, if_pos a1, rd44 l i hi, if_neg h8, if_neg h9, wNext e]
   unfold spaced
   cases h4 : l[i].f4 with
   | true => rw [if_pos rfl, if_pos a3]; rfl
   | false => rw [if_neg (by simp), if_pos a3]; rfl
  have := bare_l0 l hl m (i + 1) (by omega) (acc ++ [spaced l[i] left]) false (by simp; omega)
  have hg : ¬ isGap l[i] = true := by simp [isGap, h8, h9]
  rw [bareL, if_neg hg]
  rw [List.append_assoc] at this
  exact this
theorem bare_mk (l : List S44) (hl : l.length ≤ 2932031007400) : Ev (fun k => scan_Bare.f k l) (bareL false l) := by
 have := bare_l0 l hl l.length 0 (by omega) [] false (by simp)
 rw [List.drop_zero, List.nil_append] at this
 exact this
def leftAt (l : List S44) : Nat → Bool
 | 0 => false
 | i + 1 => match l[i]? with | some t => isGap t | none => false
theorem left_succ (l : List S44) (i : Nat) (h : i < l.length) : leftAt l (i + 1) = isGap l[i] := by
 show (match l[i]? with | some t => isGap t | none => false) = _
 rw [List.getElem?_eq_getElem h]
theorem rbare_l0 (l : List S44) (hl : l.length ≤ 2932031007400) : ∀ (m i : Nat), i + m = l.length → ∀ (acc : List S44), acc.length ≤ i →
  Ev (fun k => b_Bare.l0 k l acc (i : Int)) (acc ++ bareL (leftAt l i) (l.drop i))
 | 0, i, h, acc, ha => by
  refine .step (g := fun _ => some acc) (fun k => ?_) ?_
  ·rw [b_Bare.l0, if_neg (by omega)]
  rw [List.drop_eq_nil_of_le (by omega)]
  simpa [bareL] using Ev.const acc
 | m + 1, i, h, acc, ha => by
  have hi : i < l.length := by omega
  have e : i + 1 ≤ 3000000000000 := by omega
  have a1 : (i : Int) < (l.length : Int) := by omega
  have a2 : (0 : Int) ≤ (i : Int) := by omega
  have a3 : acc.length < 2932031007402 := by omega
  have nl : leftAt l (i + 1) = isGap l[i] := left_succ l i hi
  rw [List.drop_eq_getElem_cons hi]
  have first : ∀ k, b_Bare.l0 (k + 1) l acc (i : Int) = b_Bare.j1 k l acc (i : Int) (isGap l[i]) := by
   intro k
   rw [b_Bare.l0, if_pos a1, if_pos a2, rd44 l i hi]
   by_cases h8 : l[i].f0 = 8
   ·rw [if_pos h8, show isGap l[i] = true by simp [isGap, h8]]
   rw [if_neg h8, show isGap l[i] = (l[i].f0 == 9) by simp [isGap, h8]]
  refine .step first ?_
  cases hg : isGap l[i] with
  | true =>
   refine .step (g := fun k => b_Bare.l0 k l acc ((i + 1 : Nat) : Int)) (fun k => ?_) ?_
   ·rw [b_Bare.j1, if_pos rfl, wNext e]
   have := rbare_l0 l hl m (i + 1) (by omega) acc (by omega)
   rw [nl, hg] at this
   rw [bareL, if_pos hg]
   exact this
  | false =>
   refine .step (g := fun k => b_Bare.l0 k l (acc ++ [spaced l[i] (leftAt l i)]) ((i + 1 : Nat) : Int)) (fun k => ?_) ?_
   ·rw [b_Bare.j1, if_neg (by simp), if_pos a2, if_pos a1, rd44 l i hi, wNext e]
    by_cases h0 : (i : Int) > 0
    ·obtain ⟨j, rfl⟩ : ∃ j, i = j + 1 := ⟨i - 1, by omega⟩
     have hj : j < l.length := by omega
     have b1 : (0 : Int) ≤ (j : Int) := by omega
     have b2 : (j : Int) < (l.length : Int) := by omega
     have w1 : wrap64 (((j + 1 : Nat) : Int) - 1) = (j : Int) := by rw [w64 (by omega) (by omega)]; omega
     have lf : leftAt l (j + 1) = isGap l[j] := left_succ l j hj
     rw [if_pos h0, w1, if_pos b1, if_pos b2, rd44 l j hj, lf]
     by_cases h8 : l[j].f0 = 8
     ·rw [if_pos h8, if_pos a3, show isGap l[j] = true by simp [isGap, h8]]
      simp [spaced]
     rw [if_neg h8]
     by_cases h9 : l[j].f0 = 9
     ·rw [if_pos h9, if_pos a3, show isGap l[j] = true by simp [isGap, h9]]
      simp [spaced]
     rw [if_neg h9, if_pos a3, show isGap l[j] = false by simp [isGap, h8, h9]]
     simp [spaced]
    obtain rfl : i = 0 := by omega
    rw [if_neg h0, if_pos a3]
    simp [spaced, leftAt]
   have := rbare_l0 l hl m (i + 1) (by omega) (acc ++ [spaced l[i] (leftAt l i)]) (by simp; omega)
   have hg' : ¬ isGap l[i] = true := by simp [hg]
   rw [bareL, if_neg hg']
   rw [List.append_assoc, nl, hg] at this
   exact this
theorem bare_ref (l : List S44) (hl : l.length ≤ 2932031007400) : Ev (fun k => b_Bare.f k l) (bareL false l) := by
 have := rbare_l0 l hl l.length 0 (by omega) [] (by simp)
 rw [List.drop_zero, List.nil_append] at this
 exact this
theorem bareL_len : ∀ (l : List S44) (b : Bool), (bareL b l).length ≤ l.length
 | [], _ => by simp [bareL]
 | t :: r, b => by
  rw [bareL]
  split
  ·have := bareL_len r true; simp; omega
  have := bareL_len r false; simp; omega
theorem bareL_text : ∀ (l : List S44) (b : Bool), (∀ t ∈ l, t.f1.size ≤ 1000) → ∀ t ∈ bareL b l, t.f1.size ≤ 1000
 | [], _, _, t, h => by cases h
 | a :: r, b, h, t, ht => by
  rw [bareL] at ht
  split at ht
  ·exact bareL_text r true (fun x hx => h x (by simp [hx])) t ht
  rcases List.mem_cons.1 ht with rfl | ht
  ·exact h a (by simp)
  exact bareL_text r false (fun x hx => h x (by simp [hx])) t ht
theorem toks_l0 (b : List S44) (hl : b.length ≤ 2932031007400) (hb : ∀ t ∈ b, t.f1.size ≤ 1000) : ∀ (m i : Nat), i + m = b.length → ∀ (acc : List S23), acc.length ≤ i →
  ∃ r, Ev (fun k => ctok_Tokens.l0 k acc b (b.length : Int) (i : Int)) r ∧ Ev (fun k => d_Tokens.l0 k b acc (i : Int)) r ∧ r.1.length ≤ b.length
 | 0, i, h, acc, ha => by
  refine ⟨(acc, 0, 0), ?_, ?_, by show acc.length ≤ b.length; omega⟩
  ·refine .step (g := fun _ => some (acc, 0, 0)) (fun k => ?_) (.const _)
   rw [ctok_Tokens.l0, if_neg (by omega)]
  refine .step (g := fun _ => some (acc, 0, 0)) (fun k => ?_) (.const _)
  rw [d_Tokens.l0, if_neg (by omega)]
 | m + 1, i, h, acc, ha => by
  have hi : i < b.length := by omega
  have e : i + 1 ≤ 3000000000000 := by omega
  have a1 : (i : Int) < (b.length : Int) := by omega
  have a2 : (0 : Int) ≤ (i : Int) := by omega
  have a3 : acc.length < 5864062014805 := by omega
  obtain ⟨n, ⟨c1, c2, c3⟩, hc⟩ := class_both b[i].f0 b[i].f1.data.toList (hb b[i] (List.getElem_mem hi))
  have hc1 : Ev (fun k => ctok_Class.f k b[i].f0 b[i].f1) (c1, c2, c3) := ⟨n, fun k hk => (hc k hk).1⟩
  have hc2 : Ev (fun k => d_Class.f k b[i].f0 b[i].f1) (c1, c2, c3) := ⟨n, fun k hk => (hc k hk).2⟩
  by_cases h0 : c3 = 0
  ·obtain ⟨r, r1, r2, r3⟩ := toks_l0 b hl hb m (i + 1) (by omega) (acc ++ [⟨c1, c2⟩]) (by simp; omega)
   refine ⟨r, ?_, ?_, r3⟩
   ·refine .step (g := fun k => (ctok_Class.f k b[i].f0 b[i].f1).bind fun x => if x.2.2 = 0 then (if acc.length < 5864062014805 then ctok_Tokens.l0 k (acc ++ [⟨x.1, x.2.1⟩]) b (b.length : Int) (wrap64 ((i : Int) + 1)) else none) else some ([], (i : Int), x.2.2)) (fun k => ?_) ?_
    ·rw [ctok_Tokens.l0, if_pos a1, if_pos a2, if_pos a1, rd44 b i hi]
    refine .bind hc1 ?_
    refine .congr (g := fun k => ctok_Tokens.l0 k (acc ++ [⟨c1, c2⟩]) b (b.length : Int) ((i + 1 : Nat) : Int)) (fun k => ?_) r1
    show (if c3 = 0 then _ else _) = _
    rw [if_pos h0, if_pos a3, wNext e]
   refine .step (g := fun k => (d_Class.f k b[i].f0 b[i].f1).bind fun x => if x.2.2 = 0 then (if acc.length < 5864062014805 then d_Tokens.l0 k b (acc ++ [⟨x.1, x.2.1⟩]) (wrap64 ((i : Int) + 1)) else none) else some ([], (i : Int), x.2.2)) (fun k => ?_) ?_
   ·rw [d_Tokens.l0, if_pos a1, if_pos a2, rd44 b i hi]
   refine .bind hc2 ?_
   refine .congr (g := fun k => d_Tokens.l0 k b (acc ++ [⟨c1, c2⟩]) ((i + 1 : Nat) : Int)) (fun k => ?_) r2
   show (if c3 = 0 then _ else _) = _
   rw [if_pos h0, if_pos a3, wNext e]
  refine ⟨([], (i : Int), c3), ?_, ?_, by show 0 ≤ b.length; omega⟩
  ·refine .step (g := fun k => (ctok_Class.f k b[i].f0 b[i].f1).bind fun x => if x.2.2 = 0 then (if acc.length < 5864062014805 then ctok_Tokens.l0 k (acc ++ [⟨x.1, x.2.1⟩]) b (b.length : Int) (wrap64 ((i : Int) + 1)) else none) else some ([], (i : Int), x.2.2)) (fun k => ?_) ?_
   ·rw [ctok_Tokens.l0, if_pos a1, if_pos a2, if_pos a1, rd44 b i hi]
   refine .bind hc1 (.congr (g := fun _ => some ([], (i : Int), c3)) (fun k => ?_) (.const _))
   show (if c3 = 0 then _ else _) = _
   rw [if_neg h0]
  refine .step (g := fun k => (d_Class.f k b[i].f0 b[i].f1).bind fun x => if x.2.2 = 0 then (if acc.length < 5864062014805 then d_Tokens.l0 k b (acc ++ [⟨x.1, x.2.1⟩]) (wrap64 ((i : Int) + 1)) else none) else some ([], (i : Int), x.2.2)) (fun k => ?_) ?_
  ·rw [d_Tokens.l0, if_pos a1, if_pos a2, rd44 b i hi]
  refine .bind hc2 (.congr (g := fun _ => some ([], (i : Int), c3)) (fun k => ?_) (.const _))
  show (if c3 = 0 then _ else _) = _
  rw [if_neg h0]
theorem toks_both (l : List S44) (hl : l.length ≤ 2932031007400) (ht : ∀ t ∈ l, t.f1.size ≤ 1000) : ∃ r, Ev (fun k => ctok_Tokens.f k l) r ∧ Ev (fun k => d_Tokens.f k l) r ∧ r.1.length ≤ 2932031007400 := by
 have hbl := bareL_len l false
 obtain ⟨r, r1, r2, r3⟩ := toks_l0 (bareL false l) (by omega) (bareL_text l false ht) (bareL false l).length 0 (by omega) [] (by simp)
 exact ⟨r, .bind (bare_mk l hl) r1, .bind (bare_ref l hl) r2, by omega⟩
theorem rd23 (l : List S23) (i : Nat) (h : i < l.length) : rd_T23 l (i : Int) = l[i] := by
 unfold rd_T23
 rw [Int.toNat_natCast, List.getD_eq_getElem?_getD, List.getElem?_eq_getElem h]
 rfl
theorem same23_l0 (a : List S23) (hl : a.length ≤ 2932031007400) : ∀ (m i : Nat), i + m = a.length → Ev (fun k => d_Same.l0 k a a (i : Int)) true
 | 0, i, h => by
  refine .step (g := fun _ => some true) (fun k => ?_) (.const _)
  rw [d_Same.l0, if_neg (by omega)]
 | m + 1, i, h => by
  have hi : i < a.length := by omega
  have e : i + 1 ≤ 3000000000000 := by omega
  have a1 : (i : Int) < (a.length : Int) := by omega
  have a2 : (0 : Int) ≤ (i : Int) := by omega
  refine .step (g := fun k => d_Same.l0 k a a ((i + 1 : Nat) : Int)) (fun k => ?_) (same23_l0 a hl m (i + 1) (by omega))
  rw [d_Same.l0, if_pos a1, if_pos a2, if_pos a1, rd23 a i hi, if_neg (by simp), wNext e]
theorem same23 (a : List S23) (hl : a.length ≤ 2932031007400) : Ev (fun k => d_Same.f k a a) true := by
 refine .congr (g := fun k => d_Same.l0 k a a ((0 : Nat) : Int)) (fun k => ?_) (same23_l0 a hl a.length 0 (by omega))
 unfold d_Same.f
 rw [if_pos rfl]
 rfl
theorem same44_l0 (a : List S44) (hl : a.length ≤ 2932031007400) : ∀ (m i : Nat), i + m = a.length → Ev (fun k => b_Same.l0 k a a (i : Int)) true
 | 0, i, h => by
  refine .step (g := fun _ => some true) (fun k => ?_) (.const _)
  rw [b_Same.l0, if_neg (by omega)]
 | m + 1, i, h => by
  have hi : i < a.length := by omega
  have e : i + 1 ≤ 3000000000000 := by omega
  have a1 : (i : Int) < (a.length : Int) := by omega
  have a2 : (0 : Int) ≤ (i : Int) := by omega
  refine .step (g := fun k => b_Same.l0 k a a ((i + 1 : Nat) : Int)) (fun k => ?_) (same44_l0 a hl m (i + 1) (by omega))
  rw [b_Same.l0, if_pos a1, if_pos a2, if_pos a1, rd44 a i hi, if_neg (by simp), wNext e]
theorem same44 (a : List S44) (hl : a.length ≤ 2932031007400) : Ev (fun k => b_Same.f k a a) true := by
 refine .congr (g := fun k => b_Same.l0 k a a ((0 : Nat) : Int)) (fun k => ?_) (same44_l0 a hl a.length 0 (by omega))
 unfold b_Same.f
 rw [if_pos rfl]
 rfl
theorem wipe_l1 (l : List S44) (hl : l.length ≤ 2932031007400) : ∀ (m i : Nat) (a : List S23), i + m = a.length → a.length ≤ 2932031007400 → Ev (fun k => l_CtokTokens.l1 k l l a (i : Int)) true
 | 0, i, a, h, ha => by
  refine .step (g := fun k => (b_Same.f k l l).bind fun t => some t) (fun k => ?_) (.bind (same44 l hl) (.const _))
  rw [l_CtokTokens.l1, if_neg (by omega)]
 | m + 1, i, a, h, ha => by
  have e : i + 1 ≤ 3000000000000 := by omega
  have a1 : (i : Int) < (a.length : Int) := by omega
  have a2 : (0 : Int) ≤ (i : Int) := by omega
  refine .step (g := fun k => l_CtokTokens.l1 k l l (a.set i ⟨0, ⟨#[]⟩⟩) ((i + 1 : Nat) : Int)) (fun k => ?_) (wipe_l1 l hl m (i + 1) _ (by simp; omega) (by simp; omega))
  rw [l_CtokTokens.l1, if_pos a1, if_pos a2, wNext e, Int.toNat_natCast]
theorem law_l0 (l : List S44) (hl : l.length ≤ 2932031007400) : ∀ (m i : Nat), i + m = l.length → (∀ j (h : j < l.length), j < i → l[j].f1.size ≤ 1000) → Ev (fun k => l_CtokTokens.l0 k l (i : Int)) true
 | 0, i, h, hs => by
  have all : ∀ t ∈ l, t.f1.size ≤ 1000 := by
   intro t ht
   obtain ⟨j, hj, rfl⟩ := List.getElem_of_mem ht
   exact hs j hj (by omega)
  obtain ⟨r, r1, r2, r3⟩ := toks_both l hl all
  refine .step (g := fun k => (ctok_Tokens.f k l).bind fun x => (d_Tokens.f k l).bind fun y => (d_Same.f k x.1 y.1).bind fun t => if t = true then (if x.2.1 = y.2.1 then l_CtokTokens.j1 k l l x.1 (x.2.2 != y.2.2) else l_CtokTokens.j1 k l l x.1 true) else l_CtokTokens.j1 k l l x.1 true) (fun k => ?_) ?_
  ·have a3 : ([] : List S44).length + l.length < 2932031007402 := by simp; omega
   rw [l_CtokTokens.l0, if_neg (by omega), Option.bind_some, if_pos a3, Option.bind_some, List.nil_append]
  refine .bind r1 (.bind r2 (.bind (same23 r.1 r3) ?_))
  refine .congr (g := fun k => l_CtokTokens.j1 k l l r.1 false) (fun k => ?_) ?_
  ·rw [if_pos rfl, if_pos rfl]
   simp
  refine .step (g := fun k => l_CtokTokens.l1 k l l r.1 ((0 : Nat) : Int)) (fun k => ?_) (wipe_l1 l hl r.1.length 0 r.1 (by omega) r3)
  rw [l_CtokTokens.j1, if_neg (by simp)]
  rfl
 | m + 1, i, h, hs => by
  have hi : i < l.length := by omega
  have e : i + 1 ≤ 3000000000000 := by omega
  have a1 : (i : Int) < (l.length : Int) := by omega
  have a2 : (0 : Int) ≤ (i : Int) := by omega
  by_cases hb : (l[i].f1.size : Int) > 1000
  ·refine .step (g := fun _ => some true) (fun k => ?_) (.const _)
   rw [l_CtokTokens.l0, if_pos a1, if_pos a2, rd44 l i hi, if_pos hb]
  have nx := law_l0 l hl m (i + 1) (by omega) (fun j hj hji => by
   by_cases hji2 : j = i
   ·subst hji2; omega
   exact hs j hj (by omega))
  refine .step (g := fun k => l_CtokTokens.l0 k l ((i + 1 : Nat) : Int)) (fun k => ?_) nx
  rw [l_CtokTokens.l0, if_pos a1, if_pos a2, rd44 l i hi, if_neg hb, wNext e]
theorem law_tokens (l : List S44) (hl : l.length ≤ 2932031007400) : ∃ k, l_CtokTokens.f k l = some true := by
 obtain ⟨n, hn⟩ := law_l0 l hl l.length 0 (by omega) (fun j _ h => by omega)
 exact ⟨n, hn n (by omega)⟩
end Go.Proofs.YtcdleippdegibaaDoor.Ctk
