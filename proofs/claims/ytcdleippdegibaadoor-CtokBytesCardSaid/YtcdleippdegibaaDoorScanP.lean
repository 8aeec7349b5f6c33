/- Plain laws of the printed scan.first on a string of octal escapes. -/
import Derived.Test.YtcdleippdegibaaDoorCtk
import Derived.Test.YtcdleippdegibaaDoorOne
import Derived.Test.YtcdleippdegibaaDoorEsc
namespace Go.Proofs.YtcdleippdegibaaDoor.Ctk
open Go Go.RowKit Go.Proofs Go.Proofs.YtcdleippdegibaaDoor Go.Proofs.YtcdleippdegibaaDoor.PB Go.Proofs.YtcdleippdegibaaDoor.PS Go.Proofs.YtcdleippdegibaaDoor.Digits Go.Proofs.YtcdleippdegibaaDoor.One Go.Proofs.YtcdleippdegibaaDoor.LibG Go.Lib Go.Proofs.YtcdleippdegibaaDoorW.PrintWords

theorem all8 {p : UInt8 → Bool} (h : ((List.range 256).all fun n => p (UInt8.ofNat n)) = true) (b : UInt8) : p b = true := by
  have := List.all_eq_true.1 h b.toNat (List.mem_range.2 b.toNat_lt)
  rwa [UInt8.ofNat_toNat] at this
def octB (b : UInt8) : List UInt8 := [92, 48 + b / 64, 48 + b / 8 % 8, 48 + b % 8]
def oct (x : Int) : List Int := [92, (48 + ((Int.tdiv x 64) % 256)) % 256, 48 + (((Int.tdiv x 8) % 256) % 8), (48 + (Int.tmod x 8)) % 256]
theorem oct_eq (b : UInt8) : oct (b.toNat : Int) = (octB b).map fun c => (c.toNat : Int) :=
  of_decide_eq_true (all8 (p := fun b => decide (oct (b.toNat : Int) = (octB b).map fun c => (c.toNat : Int))) (by kernel_rfl) b)
/-- The three digits: what they are not, and what they are worth. -/
theorem oct_facts (b : UInt8) : (48 + b / 64 ≠ 34 ∧ 48 + b / 64 ≠ 10 ∧ 48 + b / 64 ≠ 92 ∧ 48 + b / 64 ≠ 120) ∧ (48 + b / 8 % 8 ≠ 34 ∧ 48 + b / 8 % 8 ≠ 10 ∧ 48 + b / 8 % 8 ≠ 92) ∧ (48 + b % 8 ≠ 34 ∧ 48 + b % 8 ≠ 10 ∧ 48 + b % 8 ≠ 92) :=
  of_decide_eq_true (all8 (p := fun b => decide ((48 + b / 64 ≠ 34 ∧ 48 + b / 64 ≠ 10 ∧ 48 + b / 64 ≠ 92 ∧ 48 + b / 64 ≠ 120) ∧ (48 + b / 8 % 8 ≠ 34 ∧ 48 + b / 8 % 8 ≠ 10 ∧ 48 + b / 8 % 8 ≠ 92) ∧ (48 + b % 8 ≠ 34 ∧ 48 + b % 8 ≠ 10 ∧ 48 + b % 8 ≠ 92))) (by kernel_rfl) b)
theorem oct_idx (b : UInt8) : indexByte [39, 34, 63, 92, 97, 98, 102, 110, 114, 116, 118] (48 + b / 64) = -1 :=
  eq_of_beq (all8 (p := fun b => indexByte [39, 34, 63, 92, 97, 98, 102, 110, 114, 116, 118] (48 + b / 64) == -1) (by kernel_rfl) b)
theorem oct_dig (b : UInt8) : dgI (48 + b / 64).toNat = (b.toNat / 64 : Nat) ∧ dgI (48 + b / 8 % 8).toNat = (b.toNat / 8 % 8 : Nat) ∧ dgI (48 + b % 8).toNat = (b.toNat % 8 : Nat) := by
  have h := all8 (p := fun b => dgI (48 + b / 64).toNat == ((b.toNat / 64 : Nat) : Int) && (dgI (48 + b / 8 % 8).toNat == ((b.toNat / 8 % 8 : Nat) : Int) && dgI (48 + b % 8).toNat == ((b.toNat % 8 : Nat) : Int))) (by kernel_rfl) b
  simp only [Bool.and_eq_true, beq_iff_eq] at h
  exact h
def octs (bs : List UInt8) : List UInt8 := bs.flatMap octB
theorem octs_len (bs : List UInt8) : (octs bs).length = 4 * bs.length := by
  unfold octs
  induction bs with
  | nil => rfl
  | cons b bs ih => simp only [List.flatMap_cons, List.length_append, ih, List.length_cons]; simp [octB]; omega
theorem w64' {n : Int} (h : 0 ≤ n) (h2 : n ≤ 9223372036854775807) : wrap64 n = n := by unfold wrap64; omega
theorem bt_app (p r : List UInt8) (b : UInt8) : bt (mk (p ++ b :: r)) (p.length : Int) = (b.toNat : Int) := by
  rw [bt_mk _ _ (by simp)]
  simp
theorem u8ne {a b : UInt8} (h : a ≠ b) : ¬ ((a.toNat : Int) = (b.toNat : Int)) := fun q => h (by rw [← UInt8.toNat_inj]; omega)

/-- The literal's loop, from a place at which an escape or the closing quote begins. -/
theorem lit_run : ∀ (bs : List UInt8) (p : List UInt8) (K : Nat), (p ++ octs bs ++ [34]).length ≤ 1000000000 → 0 < p.length →
    scan_literal.l0 (K + 3 * bs.length + 1) (mk (p ++ octs bs ++ [34])) 34 (p.length : Int) = some ((p ++ octs bs ++ [34]).length : Int) := by
  intro bs
  induction bs with
  | nil =>
    intro p K hs hp
    have e : p ++ octs [] ++ [34] = p ++ 34 :: [] := by simp [octs]
    rw [e] at hs ⊢
    have hsz : ((mk (p ++ 34 :: [])).size : Int) = p.length + 1 := by rw [mk_size]; simp
    rw [scan_literal.l0, hsz, if_pos (by omega), if_pos (by omega), bt_app, if_pos (by rfl), if_neg (by decide)]
    simp only [List.length_append, List.length_cons, List.length_nil] at hs ⊢
    rw [w64' (by omega) (by omega)]
    simp
  | cons b bs ih =>
    intro p K hs hp
    have e0 : p ++ octs (b :: bs) ++ [34] = p ++ 92 :: ((48 + b / 64) :: (48 + b / 8 % 8) :: (48 + b % 8) :: (octs bs ++ [34])) := by simp [octs, octB]
    have e1 : p ++ octs (b :: bs) ++ [34] = (p ++ [92]) ++ (48 + b / 64) :: ((48 + b / 8 % 8) :: (48 + b % 8) :: (octs bs ++ [34])) := by simp [octs, octB]
    have e2 : p ++ octs (b :: bs) ++ [34] = (p ++ [92, 48 + b / 64]) ++ (48 + b / 8 % 8) :: ((48 + b % 8) :: (octs bs ++ [34])) := by simp [octs, octB]
    have e3 : p ++ octs (b :: bs) ++ [34] = (p ++ [92, 48 + b / 64, 48 + b / 8 % 8]) ++ (48 + b % 8) :: (octs bs ++ [34]) := by simp [octs, octB]
    have e4 : p ++ octs (b :: bs) ++ [34] = (p ++ octB b) ++ octs bs ++ [34] := by simp [octs]
    obtain ⟨L, hL⟩ : ∃ L, p ++ octs (b :: bs) ++ [34] = L := ⟨_, rfl⟩
    rw [hL] at e0 e1 e2 e3 e4 hs ⊢
    have hlen : L.length = p.length + 4 + (octs bs).length + 1 := by rw [e4]; simp [octB]; omega
    have hsz : ((mk L).size : Int) = L.length := rfl
    have n1 : wrap64 ((p.length : Int) + 1) = (p.length : Int) + 1 := w64' (by omega) (by omega)
    have n2 : wrap64 ((p.length : Int) + 1 + 1) = (p.length : Int) + 2 := by rw [w64' (by omega) (by omega)]; omega
    have n3 : wrap64 ((p.length : Int) + 2 + 1) = (p.length : Int) + 3 := by rw [w64' (by omega) (by omega)]; omega
    have n4 : wrap64 ((p.length : Int) + 3 + 1) = (((p ++ octB b).length : Nat) : Int) := by rw [w64' (by omega) (by omega)]; simp [octB]; omega
    have g0 : (0 : Int) ≤ (p.length : Int) := by omega
    have g1 : (0 : Int) ≤ (p.length : Int) + 1 := by omega
    have g2 : (0 : Int) ≤ (p.length : Int) + 2 := by omega
    have g3 : (0 : Int) ≤ (p.length : Int) + 3 := by omega
    have l0 : (p.length : Int) < (L.length : Int) := by omega
    have l1 : (p.length : Int) + 1 < (L.length : Int) := by omega
    have l2 : (p.length : Int) + 2 < (L.length : Int) := by omega
    have l3 : (p.length : Int) + 3 < (L.length : Int) := by omega
    obtain ⟨⟨a1, a2, a3, a4⟩, ⟨b1, b2, b3⟩, ⟨c1, c2, c3⟩⟩ := oct_facts b
    have t0 : bt (mk L) (p.length : Int) = 92 := by rw [e0, bt_app]; rfl
    have t1 : bt (mk L) ((p.length : Int) + 1) = ((48 + b / 64).toNat : Int) := by
      have := bt_app (p ++ [92]) ((48 + b / 8 % 8) :: (48 + b % 8) :: (octs bs ++ [34])) (48 + b / 64)
      rw [← e1] at this; simpa using this
    have t2 : bt (mk L) ((p.length : Int) + 2) = ((48 + b / 8 % 8).toNat : Int) := by
      have := bt_app (p ++ [92, 48 + b / 64]) ((48 + b % 8) :: (octs bs ++ [34])) (48 + b / 8 % 8)
      rw [← e2] at this; simpa using this
    have t3 : bt (mk L) ((p.length : Int) + 3) = ((48 + b % 8).toNat : Int) := by
      have := bt_app (p ++ [92, 48 + b / 64, 48 + b / 8 % 8]) (octs bs ++ [34]) (48 + b % 8)
      rw [← e3] at this; simpa using this
    rw [show K + 3 * (b :: bs).length + 1 = (K + 3 * bs.length + 1) + 1 + 1 + 1 by simp; omega]
    rw [scan_literal.l0, hsz, if_pos l0, if_pos g0, t0, if_neg (by decide), if_neg (by decide), if_pos rfl, n1, if_pos l1, if_pos g1, t1, if_neg (show ¬ (_ : Int) = 10 from u8ne (b := 10) a2), n2]
    rw [scan_literal.l0, hsz, if_pos l2, if_pos g2, t2, if_neg (show ¬ (_ : Int) = 34 from u8ne (b := 34) b1), if_neg (show ¬ (_ : Int) = 10 from u8ne (b := 10) b2), if_neg (show ¬ (_ : Int) = 92 from u8ne (b := 92) b3), n3]
    rw [scan_literal.l0, hsz, if_pos l3, if_pos g3, t3, if_neg (show ¬ (_ : Int) = 34 from u8ne (b := 34) c1), if_neg (show ¬ (_ : Int) = 10 from u8ne (b := 10) c2), if_neg (show ¬ (_ : Int) = 92 from u8ne (b := 92) c3), n4]
    rw [e4]
    exact ih (p ++ octB b) K (by rw [← e4]; exact hs) (by simp [octB])

/-- A header's loop comes to an end. -/
theorem head_ends (x : ByteArray) (q : Int) (hx : x.size ≤ 1000000000) : ∀ (m i : Nat), i + m = x.size + 1 → 1 ≤ i → ∀ K, ∃ r, scan_header.l0 (K + 2 * m + 2) x q (i : Int) = some r := by
  intro m
  induction m with
  | zero =>
    intro i hi h1 K
    refine ⟨0, ?_⟩
    rw [show K + 2 * 0 + 2 = (K + 1) + 1 by omega, scan_header.l0, if_neg (by omega), scan_header.j2, if_neg (by simp)]
  | succ m ih =>
    intro i hi h1 K
    by_cases hlt : i < x.size
    · obtain ⟨r, hr⟩ := ih (i + 1) (by omega) (by omega) K
      rw [show K + 2 * (m + 1) + 2 = (K + 2 * m + 2) + 1 + 1 by omega, scan_header.l0, if_pos (by omega), if_pos (by omega), scan_header.j2]
      by_cases hb : (bt x (i : Int) != 10) = true
      · rw [if_pos hb, if_pos (by omega), if_pos (by omega), w64' (by omega) (by omega)]
        by_cases hq : bt x (i : Int) = q
        · rw [if_pos hq]; exact ⟨_, rfl⟩
        · rw [if_neg hq]; exact ⟨r, by simpa using hr⟩
      · rw [if_neg hb]; exact ⟨_, rfl⟩
    · refine ⟨0, ?_⟩
      rw [show K + 2 * (m + 1) + 2 = (K + 2 * m + 2) + 1 + 1 by omega, scan_header.l0, if_neg (by omega), scan_header.j2, if_neg (by simp)]
theorem lit_of (bs : List UInt8) (h : (octs bs).length ≤ 999999000) (K : Nat) :
    scan_literal.f (K + 3 * bs.length + 2) (mk (34 :: (octs bs ++ [34]))) 34 = some (((octs bs).length + 2 : Nat) : Int) := by
  have hl := lit_run bs [34] K (by simp; omega) (by simp)
  have e : ([34] : List UInt8) ++ octs bs ++ [34] = 34 :: (octs bs ++ [34]) := by simp
  rw [e] at hl
  unfold scan_literal.f
  have hsz : ((mk (34 :: (octs bs ++ [34]))).size : Int) = (octs bs).length + 2 := by rw [mk_size]; simp; omega
  have hb : bt (mk (34 :: (octs bs ++ [34]))) 0 = 34 := bt_mk (34 :: (octs bs ++ [34])) 0 (by simp)
  rw [mk_toList, if_neg (by simp), if_pos (by omega), hb, show K + 3 * bs.length + 2 = (K + 3 * bs.length + 1) + 1 by omega, scan_literal.j0, if_neg (by decide)]
  refine (show scan_literal.l0 (K + 3 * bs.length + 1) (mk (34 :: (octs bs ++ [34]))) 34 1 = _ from hl).trans ?_
  congr 1
  first | done | simp
theorem quoted_of (bs : List UInt8) (h : (octs bs).length ≤ 999999000) (K : Nat) :
    scan_quoted.f (K + 3 * bs.length + 7) (mk (34 :: (octs bs ++ [34]))) = some (4, (((octs bs).length + 2 : Nat) : Int)) := by
  obtain ⟨T, hT⟩ : ∃ T, 34 :: (octs bs ++ [34]) = T := ⟨_, rfl⟩
  have hl := lit_of bs h K
  have hne : ∀ (c : UInt8) (r : List UInt8), c ≠ 34 → strings_HasPrefix.f (mk T) (mk (c :: r)) = some false := by
    intro c r hc
    rw [pre_mk, ← hT]
    simp only [List.length_cons, List.take_succ_cons]
    rw [show ((34 : UInt8) :: List.take r.length (octs bs ++ [34]) == c :: r) = false from by
      rw [List.cons_beq_cons, beq_eq_false_iff_ne.2 (fun q => hc q.symm)]; rfl]
    rfl
  have hem : strings_HasPrefix.f (mk T) (mk []) = some true := by rw [pre_mk]; simp
  rw [hT] at hl ⊢
  have hlen : T.length = (octs bs).length + 2 := by rw [← hT]; simp
  unfold scan_quoted.f
  rw [Option.bind_some]
  have w1 : wrap64 ((0 : Int) + 1) = 1 := w64' (by decide) (by decide)
  have w2 : wrap64 ((1 : Int) + 1) = 2 := w64' (by decide) (by decide)
  have w3 : wrap64 ((2 : Int) + 1) = 3 := w64' (by decide) (by decide)
  have w4 : wrap64 ((3 : Int) + 1) = 4 := w64' (by decide) (by decide)
  obtain ⟨Y, hY⟩ : ∃ Y : List ByteArray, ([(⟨#[117, 56]⟩ : ByteArray), (⟨#[117]⟩ : ByteArray), (⟨#[85]⟩ : ByteArray), (⟨#[76]⟩ : ByteArray), (⟨#[]⟩ : ByteArray)] : List ByteArray) = Y := ⟨_, rfl⟩
  have yl : Y.length = 5 := by rw [← hY]; rfl
  have y0 : rdOf ByteArray.empty Y 0 = mk [117, 56] := by rw [← hY]; rfl
  have y1 : rdOf ByteArray.empty Y 1 = mk [117] := by rw [← hY]; rfl
  have y2 : rdOf ByteArray.empty Y 2 = mk [85] := by rw [← hY]; rfl
  have y3 : rdOf ByteArray.empty Y 3 = mk [76] := by rw [← hY]; rfl
  have y4 : rdOf ByteArray.empty Y 4 = mk [] := by rw [← hY]; rfl
  rw [hY, yl]
  have c5 : ((5 : Nat) : Int) = 5 := rfl
  rw [c5, show K + 3 * bs.length + 7 = (K + 3 * bs.length + 2) + 1 + 1 + 1 + 1 + 1 by omega]
  rw [scan_quoted.l0, yl, if_pos (by decide), if_pos (by decide), if_pos (by decide), y0, hne _ _ (by decide), Option.bind_some, if_neg (by simp), w1]
  rw [scan_quoted.l0, yl, if_pos (by decide), if_pos (by decide), if_pos (by decide), y1, hne _ _ (by decide), Option.bind_some, if_neg (by simp), w2]
  rw [scan_quoted.l0, yl, if_pos (by decide), if_pos (by decide), if_pos (by decide), y2, hne _ _ (by decide), Option.bind_some, if_neg (by simp), w3]
  rw [scan_quoted.l0, yl, if_pos (by decide), if_pos (by decide), if_pos (by decide), y3, hne _ _ (by decide), Option.bind_some, if_neg (by simp), w4]
  rw [scan_quoted.l0, yl, if_pos (by decide), if_pos (by decide), if_pos (by decide), y4, hem, Option.bind_some, if_pos rfl]
  have z : (((mk []).size : Nat) : Int) = 0 := rfl
  rw [z, if_pos (by decide), if_pos (by rw [mk_size]; omega), show ((0 : Int)).toNat = 0 from rfl, mk_extract, List.drop_zero, hl, Option.bind_some, if_pos (by omega), w64' (by omega) (by omega)]
  congr 2
  omega
theorem first_of (bs : List UInt8) (h : (octs bs).length ≤ 999999000) :
    ∃ k, ∀ K, scan_first.f (K + k) (mk (34 :: (octs bs ++ [34]))) false = some (4, (((octs bs).length + 2 : Nat) : Int), 0) := by
  obtain ⟨T, hT⟩ : ∃ T, 34 :: (octs bs ++ [34]) = T := ⟨_, rfl⟩
  have hlen : T.length = (octs bs).length + 2 := by rw [← hT]; simp
  have hq := fun K => quoted_of bs h K
  rw [hT] at hq ⊢
  have hne : ∀ (c : UInt8) (r : List UInt8), c ≠ 34 → strings_HasPrefix.f (mk T) (mk (c :: r)) = some false := by
    intro c r hc
    rw [pre_mk, ← hT]
    simp only [List.length_cons, List.take_succ_cons]
    rw [show ((34 : UInt8) :: List.take r.length (octs bs ++ [34]) == c :: r) = false from by
      rw [List.cons_beq_cons, beq_eq_false_iff_ne.2 (fun q => hc q.symm)]; rfl]
    rfl
  have h34 : strings_HasPrefix.f (mk T) (mk [34]) = some true := by
    rw [pre_mk, ← hT]
    simp
  refine ⟨2 * T.length + 3 * bs.length + 20, fun K => ?_⟩
  obtain ⟨r, hr⟩ := head_ends (mk T) 34 (by rw [mk_size]; omega) T.length 1 (by rw [mk_size]; omega) (by omega) (K + 3 * bs.length + 17)
  have hhd : scan_header.f (K + (2 * T.length + 3 * bs.length + 20)) (mk T) = some r := by
    unfold scan_header.f
    rw [show (⟨#[60]⟩ : ByteArray) = mk [60] from rfl, hne _ _ (by decide), Option.bind_some, if_neg (by simp), show (⟨#[34]⟩ : ByteArray) = mk [34] from rfl, h34, Option.bind_some, if_pos rfl]
    rw [show K + (2 * T.length + 3 * bs.length + 20) = (K + 3 * bs.length + 17 + 2 * T.length + 2) + 1 by omega, scan_header.j0]
    exact hr
  unfold scan_first.f
  rw [hhd, Option.bind_some, if_neg (by simp), show K + (2 * T.length + 3 * bs.length + 20) = ((K + 2 * T.length + 12) + 3 * bs.length + 7) + 1 by omega, scan_first.j0, if_neg (by simp)]
  have hc : scan_comment.f (mk T) = some 0 := by
    unfold scan_comment.f
    rw [show (⟨#[47, 47]⟩ : ByteArray) = mk [47, 47] from rfl, hne _ _ (by decide), Option.bind_some, if_neg (by simp), show (⟨#[47, 42]⟩ : ByteArray) = mk [47, 42] from rfl, hne _ _ (by decide), Option.bind_some, if_neg (by simp)]
  have hb : bt (mk T) 0 = 34 := by rw [← hT]; exact bt_mk (34 :: (octs bs ++ [34])) 0 (by simp)
  rw [hc, Option.bind_some, if_neg (by decide), if_neg (by decide), if_pos (by rw [mk_size]; omega), hb, if_neg (by decide), hq, Option.bind_some, if_pos (by show ((((octs bs).length + 2 : Nat) : Int)) > 0; omega)]
theorem one_of (bs : List UInt8) (h : (octs bs).length ≤ 999999000) :
    ∃ k, ∀ K, scan_One.f (K + k) (mk (34 :: (octs bs ++ [34]))) = some (4, true) := by
  obtain ⟨k, hk⟩ := first_of bs h
  refine ⟨k, fun K => ?_⟩
  have hf := hk K
  obtain ⟨T, hT⟩ : ∃ T, 34 :: (octs bs ++ [34]) = T := ⟨_, rfl⟩
  have hlen : T.length = (octs bs).length + 2 := by rw [← hT]; simp
  rw [hT] at hf ⊢
  have hw : wsk (mk T).data.toList = 0 := by rw [mk_list, ← hT]; rfl
  unfold scan_One.f
  rw [hw, if_pos (by rw [mk_size]; omega), if_pos (by rw [mk_size]; omega), mk_extract, List.drop_zero, hf, Option.bind_some, if_pos (by rw [mk_size]; exact ⟨by show (0 : Int) ≤ (((octs bs).length + 2 : Nat) : Int); omega, by show (((octs bs).length + 2 : Nat) : Int) ≤ _; omega⟩)]
  have e : (mk T).extract 0 (((0 : Nat) : Int) + (((octs bs).length + 2 : Nat) : Int)).toNat = mk T := by
    rw [show (((0 : Nat) : Int) + (((octs bs).length + 2 : Nat) : Int)).toNat = (mk T).size by rw [mk_size]; omega, mk_extract, List.drop_zero]
  simp only [e]
  rw [if_neg (by simp)]
end Go.Proofs.YtcdleippdegibaaDoor.Ctk
