/- Plain laws of digits, suffixes and integer constants, in lists of bytes. -/
import Derived.Test.YtcdleippdegibaaDoorInt
namespace Go.Proofs.YtcdleippdegibaaDoor.Ctk
open Go Go.RowKit Go.Proofs Go.Proofs.YtcdleippdegibaaDoor Go.Proofs.YtcdleippdegibaaDoor.PB Go.Proofs.YtcdleippdegibaaDoor.Digits Go.Lib Go.Proofs.YtcdleippdegibaaDoorW.PrintWords

/-- Big u is written as the small one. -/
def low (l : List UInt8) : List UInt8 := l.map fun b => if b = 85 then 117 else b

abbrev mk (l : List UInt8) : ByteArray := ⟨⟨l⟩⟩
theorem mk_data (a : ByteArray) : mk a.data.toList = a := rfl
theorem mk_list (l : List UInt8) : (mk l).data.toList = l := rfl
theorem mk_size (l : List UInt8) : (mk l).size = l.length := rfl
theorem mk_extract (l : List UInt8) (n : Nat) : (mk l).extract n (mk l).size = mk (l.drop n) := by
  apply ByteArray.ext
  apply Array.toList_inj.1
  exact extract_to_end (mk l) n
theorem mk_toList (l : List UInt8) : (mk l).toList = l := by
  simp [ByteArray.toList_eq]
theorem mk_append (l m : List UInt8) : mk l ++ mk m = mk (l ++ m) := by
  apply ByteArray.ext
  simp
theorem bt_mk (l : List UInt8) (i : Nat) (h : i < l.length) : bt (mk l) (i : Int) = (l[i].toNat : Int) := by
  unfold bt
  rw [dif_pos (show ((i : Int)).toNat < (mk l).size from h)]
  rfl

theorem replaceK_ne (b : UInt8) (hb : b ≠ 85) (s : List UInt8) : ∀ k, replaceK [85] [117] k (b :: s) = b :: replaceK [85] [117] k s
  | 0 => rfl
  | k + 1 => by
    rw [replaceK, replaceK]
    simp only [index_one]
    have e : indexByte (b :: s) 85 = if indexByte s 85 == -1 then -1 else indexByte s 85 + 1 := by
      rw [indexByte]
      simp [hb]
    have hge := index_ge s [85]
    rw [index_one] at hge
    rw [e]
    by_cases h : indexByte s 85 = -1
    · simp [h]
    · obtain ⟨i, hi⟩ : ∃ i : Nat, indexByte s 85 = i := ⟨(indexByte s 85).toNat, by omega⟩
      rw [hi]
      have h1 : ¬ ((i : Int) == -1) = true := by simp
      have h2 : ¬ (((i : Int) + 1) == -1) = true := by simp; omega
      rw [if_neg h1, if_neg h2, if_neg h1]
      have e1 : ((i : Int) + 1).toNat = i + 1 := by omega
      have e2 : ((i : Int)).toNat = i := by omega
      rw [e1, e2]
      simp
theorem replace_low : ∀ s : List UInt8, replaceAll s [85] [117] = low s := by
  have h : ∀ s : List UInt8, replaceK [85] [117] (s.count 85) s = low s := by
    intro s
    induction s with
    | nil => rfl
    | cons b s ih =>
      by_cases hb : b = 85
      · subst hb
        rw [List.count_cons_self, replaceK_hit _ _ _ _ 0 (by rw [index_one]; simp [indexByte])]
        simp [ih, low]
      · rw [List.count_cons_of_ne (hb), replaceK_ne b hb, ih]
        simp [low, hb]
  intro s
  unfold replaceAll replace
  rw [if_neg (by decide)]
  have e : replaceNum s [85] (-1) = s.count 85 := by unfold replaceNum; rw [if_pos (.inl (by decide)), count_one]
  rw [e, h]
theorem suf_mk (l : List UInt8) (n : Nat) : sufOf (mk l) n = low (l.drop n) := by
  unfold sufOf
  rw [mk_extract, replace_low]

/-! ### Digits -/
theorem dg95 : dgI ((95 : UInt8).toNat) = -1 := by decide
theorem digL_cons_no {base : Int} {b : UInt8} (h : dgI b.toNat < 0 ∨ dgI b.toNat ≥ base) (r : List UInt8) : digL base (b :: r) = [] := by
  unfold digL
  rcases h with h | h
  · rw [if_pos h]
  · split
    · rfl
    · first | rfl | (rw [if_pos h])
theorem digL_under (base : Int) : ∀ m : List UInt8, digL base (m ++ [95]) = digL base m
  | [] => digL_cons_no (.inl (by rw [dg95]; decide)) []
  | b :: m => by
    simp only [List.cons_append, digL, digL_under base m]
theorem digL_app (base : Int) : ∀ (m r : List UInt8), (digL base m).length = m.length → digL base (m ++ r) = digL base m ++ digL base r
  | [], _, _ => by simp [digL]
  | b :: m, r, h => by
    unfold digL at h
    split at h
    · simp at h
    · rename_i h1
      split at h
      · simp at h
      · rename_i h2
        have := digL_app base m r (by simpa using h)
        simp only [List.cons_append, digL, if_neg h1, if_neg h2, this]

/-! ### What a text begins with -/
theorem pre_mk (l p : List UInt8) : strings_HasPrefix.f (mk l) (mk p) = some (l.take p.length == p && decide (p.length ≤ l.length)) := by
  unfold strings_HasPrefix.f stringslite_HasPrefix.f
  have h1 : ((mk l).size : Int) = l.length := rfl
  have h2 : ((mk p).size : Int) = p.length := rfl
  by_cases h : (l.length : Int) ≥ p.length
  · rw [h1, h2, if_pos h, if_pos (by omega), if_pos (by omega)]
    have h3 : (mk l).extract 0 ((p.length : Int)).toNat = mk (l.take p.length) := by
      apply ByteArray.ext
      apply Array.toList_inj.1
      simp [ByteArray.data_extract]
    rw [h3, mk_toList, mk_toList]
    have : p.length ≤ l.length := by omega
    simp [this]
  · rw [h1, h2, if_neg h]
    have : ¬ p.length ≤ l.length := by omega
    simp [this]
def hexL (l : List UInt8) : Bool := match l with
  | 48 :: 120 :: _ => true
  | 48 :: 88 :: _ => true
  | _ => false
theorem hexed_mk (l : List UInt8) : ctok_hexed.f (mk l) = some (hexL l) := by
  unfold ctok_hexed.f
  rw [show (⟨#[48, 120]⟩ : ByteArray) = mk [48, 120] from rfl, show (⟨#[48, 88]⟩ : ByteArray) = mk [48, 88] from rfl, pre_mk, pre_mk]
  match l with
  | [] => rfl
  | [a] => simp [hexL]
  | a :: b :: r =>
    by_cases ha : a = 48
    · subst ha
      by_cases hb : b = 120
      · subst hb; simp [hexL]
      · by_cases hc : b = 88
        · subst hc; simp [hexL]
        · simp [hexL, hb, hc]
    · simp [hexL, ha]
theorem zero_mk (l : List UInt8) : strings_HasPrefix.f (mk l) ⟨#[48]⟩ = some (l.head? == some 48) := by
  rw [show (⟨#[48]⟩ : ByteArray) = mk [48] from rfl, pre_mk]
  cases l with
  | nil => rfl
  | cons a r => simp

/-! ### Int -/
def intL (base : Int) (l : List UInt8) : Int × Bool × Int :=
  match vOf base (digL base l) with
  | none => (0, false, 40)
  | some v => if (digL base l).length = 0 then (0, false, 40) else intTail base v (low (l.drop (digL base l).length))
theorem intRes_mk (base : Int) (l : List UInt8) : intRes base (mk l) = intL base l := by
  unfold intRes intL
  rw [show digs (mk l) base = digL base l from rfl]
  simp only [suf_mk]
  rfl
theorem int_mk (l : List UInt8) (h : l.length < 4294967281) :
    ctok_Int.f (mk l) = some (if hexL l = true then intL 16 (l.drop 2) else if l.head? = some 48 then intL 8 l else intL 10 l) := by
  unfold ctok_Int.f
  rw [if_pos (show (mk l).size < 4294967281 from h), hexed_mk, Option.bind_some]
  by_cases hx : hexL l = true
  · have h2 : 2 ≤ (mk l).size := by
      show 2 ≤ l.length
      unfold hexL at hx
      split at hx <;> simp_all
    rw [if_pos hx, if_pos hx, if_pos h2, mk_extract, intRes_mk]
  · rw [if_neg hx, if_neg hx, zero_mk, Option.bind_some]
    by_cases hz : l.head? = some 48
    · rw [if_pos (by simp [hz]), if_pos hz, intRes_mk]
    · rw [if_neg (by simpa using hz), if_neg hz, intRes_mk]
/-- A suffix that is none. -/
theorem tail_under (base v : Int) (m : List UInt8) : intTail base v (low (m ++ [95])) = (0, false, 40) := by
  have h : ∀ l : List UInt8, l.getLast? ≠ some 95 → low (m ++ [95]) ≠ l := by
    rintro l hl rfl
    apply hl
    simp [low]
  unfold intTail
  rw [if_neg (by simp only [not_or]; exact ⟨h _ (by decide), h _ (by decide), h _ (by decide), h _ (by decide), h _ (by decide)⟩),
    if_neg (by simp only [not_or]; exact ⟨h _ (by decide), h _ (by decide), h _ (by decide), h _ (by decide), h _ (by decide), h _ (by decide), h _ (by decide), h _ (by decide), h _ (by decide)⟩)]
theorem intL_under (base : Int) (m : List UInt8) : intL base (m ++ [95]) = (0, false, 40) := by
  unfold intL
  rw [digL_under]
  split
  · rfl
  · split
    · rfl
    · rw [List.drop_append_of_le_length (digL_le base m), tail_under]
theorem hexL_two {l : List UInt8} (h : hexL l = true) : ∃ b r, l = 48 :: b :: r ∧ (b = 120 ∨ b = 88) := by
  unfold hexL at h
  split at h
  · exact ⟨_, _, rfl, .inl rfl⟩
  · exact ⟨_, _, rfl, .inr rfl⟩
  · cases h
theorem int_under (m : List UInt8) (h : m.length < 4294967280) : ctok_Int.f (mk (m ++ [95])) = some (0, false, 40) := by
  rw [int_mk _ (by simp; omega)]
  split
  · rename_i hx
    obtain ⟨b, r, e, hb⟩ := hexL_two hx
    match m, e with
    | [], e => simp at e
    | [a], e => simp at e; rcases hb with hb | hb <;> (rw [← e.2.1] at hb; cases hb)
    | a :: c :: m', _ => exact congrArg some (intL_under 16 m')
  · split
    · rw [intL_under]
    · rw [intL_under]
end Go.Proofs.YtcdleippdegibaaDoor.Ctk
