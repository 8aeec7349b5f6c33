/-
Whether two lists of macro tokens are the same, white space aside, is told alike by the program and by the document's answer; and a list is the same as itself. Conditions: the lists are shorter than 2^47, as the machine has it.
-/
import Derived.Test.YtcdleippdegibaaPAx3
namespace Go.Proofs.Ytcdleippdegibaa.PureSames
set_option linter.unusedSimpArgs false
open Go.RowKit Go.Proofs.Ytcdleippdegibaa.PA Go.Proofs.YtcdleippdegibaaW.PrintWords Go.Proofs.YtcdleippdegibaaW.PrintLast

def eqBy {α : Type} (p : α → α → Bool) : List α → List α → Bool
  | [], [] => true
  | x :: xs, y :: ys => p x y && eqBy p xs ys
  | _, _ => false
theorem eqBy_step {α : Type} (p : α → α → Bool) (d : α) (xs ys : List α) (i : Nat) (h1 : i < xs.length) (h2 : i < ys.length) :
    eqBy p (xs.drop i) (ys.drop i) = (p (xs.getD i d) (ys.getD i d) && eqBy p (xs.drop (i + 1)) (ys.drop (i + 1))) := by
  rw [List.drop_eq_getElem_cons h1, List.drop_eq_getElem_cons h2]
  simp [eqBy, List.getD_eq_getElem?_getD, List.getElem?_eq_getElem h1, List.getElem?_eq_getElem h2]
theorem eqBy_ne {α : Type} (p : α → α → Bool) : ∀ xs ys : List α, xs.length ≠ ys.length → eqBy p xs ys = false
  | [], [], h => absurd rfl h
  | [], _ :: _, _ => rfl
  | _ :: _, [], _ => rfl
  | x :: xs, y :: ys, h => by simp [eqBy, eqBy_ne p xs ys (by simpa using h)]
theorem eqBy_symm {α : Type} {p : α → α → Bool} (hp : ∀ x y, p x y = p y x) : ∀ xs ys : List α, eqBy p xs ys = eqBy p ys xs
  | [], [] => rfl
  | [], _ :: _ => rfl
  | _ :: _, [] => rfl
  | x :: xs, y :: ys => by simp [eqBy, hp x y, eqBy_symm hp xs ys]
theorem eqBy_refl {α : Type} {p : α → α → Bool} (hp : ∀ x, p x x = true) : ∀ xs : List α, eqBy p xs xs = true
  | [] => rfl
  | x :: xs => by simp [eqBy, hp x, eqBy_refl hp xs]
theorem wrap_up {i : Int} {n : Nat} (h0 : 0 ≤ i) (h : i < (n : Int)) (hn : n ≤ 9223372036854775807) : wrap64 (i + 1) = i + 1 := by
  unfold wrap64
  omega

def pB (x y : ByteArray) : Bool := decide (x.toList = y.toList)
theorem pB_symm (x y : ByteArray) : pB x y = pB y x := by unfold pB; rw [decide_eq_decide]; exact eq_comm
theorem pB_refl (x : ByteArray) : pB x x = true := by simp [pB]
def pS (x y : S27) : Bool := decide (x.f0 = y.f0) && (pB x.f1 y.f1 && eqBy pB x.f3 y.f3)
theorem pS_symm (x y : S27) : pS x y = pS y x := by
  unfold pS; rw [pB_symm x.f1, eqBy_symm pB_symm x.f3, show decide (x.f0 = y.f0) = decide (y.f0 = x.f0) from by rw [decide_eq_decide]; exact eq_comm]
theorem pS_refl (x : S27) : pS x x = true := by simp [pS, pB_refl, eqBy_refl pB_refl]

theorem equal_l (xs ys : List ByteArray) (hl : xs.length = ys.length) (hm : xs.length ≤ 9223372036854775807) (d : Nat) : ∀ i : Nat, i ≤ xs.length → xs.length - i = d →
    Ev (fun k => slices_Equal_string_string.l0 k xs ys (xs.length : Int) (i : Int)) (eqBy pB (xs.drop i) (ys.drop i)) := by
  induction d with
  | zero =>
    intro i hi hd
    have : xs.length ≤ i := by omega
    rw [List.drop_of_length_le (by omega), List.drop_of_length_le (by omega)]
    exact Ev.step (f := fun _ => some true) (fun k => by simp only [slices_Equal_string_string.l0]; rw [if_neg (by omega)]) (Ev.now _)
  | succ d ih =>
    intro i hi hd
    rw [eqBy_step pB ByteArray.empty xs ys i (by omega) (by omega)]
    by_cases e : (xs.getD i ByteArray.empty).toList = (ys.getD i ByteArray.empty).toList
    · rw [show pB (xs.getD i ByteArray.empty) (ys.getD i ByteArray.empty) = true from by simp only [pB, e, decide_true], Bool.true_and]
      refine Ev.step (fun k => ?_) (ih (i + 1) (by omega) (by omega))
      simp only [slices_Equal_string_string.l0]
      rw [if_pos (by omega), if_pos (by omega), if_pos (by omega), if_pos (by omega), if_pos (by simpa [rdOf] using e), wrap_up (n := xs.length) (by omega) (by omega) hm]
      rfl
    · rw [show pB (xs.getD i ByteArray.empty) (ys.getD i ByteArray.empty) = false from by simp only [pB, e, decide_false], Bool.false_and]
      refine Ev.step (f := fun _ => some false) (fun k => ?_) (Ev.now _)
      simp only [slices_Equal_string_string.l0]
      rw [if_pos (by omega), if_pos (by omega), if_pos (by omega), if_pos (by omega), if_neg (by simpa [rdOf] using e)]
theorem equal_f (xs ys : List ByteArray) (hm : xs.length ≤ 9223372036854775807) : Ev (fun k => slices_Equal_string_string.f k xs ys) (eqBy pB xs ys) := by
  unfold slices_Equal_string_string.f
  by_cases h : (xs.length : Int) = (ys.length : Int)
  · simp only [if_pos h]
    exact equal_l xs ys (by omega) hm xs.length 0 (Nat.zero_le _) (by omega)
  · simp only [if_neg h]
    rw [eqBy_ne pB xs ys (by omega)]
    exact Ev.now _
theorem texts_l (xs ys : List ByteArray) (hl : xs.length = ys.length) (hm : xs.length ≤ 9223372036854775807) (d : Nat) : ∀ i : Nat, i ≤ xs.length → xs.length - i = d →
    Ev (fun k => regletref02_SameTexts.l0 k xs ys (i : Int)) (eqBy pB (xs.drop i) (ys.drop i)) := by
  induction d with
  | zero =>
    intro i hi hd
    have : xs.length ≤ i := by omega
    rw [List.drop_of_length_le (by omega), List.drop_of_length_le (by omega)]
    exact Ev.step (f := fun _ => some true) (fun k => by simp only [regletref02_SameTexts.l0]; rw [if_neg (by omega)]) (Ev.now _)
  | succ d ih =>
    intro i hi hd
    rw [eqBy_step pB ByteArray.empty xs ys i (by omega) (by omega)]
    by_cases e : (xs.getD i ByteArray.empty).toList = (ys.getD i ByteArray.empty).toList
    · rw [show pB (xs.getD i ByteArray.empty) (ys.getD i ByteArray.empty) = true from by simp only [pB, e, decide_true], Bool.true_and]
      refine Ev.step (fun k => ?_) (ih (i + 1) (by omega) (by omega))
      simp only [regletref02_SameTexts.l0]
      rw [if_pos (by omega), if_pos (by omega), if_pos (by omega), if_pos (by simpa [rdOf] using e), wrap_up (n := xs.length) (by omega) (by omega) hm]
      rfl
    · rw [show pB (xs.getD i ByteArray.empty) (ys.getD i ByteArray.empty) = false from by simp only [pB, e, decide_false], Bool.false_and]
      refine Ev.step (f := fun _ => some false) (fun k => ?_) (Ev.now _)
      simp only [regletref02_SameTexts.l0]
      rw [if_pos (by omega), if_pos (by omega), if_pos (by omega), if_neg (by simpa [rdOf] using e)]
theorem texts_f (xs ys : List ByteArray) (hm : xs.length ≤ 9223372036854775807) : Ev (fun k => regletref02_SameTexts.f k xs ys) (eqBy pB xs ys) := by
  unfold regletref02_SameTexts.f
  by_cases h : (xs.length : Int) = (ys.length : Int)
  · simp only [if_pos h]
    exact texts_l xs ys (by omega) hm xs.length 0 (Nat.zero_le _) (by omega)
  · simp only [if_neg h]
    rw [eqBy_ne pB xs ys (by omega)]
    exact Ev.now _

theorem same1_f (x y : S27) (hm : x.f3.length ≤ 9223372036854775807) : Ev (fun k => prep_Same_1.f k x.f0 x.f1 x.f2 x.f3 y.f0 y.f1 y.f2 y.f3) (pS x y) := by
  unfold prep_Same_1.f pS
  by_cases h0 : x.f0 = y.f0
  · by_cases h1 : x.f1.toList = y.f1.toList
    · simp only [if_pos h0, if_pos h1, h0, pB, h1, decide_true, Bool.true_and]
      exact Ev.bind (equal_f x.f3 y.f3 hm) (Ev.now _)
    · simp only [if_pos h0, if_neg h1, pB, h1, decide_false, Bool.false_and, Bool.and_false]
      exact Ev.now _
  · simp only [if_neg h0, h0, decide_false, Bool.false_and]
    exact Ev.now _

/-- What is asked of a list: its length, and its elements' Parts'. -/
def Fits (xs : List S27) : Prop := xs.length ≤ maxLen ∧ ∀ x ∈ xs, x.f3.length ≤ maxLen
theorem Fits.len {xs : List S27} (h : Fits xs) : xs.length ≤ 9223372036854775807 := by have := h.1; unfold maxLen at this; omega
theorem Fits.at {xs : List S27} (h : Fits xs) (i : Nat) (hi : i < xs.length) : (xs.getD i z27).f3.length ≤ 9223372036854775807 := by
  rw [List.getD_eq_getElem?_getD, List.getElem?_eq_getElem hi]
  have := h.2 _ (List.getElem_mem hi)
  unfold maxLen at this
  simpa using (by omega : (xs[i]).f3.length ≤ 9223372036854775807)

theorem prep_l (xs ys : List S27) (hl : xs.length = ys.length) (hm : Fits xs) (d : Nat) : ∀ i : Nat, i ≤ xs.length → xs.length - i = d →
    Ev (fun k => api_PTok.l0 k ys xs (xs.length : Int) (i : Int)) (eqBy pS (xs.drop i) (ys.drop i)) := by
  have hlen := hm.len
  induction d with
  | zero =>
    intro i hi hd
    have : xs.length ≤ i := by omega
    rw [List.drop_of_length_le (by omega), List.drop_of_length_le (by omega)]
    exact Ev.step (f := fun _ => some true) (fun k => by simp only [api_PTok.l0]; rw [if_neg (by omega)]) (Ev.now _)
  | succ d ih =>
    intro i hi hd
    rw [eqBy_step pS z27 xs ys i (by omega) (by omega)]
    have hs := same1_f (xs.getD i z27) (ys.getD i z27) (hm.at i (by omega))
    refine Ev.step (f := fun k => (prep_Same_1.f k (xs.getD i z27).f0 (xs.getD i z27).f1 (xs.getD i z27).f2 (xs.getD i z27).f3 (ys.getD i z27).f0 (ys.getD i z27).f1 (ys.getD i z27).f2 (ys.getD i z27).f3).bind fun t => if t = true then api_PTok.l0 k ys xs (xs.length : Int) ((i + 1 : Nat) : Int) else some false) (fun k => ?_) (Ev.bind hs ?_)
    · simp only [api_PTok.l0]
      rw [if_pos (by omega), if_pos (by omega), if_pos (by omega), if_pos (by omega), wrap_up (n := xs.length) (by omega) (by omega) hlen]
      rfl
    · cases pS (xs.getD i z27) (ys.getD i z27) with
      | true => simpa using ih (i + 1) (by omega) (by omega)
      | false => simpa using Ev.now false
theorem prep_f (xs ys : List S27) (hm : Fits xs) : Ev (fun k => prep_Same.f k xs ys) (eqBy pS xs ys) := by
  unfold prep_Same.f
  refine Ev.bind (a := eqBy pS xs ys) ?_ (Ev.now _)
  unfold api_PTok.f
  by_cases h : (xs.length : Int) = (ys.length : Int)
  · simp only [if_pos h]
    exact prep_l xs ys (by omega) hm xs.length 0 (Nat.zero_le _) (by omega)
  · simp only [if_neg h]
    rw [eqBy_ne pS xs ys (by omega)]
    exact Ev.now _
theorem ref_l (xs ys : List S27) (hl : xs.length = ys.length) (hm : Fits xs) (d : Nat) : ∀ i : Nat, i ≤ xs.length → xs.length - i = d →
    Ev (fun k => regletref08_Same.l0 k xs ys (i : Int)) (eqBy pS (xs.drop i) (ys.drop i)) := by
  have hlen := hm.len
  induction d with
  | zero =>
    intro i hi hd
    have : xs.length ≤ i := by omega
    rw [List.drop_of_length_le (by omega), List.drop_of_length_le (by omega)]
    exact Ev.step (f := fun _ => some true) (fun k => by simp only [regletref08_Same.l0]; rw [if_neg (by omega)]) (Ev.now _)
  | succ d ih =>
    intro i hi hd
    rw [eqBy_step pS z27 xs ys i (by omega) (by omega)]
    have hs := texts_f (xs.getD i z27).f3 (ys.getD i z27).f3 (hm.at i (by omega))
    have hn := ih (i + 1) (by omega) (by omega)
    refine Ev.step (f := fun k => if (xs.getD i z27).f0 = (ys.getD i z27).f0 then if (xs.getD i z27).f1.toList = (ys.getD i z27).f1.toList then (regletref02_SameTexts.f k (xs.getD i z27).f3 (ys.getD i z27).f3).bind fun t => if t = true then regletref08_Same.l0 k xs ys ((i + 1 : Nat) : Int) else some false else some false else some false) (fun k => ?_) ?_
    · simp only [regletref08_Same.l0]
      rw [if_pos (by omega), if_pos (by omega), if_pos (by omega), wrap_up (n := xs.length) (by omega) (by omega) hlen]
      rfl
    · generalize xs.getD i z27 = x at hs ⊢
      generalize ys.getD i z27 = y at hs ⊢
      rw [show pS x y = (decide (x.f0 = y.f0) && (pB x.f1 y.f1 && eqBy pB x.f3 y.f3)) from rfl]
      by_cases h0 : x.f0 = y.f0
      · by_cases h1 : x.f1.toList = y.f1.toList
        · simp only [if_pos h0, if_pos h1, h0, show pB x.f1 y.f1 = true from by simp only [pB, h1, decide_true], decide_true, Bool.true_and]
          refine Ev.bind hs ?_
          cases eqBy pB x.f3 y.f3 with
          | true => simpa using hn
          | false => simpa using Ev.now false
        · simp only [if_pos h0, if_neg h1, show pB x.f1 y.f1 = false from by simp only [pB, h1, decide_false], decide_false, Bool.false_and, Bool.and_false]
          exact Ev.now _
      · simp only [if_neg h0, h0, decide_false, Bool.false_and]
        exact Ev.now _
theorem ref_f (xs ys : List S27) (hm : Fits xs) : Ev (fun k => regletref08_Same.f k xs ys) (eqBy pS xs ys) := by
  unfold regletref08_Same.f
  by_cases h : (xs.length : Int) = (ys.length : Int)
  · simp only [if_pos h]
    exact ref_l xs ys (by omega) hm xs.length 0 (Nat.zero_le _) (by omega)
  · simp only [if_neg h]
    rw [eqBy_ne pS xs ys (by omega)]
    exact Ev.now _

theorem holds (xs ys : List S27) (hx : Fits xs) (hy : Fits ys) : ∃ k, regletlaw08_PrepSames.f k xs ys = some true := by
  apply Ev.rounds
  unfold regletlaw08_PrepSames.f
  refine Ev.bind (prep_f xs ys hx) (Ev.bind (ref_f xs ys hx) ?_)
  simp only [BEq.rfl, if_true]
  refine Ev.bind (prep_f xs xs hx) ?_
  rw [eqBy_refl pS_refl]
  simp only [if_true]
  refine Ev.bind (prep_f ys xs hy) (Ev.bind (ref_f xs ys hx) ?_)
  rw [eqBy_symm pS_symm ys xs]
  simp only [BEq.rfl]
  exact Ev.now _
end Go.Proofs.Ytcdleippdegibaa.PureSames
