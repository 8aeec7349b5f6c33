/- A number written in base 10, 8 or 16 is read as itself: in plain lists of bytes. Conditions: none. -/
import Derived.Test.YtcdleippdegibaaDoorCtk
import Derived.Test.YtcdleippdegibaaDoorPCx3
namespace Go.Proofs.YtcdleippdegibaaDoor.Ctk
open Go Go.RowKit Go.Proofs Go.Proofs.YtcdleippdegibaaDoor Go.Proofs.YtcdleippdegibaaDoor.PB Go.Proofs.YtcdleippdegibaaDoor.PC Go.Proofs.YtcdleippdegibaaDoor.Digits Go.Lib Go.Proofs.YtcdleippdegibaaDoorW.PrintWords

def hexS : ByteArray := ⟨#[48, 49, 50, 51, 52, 53, 54, 55, 56, 57, 97, 98, 99, 100, 101, 102]⟩
def hexd (n : Nat) : UInt8 := ([48, 49, 50, 51, 52, 53, 54, 55, 56, 57, 97, 98, 99, 100, 101, 102] : List UInt8).getD n 0
theorem hex_ext : ∀ n : Nat, n < 16 → hexS.extract n (n + 1) = mk [hexd n] := by decide
theorem hex_dig : ∀ n : Nat, n < 16 → dgI (hexd n).toNat = n := by decide
theorem hex_ne : ∀ n : Nat, n < 16 → n ≠ 0 → hexd n ≠ 48 := by decide
theorem u64w {n : Int} (h : 0 ≤ n) (h2 : n ≤ 18446744073709551615) : IntKind.u64.wrap n = n := by
  simp [IntKind.wrap_u64]; omega
/-- Eight to the power k + 1. -/
def pw : Nat → Int
  | 0 => 8
  | k + 1 => 8 * pw k
/-- What is written of a number. -/
structure Wr (base n : Int) (l : List UInt8) : Prop where
  full : (digL base l).length = l.length
  val : vOf base (digL base l) = some n
  pos : 0 < l.length
theorem chr_eq (n : Int) (h0 : 0 ≤ n) (h1 : n < 16) : hexS.extract n.toNat (IntKind.u64.wrap (n + 1)).toNat = mk [hexd n.toNat] := by
  rw [u64w (by omega) (by omega), show (n + 1).toNat = n.toNat + 1 by omega]
  exact hex_ext _ (by omega)
theorem dig1 (base n : Int) (h0 : 0 ≤ n) (hb : n < base) (h1 : n < 16) : digL base [hexd n.toNat] = [n] := by
  have := hex_dig n.toNat (by omega)
  rw [show ((n.toNat : Nat) : Int) = n by omega] at this
  rw [digL, this, if_neg (by omega), if_neg (by omega)]
  rfl
theorem wr_of (base : Int) (hb : base = 8 ∨ base = 10 ∨ base = 16) : ∀ (k : Nat) (n : Int), k ≤ 100 → 0 ≤ n → n < pw k → n ≤ 18446744073709551615 →
    ∃ l, regletlaw04_written.f (k + 1) n base = some (mk l) ∧ l.length ≤ k + 1 ∧ Wr base n l ∧ (0 < n → l.head? ≠ some 48) := by
  intro k
  induction k with
  | zero =>
    intro n hk h0 h1 h2
    have h8 : n < 8 := h1
    have hlt : n < base := by omega
    refine ⟨[hexd n.toNat], ?_, by simp, ?_⟩
    · rw [regletlaw04_written.f, if_pos hlt, if_pos h0, if_pos (by rw [u64w (by omega) (by omega)]; omega), if_pos (by rw [u64w (by omega) (by omega)]; omega)]
      exact congrArg some (chr_eq n h0 (by omega))
    · have hd := dig1 base n h0 hlt (by omega)
      refine ⟨⟨by rw [hd]; rfl, ?_, by simp⟩, fun hp => ?_⟩
      · rw [hd]
        show vStep base (some 0) n = some n
        unfold vStep
        rw [Option.bind_some, if_neg (by have : 0 ≤ (18446744073709551615 - n) / base := Int.ediv_nonneg (by omega) (by omega); omega)]
        simp
      · have := hex_ne n.toNat (by omega) (by omega)
        simpa using this
  | succ k ih =>
    intro n hk h0 h1 h2
    by_cases hlt : n < base
    · refine ⟨[hexd n.toNat], ?_, by simp, ?_⟩
      · rw [regletlaw04_written.f, if_pos hlt, if_pos h0, if_pos (by rw [u64w (by omega) (by omega)]; omega), if_pos (by rw [u64w (by omega) (by omega)]; omega)]
        exact congrArg some (chr_eq n h0 (by omega))
      · have hd := dig1 base n h0 hlt (by omega)
        refine ⟨⟨by rw [hd]; rfl, ?_, by simp⟩, fun hp => ?_⟩
        · rw [hd]
          show vStep base (some 0) n = some n
          unfold vStep
          rw [Option.bind_some, if_neg (by have : 0 ≤ (18446744073709551615 - n) / base := Int.ediv_nonneg (by omega) (by omega); omega)]
          simp
        · have := hex_ne n.toNat (by omega) (by omega)
          simpa using this
    · have h1' : n < 8 * pw k := h1
      have hdiv : n.tdiv base = n / base := Int.tdiv_eq_ediv_of_nonneg h0
      have hmod : n.tmod base = n % base := Int.tmod_eq_emod_of_nonneg h0
      have q0 : 0 < n / base := by rcases hb with rfl | rfl | rfl <;> omega
      have q1 : n / base < pw k := by rcases hb with rfl | rfl | rfl <;> omega
      have q2 : n / base ≤ 18446744073709551615 := by rcases hb with rfl | rfl | rfl <;> omega
      have m0 : 0 ≤ n % base := by rcases hb with rfl | rfl | rfl <;> omega
      have m1 : n % base < base := by rcases hb with rfl | rfl | rfl <;> omega
      have m2 : n % base < 16 := by omega
      have hn : n / base * base + n % base = n := by rcases hb with rfl | rfl | rfl <;> omega
      have hv : ¬ n / base > (18446744073709551615 - n % base) / base := by rcases hb with rfl | rfl | rfl <;> omega
      obtain ⟨l, hf, hl, W, WH⟩ := ih (n / base) (by omega) (by omega) q1 q2
      have hd := dig1 base (n % base) m0 m1 m2
      have happ : digL base (l ++ [hexd (n % base).toNat]) = digL base l ++ [n % base] := by rw [digL_app _ _ _ W.full, hd]
      refine ⟨l ++ [hexd (n % base).toNat], ?_, by simp; omega, ?_⟩
      · rw [regletlaw04_written.f, if_neg hlt, if_neg (by omega), hdiv, hmod, u64w (by omega) q2, hf, Option.bind_some, if_pos m0, if_pos (by rw [u64w (by omega) (by omega)]; omega), if_pos (by rw [u64w (by omega) (by omega)]; omega)]
        rw [show (⟨#[48, 49, 50, 51, 52, 53, 54, 55, 56, 57, 97, 98, 99, 100, 101, 102]⟩ : ByteArray) = hexS from rfl, chr_eq _ m0 m2, mk_append, if_pos]
        have e1 : (mk l).size = l.length := rfl
        have e2 : (mk [hexd (n % base).toNat]).size = 1 := rfl
        rw [e1, e2]
        omega
      · refine ⟨⟨by rw [happ]; simp [W.full], ?_, by simp⟩, fun _ => ?_⟩
        · rw [happ, vOf_snoc, W.val]
          unfold vStep
          rw [Option.bind_some, if_neg hv, hn]
        · have := WH q0
          rw [List.head?_append]
          cases l with
          | nil => exact absurd W.pos (by simp)
          | cons a r => simpa using this
/-- A number and a suffix, read. -/
theorem int_full {base n : Int} {l suf : List UInt8} (W : Wr base n l) (hs : digL base suf = []) : intL base (l ++ suf) = intTail base n (low suf) := by
  unfold intL
  have e : digL base (l ++ suf) = digL base l := by rw [digL_app _ _ _ W.full, hs, List.append_nil]
  rw [e, W.val]
  have hp := W.pos
  simp only [W.full, List.drop_left]
  rw [if_neg (by omega)]
theorem wr_zero {n : Int} {l : List UInt8} (W : Wr 8 n l) : Wr 8 n (48 :: l) := by
  have e : digL 8 (48 :: l) = 0 :: digL 8 l := by rw [digL, if_neg (by decide), if_neg (by decide)]; rfl
  refine ⟨by rw [e]; simp [W.full], ?_, by simp⟩
  rw [e]
  exact W.val
theorem wr_first {base n : Int} {l : List UInt8} (W : Wr base n l) : ∃ b r, l = b :: r ∧ 0 ≤ dgI b.toNat := by
  cases l with
  | nil => exact absurd W.pos (by simp)
  | cons b r =>
    refine ⟨b, r, rfl, ?_⟩
    by_cases h : dgI b.toNat < 0
    · have := W.full
      rw [digL_cons_no (.inl h)] at this
      simp at this
    · omega
theorem hex_no {base n : Int} {l : List UInt8} (W : Wr base n l) (suf : List UInt8) : hexL (48 :: (l ++ suf)) = false := by
  obtain ⟨b, r, rfl, hb⟩ := wr_first W
  have h1 : b ≠ 120 := by rintro rfl; exact absurd hb (by decide)
  have h2 : b ≠ 88 := by rintro rfl; exact absurd hb (by decide)
  unfold hexL
  split
  · rename_i h; simp only [List.cons_append, List.cons.injEq, true_and] at h; exact absurd h.1 h1
  · rename_i h; simp only [List.cons_append, List.cons.injEq, true_and] at h; exact absurd h.1 h2
  · rfl
theorem tail_nil (base n : Int) (h : base ≠ 10) : intTail base n (low []) = (n, decide (n > 9223372036854775807), 0) := by
  unfold intTail
  rw [if_pos (.inl rfl), if_neg (fun q => h q.1)]
  simp [h]
theorem tail_nil10 (n : Int) : intTail 10 n (low []) = if n > 9223372036854775807 then (0, false, 40) else (n, false, 0) := by
  unfold intTail
  rw [if_pos (.inl rfl)]
  by_cases h : n > 9223372036854775807
  · rw [if_pos ⟨rfl, h⟩, if_pos h]
  · rw [if_neg (fun q => h q.2), if_neg h]
    simp
theorem tail_u (base n : Int) : intTail base n (low [117]) = (n, true, 0) := by
  unfold intTail
  rw [if_neg (by decide), if_pos (by decide)]
theorem tail_llu (base n : Int) : intTail base n (low [76, 76, 85]) = (n, true, 0) := by
  unfold intTail
  rw [if_neg (by decide), if_pos (by decide)]
theorem dig_u (base : Int) : digL base [117] = [] := digL_cons_no (.inl (by decide)) _
theorem dig_llu (base : Int) : digL base [76, 76, 85] = [] := digL_cons_no (.inl (by decide)) _

theorem worth_of {l : List UInt8} {v : Int} {u : Bool} (h : ctok_Int.f (mk l) = some (v, u, 0)) : regletlaw04_worth.f (mk l) v u = some true := by
  unfold regletlaw04_worth.f
  rw [h]
  simp
theorem ten {n : Int} {l : List UInt8} (W : Wr 10 n l) (hh : l.head? ≠ some 48) (suf : List UInt8) (hs : digL 10 suf = []) (hl : l.length + suf.length < 4294967281) :
    ctok_Int.f (mk (l ++ suf)) = some (intTail 10 n (low suf)) := by
  have hp := W.pos
  have hne : (l ++ suf).head? ≠ some 48 := by
    cases l with
    | nil => simp at hp
    | cons b r => simpa using hh
  have hx : hexL (l ++ suf) = false := by
    by_cases h : hexL (l ++ suf) = true
    · obtain ⟨b, r, e, _⟩ := hexL_two h
      rw [e] at hne
      exact absurd rfl hne
    · simpa using h
  rw [int_mk _ (by simpa using hl), hx, if_neg (by simp), if_neg hne, int_full W hs]
theorem eight {n : Int} {l : List UInt8} (W : Wr 8 n l) (hl : l.length < 4294967280) : ctok_Int.f (mk (48 :: l)) = some (n, decide (n > 9223372036854775807), 0) := by
  have hx := hex_no W []
  rw [List.append_nil] at hx
  rw [int_mk _ (by simp; omega), hx, if_neg (by simp), if_pos (show (48 :: l).head? = some 48 from rfl)]
  have := int_full (wr_zero W) (suf := []) rfl
  rw [List.append_nil] at this
  rw [this, tail_nil _ _ (by decide)]
theorem sixteen {n : Int} {l : List UInt8} (W : Wr 16 n l) (suf : List UInt8) (hs : digL 16 suf = []) (x : UInt8) (hx : x = 120 ∨ x = 88) (hl : l.length + suf.length < 4294967270) :
    ctok_Int.f (mk (48 :: x :: (l ++ suf))) = some (intTail 16 n (low suf)) := by
  have hh : hexL (48 :: x :: (l ++ suf)) = true := by rcases hx with rfl | rfl <;> rfl
  rw [int_mk _ (by simp; omega), if_pos hh]
  exact congrArg some (int_full W hs)

theorem CtokBack : regletlaw04_CtokBack.Pure := by
  intro n hwf
  have hb : 0 ≤ n ∧ n ≤ 18446744073709551615 := by
    simp [Lit.wf] at hwf
    have e1 : IntKind.u64.min = 0 := rfl
    have e2 : IntKind.u64.max = 18446744073709551615 := rfl
    omega
  obtain ⟨h0, h1⟩ := hb
  have p23 : n < pw 23 := by have : pw 23 = 4722366482869645213696 := by rfl
                             omega
  have p22 : n < pw 22 := by have : pw 22 = 590295810358705651712 := by rfl
                             omega
  obtain ⟨l, f10, s10, W10, H10⟩ := wr_of 10 (by decide) 23 n (by omega) h0 p23 h1
  obtain ⟨m, f8, s8, W8, _⟩ := wr_of 8 (by decide) 22 n (by omega) h0 p22 h1
  obtain ⟨x, f16, s16, W16, _⟩ := wr_of 16 (by decide) 22 n (by omega) h0 p22 h1
  refine ⟨24, ?_⟩
  have a1 : mk l ++ (⟨#[117]⟩ : ByteArray) = mk (l ++ [117]) := mk_append l [117]
  have a2 : (⟨#[48]⟩ : ByteArray) ++ mk m = mk (48 :: m) := mk_append [48] m
  have a3 : (⟨#[48, 120]⟩ : ByteArray) ++ mk x = mk (48 :: 120 :: x) := mk_append [48, 120] x
  have a4 : (⟨#[48, 88]⟩ : ByteArray) ++ mk x = mk (48 :: 88 :: x) := mk_append [48, 88] x
  have a5 : mk (48 :: 88 :: x) ++ (⟨#[76, 76, 85]⟩ : ByteArray) = mk (48 :: 88 :: (x ++ [76, 76, 85])) := mk_append (48 :: 88 :: x) [76, 76, 85]
  have z1 : (mk l).size = l.length := rfl
  have z2 : (mk m).size = m.length := rfl
  have z3 : (mk x).size = x.length := rfl
  have z4 : (mk (48 :: 88 :: x)).size = x.length + 2 := rfl
  have w2 : regletlaw04_worth.f (mk (l ++ [117])) n true = some true := by
    by_cases hn : 0 < n
    · exact worth_of ((ten W10 (H10 hn) [117] (dig_u 10) (by simp; omega)).trans (congrArg some (tail_u 10 n)))
    · have e : n = 0 := by omega
      subst e
      have : l = [48] := by
        have q : regletlaw04_written.f 24 0 10 = some (mk [48]) := by kernel_rfl
        exact congrArg (fun b : ByteArray => b.data.toList) (Option.some.inj (f10.symm.trans q))
      subst this
      show regletlaw04_worth.f (mk [48, 117]) 0 true = some true
      kernel_rfl
  have w1 : (n > 9223372036854775807 → regletlaw04_none.f (mk l) = some true) ∧ (¬ n > 9223372036854775807 → regletlaw04_worth.f (mk l) n false = some true) := by
    by_cases hn : 0 < n
    · have := ten W10 (H10 hn) [] rfl (by simp; omega)
      rw [List.append_nil, tail_nil10] at this
      refine ⟨fun hg => ?_, fun hg => ?_⟩
      · rw [if_pos hg] at this
        unfold regletlaw04_none.f
        rw [this]
        rfl
      · rw [if_neg hg] at this
        exact worth_of this
    · have e : n = 0 := by omega
      subst e
      have : l = [48] := by
        have q : regletlaw04_written.f 24 0 10 = some (mk [48]) := by kernel_rfl
        exact congrArg (fun b : ByteArray => b.data.toList) (Option.some.inj (f10.symm.trans q))
      subst this
      have q0 : regletlaw04_worth.f (mk [48]) 0 false = some true := by kernel_rfl
      exact ⟨fun h => absurd h (by decide), fun _ => q0⟩
  have w3 : regletlaw04_worth.f (mk (48 :: m)) n (decide (n > 9223372036854775807)) = some true := worth_of (eight W8 (by omega))
  have w4 : regletlaw04_worth.f (mk (48 :: 120 :: x)) n (decide (n > 9223372036854775807)) = some true := by
    have := sixteen W16 [] rfl 120 (.inl rfl) (by simp; omega)
    rw [List.append_nil, tail_nil _ _ (by decide)] at this
    exact worth_of this
  have w5 : regletlaw04_worth.f (mk (48 :: 88 :: (x ++ [76, 76, 85]))) n true = some true :=
    worth_of ((sixteen W16 [76, 76, 85] (dig_llu 16) 88 (.inr rfl) (by simp; omega)).trans (congrArg some (tail_llu 16 n)))
  have hj : regletlaw04_CtokBack.j0 24 n true (decide (n > 9223372036854775807)) (mk l) false = some true := by
    rw [regletlaw04_CtokBack.j0, if_neg (by simp), if_pos rfl, if_pos (by rw [z1]; omega), a1, w2, Option.bind_some, if_pos rfl, f8, Option.bind_some, if_pos (by rw [z2]; omega), a2, w3, Option.bind_some, if_pos rfl, f16, Option.bind_some,
      if_pos (by rw [z3]; omega), a3, w4, Option.bind_some, if_pos rfl, Option.bind_some, if_pos (by rw [z3]; omega), a4, if_pos (by rw [z4]; omega), a5, w5, Option.bind_some]
  unfold regletlaw04_CtokBack.f
  rw [show Alive.regletlaw04_alive.f = some true from rfl, Option.bind_some, f10, Option.bind_some]
  by_cases hg : n > 9223372036854775807
  · rw [if_pos hg, w1.1 hg, Option.bind_some, if_pos rfl, hj]
  · rw [if_neg hg, w1.2 hg, Option.bind_some]
    exact hj
end Go.Proofs.YtcdleippdegibaaDoor.Ctk
