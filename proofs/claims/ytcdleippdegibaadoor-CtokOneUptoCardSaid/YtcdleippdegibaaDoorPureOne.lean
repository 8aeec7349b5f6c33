/- No text is an integer and a floating constant; none with an underscore behind is either: in plain lists of bytes. Conditions: at most 1,048,576 bytes. -/
import Derived.Test.YtcdleippdegibaaDoorCtkF
import Derived.Test.YtcdleippdegibaaDoorPCx3
namespace Go.Proofs.YtcdleippdegibaaDoor.Ctk
open Go Go.RowKit Go.Proofs Go.Proofs.YtcdleippdegibaaDoor Go.Proofs.YtcdleippdegibaaDoor.PB Go.Proofs.YtcdleippdegibaaDoor.PC Go.Proofs.YtcdleippdegibaaDoor.Digits Go.Lib Go.Proofs.YtcdleippdegibaaDoorW.PrintWords

/-- What an integer's suffix begins with. -/
def Suf (r : List UInt8) : Prop := r = [] ∨ ∃ b r', r = b :: r' ∧ (b = 108 ∨ b = 76 ∨ b = 117 ∨ b = 85)
theorem suf_of_low {r l : List UInt8} (h : low r = l) (hl : l = [] ∨ ∃ b l', l = b :: l' ∧ (b = 108 ∨ b = 76 ∨ b = 117)) : Suf r := by
  cases r with
  | nil => exact .inl rfl
  | cons b r =>
    refine .inr ⟨b, r, rfl, ?_⟩
    subst h
    rcases hl with h | ⟨c, l', e, hc⟩
    · simp [low] at h
    · simp only [low, List.map_cons, List.cons.injEq] at e
      by_cases hb : b = 85
      · exact .inr (.inr (.inr hb))
      · rw [if_neg hb] at e
        rw [e.1]
        rcases hc with h | h | h <;> simp [h]
theorem tail_suf (base v : Int) (r : List UInt8) : intTail base v (low r) = (0, false, 40) ∨ Suf r := by
  unfold intTail
  by_cases hA : low r = [] ∨ low r = [108] ∨ low r = [76] ∨ low r = [108, 108] ∨ low r = [76, 76]
  · right
    rcases hA with h | h | h | h | h <;> exact suf_of_low h (by simp)
  · rw [if_neg hA]
    by_cases hB : low r = [117] ∨ low r = [117, 108] ∨ low r = [117, 76] ∨ low r = [117, 108, 108] ∨ low r = [117, 76, 76] ∨ low r = [108, 117] ∨ low r = [76, 117] ∨ low r = [108, 108, 117] ∨ low r = [76, 76, 117]
    · right
      rcases hB with h | h | h | h | h | h | h | h | h <;> exact suf_of_low h (by simp)
    · rw [if_neg hB]; exact .inl rfl
theorem int_suf (base : Int) (l : List UInt8) : intL base l = (0, false, 40) ∨ Suf (l.drop (digL base l).length) := by
  unfold intL
  split
  · exact .inl rfl
  · split
    · exact .inl rfl
    · exact tail_suf _ _ _
theorem expL_suf {r : List UInt8} (h : Suf r) (sm : Int) (hsm : sm = 101 ∨ sm = 112) : expL sm r = 0 := by
  rcases h with rfl | ⟨b, r', rfl, hb⟩
  · rfl
  · rw [expL_cons, if_neg]
    rcases hb with rfl | rfl | rfl | rfl <;> rcases hsm with rfl | rfl <;> decide
theorem float_suf {base sm : Int} {l : List UInt8} (hsm : sm = 101 ∨ sm = 112) (h : Suf (l.drop (digL base l).length)) : floatL base sm l = false := by
  unfold floatL
  have h46 : ¬ (l.drop (digL base l).length).head? = some 46 := by
    rcases h with h | ⟨b, r', h, hb⟩
    · rw [h]; simp
    · rw [h]
      rcases hb with rfl | rfl | rfl | rfl <;> simp
  rw [if_neg h46]
  unfold floatTail
  rw [if_pos (.inr ⟨expL_suf h sm hsm, .inl rfl⟩)]
theorem dig10_of_8 : ∀ l : List UInt8, Suf (l.drop (digL 8 l).length) → digL 10 l = digL 8 l
  | [], _ => rfl
  | b :: r, h => by
    by_cases h1 : dgI b.toNat < 0
    · rw [digL_cons_no (.inl h1), digL_cons_no (.inl h1)]
    · by_cases h2 : dgI b.toNat ≥ 8
      · rw [digL_cons_no (base := 8) (.inr h2)] at h ⊢
        simp only [List.length_nil, List.drop_zero] at h
        apply digL_cons_no
        rcases h with h | ⟨c, r', e, hb⟩
        · cases h
        · injection e with e1 e2
          subst e1
          rcases hb with rfl | rfl | rfl | rfl <;> exact .inl (by decide)
      · have e8 : digL 8 (b :: r) = dgI b.toNat :: digL 8 r := by rw [digL, if_neg h1, if_neg h2]
        rw [e8] at h ⊢
        simp only [List.length_cons, List.drop_succ_cons] at h
        rw [digL, if_neg h1, if_neg (by omega), dig10_of_8 r h]

theorem CtokOne : regletlaw04_CtokOne.Pure := by
  intro a ha
  obtain ⟨l, rfl⟩ : ∃ l, a = mk l := ⟨a.data.toList, rfl⟩
  have hl : l.length ≤ 1048576 := ha
  refine ⟨6, ?_⟩
  have hsz : (mk l).size = l.length := rfl
  have hu : mk l ++ (⟨#[95]⟩ : ByteArray) = mk (l ++ [95]) := mk_append l [95]
  have hn2 : regletlaw04_none.f (mk (l ++ [95])) = some true := by
    unfold regletlaw04_none.f
    rw [int_under l (by omega)]
    rfl
  have hone : ∃ x y, regletlaw04_none.f (mk l) = some x ∧ ctok_Float.f 6 (mk l) = some y ∧ (x = true ∨ y = false) := by
    unfold regletlaw04_none.f
    rw [int_mk l (by omega), float_mk 0 l (by omega)]
    have key : ∀ base sm : Int, ∀ m : List UInt8, (sm = 101 ∨ sm = 112) → ∀ q : Bool, (Suf (m.drop (digL base m).length) → q = false) →
        ∃ x y, ((some (intL base m) : Option (Int × Bool × Int)).bind fun bt122 => (if bt122.2.2 = 40 then (if bt122.1 = 0 then (some (!bt122.2.1)) else (some false)) else (some false))) = some x ∧ some q = some y ∧ (x = true ∨ y = false) := by
      intro base sm m hsm q hq
      rcases int_suf base m with h | h
      · rw [h]; exact ⟨true, q, rfl, rfl, .inl rfl⟩
      · rw [hq h, Option.bind_some]
        refine ⟨if (intL base m).2.2 = 40 then (if (intL base m).1 = 0 then (!(intL base m).2.1) else false) else false, false, ?_, rfl, .inr rfl⟩
        split
        · split <;> rfl
        · rfl
    by_cases hx : hexL l = true
    · rw [if_pos hx, if_pos hx]
      exact key 16 112 _ (.inr rfl) _ (fun h => float_suf (.inr rfl) h)
    · rw [if_neg hx, if_neg hx]
      by_cases hz : l.head? = some 48
      · rw [if_pos hz]
        exact key 8 101 _ (.inl rfl) _ (fun h => float_suf (.inl rfl) (by rw [dig10_of_8 l h]; exact h))
      · rw [if_neg hz]
        exact key 10 101 _ (.inl rfl) _ (fun h => float_suf (.inl rfl) h)
  obtain ⟨x, y, hx, hy, hxy⟩ := hone
  unfold regletlaw04_CtokOne.f
  rw [show Alive.regletlaw04_alive.f = some true from rfl, Option.bind_some, hx, Option.bind_some, hy, Option.bind_some, if_pos (by rw [hsz]; omega), hu, hn2, Option.bind_some, float_under 0 l (by omega), Option.bind_some]
  rcases hxy with rfl | rfl
  · rfl
  · cases x <;> rfl
end Go.Proofs.YtcdleippdegibaaDoor.Ctk
