import Derived.Test.YtcdleippdegibaaDoorKM9
import Derived.Test.YtcdleippdegibaaDoorKM7
import Derived.Test.YtcdleippdegibaaDoorKM8
import Derived.Test.YtcdleippdegibaaDoorKM4
import Derived.Lib.IndexMore
set_option linter.unusedVariables false
set_option linter.unusedSimpArgs false
set_option linter.unusedSectionVars false
namespace Go.Proofs.YtcdleippdegibaaDoor.Ctk
open Go Go.RowKit Go.Proofs Go.Lib Go.Proofs.YtcdleippdegibaaDoorW.PrintWords Go.Proofs.YtcdleippdegibaaDoor Go.Proofs.YtcdleippdegibaaDoor.PB Go.Proofs.YtcdleippdegibaaDoor.PR Go.Proofs.YtcdleippdegibaaDoor.PE Go.Proofs.YtcdleippdegibaaDoor.Digits Go.Proofs.YtcdleippdegibaaDoor.LibG
def Both (p : ByteArray) (ne : Prop) (x : Option (List Int × ByteArray × Int)) (y : Option (List Int × Bool)) : Prop :=
 (∃ out, x = some (out, p, 0) ∧ y = some (out, true) ∧ (ne → out ≠ [])) ∨ (∃ p', x = some ([], p', 40) ∧ y = some ([], false))
theorem els_l0 (s : List UInt8) (hl : s.length ≤ 1000000) (p : ByteArray) (top : Int) (h255 : 255 ≤ top) (m : Nat) : ∀ (i : Nat), i + m = s.length → ∀ (acc : List Int), acc.length ≤ i → ∀ k, m + s.length + 20 ≤ k →
  Both p (acc ≠ [] ∨ 0 < m) (ctok_elements.l0 k p (mk (s.drop i)) top acc) (regletref04_elements.l0 k top (mk s) acc (i : Int)) := by
 induction m using Nat.strongRecOn with
 | _ m ih =>
  intro i hi acc ha k hk
  obtain ⟨K, rfl⟩ : ∃ K, k = K + 1 := ⟨k - 1, by omega⟩
  rw [ctok_elements.l0, regletref04_elements.l0, mk_toList, mk_size, mk_size]
  cases hd : s.drop i with
  | nil =>
   have : s.length ≤ i := List.drop_eq_nil_iff.1 hd
   rw [if_pos rfl, if_neg (by omega)]
   exact .inl ⟨acc, rfl, rfl, fun h => h.resolve_right (by omega)⟩
  | cons b r =>
   have hlen := congrArg List.length hd
   simp only [List.length_drop, List.length_cons] at hlen
   have hlt : i < s.length := by omega
   have hb : bt (mk (b :: r)) 0 = (b.toNat : Int) := bt_mk (b :: r) 0 (by simp)
   have hsb : s[i] = b := by
    rw [List.drop_eq_getElem_cons hlt] at hd
    injection hd
   rw [if_neg (show ¬ (b :: r = []) by simp), if_pos (show (0 : Int) < ((b :: r).length : Int) by simp only [List.length_cons]; omega), hb, if_pos (show (i : Int) < (s.length : Int) by omega)]
   have step : ∀ (v n : Int), 0 ≤ v → v ≤ 1099511627776 → 0 < n → n ≤ s.length - i →
     Both p (acc ≠ [] ∨ 0 < m) (if acc.length < 17592186044416 then (if 0 ≤ n then (if n ≤ ((b :: r).length : Int) then ctok_elements.l0 K p ((mk (b :: r)).extract n.toNat (b :: r).length) top (acc ++ [wrap64 v]) else none) else none) else none) (if acc.length < 17592186044416 then regletref04_elements.l0 K top (mk s) (acc ++ [v]) (wrap64 ((i : Int) + n)) else none) := by
    intro v n h0 h1 hn hn2
    obtain ⟨n, rfl⟩ : ∃ n' : Nat, n = n' := ⟨n.toNat, by omega⟩
    have e : (mk (b :: r)).extract ((n : Int)).toNat (b :: r).length = mk (s.drop (i + n)) := by
     rw [Int.toNat_natCast, show (mk (b :: r)).extract n (b :: r).length = mk ((b :: r).drop n) from mk_extract (b :: r) n, ← hd, List.drop_drop]
    rw [if_pos (by omega), if_pos (by omega), if_pos (by simp only [List.length_cons]; omega), if_pos (by omega), e]
    have nx := ih (m - n) (by omega) (i + n) (by omega) (acc ++ [v]) (by simp; omega) K (by omega)
    have ew : i + n ≤ 4000000000 := by omega
    rw [w64 h0 (by omega), wAdd ew]
    rcases nx with ⟨out, h1, h2, h3⟩ | ⟨p', h1, h2⟩
    ·exact .inl ⟨out, h1, h2, fun _ => h3 (.inl (by simp))⟩
    exact .inr ⟨p', h1, h2⟩
   have e92 : ((b.toNat : Int) = 92) ↔ b = 92 := u8i b 92
   by_cases h92 : b = 92
   ·subst h92
    have hone := one_esc s (by omega) i r hd K (by omega)
    have hesc := esc_mk r (by omega)
    have hbd := escL_bd r
    rw [if_pos (by rfl), hone, hesc, Option.bind_some, Option.bind_some]
    obtain ⟨⟨v, n⟩, hvn⟩ : ∃ vn, escL r = vn := ⟨_, rfl⟩
    rw [hvn] at hbd ⊢
    obtain ⟨b0, b1, b2, b3⟩ := hbd
    have b0 : 0 ≤ v := b0
    have b1 : v ≤ 1099511627776 := b1
    have b2 : 0 ≤ n := b2
    have b3 : n ≤ (r.length : Int) + 1 := b3
    show Both p _ (if n = 0 then _ else (if v > top then _ else _)) (if n = 0 then _ else (if v > top then _ else _))
    by_cases hn : n = 0
    ·rw [if_pos hn, if_pos hn]; exact .inr ⟨_, rfl, rfl⟩
    rw [if_neg hn, if_neg hn]
    by_cases hv : v > top
    ·rw [if_pos hv, if_pos hv]; exact .inr ⟨_, rfl, rfl⟩
    rw [if_neg hv, if_neg hv]
    exact step v n b0 b1 (by omega) (by omega)
   have hu := b.toNat_lt
   have hu2 : ¬ (b.toNat : Int) > top := by omega
   have this := step (b.toNat : Int) 1 (by omega) (by omega) (by decide) (by omega)
   have c1 : (0 : Int) ≤ (i : Int) := by omega
   have c2 : (i : Int) < ((mk s).size : Int) := by rw [mk_size]; omega
   have e1 : IntKind.u64.wrap (b.toNat : Int) = (b.toNat : Int) := u64id (by omega) (by omega)
   have e2 : wrap64 (b.toNat : Int) = (b.toNat : Int) := w64 (by omega) (by omega)
   have hone : regletref04_one.f K (mk s) (i : Int) = some ((b.toNat : Int), 1) := by
    unfold regletref04_one.f
    rw [if_pos c1, if_pos c2, bt_mk s i hlt, hsb, if_neg (fun h => h92 (e92.1 h)), e2]
   rw [if_neg (fun h => h92 (e92.1 h)), if_neg (by decide), e1, if_neg hu2, hone, Option.bind_some]
   show Both p _ _ (if (1 : Int) = 0 then _ else (if (b.toNat : Int) > top then _ else _))
   rw [if_neg (show ¬ ((1 : Int) = 0) by decide), if_neg hu2]
   rw [if_pos (show (0 : Int) ≤ 1 by decide)] at this
   exact this
theorem cut_lit (q : UInt8) (p r : List UInt8) (hp : q ∉ p) : cut (p ++ q :: r) [q] = (p, r, true) := by
 have hix : index (p ++ q :: r) [q] = (p.length : Int) := by
  refine index_first (by simp) ?_ ?_
  ·unfold occAt
   rw [List.drop_left]
   simp
  intro j hj
  unfold occAt
  rw [List.drop_append_of_le_length (by omega), List.drop_eq_getElem_cons hj]
  have : q ≠ p[j] := fun h => hp (h ▸ List.getElem_mem hj)
  show (q == p[j] && _) = false
  rw [beq_eq_false_iff_ne.2 this]
  rfl
 unfold cut
 rw [hix, if_pos (by omega), Int.toNat_natCast]
 simp
theorem prefix_lit (q : UInt8) (hq : q = 39 ∨ q = 34) (p r : List UInt8) (hp : ∀ c ∈ p, c ≠ 39 ∧ c ≠ 34) (hl : (p ++ q :: r).length ≤ 1000000) : ∀ (m i : Nat), i + m = p.length → ∀ k, m + 1 ≤ k → regletref04_prefix.l0 k (mk (p ++ q :: r)) (i : Int) = some (p.length : Int)
 | 0, i, h, k, hk => by
  obtain ⟨K, rfl⟩ : ∃ K, k = K + 1 := ⟨k - 1, by omega⟩
  obtain rfl : i = p.length := by omega
  rw [regletref04_prefix.l0, mk_size, if_pos (by omega), if_pos (by simp only [List.length_append, List.length_cons]; omega), bt_app]
  rcases hq with rfl | rfl
  ·rw [if_pos (by rfl)]
  rw [if_neg (by decide), if_pos (by rfl)]
 | m + 1, i, h, k, hk => by
  obtain ⟨K, rfl⟩ : ∃ K, k = K + 1 := ⟨k - 1, by omega⟩
  have hi : i < p.length := by omega
  have hi2 : i < (p ++ q :: r).length := by simp; omega
  have hg : (p ++ q :: r)[i] = p[i] := List.getElem_append_left hi
  obtain ⟨n39, n34⟩ := hp p[i] (List.getElem_mem hi)
  rw [regletref04_prefix.l0, mk_size, if_pos (by omega), if_pos (by omega), bt_mk _ i hi2, hg, if_neg (show ¬ (p[i].toNat : Int) = 39 from u8ne (b := 39) n39), if_neg (show ¬ (p[i].toNat : Int) = 34 from u8ne (b := 34) n34)]
  have nx := prefix_lit q hq p r hp hl m (i + 1) (by omega) K (by omega)
  have e : i + 1 ≤ 4000000000 := by omega
  rw [wSucc e]
  exact nx
def topOf (p : List UInt8) : Int := if p = [117] then 65535 else if p = [85] ∨ p = [76] then 4294967295 else 255
theorem topOf_ge (p : List UInt8) : 255 ≤ topOf p := by
 unfold topOf
 split
 ·decide
 split <;> decide
theorem els_both (q : UInt8) (hq : q = 39 ∨ q = 34) (p t : List UInt8) (hp : ∀ c ∈ p, c ≠ 39 ∧ c ≠ 34) (hl : (p ++ q :: (t ++ [q])).length ≤ 1000000) (k : Nat) (hk : 3 * (p ++ q :: (t ++ [q])).length + 40 ≤ k) :
  Both (mk p) (t ≠ []) (ctok_elements.f k (mk (p ++ q :: (t ++ [q]))) (mk [q])) (regletref04_elements.f k (mk (p ++ q :: (t ++ [q]))) (p.length : Int)) := by
 obtain ⟨K, rfl⟩ : ∃ K, k = K + 1 + 1 + 1 := ⟨k - 3, by omega⟩
 have hlen : (p ++ q :: (t ++ [q])).length = p.length + t.length + 2 := by simp; omega
 have hqp : q ∉ p := fun h => by
  rcases hq with rfl | rfl
  ·exact (hp _ h).1 rfl
  exact (hp _ h).2 rfl
 have main : ∀ k1 k2, t.length + t.length + 20 ≤ k1 → t.length + t.length + 20 ≤ k2 → Both (mk p) (t ≠ []) (ctok_elements.l0 k1 (mk p) (mk t) (topOf p) []) (regletref04_elements.l0 k2 (topOf p) (mk t) [] 0) := by
  intro k1 k2 h1 h2
  have := els_l0 t (by omega) (mk p) (topOf p) (topOf_ge p) t.length 0 (by omega) [] (by simp) (t.length + t.length + 20) (by omega)
  rw [List.drop_zero] at this
  rcases this with ⟨out, a, b, c⟩ | ⟨p', a, b⟩
  ·refine .inl ⟨out, lift_some (f := fun k => ctok_elements.l0 k (mk p) (mk t) (topOf p) []) (fun k => (ctok_elements.mono_l k).2 _ _ _ _) h1 a, lift_some (f := fun k => regletref04_elements.l0 k (topOf p) (mk t) [] 0) (fun k => (regletref04_elements.mono_l k).2.2.2 _ _ _ _) h2 b, fun h => c (.inr (List.length_pos_iff.2 h))⟩
  exact .inr ⟨p', lift_some (f := fun k => ctok_elements.l0 k (mk p) (mk t) (topOf p) []) (fun k => (ctok_elements.mono_l k).2 _ _ _ _) h1 a, lift_some (f := fun k => regletref04_elements.l0 k (topOf p) (mk t) [] 0) (fun k => (regletref04_elements.mono_l k).2.2.2 _ _ _ _) h2 b⟩
 have hP : ctok_elements.f (K + 1 + 1 + 1) (mk (p ++ q :: (t ++ [q]))) (mk [q]) = ctok_elements.l0 (K + 1 + 1) (mk p) (mk t) (topOf p) [] := by
  have hc : strings_Cut.f (mk (p ++ q :: (t ++ [q]))) (mk [q]) = some (mk p, mk (t ++ [q]), true) := by
   unfold strings_Cut.f
   rw [mk_size, if_pos (by omega), mk_list, mk_list, cut_lit q p _ hqp]
  have hj : ∀ top, ctok_elements.j0 (K + 1 + 1 + 1) (mk p) (mk (t ++ [q])) true top = ctok_elements.l0 (K + 1 + 1) (mk p) (mk t) top [] := by
   intro top
   have e : wrap64 (((t ++ [q]).length : Int) - 1) = (t.length : Int) := by
    rw [w64 (by simp) (by simp; omega)]; simp
   rw [ctok_elements.j0, if_pos rfl, mk_size, e, if_pos (by omega), if_pos (by simp only [List.length_append]; omega), Int.toNat_natCast, mk_take, List.take_left]
  unfold ctok_elements.f
  rw [hc, Option.bind_some]
  simp only [mk_toList, hj]
  unfold topOf
  by_cases h1 : p = [117]
  ·rw [if_pos h1, if_pos h1]
  rw [if_neg h1, if_neg h1]
  by_cases h2 : p = [85]
  ·rw [if_pos h2, if_pos (.inl h2)]
  rw [if_neg h2]
  by_cases h3 : p = [76]
  ·rw [if_pos h3, if_pos (.inr h3)]
  rw [if_neg h3, if_neg (by simp [h2, h3])]
 have hR : ∃ k2, t.length + t.length + 20 ≤ k2 ∧ regletref04_elements.f (K + 1 + 1 + 1) (mk (p ++ q :: (t ++ [q]))) (p.length : Int) = regletref04_elements.l0 k2 (topOf p) (mk t) [] 0 := by
  refine ⟨K, by omega, ?_⟩
  have hex : (mk (p ++ q :: (t ++ [q]))).extract 0 ((p.length : Nat) : Int).toNat = mk p := by
   rw [Int.toNat_natCast, mk_take, List.take_left]
  have hmid : (mk (p ++ q :: (t ++ [q]))).extract (p.length + 1) (p.length + t.length + 1) = mk t := by
   have := mk_mid (p ++ q :: (t ++ [q])) p.length
   rw [mid_app, hlen] at this
   exact this
  have j2 : ∀ top, regletref04_elements.j2 (K + 1) (mk (p ++ q :: (t ++ [q]))) (p.length : Int) top = regletref04_elements.l0 K top (mk t) [] 0 := by
   intro top
   have e1 : wrap64 ((p.length : Int) + 1) = ((p.length + 1 : Nat) : Int) := wSucc (by omega)
   have e2 : wrap64 (((p ++ q :: (t ++ [q])).length : Int) - 1) = ((p.length + t.length + 1 : Nat) : Int) := by
    rw [hlen, w64 (by omega) (by omega)]; omega
   rw [regletref04_elements.j2, mk_size, e1, e2, if_pos (by clear e1 e2; omega), if_pos (by clear e1 e2; omega), if_pos (by clear e1 e2; rw [hlen]; omega), Int.toNat_natCast, Int.toNat_natCast, hmid]
  have j1 : ∀ top b, regletref04_elements.j1 (K + 1 + 1) (mk (p ++ q :: (t ++ [q]))) (p.length : Int) top b = regletref04_elements.l0 K (if b = true then 4294967295 else top) (mk t) [] 0 := by
   intro top b
   rw [regletref04_elements.j1, j2, j2]
   cases b <;> simp
  have j0 : ∀ top, regletref04_elements.j0 (K + 1 + 1 + 1) (mk (p ++ q :: (t ++ [q]))) (p.length : Int) top = regletref04_elements.l0 K (if p = [85] ∨ p = [76] then 4294967295 else top) (mk t) [] 0 := by
   intro top
   rw [regletref04_elements.j0, mk_size, if_pos (by omega), if_pos (by rw [hlen]; omega), hex, mk_toList, j1, j1]
   by_cases h2 : p = [85]
   ·rw [if_pos h2, if_pos rfl, if_pos (.inl h2)]
   rw [if_neg h2]
   by_cases h3 : p = [76]
   ·rw [if_pos (by simp [h3]), if_pos (.inr h3)]
   rw [if_neg (by simp [h3]), if_neg (by simp [h2, h3])]
  unfold regletref04_elements.f
  rw [mk_size, if_pos (by omega), if_pos (by rw [hlen]; omega), hex, mk_toList, j0, j0]
  unfold topOf
  by_cases h1 : p = [117]
  ·rw [if_pos h1, if_pos h1, if_neg (by rw [h1]; decide)]
  rw [if_neg h1, if_neg h1]
 obtain ⟨k2, h2, hR⟩ := hR
 rw [hP, hR]
 exact main _ _ (by omega) h2
end Go.Proofs.YtcdleippdegibaaDoor.Ctk
namespace Go.Proofs.YtcdleippdegibaaDoor.Ctk
open Go Go.RowKit Go.Proofs Go.Proofs.YtcdleippdegibaaDoorW.PrintWords Go.Proofs.YtcdleippdegibaaDoor Go.Proofs.YtcdleippdegibaaDoor.PB Go.Proofs.YtcdleippdegibaaDoor.PR
set_option maxRecDepth 100000
def kws : List (List UInt8) := [[97, 117, 116, 111], [98, 114, 101, 97, 107], [99, 97, 115, 101], [99, 104, 97, 114], [99, 111, 110, 115, 116], [99, 111, 110, 116, 105, 110, 117, 101], [100, 101, 102, 97, 117, 108, 116], [100, 111], [100, 111, 117, 98, 108, 101], [101, 108, 115, 101], [101, 110, 117, 109], [101, 120, 116, 101, 114, 110], [102, 108, 111, 97, 116], [102, 111, 114], [103, 111, 116, 111], [105, 102], [105, 110, 108, 105, 110, 101], [105, 110, 116], [108, 111, 110, 103], [114, 101, 103, 105, 115, 116, 101, 114], [114, 101, 115, 116, 114, 105, 99, 116], [114, 101, 116, 117, 114, 110], [115, 104, 111, 114, 116], [115, 105, 103, 110, 101, 100], [115, 105, 122, 101, 111, 102], [115, 116, 97, 116, 105, 99], [115, 116, 114, 117, 99, 116], [115, 119, 105, 116, 99, 104], [116, 121, 112, 101, 100, 101, 102], [117, 110, 105, 111, 110], [117, 110, 115, 105, 103, 110, 101, 100], [118, 111, 105, 100], [118, 111, 108, 97, 116, 105, 108, 101], [119, 104, 105, 108, 101], [95, 65, 108, 105, 103, 110, 97, 115], [95, 65, 108, 105, 103, 110, 111, 102], [95, 65, 116, 111, 109, 105, 99], [95, 66, 111, 111, 108], [95, 67, 111, 109, 112, 108, 101, 120], [95, 71, 101, 110, 101, 114, 105, 99], [95, 73, 109, 97, 103, 105, 110, 97, 114, 121], [95, 78, 111, 114, 101, 116, 117, 114, 110], [95, 83, 116, 97, 116, 105, 99, 95, 97, 115, 115, 101, 114, 116], [95, 84, 104, 114, 101, 97, 100, 95, 108, 111, 99, 97, 108]]
def kall : List UInt8 := [32, 97, 117, 116, 111, 32, 98, 114, 101, 97, 107, 32, 99, 97, 115, 101, 32, 99, 104, 97, 114, 32, 99, 111, 110, 115, 116, 32, 99, 111, 110, 116, 105, 110, 117, 101, 32, 100, 101, 102, 97, 117, 108, 116, 32, 100, 111, 32, 100, 111, 117, 98, 108, 101, 32, 101, 108, 115, 101, 32, 101, 110, 117, 109, 32, 101, 120, 116, 101, 114, 110, 32, 102, 108, 111, 97, 116, 32, 102, 111, 114, 32, 103, 111, 116, 111, 32, 105, 102, 32, 105, 110, 108, 105, 110, 101, 32, 105, 110, 116, 32, 108, 111, 110, 103, 32, 114, 101, 103, 105, 115, 116, 101, 114, 32, 114, 101, 115, 116, 114, 105, 99, 116, 32, 114, 101, 116, 117, 114, 110, 32, 115, 104, 111, 114, 116, 32, 115, 105, 103, 110, 101, 100, 32, 115, 105, 122, 101, 111, 102, 32, 115, 116, 97, 116, 105, 99, 32, 115, 116, 114, 117, 99, 116, 32, 115, 119, 105, 116, 99, 104, 32, 116, 121, 112, 101, 100, 101, 102, 32, 117, 110, 105, 111, 110, 32, 117, 110, 115, 105, 103, 110, 101, 100, 32, 118, 111, 105, 100, 32, 118, 111, 108, 97, 116, 105, 108, 101, 32, 119, 104, 105, 108, 101, 32, 95, 65, 108, 105, 103, 110, 97, 115, 32, 95, 65, 108, 105, 103, 110, 111, 102, 32, 95, 65, 116, 111, 109, 105, 99, 32, 95, 66, 111, 111, 108, 32, 95, 67, 111, 109, 112, 108, 101, 120, 32, 95, 71, 101, 110, 101, 114, 105, 99, 32, 95, 73, 109, 97, 103, 105, 110, 97, 114, 121, 32, 95, 78, 111, 114, 101, 116, 117, 114, 110, 32, 95, 83, 116, 97, 116, 105, 99, 95, 97, 115, 115, 101, 114, 116, 32, 95, 84, 104, 114, 101, 97, 100, 95, 108, 111, 99, 97, 108, 32]
def chain : List (List UInt8) → ByteArray → Option Bool
 | [], _ => some false
 | w :: ws, a => if a.toList = w then some true else chain ws a
theorem chain_mem : ∀ (ws : List (List UInt8)) (a : ByteArray), chain ws a = some (decide (a.toList ∈ ws))
 | [], a => by simp [chain]
 | w :: ws, a => by
  simp only [chain, chain_mem ws a, List.mem_cons]
  by_cases h : a.toList = w
  ·rw [if_pos h]; simp [h]
  rw [if_neg h]; simp [h]
theorem kw_chain (a : ByteArray) : ctok_Keyword.f a = chain kws a := rfl
theorem kw_mk (l : List UInt8) : ctok_Keyword.f (mk l) = some (decide (l ∈ kws)) := by rw [kw_chain, chain_mem, mk_toList]
def at_ (W : List UInt8) (j : Nat) : Bool := decide (j + W.length ≤ 315) && ((kall.drop j).take W.length == W)
theorem kallB : (⟨#[32, 97, 117, 116, 111, 32, 98, 114, 101, 97, 107, 32, 99, 97, 115, 101, 32, 99, 104, 97, 114, 32, 99, 111, 110, 115, 116, 32, 99, 111, 110, 116, 105, 110, 117, 101, 32, 100, 101, 102, 97, 117, 108, 116, 32, 100, 111, 32, 100, 111, 117, 98, 108, 101, 32, 101, 108, 115, 101, 32, 101, 110, 117, 109, 32, 101, 120, 116, 101, 114, 110, 32, 102, 108, 111, 97, 116, 32, 102, 111, 114, 32, 103, 111, 116, 111, 32, 105, 102, 32, 105, 110, 108, 105, 110, 101, 32, 105, 110, 116, 32, 108, 111, 110, 103, 32, 114, 101, 103, 105, 115, 116, 101, 114, 32, 114, 101, 115, 116, 114, 105, 99, 116, 32, 114, 101, 116, 117, 114, 110, 32, 115, 104, 111, 114, 116, 32, 115, 105, 103, 110, 101, 100, 32, 115, 105, 122, 101, 111, 102, 32, 115, 116, 97, 116, 105, 99, 32, 115, 116, 114, 117, 99, 116, 32, 115, 119, 105, 116, 99, 104, 32, 116, 121, 112, 101, 100, 101, 102, 32, 117, 110, 105, 111, 110, 32, 117, 110, 115, 105, 103, 110, 101, 100, 32, 118, 111, 105, 100, 32, 118, 111, 108, 97, 116, 105, 108, 101, 32, 119, 104, 105, 108, 101, 32, 95, 65, 108, 105, 103, 110, 97, 115, 32, 95, 65, 108, 105, 103, 110, 111, 102, 32, 95, 65, 116, 111, 109, 105, 99, 32, 95, 66, 111, 111, 108, 32, 95, 67, 111, 109, 112, 108, 101, 120, 32, 95, 71, 101, 110, 101, 114, 105, 99, 32, 95, 73, 109, 97, 103, 105, 110, 97, 114, 121, 32, 95, 78, 111, 114, 101, 116, 117, 114, 110, 32, 95, 83, 116, 97, 116, 105, 99, 95, 97, 115, 115, 101, 114, 116, 32, 95, 84, 104, 114, 101, 97, 100, 95, 108, 111, 99, 97, 108, 32]⟩ : ByteArray) = mk kall := by kernel_rfl
theorem l0_blank (l : List UInt8) (x3 : ByteArray) (hl : l.length ≤ 1000) : ∀ (m i : Nat), i + m = l.length → ∀ K, regletref04_Keyword.l0 (K + m + 1) (mk l) x3 (i : Int) = if (32 : UInt8) ∈ l.drop i then some false else regletref04_Keyword.l1 K (mk l) x3 0
 | 0, i, h, K => by
  have : l.drop i = [] := List.drop_eq_nil_of_le (by omega)
  rw [this, regletref04_Keyword.l0, mk_size]
  rw [if_neg (by omega), if_neg (by simp)]
 | m + 1, i, h, K => by
  have hi : i < l.length := by omega
  have e : K + (m + 1) + 1 = (K + m + 1) + 1 := by omega
  rw [e]
  rw [regletref04_Keyword.l0, mk_size]
  rw [if_pos (by omega), if_pos (by omega), bt_mk l i hi, List.drop_eq_getElem_cons hi]
  by_cases hb : l[i] = 32
  ·rw [if_pos (by rw [hb]; rfl), if_pos (by rw [hb]; exact List.mem_cons_self)]
  rw [if_neg (fun q => hb (by rw [← UInt8.toNat_inj]; have : (32 : UInt8).toNat = 32 := rfl; omega)), w64 (by omega) (by omega)]
  have := l0_blank l x3 hl m (i + 1) (by omega) K
  rw [show ((i : Int) + 1) = ((i + 1 : Nat) : Int) by omega, this]
  have hc : (32 : UInt8) ∈ l[i] :: l.drop (i + 1) ↔ (32 : UInt8) ∈ l.drop (i + 1) := by
   rw [List.mem_cons]
   exact ⟨fun h => h.resolve_left (fun q => hb q.symm), .inr⟩
  simp only [hc]
theorem l1_find (l W : List UInt8) (hW : W.length = l.length + 2) (hl : l.length ≤ 1000) (hn : 0 < l.length) : ∀ (m i : Nat), i + m = 316 → ∀ K, regletref04_Keyword.l1 (K + 2 * m + 2) (mk l) (mk W) (i : Int) = some ((List.range' i m).any (at_ W))
 | 0, i, h, K => by
  obtain rfl : i = 316 := by omega
  rw [regletref04_Keyword.l1]
  simp only [mk_size, List.range'_zero, List.any_nil]
  rw [w64 (by omega) (by omega), if_neg (by omega)]
  simp [regletref04_Keyword.j2]
 | m + 1, i, h, K => by
  have e : K + 2 * (m + 1) + 2 = (K + 2 * m + 2) + 1 + 1 := by omega
  rw [e]
  rw [regletref04_Keyword.l1]
  simp only [mk_size, List.range'_succ, List.any_cons]
  rw [w64 (by omega) (by omega)]
  by_cases hle : i + W.length ≤ 315
  ·rw [if_pos (by omega), decide_eq_true (by omega : (l.length : Int) > 0)]
   rw [regletref04_Keyword.j2, kallB]
   simp only [mk_size]
   have e1 : wrap64 ((i : Int) + (W.length : Int)) = (i : Int) + (W.length : Int) := w64 (by omega) (by omega)
   have e2 : (i : Int) ≤ (i : Int) + (W.length : Int) := by omega
   have e3 : (i : Int) + (W.length : Int) ≤ 315 := by omega
   have e4 : (0 : Int) ≤ (i : Int) := by omega
   rw [if_pos trivial, if_pos e4]
   simp only [e1]
   rw [if_pos e2, if_pos e3]
   have hx : ((mk kall).extract ((i : Int) : Int).toNat (((i : Int) + (W.length : Int)) : Int).toNat) = mk ((kall.drop i).take W.length) := by
    rw [show ((i : Int) + (W.length : Int)).toNat = i + W.length by omega, Int.toNat_natCast]
    apply ByteArray.ext
    apply Array.ext'
    simp [ByteArray.data_extract, List.extract_eq_take_drop]
   rw [hx, mk_toList, mk_toList]
   by_cases hq : (kall.drop i).take W.length = W
   ·rw [if_pos hq]
    simp [at_, hle, hq]
   rw [if_neg hq, w64 (by omega) (by omega), show ((i : Int) + 1) = ((i + 1 : Nat) : Int) by omega, l1_find l W hW hl hn m (i + 1) (by omega) K]
   simp [at_, hq]
  rw [if_neg (by omega)]
  rw [regletref04_Keyword.j2, if_neg (by simp)]
  have : ∀ j ∈ i :: List.range' (i + 1) m, at_ W j = false := by
   intro j hj
   have : i ≤ j := by
    rcases List.mem_cons.1 hj with rfl | hj
    ·omega
    have := (List.mem_range'_1.1 hj).1; omega
   unfold at_
   rw [decide_eq_false (by omega)]
   rfl
  rw [this i (by simp), Bool.false_or]
  congr 1
  symm
  rw [List.any_eq_false]
  intro j hj
  rw [this j (by simp [hj])]
  simp
theorem kws_noblank : (kws.all fun w => !w.contains 32) = true := by kernel_rfl
theorem kws_found : (kws.all fun w => (List.range' 0 316).any (at_ (32 :: w ++ [32]))) = true := by kernel_rfl
def segs (j : Nat) : Bool := ((kall.drop j).head? != some 32) || ((kall.drop (j + 1)).takeWhile (· != 32) == []) || kws.contains ((kall.drop (j + 1)).takeWhile (· != 32))
theorem segs_all : ((List.range' 0 316).all segs) = true := by kernel_rfl
theorem takeWhile_stop (l r : List UInt8) (h : (32 : UInt8) ∉ l) : (l ++ 32 :: r).takeWhile (· != 32) = l := by
 induction l with
 | nil => simp
 | cons b l ih =>
  simp only [List.mem_cons, not_or] at h
  rw [List.cons_append, List.takeWhile_cons, if_pos (by simpa using fun q => h.1 q.symm), ih h.2]
theorem found_iff (l : List UInt8) (h : (32 : UInt8) ∉ l) (hne : l ≠ []) : (List.range' 0 316).any (at_ (32 :: l ++ [32])) = decide (l ∈ kws) := by
 rw [Bool.eq_iff_iff, List.any_eq_true, decide_eq_true_iff]
 constructor
 ·rintro ⟨j, hj, ha⟩
  simp only [at_, Bool.and_eq_true, decide_eq_true_iff, beq_iff_eq] at ha
  obtain ⟨_, ht⟩ := ha
  have hd : kall.drop j = 32 :: (l ++ 32 :: (kall.drop j).drop (32 :: l ++ [32]).length) := by
   have := List.take_append_drop (32 :: l ++ [32]).length (kall.drop j)
   rw [ht] at this
   rw [← this]
   simp
  have hs := List.all_eq_true.1 segs_all j hj
  have hd1 : kall.drop (j + 1) = l ++ 32 :: (kall.drop j).drop (32 :: l ++ [32]).length := by
   rw [← List.drop_drop (i := 1) (j := j), hd]
   simp
  unfold segs at hs
  rw [hd1, takeWhile_stop l _ h] at hs
  rw [hd] at hs
  simp only [List.head?_cons, bne_self_eq_false, Bool.false_or, Bool.or_eq_true, beq_iff_eq] at hs
  rcases hs with hs | hs
  ·exact absurd hs hne
  simpa using hs
 intro hm
 have := List.all_eq_true.1 kws_found l hm
 exact List.any_eq_true.1 this
theorem pad_mk (l : List UInt8) : ((⟨#[32]⟩ : ByteArray) ++ mk l) ++ (⟨#[32]⟩ : ByteArray) = mk (32 :: l ++ [32]) := by
 show (mk [32] ++ mk l) ++ mk [32] = _
 rw [mk_append, mk_append]
 rfl
theorem kw_nil : regletref04_Keyword.l1 (0 + 2 * 316 + 2) (mk []) (mk (32 :: [] ++ [32])) 0 = some false := by kernel_rfl
theorem kw_ref (l : List UInt8) (hl : l.length ≤ 1000) : ∃ n, regletref04_Keyword.f n (mk l) = some (decide (l ∈ kws)) := by
 refine ⟨(0 + 2 * 316 + 2) + l.length + 1, ?_⟩
 unfold regletref04_Keyword.f
 have hz : ((⟨#[32]⟩ : ByteArray) ++ mk l).size = l.length + 1 := by
  show (mk [32] ++ mk l).size = _
  rw [mk_append, mk_size]
  simp
 rw [mk_size, if_pos (by omega), hz, if_pos (by omega), pad_mk]
 have h0 := l0_blank l (mk (32 :: l ++ [32])) hl l.length 0 (by omega) (0 + 2 * 316 + 2)
 rw [show ((0 : Nat) : Int) = 0 from rfl] at h0
 rw [h0, List.drop_zero]
 by_cases hb : (32 : UInt8) ∈ l
 ·rw [if_pos hb, decide_eq_false]
  intro hm
  have := List.all_eq_true.1 kws_noblank l hm
  simp [hb] at this
 rw [if_neg hb]
 by_cases hne : l = []
 ·subst hne
  have h1 : ([] : List UInt8) ∉ kws := by decide
  rw [decide_eq_false h1]
  exact kw_nil
 have hpos : 0 < l.length := List.length_pos_iff.2 hne
 have h1 := l1_find l (32 :: l ++ [32]) (by simp) hl hpos 316 0 (by omega) 0
 rw [show ((0 : Nat) : Int) = 0 from rfl] at h1
 rw [h1, found_iff l hb hne]
end Go.Proofs.YtcdleippdegibaaDoor.Ctk
namespace Go.Proofs.YtcdleippdegibaaDoor.Ctk
open Go Go.RowKit Go.Proofs Go.Lib Go.Proofs.YtcdleippdegibaaDoorW.PrintWords Go.Proofs.YtcdleippdegibaaDoor Go.Proofs.YtcdleippdegibaaDoor.PB Go.Proofs.YtcdleippdegibaaDoor.PC Go.Proofs.YtcdleippdegibaaDoor.PR Go.Proofs.YtcdleippdegibaaDoor.PE Go.Proofs.YtcdleippdegibaaDoor.Digits Go.Proofs.YtcdleippdegibaaDoor.LibG Go.Proofs.YtcdleippdegibaaDoor.ClassH Go.Proofs.YtcdleippdegibaaDoor.One
theorem char_l0 (out : List Int) (h1 : 0 < out.length) (h4 : out.length ≤ 4) : ∀ (m i : Nat), i + m = out.length → ∀ (x : Int) (k : Nat), m + 1 ≤ k → ∃ v, ctok_Char.l0 k out x out (out.length : Int) (i : Int) = some (v, 0)
 | 0, i, h, x, k, hk => by
  obtain ⟨K, rfl⟩ : ∃ K, k = K + 1 := ⟨k - 1, by omega⟩
  have w1 : wrap64 (8 * (out.length : Int)) = 8 * (out.length : Int) := w64 (by omega) (by omega)
  have w2 : wrap64 (8 * (out.length : Int) - 1) = 8 * (out.length : Int) - 1 := w64 (by omega) (by omega)
  have a1 : (0 : Int) ≤ 8 * (out.length : Int) - 1 := by clear w1 w2; omega
  have a2 : (0 : Int) ≤ 8 * (out.length : Int) := by clear w1 w2; omega
  have a3 : ¬ (i : Int) < (out.length : Int) := by clear w1 w2; omega
  rw [ctok_Char.l0, if_neg a3, w1, w2, if_pos a1]
  split
  ·first | exact ⟨_, rfl⟩ | (rw [if_pos a2]; exact ⟨_, rfl⟩)
  exact ⟨_, rfl⟩
 | m + 1, i, h, x, k, hk => by
  obtain ⟨K, rfl⟩ : ∃ K, k = K + 1 := ⟨k - 1, by omega⟩
  have a1 : (i : Int) < (out.length : Int) := by omega
  have a2 : (0 : Int) ≤ (i : Int) := by omega
  have e : i + 1 ≤ 4000000000 := by omega
  rw [ctok_Char.l0, if_pos a1, if_pos a2, if_pos a1, wSucc e]
  exact char_l0 out h1 h4 m (i + 1) (by omega) _ K (by omega)
theorem rchar_l0 (out : List Int) (h4 : out.length ≤ 1000000) (x6 : Int) : ∀ (m i : Nat), i + m = out.length → ∀ (x y : Int) (k : Nat), m + 1 ≤ k → ∃ v, regletref04_Char.l0 k x6 out x y (i : Int) = some (v, 0)
 | 0, i, h, x, y, k, hk => by
  obtain ⟨K, rfl⟩ : ∃ K, k = K + 1 := ⟨k - 1, by omega⟩
  rw [regletref04_Char.l0, if_neg (by omega)]
  split
  ·split <;> exact ⟨_, rfl⟩
  exact ⟨_, rfl⟩
 | m + 1, i, h, x, y, k, hk => by
  obtain ⟨K, rfl⟩ : ∃ K, k = K + 1 := ⟨k - 1, by omega⟩
  have e : i + 1 ≤ 4000000000 := by omega
  rw [regletref04_Char.l0, if_pos (by omega), if_pos (by omega), wSucc e]
  exact rchar_l0 out h4 x6 m (i + 1) (by omega) _ _ K (by omega)
theorem pj1 (out : List Int) (p : ByteArray) (b : Bool) (h1 : b = false → 0 < out.length ∧ out.length ≤ 4) (k : Nat) (hk : 20 ≤ k) : ∃ v, ctok_Char.j1 k out p b = some (v, if b = true then 40 else 0) := by
 obtain ⟨K, rfl⟩ : ∃ K, k = K + 1 := ⟨k - 1, by omega⟩
 rw [ctok_Char.j1]
 cases b with
 | true => exact ⟨0, rfl⟩
 | false =>
  obtain ⟨h1, h4⟩ := h1 rfl
  rw [if_neg (show ¬ (false = true) by simp), if_neg (show ¬ (false = true) by simp)]
  by_cases hp : p.toList = []
  ·rw [if_pos hp]
   exact char_l0 out h1 h4 out.length 0 (by omega) 0 K (by omega)
  rw [if_neg hp, if_pos (by omega)]; exact ⟨_, rfl⟩
theorem rj1 (out : List Int) (p : Int) (b : Bool) (h1 : b = false → out.length ≤ 4) (k : Nat) (hk : 20 ≤ k) : ∃ v, regletref04_Char.j1 k p out b = some (v, if b = true then 40 else 0) := by
 obtain ⟨K, rfl⟩ : ∃ K, k = K + 1 := ⟨k - 1, by omega⟩
 rw [regletref04_Char.j1]
 cases b with
 | true => exact ⟨0, rfl⟩
 | false =>
  have h4 := h1 rfl
  rw [if_neg (by simp), if_neg (by simp)]
  exact rchar_l0 out (by omega) p out.length 0 (by omega) 0 1 K (by omega)
theorem pre_noq (p : List UInt8) (h : p ∈ pres) : ∀ c ∈ p, c ≠ 39 ∧ c ≠ 34 := by
 simp only [pres, List.mem_cons, List.not_mem_nil, or_false] at h
 rcases h with rfl | rfl | rfl | rfl | rfl <;> decide
theorem char_both (l : List UInt8) (hl : l.length ≤ 1000) (k : Nat) (hk : 10 * l.length + 500 ≤ k) : ∃ v v' e, ctok_Char.f k (mk l) = some (v, e) ∧ regletref04_Char.f k (mk l) = some (v', e) := by
 obtain ⟨K, rfl⟩ : ∃ K, k = K + 1 := ⟨k - 1, by omega⟩
 obtain ⟨r, b, ho, h3, _⟩ := one_mk l (by omega) (K + 1) (by omega)
 obtain ⟨r', b', ho', h3', _⟩ := one_ref l (by omega) (K + 1) (by omega)
 unfold ctok_Char.f regletref04_Char.f
 rw [ho, ho', Option.bind_some, Option.bind_some]
 by_cases h39 : isL 39 l pre39 = true
 ·obtain ⟨rfl, rfl⟩ := h3.2 h39
  obtain ⟨rfl, rfl⟩ := h3'.2 h39
  rw [if_pos rfl, if_pos rfl]
  show ∃ v v' e, ctok_Char.j0 (K + 1) (mk l) false = some (v, e) ∧ regletref04_Char.j0 (K + 1) (mk l) false = some (v', e)
  obtain ⟨p, hp, rr, rfl, t, rfl, _, hne⟩ := (isL_iff 39 (.inl rfl) l pre39 u39).1 h39
  have hpn := pre_noq p ((in39 p).1 hp).1
  have hel := els_both 39 (.inl rfl) p t hpn (by omega) K (by omega)
  have hpre : regletref04_prefix.f K (mk (p ++ 39 :: (t ++ [39]))) = some (p.length : Int) := prefix_lit 39 (.inl rfl) p (t ++ [39]) hpn (by omega) p.length 0 (by omega) K (by simp only [List.length_append, List.length_cons] at hk; omega)
  rw [ctok_Char.j0, regletref04_Char.j0, if_neg (by simp), if_neg (by simp), hpre, Option.bind_some]
  rcases hel with ⟨out, e1, e2, e3⟩ | ⟨p', e1, e2⟩
  ·have hout : out ≠ [] := e3 (hne rfl)
   have hpos : 0 < out.length := List.length_pos_iff.2 hout
   rw [show (⟨#[39]⟩ : ByteArray) = mk [39] from rfl, e1, e2, Option.bind_some, Option.bind_some]
   have kk : 20 ≤ K := by omega
   show ∃ v v' e, (if (0 : Int) = 0 then (if (out.length : Int) = 0 then (ctok_Char.j1 K out (mk p) true) else (if (out.length : Int) > 4 then (ctok_Char.j1 K out (mk p) true) else (if (mk p).toList = ([] : List UInt8) then (ctok_Char.j1 K out (mk p) false) else (ctok_Char.j1 K out (mk p) (decide ((out.length : Int) > 1)))))) else (ctok_Char.j1 K out (mk p) true)) = some (v, e) ∧ (if (true : Bool) = true then (if (out.length : Int) > 4 then (regletref04_Char.j1 K (p.length : Int) out true) else (if (p.length : Int) > 0 then (regletref04_Char.j1 K (p.length : Int) out (decide ((out.length : Int) > 1))) else (regletref04_Char.j1 K (p.length : Int) out false))) else (regletref04_Char.j1 K (p.length : Int) out true)) = some (v', e)
   rw [if_pos rfl, if_neg (by omega), if_pos rfl, mk_toList]
   by_cases h4 : (out.length : Int) > 4
   ·rw [if_pos h4, if_pos h4]
    obtain ⟨v, hv⟩ := pj1 out (mk p) true (by simp) K kk
    obtain ⟨v', hv'⟩ := rj1 out (p.length : Int) true (by simp) K kk
    exact ⟨v, v', _, hv, hv'⟩
   rw [if_neg h4, if_neg h4]
   have fin : ∀ b, ∃ v v' e, ctok_Char.j1 K out (mk p) b = some (v, e) ∧ regletref04_Char.j1 K (p.length : Int) out b = some (v', e) := by
    intro b
    obtain ⟨v, hv⟩ := pj1 out (mk p) b (fun _ => ⟨hpos, by omega⟩) K kk
    obtain ⟨v', hv'⟩ := rj1 out (p.length : Int) b (fun _ => by omega) K kk
    exact ⟨v, v', _, hv, hv'⟩
   by_cases hp0 : p = []
   ·rw [if_pos hp0, if_neg (by rw [hp0]; simp)]; exact fin false
   have := List.length_pos_iff.2 hp0
   rw [if_neg hp0, if_pos (by omega)]; exact fin _
  rw [show (⟨#[39]⟩ : ByteArray) = mk [39] from rfl, e1, e2, Option.bind_some, Option.bind_some]
  obtain ⟨v, hv⟩ := pj1 [] p' true (by simp) K (by omega)
  obtain ⟨v', hv'⟩ := rj1 [] (p.length : Int) true (by simp) K (by omega)
  refine ⟨v, v', 40, ?_, ?_⟩
  ·rw [if_neg (show ¬ ((40 : Int)) = 0 by decide)]; exact hv
  rw [if_neg (show ¬ (([] : List Int), false).2 = true by decide)]; exact hv'
 have t1 : ctok_Char.j0 (K + 1) (mk l) true = some (0, 40) := by rw [ctok_Char.j0, if_pos rfl]
 have t2 : regletref04_Char.j0 (K + 1) (mk l) true = some (0, 40) := by rw [regletref04_Char.j0, if_pos rfl]
 refine ⟨0, 0, 40, ?_, ?_⟩
 ·cases b with
  | false => rw [if_neg (by simp)]; exact t1
  | true =>
   have : (r != 3) = true := by
    rw [bne_iff_ne]; exact fun h => h39 (h3.1 ⟨rfl, h⟩)
   rw [if_pos rfl]
   show ctok_Char.j0 (K + 1) (mk l) (r != 3) = _
   rw [this]; exact t1
 cases b' with
 | false => rw [if_neg (by simp)]; exact t2
 | true =>
  have : (r' != 3) = true := by
   rw [bne_iff_ne]; exact fun h => h39 (h3'.1 ⟨rfl, h⟩)
  rw [if_pos rfl]
  show regletref04_Char.j0 (K + 1) (mk l) (r' != 3) = _
  rw [this]; exact t2
theorem str_both (l : List UInt8) (hl : l.length ≤ 1000) (k : Nat) (hk : 10 * l.length + 500 ≤ k) : ∃ v e, ctok_Str.f k (mk l) = some (v, e) ∧ regletref04_Str.f k (mk l) = some (v, e) := by
 obtain ⟨K, rfl⟩ : ∃ K, k = K + 1 := ⟨k - 1, by omega⟩
 obtain ⟨r, b, ho, _, h4⟩ := one_mk l (by omega) (K + 1) (by omega)
 obtain ⟨r', b', ho', _, h4'⟩ := one_ref l (by omega) (K + 1) (by omega)
 unfold ctok_Str.f regletref04_Str.f
 rw [ho, ho', Option.bind_some, Option.bind_some]
 by_cases h34 : isL 34 l pre34 = true
 ·obtain ⟨rfl, rfl⟩ := h4.2 h34
  obtain ⟨rfl, rfl⟩ := h4'.2 h34
  rw [if_pos rfl, if_pos rfl, if_pos rfl]
  show ∃ v e, (ctok_elements.f (K + 1) (mk l) (mk [34])).bind (fun bt114 => some (bt114.1, bt114.2.2)) = some (v, e) ∧ regletref04_Str.j0 (K + 1) (mk l) false = some (v, e)
  obtain ⟨p, hp, rr, rfl, t, rfl, _, hne⟩ := (isL_iff 34 (.inr rfl) l pre34 u34).1 h34
  have hpn := pre_noq p ((in34 p).1 hp)
  have hel := els_both 34 (.inr rfl) p t hpn (by omega) K (by omega)
  have hpre : regletref04_prefix.f K (mk (p ++ 34 :: (t ++ [34]))) = some (p.length : Int) := prefix_lit 34 (.inr rfl) p (t ++ [34]) hpn (by omega) p.length 0 (by omega) K (by simp only [List.length_append, List.length_cons] at hk; omega)
  rw [regletref04_Str.j0, if_neg (by simp), hpre, Option.bind_some]
  have up := ctok_elements.mono (mk (p ++ 34 :: (t ++ [34]))) (mk [34]) K
  rcases hel with ⟨out, e1, e2, e3⟩ | ⟨p', e1, e2⟩
  ·rw [up _ e1, e2, Option.bind_some, Option.bind_some]
   exact ⟨out, 0, rfl, rfl⟩
  rw [up _ e1, e2, Option.bind_some, Option.bind_some]
  exact ⟨[], 40, rfl, rfl⟩
 refine ⟨[], 40, ?_, ?_⟩
 ·cases b with
  | false => rw [if_neg (by simp)]
  | true =>
   have : ¬ r = 4 := fun h => h34 (h4.1 ⟨rfl, h⟩)
   rw [if_pos rfl]
   show (if r = 4 then _ else _) = _
   rw [if_neg this]
 have t2 : regletref04_Str.j0 (K + 1) (mk l) true = some ([], 40) := by rw [regletref04_Str.j0, if_pos rfl]
 cases b' with
 | false => rw [if_neg (by simp)]; exact t2
 | true =>
  have : (r' != 4) = true := by
   rw [bne_iff_ne]; exact fun h => h34 (h4'.1 ⟨rfl, h⟩)
  rw [if_pos rfl]
  show regletref04_Str.j0 (K + 1) (mk l) (r' != 4) = _
  rw [this]; exact t2
theorem class_join (k : Nat) (c e : Int) (x : ByteArray) (h : regletref04_class.f k c x = some e) : regletref04_Class.f k c x = if e = 0 then some (0, ⟨#[]⟩, 40) else if e = 7 then (regletref04_Canon.f x).bind fun t => some (e, t, 0) else some (e, x, 0) := by
 unfold regletref04_Class.f
 rw [h, Option.bind_some]
theorem class_both (c : Int) (l : List UInt8) (hl : l.length ≤ 1000) : ∃ n r, ∀ k, n ≤ k → ctok_Class.f k c (mk l) = some r ∧ regletref04_Class.f k c (mk l) = some r := by
 obtain ⟨nk, hkw⟩ := kw_ref l hl
 obtain ⟨ni, ir, ir', hi, hi', hie⟩ := int_both l hl
 refine ⟨nk + ni + 10 * l.length + 500, ?_⟩
 have hfl := fun (k : Nat) (hk : l.length + 9 ≤ k) => lift_some (k := k) (f := fun k => regletref04_Float.f k (mk l)) (fun k => regletref04_Float.mono _ k) (by omega) (float_ref l (by omega) 0)
 have hfm := fun (k : Nat) (hk : 6 ≤ k) => lift_some (k := k) (f := fun k => ctok_Float.f k (mk l)) (fun k => ctok_Float.mono _ k) (by omega) (float_mk 0 l (by omega))
 obtain ⟨fl, hfe⟩ : ∃ fl, (if hexL l = true then floatL 16 112 (l.drop 2) else floatL 10 101 l) = fl := ⟨_, rfl⟩
 rw [hfe] at hfl hfm
 by_cases c1 : c = 1
 ·subst c1
  refine ⟨(if decide (l ∈ kws) = true then 1 else 2, mk l, 0), fun k hk => ?_⟩
  have hk1 := lift_some (k := k) (f := fun k => regletref04_Keyword.f k (mk l)) (fun k => regletref04_Keyword.mono _ k) (by omega) hkw
  have hc : regletref04_class.f k 1 (mk l) = some (if decide (l ∈ kws) = true then 1 else 2) := by
   unfold regletref04_class.f
   rw [if_pos rfl, hk1, Option.bind_some]
   split <;> rfl
  constructor
  ·unfold ctok_Class.f
   rw [if_pos rfl, kw_mk, Option.bind_some]
   split <;> rfl
  rw [class_join k 1 _ (mk l) hc]
  split <;> rfl
 by_cases c2 : c = 2
 ·subst c2
  refine ⟨if ir.2.2 = 0 then (3, mk l, 0) else if fl = true then (4, mk l, 0) else (0, ⟨#[]⟩, 40), fun k hk => ?_⟩
  have hi1 := lift_some (k := k) (f := fun k => regletref04_Int.f k (mk l)) (fun k => regletref04_Int.mono _ k) (by omega) hi'
  have hc : regletref04_class.f k 2 (mk l) = some (if ir.2.2 = 0 then 3 else if fl = true then 4 else 0) := by
   unfold regletref04_class.f
   rw [if_neg (by decide), if_pos rfl, hi1, Option.bind_some, hfl k (by omega), Option.bind_some]
   by_cases h0 : ir.2.2 = 0
   ·rw [if_pos (hie.1 h0), if_pos h0]
   rw [if_neg (fun h => h0 (hie.2 h)), if_neg h0]
   split <;> rfl
  constructor
  ·unfold ctok_Class.f
   rw [if_neg (by decide), if_pos rfl, hi, Option.bind_some, hfm k (by omega), Option.bind_some]
   split
   ·rfl
   split <;> rfl
  rw [class_join k 2 _ (mk l) hc]
  by_cases h0 : ir.2.2 = 0
  ·simp only [if_pos h0]; rfl
  simp only [if_neg h0]
  cases fl <;> rfl
 by_cases c3 : c = 3
 ·subst c3
  obtain ⟨_, _, e0, ha, hb⟩ := char_both l hl (10 * l.length + 500) (by omega)
  refine ⟨if e0 = 0 then (5, mk l, 0) else (0, ⟨#[]⟩, 40), fun k hk => ?_⟩
  have ha1 := lift_some (k := k) (f := fun k => ctok_Char.f k (mk l)) (fun k => ctok_Char.mono _ k) (by omega) ha
  have hb1 := lift_some (k := k) (f := fun k => regletref04_Char.f k (mk l)) (fun k => regletref04_Char.mono _ k) (by omega) hb
  have hc : regletref04_class.f k 3 (mk l) = some (if e0 = 0 then 5 else 0) := by
   unfold regletref04_class.f
   rw [if_neg (by decide), if_neg (by decide), if_pos rfl, hb1, Option.bind_some]
   by_cases h0 : e0 = 0
   ·rw [if_pos (show _ = (0 : Int) from h0), if_pos h0]
   rw [if_neg (show ¬ _ = (0 : Int) from h0), if_neg h0]
  constructor
  ·unfold ctok_Class.f
   rw [if_neg (by decide), if_neg (by decide), if_pos rfl, ha1, Option.bind_some]
   by_cases h0 : e0 = 0
   ·rw [if_pos (show _ = (0 : Int) from h0), if_pos h0]
   rw [if_neg (show ¬ _ = (0 : Int) from h0), if_neg h0]
  rw [class_join k 3 _ (mk l) hc]
  by_cases h0 : e0 = 0
  ·simp only [if_pos h0]; rfl
  simp only [if_neg h0]; rfl
 by_cases c4 : c = 4
 ·subst c4
  obtain ⟨_, e0, ha, hb⟩ := str_both l hl (10 * l.length + 500) (by omega)
  refine ⟨if e0 = 0 then (6, mk l, 0) else (0, ⟨#[]⟩, 40), fun k hk => ?_⟩
  have ha1 := lift_some (k := k) (f := fun k => ctok_Str.f k (mk l)) (fun k => ctok_Str.mono _ k) (by omega) ha
  have hb1 := lift_some (k := k) (f := fun k => regletref04_Str.f k (mk l)) (fun k => regletref04_Str.mono _ k) (by omega) hb
  have hc : regletref04_class.f k 4 (mk l) = some (if e0 = 0 then 6 else 0) := by
   unfold regletref04_class.f
   rw [if_neg (by decide), if_neg (by decide), if_neg (by decide), if_pos rfl, hb1, Option.bind_some]
   by_cases h0 : e0 = 0
   ·rw [if_pos (show _ = (0 : Int) from h0), if_pos h0]
   rw [if_neg (show ¬ _ = (0 : Int) from h0), if_neg h0]
  constructor
  ·unfold ctok_Class.f
   rw [if_neg (by decide), if_neg (by decide), if_neg (by decide), if_pos rfl, ha1, Option.bind_some]
   by_cases h0 : e0 = 0
   ·rw [if_pos (show _ = (0 : Int) from h0), if_pos h0]
   rw [if_neg (show ¬ _ = (0 : Int) from h0), if_neg h0]
  rw [class_join k 4 _ (mk l) hc]
  by_cases h0 : e0 = 0
  ·simp only [if_pos h0]; rfl
  simp only [if_neg h0]; rfl
 by_cases c5 : c = 5
 ·subst c5
  obtain ⟨t, ht⟩ : ∃ t, ctok_Canon.f (mk l) = some t := by
   unfold ctok_Canon.f
   repeat (split; exact ⟨_, rfl⟩)
   exact ⟨_, rfl⟩
  have ht' : regletref04_Canon.f (mk l) = some t := ht
  refine ⟨(7, t, 0), fun k hk => ?_⟩
  have hc : regletref04_class.f k 5 (mk l) = some 7 := by
   unfold regletref04_class.f
   rw [if_neg (by decide), if_neg (by decide), if_neg (by decide), if_neg (by decide), if_pos rfl]
  constructor
  ·unfold ctok_Class.f
   rw [if_neg (by decide), if_neg (by decide), if_neg (by decide), if_neg (by decide), if_pos rfl, ht]
   rfl
  rw [class_join k 5 _ (mk l) hc, ht']
  rfl
 refine ⟨(0, ⟨#[]⟩, 40), fun k hk => ?_⟩
 have hc : regletref04_class.f k c (mk l) = some 0 := by
  unfold regletref04_class.f
  rw [if_neg c1, if_neg c2, if_neg c3, if_neg c4, if_neg c5]
 constructor
 ·unfold ctok_Class.f
  rw [if_neg c1, if_neg c2, if_neg c3, if_neg c4, if_neg c5]
 rw [class_join k c _ (mk l) hc]
 rfl
theorem classes_all (c : Int) (l : List UInt8) (hl : l.length ≤ 1000) : ∃ n r kw cn fl, ctok_Class.f n c (mk l) = some r ∧ regletref04_Class.f n c (mk l) = some r ∧ ctok_Keyword.f (mk l) = some kw ∧ regletref04_Keyword.f n (mk l) = some kw ∧ ctok_Canon.f (mk l) = some cn ∧ regletref04_Canon.f (mk l) = some cn ∧ ctok_Float.f n (mk l) = some fl ∧ regletref04_Float.f n (mk l) = some fl := by
 obtain ⟨n, r, hc⟩ := class_both c l hl
 obtain ⟨nk, hkw⟩ := kw_ref l hl
 obtain ⟨t, ht⟩ : ∃ t, ctok_Canon.f (mk l) = some t := by
  unfold ctok_Canon.f
  repeat (split; exact ⟨_, rfl⟩)
  exact ⟨_, rfl⟩
 obtain ⟨h1, h2⟩ := hc (n + nk + l.length + 9) (by omega)
 refine ⟨n + nk + l.length + 9, r, _, t, if hexL l = true then floatL 16 112 (l.drop 2) else floatL 10 101 l, h1, h2, kw_mk l, ?_, ht, ht, ?_, ?_⟩
 ·exact lift_some (f := fun k => regletref04_Keyword.f k (mk l)) (fun k => regletref04_Keyword.mono _ k) (by omega) hkw
 ·exact lift_some (f := fun k => ctok_Float.f k (mk l)) (fun k => ctok_Float.mono _ k) (by omega) (float_mk 0 l (by omega))
 exact lift_some (f := fun k => regletref04_Float.f k (mk l)) (fun k => regletref04_Float.mono _ k) (by omega) (float_ref l (by omega) 0)
end Go.Proofs.YtcdleippdegibaaDoor.Ctk
