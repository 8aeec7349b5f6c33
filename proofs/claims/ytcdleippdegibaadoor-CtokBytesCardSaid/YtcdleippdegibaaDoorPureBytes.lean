/- Bytes that are written as three octal digits each are read as these: in plain lists of bytes. Conditions: at most 5,000 bytes (else the law says nothing). -/
import Derived.Test.YtcdleippdegibaaDoorScanP
import Derived.Test.YtcdleippdegibaaDoorPEx3
namespace Go.Proofs.YtcdleippdegibaaDoor.Ctk
open Go Go.RowKit Go.Proofs Go.Proofs.YtcdleippdegibaaDoor Go.Proofs.YtcdleippdegibaaDoor.PB Go.Proofs.YtcdleippdegibaaDoor.PE Go.Proofs.YtcdleippdegibaaDoor.Digits Go.Proofs.YtcdleippdegibaaDoor.One Go.Proofs.YtcdleippdegibaaDoor.LibG Go.Lib Go.Proofs.YtcdleippdegibaaDoorW.PrintWords

def ints (l : List UInt8) : List Int := l.map fun c => (c.toNat : Int)
theorem ints_len (l : List UInt8) : (ints l).length = l.length := by simp [ints]
theorem str_ints (l : List UInt8) : strOfNums (ints l) = mk l := by
  unfold strOfNums ints
  simp [List.map_map, Function.comp_def]
theorem rd_ints (p r : List UInt8) (b : UInt8) : rd (ints (p ++ b :: r)) (p.length : Int) = (b.toNat : Int) := by
  simp [rd, ints, List.getD]
theorem oct_digs (b : UInt8) (r : List UInt8) : (digL 8 ((48 + b / 64) :: (48 + b / 8 % 8) :: (48 + b % 8) :: r)).take 3 = [((b.toNat / 64 : Nat) : Int), ((b.toNat / 8 % 8 : Nat) : Int), ((b.toNat % 8 : Nat) : Int)] := by
  obtain ⟨h1, h2, h3⟩ := oct_dig b
  have hb := b.toNat_lt
  have q1 : ¬ ((b.toNat / 64 : Nat) : Int) ≥ 8 := by omega
  have q2 : ¬ ((b.toNat / 8 % 8 : Nat) : Int) ≥ 8 := by omega
  have q3 : ¬ ((b.toNat % 8 : Nat) : Int) ≥ 8 := by omega
  rw [digL, h1, if_neg (by omega), if_neg q1, digL, h2, if_neg (by omega), if_neg q2, digL, h3, if_neg (by omega), if_neg q3]
  rfl
theorem esc_of (b : UInt8) (r : List UInt8) (h : r.length ≤ 999999000) : ctok_escape.f (mk (92 :: (48 + b / 64) :: (48 + b / 8 % 8) :: (48 + b % 8) :: r)) = some ((b.toNat : Int), 4) := by
  obtain ⟨⟨_, _, _, a4⟩, _⟩ := oct_facts b
  have hi := oct_idx b
  have hd := oct_digs b r
  have hb := b.toNat_lt
  unfold ctok_escape.f
  obtain ⟨T, hT⟩ : ∃ T, 92 :: (48 + b / 64) :: (48 + b / 8 % 8) :: (48 + b % 8) :: r = T := ⟨_, rfl⟩
  have hlen : T.length = r.length + 4 := by rw [← hT]; simp
  have h1 : ∀ h : 1 < (mk T).size, (mk T)[1]'h = 48 + b / 64 := by subst hT; intro _; rfl
  have hx : (mk T).extract 1 (mk T).size = mk ((48 + b / 64) :: (48 + b / 8 % 8) :: (48 + b % 8) :: r) := by rw [mk_extract, ← hT]; rfl
  rw [hT, if_pos (by rw [mk_size]; omega), dif_pos (show 2 ≤ (mk T).size by rw [mk_size]; omega)]
  simp only [h1]
  rw [hi, if_neg (by decide), if_neg (show ¬ ((48 + b / 64).toNat : Int) = 120 from u8ne (b := 120) a4), hx]
  congr 1
  unfold escRes
  rw [show digs (mk ((48 + b / 64) :: (48 + b / 8 % 8) :: (48 + b % 8) :: r)) 8 = digL 8 ((48 + b / 64) :: (48 + b / 8 % 8) :: (48 + b % 8) :: r) from rfl, hd, if_neg (by simp)]
  simp only [eOf, List.foldl_cons, List.foldl_nil, eStep, List.length_cons, List.length_nil]
  refine Prod.ext ?_ (by rfl)
  simp only
  omega
theorem elems_run : ∀ (bs : List UInt8) (acc : List Int) (x7 : ByteArray) (M : Nat), bs.length ≤ 5000 → acc.length + bs.length ≤ 5000 →
    ctok_elements.l0 (bs.length + M + 1) x7 (mk (octs bs)) 255 acc = some (acc ++ ints bs, x7, 0) := by
  intro bs
  induction bs with
  | nil =>
    intro acc x7 M _ _
    rw [show ([] : List UInt8).length + M + 1 = M + 1 by simp, ctok_elements.l0, mk_toList, if_pos (by rfl)]
    simp [ints]
  | cons b bs ih =>
    intro acc x7 M h5 ha
    have hlo := octs_len bs
    simp only [List.length_cons] at h5 ha
    have e : octs (b :: bs) = 92 :: (48 + b / 64) :: (48 + b / 8 % 8) :: (48 + b % 8) :: octs bs := by simp [octs, octB]
    have he := esc_of b (octs bs) (by omega)
    rw [← e] at he
    have hx : (mk (octs (b :: bs))).extract ((4 : Int)).toNat (mk (octs (b :: bs))).size = mk (octs bs) := by
      rw [show ((4 : Int)).toNat = 4 from rfl, mk_extract, e]; rfl
    have hl : (octs (b :: bs)).length = (octs bs).length + 4 := by rw [e]; simp
    have hb : bt (mk (octs (b :: bs))) 0 = 92 := by rw [e]; exact bt_mk (92 :: (48 + b / 64) :: (48 + b / 8 % 8) :: (48 + b % 8) :: octs bs) 0 (by simp)
    have hb2 := b.toNat_lt
    obtain ⟨X, hX⟩ : ∃ X, octs (b :: bs) = X := ⟨_, rfl⟩
    have hne : ¬ X = [] := by rw [← hX, e]; simp
    rw [hX] at he hx hl hb ⊢
    rw [show (b :: bs).length + M + 1 = (bs.length + M + 1) + 1 by simp; omega, ctok_elements.l0, mk_toList, if_neg hne, if_pos (by rw [mk_size]; omega), hb, if_pos rfl, he, Option.bind_some]
    simp only
    rw [if_neg (by decide), if_neg (by omega), if_pos (by omega), if_pos (by decide), if_pos (by rw [mk_size]; omega), hx, w64' (by omega) (by omega), ih _ _ _ (by omega) (by simp; omega)]
    simp [ints]
theorem str_of (bs : List UInt8) (h : bs.length ≤ 5000) : ∃ k, ∀ K, ctok_Str.f (K + k) (mk (34 :: (octs bs ++ [34]))) = some (ints bs, 0) := by
  have hlo := octs_len bs
  obtain ⟨k, hk⟩ := one_of bs (by omega)
  refine ⟨k + bs.length + 5, fun K => ?_⟩
  have h1 := hk (K + bs.length + 5)
  rw [show K + bs.length + 5 + k = K + (k + bs.length + 5) by omega] at h1
  obtain ⟨T, hT⟩ : ∃ T, 34 :: (octs bs ++ [34]) = T := ⟨_, rfl⟩
  have hlen : T.length = (octs bs).length + 2 := by rw [← hT]; simp
  have hcut : strings_Cut.f (mk T) (⟨#[34]⟩ : ByteArray) = some (mk [], mk (octs bs ++ [34]), true) := by
    unfold strings_Cut.f
    rw [if_pos (by rw [mk_size]; omega), mk_list, show (⟨#[34]⟩ : ByteArray).data.toList = [34] from rfl]
    have hi : index T [34] = 0 := by rw [index_one, ← hT]; simp [indexByte]
    unfold cut
    rw [hi, if_pos (by decide), ← hT]
    rfl
  have hx : (mk (octs bs ++ [34])).extract 0 ((((octs bs ++ [34]).length : Int) - 1)).toNat = mk (octs bs) := by
    apply ByteArray.ext
    apply Array.toList_inj.1
    have : ((((octs bs ++ [34]).length : Int) - 1)).toNat = (octs bs).length := by simp
    rw [this]
    simp [ByteArray.data_extract]
  rw [hT] at h1 ⊢
  unfold ctok_Str.f
  rw [h1, Option.bind_some]
  simp only
  rw [if_pos trivial, if_pos trivial]
  have hel : ctok_elements.f (K + (k + bs.length + 5)) (mk T) (⟨#[34]⟩ : ByteArray) = some (ints bs, mk [], 0) := by
    unfold ctok_elements.f
    rw [hcut, Option.bind_some]
    simp only [mk_toList]
    rw [if_neg (by simp), if_neg (by simp), if_neg (by simp), show K + (k + bs.length + 5) = (bs.length + (K + k + 3) + 1) + 1 by omega, ctok_elements.j0, if_pos rfl]
    have hs : ((mk (octs bs ++ [34])).size : Int) = ((octs bs ++ [34]).length : Int) := rfl
    have hs2 : (octs bs ++ [34]).length = (octs bs).length + 1 := by simp
    rw [hs, w64' (by omega) (by omega), if_pos (by omega), if_pos (by omega), hx, elems_run bs [] (mk []) _ h (by simpa using h)]
    simp
  rw [hel]
  rfl
theorem l1_run (bs : List UInt8) (x3 : Bool) (hb : bs.length ≤ 5000) : ∀ (rest pre : List UInt8) (M : Nat), pre ++ rest = bs → regletlaw04_CtokBytes.l1 (rest.length + M + 1) (ints bs) x3 (ints bs) (pre.length : Int) = some x3 := by
  intro rest
  induction rest with
  | nil =>
    intro pre M h
    rw [show ([] : List UInt8).length + M + 1 = M + 1 by simp, regletlaw04_CtokBytes.l1, ints_len, if_neg (by have := congrArg List.length h; simp at this; omega)]
  | cons b rest ih =>
    intro pre M h
    have hl := congrArg List.length h
    simp only [List.length_append, List.length_cons] at hl
    have hr : rd (ints bs) (pre.length : Int) = (b.toNat : Int) := by rw [← h]; exact rd_ints _ _ _
    have hb2 := b.toNat_lt
    rw [show (b :: rest).length + M + 1 = (rest.length + M + 1) + 1 by simp; omega, regletlaw04_CtokBytes.l1, ints_len, if_pos (by omega), if_pos (by omega), if_pos (by omega), hr, w64' (by omega) (by omega), if_pos rfl, w64' (by omega) (by omega)]
    have := ih (pre ++ [b]) M (by simpa using h)
    simpa using this
theorem l0_run (bs : List UInt8) (x3 : Bool) (hb : bs.length ≤ 5000) (r : Option Bool) (M : Nat)
    (hend : ((ctok_Str.f M (mk (34 :: (octs bs ++ [34])))).bind fun bt158 => (if bt158.2 = 0 then (regletlaw04_CtokBytes.j2 M (ints bs) x3 bt158.1 ((bt158.1.length : Int) != ((ints bs).length : Int))) else (regletlaw04_CtokBytes.j2 M (ints bs) x3 bt158.1 true))) = r) :
    ∀ (rest pre : List UInt8), pre ++ rest = bs → regletlaw04_CtokBytes.l0 (rest.length + M + 1) (ints bs) x3 (ints (34 :: octs pre)) (pre.length : Int) = r := by
  intro rest
  induction rest with
  | nil =>
    intro pre h
    have hp : pre = bs := by simpa using h
    subst hp
    have hlo := octs_len pre
    have e : ints (34 :: octs pre) ++ [34] = ints (34 :: (octs pre ++ [34])) := by simp [ints]
    have hle : (ints (34 :: octs pre)).length = (octs pre).length + 1 := by rw [ints_len]; simp
    rw [show ([] : List UInt8).length + M + 1 = M + 1 by simp, regletlaw04_CtokBytes.l0, if_neg (by rw [ints_len]; omega), if_pos (by omega), e, str_ints]
    exact hend
  | cons b rest ih =>
    intro pre h
    have hl := congrArg List.length h
    simp only [List.length_append, List.length_cons] at hl
    have hr : rd (ints bs) (pre.length : Int) = (b.toNat : Int) := by rw [← h]; exact rd_ints _ _ _
    have hlo := octs_len pre
    have hle : (ints (34 :: octs pre)).length = (octs pre).length + 1 := by rw [ints_len]; simp
    have hoc := oct_eq b
    unfold oct at hoc
    have hol : ((octB b).map fun c => (c.toNat : Int)).length = 4 := by simp [octB]
    rw [show (b :: rest).length + M + 1 = (rest.length + M + 1) + 1 by simp; omega, regletlaw04_CtokBytes.l0, if_pos (by rw [ints_len]; omega), if_pos (by omega), hr, hoc, Option.bind_some, if_pos (by omega), w64' (by omega) (by omega)]
    have e : ints (34 :: octs pre) ++ ((octB b).map fun c => (c.toNat : Int)) = ints (34 :: octs (pre ++ [b])) := by simp [ints, octs]
    rw [e]
    have := ih (pre ++ [b]) (by simpa using h)
    simpa using this
theorem CtokBytes : regletlaw04_CtokBytes.Pure := by
  intro l0 hm _ hwf
  by_cases h5 : (l0.length : Int) > 5000
  · refine ⟨1, ?_⟩
    unfold regletlaw04_CtokBytes.f
    rw [show Alive.regletlaw04_alive.f = some true from rfl, Option.bind_some, if_pos h5, regletlaw04_CtokBytes.j0, if_pos rfl]
  · obtain ⟨bs, rfl⟩ : ∃ bs, l0 = ints bs := by
      refine ⟨l0.map fun x => x.toNat.toUInt8, ?_⟩
      unfold ints
      rw [List.map_map]
      conv => lhs; rw [← List.map_id l0]
      refine List.map_congr_left fun x hx => ?_
      have hw := hwf x hx
      simp [Lit.wf] at hw
      have e1 : IntKind.u8.min = 0 := rfl
      have e2 : IntKind.u8.max = 255 := rfl
      simp
      omega
    rw [ints_len] at h5
    obtain ⟨k, hk⟩ := str_of bs (by omega)
    refine ⟨bs.length + (bs.length + k + 5) + 1 + 1, ?_⟩
    unfold regletlaw04_CtokBytes.f
    rw [show Alive.regletlaw04_alive.f = some true from rfl, Option.bind_some, ints_len, if_neg h5, show (!true) = false from rfl, regletlaw04_CtokBytes.j0, if_neg (by simp)]
    have := l0_run bs true (by omega) (some true) (bs.length + k + 5) (by
      have hs := hk (bs.length + 5)
      rw [show bs.length + 5 + k = bs.length + k + 5 by omega] at hs
      rw [hs, Option.bind_some]
      simp only
      rw [if_pos trivial, show (((ints bs).length : Int) != ((ints bs).length : Int)) = false from by simp, show bs.length + k + 5 = (bs.length + (k + 3) + 1) + 1 by omega, regletlaw04_CtokBytes.j2, if_neg (by simp)]
      exact l1_run bs true (by omega) bs [] (k + 3) rfl) bs [] rfl
    simpa [ints, octs] using this
end Go.Proofs.YtcdleippdegibaaDoor.Ctk
