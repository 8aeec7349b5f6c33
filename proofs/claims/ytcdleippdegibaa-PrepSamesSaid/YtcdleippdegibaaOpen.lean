/-
Arguments are opened kind by kind: what a type's reading says of the cells, for whole numbers, bools, strings, slices and structs of these, however nested. Nothing of a program stands in it.
-/
import Derived.Test.YtcdleippdegibaaRows
import Derived.Test.YtcdleippdegibaaWWords
import Derived.Deep.Slices
import Derived.Deep.Fields
import Derived.ChangeSame
namespace Go.Proofs.Ytcdleippdegibaa.Opens
open Go.ChangeShapes Go.WideShapes Go.Deep Go.RowKit Go.Proofs.YtcdleippdegibaaW.PrintWords
open Go.Proofs.Ytcdleippdegibaa

/-- What type T's reading says: the cells are kind d's at some a, which is well made (G), and whose measure (m) the datum's bulk bounds. -/
structure Opens {α : Type} (P : Program) (T : TypeId) (d : Kd α) (G : α → Prop) (m : α → Nat) : Prop where
  sz : P.cellsOf T = d.sz
  op : ∀ {H : Type} {enc : TypeId × Value → H} {w : World} {base : Nat} {spare : Nat → Bool} {held : Bool} {fuel : Nat} {cs : List Value} {x : DataW H × List MemPlace},
    DataW.trod enc P w base spare held fuel T cs = some x → ∃ a, d.K w a cs ∧ G a ∧ m a ≤ Rows.uptoBulk x.1

theorem opens_int {P : Program} {T : TypeId} {k : IntKind} (ht : P.underlying T = some (.int k)) (hs : P.cellsOf T = 1) : Opens P T (Kd.int k) (fun n => (Lit.int k n).wf = true) (fun _ => 1) where
  sz := hs
  op := by
    intro H enc w base spare held fuel cs x h
    obtain ⟨n, rfl, rfl, hw⟩ := DataW.trod_int ht h
    exact ⟨n, rfl, hw, by simp [Rows.uptoBulk]⟩
theorem opens_bool {P : Program} {T : TypeId} (ht : P.underlying T = some .bool) (hs : P.cellsOf T = 1) : Opens P T Kd.bool (fun _ => True) (fun _ => 1) where
  sz := hs
  op := by
    intro H enc w base spare held fuel cs x h
    obtain ⟨b, rfl, rfl⟩ := DataW.trod_bool ht h
    exact ⟨b, rfl, trivial, by simp [Rows.uptoBulk]⟩
theorem opens_string {P : Program} {T : TypeId} (ht : P.underlying T = some .string) (hs : P.cellsOf T = 1) : Opens P T Kd.string (fun s => s.size ≤ maxLen) (fun s => s.size + 1) where
  sz := hs
  op := by
    intro H enc w base spare held fuel cs x h
    obtain ⟨s, rfl, rfl, hl⟩ := DataW.trod_string ht h
    exact ⟨s, rfl, hl, by simp [Rows.uptoBulk]⟩

def sumOf {α : Type} (m : α → Nat) : List α → Nat
  | [] => 0
  | x :: r => m x + sumOf m r
theorem sumOf_le_of_get {α : Type} {m : α → Nat} : ∀ {xs : List α} {x : α}, x ∈ xs → m x ≤ sumOf m xs
  | y :: r, x, h => by
    rcases List.mem_cons.1 h with rfl | h
    · simp [sumOf]
    · have := sumOf_le_of_get (m := m) h
      simp [sumOf]; omega
theorem len_le_sumOf {α : Type} {m : α → Nat} (h : ∀ x, 1 ≤ m x) : ∀ xs : List α, xs.length ≤ sumOf m xs
  | [] => Nat.le_refl _
  | x :: r => by have := len_le_sumOf h r; have := h x; simp [sumOf]; omega
theorem sumOf_append {α : Type} {m : α → Nat} : ∀ xs ys : List α, sumOf m (xs ++ ys) = sumOf m xs + sumOf m ys
  | [], ys => by simp [sumOf]
  | x :: r, ys => by simp [sumOf, sumOf_append r ys]; omega
theorem bulkAll_map {H α : Type} {m : α → Nat} (F : Nat → DataW H) : ∀ (n s : Nat) (xs : List α), xs.length = n → (∀ i a, xs[i]? = some a → m a ≤ Rows.uptoBulk (F (s + i))) → sumOf m xs ≤ Rows.uptoBulkAll ((List.range' s n).map F)
  | 0, s, xs, hl, _ => by
    obtain rfl := List.length_eq_zero_iff.1 hl
    simp [sumOf]
  | n + 1, s, [], hl, _ => by simp at hl
  | n + 1, s, x :: r, hl, h => by
    have h0 := h 0 x rfl
    have h1 := bulkAll_map F n (s + 1) r (by simpa using hl) (fun i a hi => by
      have := h (i + 1) a (by simpa using hi)
      rwa [show s + (i + 1) = s + 1 + i from by omega] at this)
    simp only [List.range'_succ, List.map_cons, Rows.uptoBulkAll, sumOf]
    have h0' : m x ≤ Rows.uptoBulk (F s) := h0
    omega
theorem exists_list {α : Type} {p : Nat → α → Prop} : ∀ n : Nat, (∀ i, i < n → ∃ x, p i x) → ∃ xs : List α, xs.length = n ∧ ∀ i x, xs[i]? = some x → p i x
  | 0, _ => ⟨[], rfl, fun i x h => by simp at h⟩
  | n + 1, h => by
    obtain ⟨xs, hl, hp⟩ := exists_list n (fun i hi => h i (by omega))
    obtain ⟨x, hx⟩ := h n (by omega)
    refine ⟨xs ++ [x], by simp [hl], fun i y hy => ?_⟩
    by_cases hi : i < n
    · rw [List.getElem?_append_left (by omega)] at hy
      exact hp i y hy
    · have hil : i < (xs ++ [x]).length := (List.getElem?_eq_some_iff.1 hy).1
      have : i = n := by simp [hl] at hil; omega
      subst this
      rw [List.getElem?_append_right (by omega)] at hy
      simp [hl] at hy
      exact hy ▸ hx

theorem opens_slice {P : Program} {T E : TypeId} {α : Type} {d : Kd α} {G : α → Prop} {m : α → Nat} (ht : P.underlying T = some (.slice E)) (hs : P.cellsOf T = 1) (o : Opens P E d G m) :
    Opens P T (Kd.slice E d) (fun xs => xs.length ≤ maxLen ∧ ∀ x ∈ xs, G x) (fun xs => sumOf m xs + 1) where
  sz := hs
  op := by
    intro H enc w base spare held fuel cs x h
    rcases open_slice ht h with ⟨rfl, rfl⟩ | ⟨a, len, cap, mm, n, D, Pl, rfl, hb, hl, hm, hmm, rfl, hi⟩
    · refine ⟨[], ⟨none, 0, rfl, Nat.le_refl _, rfl, by simp, fun h => absurd h (by simp)⟩, ⟨by simp, by simp⟩, by simp [sumOf, Rows.uptoBulk]⟩
    · have hlm : len ≤ mm := by rw [hmm]; split <;> omega
      have hex : ∀ i, i < len → ∃ y : α, (∃ cs', w.cells? base (a.add (i * P.cellsOf E)) (P.cellsOf E) = some cs' ∧ d.K w y cs') ∧ G y ∧ m y ≤ Rows.uptoBulk (D i) := by
        intro i hil
        obtain ⟨cs', hc, ht'⟩ := hi i (by omega)
        obtain ⟨y, hk, hg, hmy⟩ := o.op ht'
        exact ⟨y, ⟨cs', hc, hk⟩, hg, hmy⟩
      obtain ⟨ys, hyl, hy⟩ := exists_list len hex
      have hml : maxLen ≤ 9223372036854775807 := by unfold maxLen; omega
      refine ⟨ys, ⟨some a, cap, by rw [hyl], by rw [hyl]; exact hl, rfl, by omega, fun _ => ⟨a, rfl, fun j p hj => ?_⟩⟩, ⟨by omega, fun y hy' => ?_⟩, ?_⟩
      · obtain ⟨⟨cs', hc, hk⟩, _, _⟩ := hy j p hj
        obtain ⟨_, hcl, hat⟩ := World.cells?_some hc
        rw [o.sz] at hcl hat hc
        refine ⟨cs', hcl, hk, fun i u hu => ?_⟩
        have hil : i < d.sz := by rw [← hcl]; exact (List.getElem?_eq_some_iff.1 hu).1
        rw [← Go.Deep.add_add, hat i hil, hu]
      · obtain ⟨i, hi', hget⟩ := List.mem_iff_getElem.1 hy'
        exact (hy i y (by rw [List.getElem?_eq_getElem hi', hget])).2.1
      · have := bulkAll_map (m := m) D len 0 ys hyl (fun i y hyi => by rw [Nat.zero_add]; exact (hy i y hyi).2.2)
        rw [← List.range_eq_range'] at this
        simp only [Rows.uptoBulk]
        omega

/-- The fields of a struct from one on, at their offsets. -/
structure OpensF {α : Type} (P : Program) (fs : List Field) (off : Nat) (d : Kd α) (G : α → Prop) (m : α → Nat) : Prop where
  op : ∀ {H : Type} {enc : TypeId × Value → H} {w : World} {base : Nat} {spare : Nat → Bool} {held : Bool} {fuel : Nat} {cs : List Value} {xs : List (DataW H × List MemPlace)},
    (∀ (i : Nat) (f : Field), fs[i]? = some f → DataW.trod enc P w base spare held fuel f.type ((cs.drop f.offset).take (P.cellsOf f.type)) = xs[i]?) → xs.length = fs.length → cs.length = off + d.sz →
    ∃ a, d.K w a (cs.drop off) ∧ G a ∧ m a ≤ Rows.uptoBulkAll (xs.map (·.1))
theorem opensF_last {P : Program} {f : Field} {off : Nat} {α : Type} {d : Kd α} {G : α → Prop} {m : α → Nat} (ho : f.offset = off) (o : Opens P f.type d G m) : OpensF P [f] off d G m where
  op := by
    intro H enc w base spare held fuel cs xs hf hl hc
    have h0 := hf 0 f rfl
    match xs, hl with
    | [x], _ =>
      rw [ho, o.sz, List.take_of_length_le (by rw [List.length_drop]; omega)] at h0
      obtain ⟨a, hk, hg, hm⟩ := o.op h0
      exact ⟨a, hk, hg, by simpa [Rows.uptoBulkAll] using hm⟩
theorem opensF_cons {P : Program} {f : Field} {fs : List Field} {off : Nat} {α β : Type} {d : Kd α} {G : α → Prop} {m : α → Nat} {d2 : Kd β} {G2 : β → Prop} {m2 : β → Nat} (ho : f.offset = off) (o : Opens P f.type d G m) (r : OpensF P fs (off + d.sz) d2 G2 m2) :
    OpensF P (f :: fs) off (Kd.pair d d2) (fun x => G x.1 ∧ G2 x.2) (fun x => m x.1 + m2 x.2) where
  op := by
    intro H enc w base spare held fuel cs xs hf hl hc
    have h0 := hf 0 f rfl
    match xs, hl with
    | x :: xs, hl =>
      rw [ho, o.sz] at h0
      obtain ⟨a, hk, hg, hm⟩ := o.op h0
      have hsz : (Kd.pair d d2).sz = d.sz + d2.sz := rfl
      obtain ⟨b, hk2, hg2, hm2⟩ := r.op (fun i f' hi => hf (i + 1) f' (by simpa using hi)) (by simpa using hl) (by omega)
      refine ⟨(a, b), ⟨_, _, ?_, hk, hk2⟩, ⟨hg, hg2⟩, ?_⟩
      · rw [← List.drop_drop, List.take_append_drop]
      · simp only [List.map_cons, Rows.uptoBulkAll]; omega
theorem opens_struct {P : Program} {T : TypeId} {fs : List Field} {α β : Type} {d : Kd α} {G : α → Prop} {m : α → Nat} (ht : P.underlying T = some (.struct fs.toArray)) (hs : P.cellsOf T = d.sz) (o : OpensF P fs 0 d G m) (f : β → α) (g : α → β) (hfg : ∀ a, f (g a) = a) :
    Opens P T (Kd.iso d f) (fun x => G (f x)) (fun x => m (f x) + 1) where
  sz := hs
  op := by
    intro H enc w base spare held fuel cs x h
    obtain ⟨xs, n, _, rfl, hl, hxl, hf⟩ := DataW.trod_struct ht h
    obtain ⟨a, hk, hg, hm⟩ := o.op (fun i f' hi => hf i f' (by simpa using hi)) (by simpa using hxl) (by omega)
    refine ⟨g a, ?_, ?_, ?_⟩
    · show d.K w (f (g a)) cs
      rw [hfg]; simpa using hk
    · rw [hfg]; exact hg
    · rw [hfg]; simp only [Rows.uptoBulk]; omega
end Go.Proofs.Ytcdleippdegibaa.Opens
