import Derived.Test.YtcdleippdegibaaDoorXM0
import Derived.Test.YtcdleippdegibaaDoorRows
import Derived.Deep.Slices
import Derived.Deep.Fields
import Derived.ChangeSame
import Derived.Shelf.Strings.Builder1
import Derived.Shelf.Strings.Builder2
import Derived.Shelf.Small.Strs
import Derived.Shelf.Strings.BuilderF
import Derived.Shelf.Strings.BuilderK
import Derived.Shelf.Strings.Search1
import Derived.Shelf.Strings.Search2
import Derived.Shelf.Strings.Search3
import Derived.Shelf.Strings.Cut
import Derived.Shelf.Strings.Count
import Derived.Shelf.LaysM
import Derived.Shelf.Strings.Shaped
import Derived.Shelf.Strings.Prefix
import Derived.Shelf.Strings.Split
import Derived.Shelf.Strings.Replace
import Derived.Shelf.Strings.SplitShaped
import Derived.Shelf.Unicode.DecodeSlow
import Derived.Test.YtcdleippdegibaaDoorProg
import Derived.Below
import Derived.RangeFuncNested
import Derived.RangeFuncBound
import Derived.RangeFuncCalls
import Derived.RangeFuncLeaves
import Derived.Shelf.Abstract
import Derived.Shelf.RegionOpen
import Derived.WalkKit
import Derived.OwnWalkIn
import Derived.TacticsInMore
import Derived.LoopNIn
import Derived.LoopIn
import Derived.Lib.Hide
import Derived.RangeFuncBox
import Derived.Sort.BigQuietIn
import Derived.WalkMore
import Derived.IntWalk
import Derived.BigQuiet
import Derived.Deep.QuietTactic
import Derived.Deep.Draws
import Derived.Deep.AppendLies
import Derived.Maps.AppendAt
import Derived.OwnWalk
import Derived.Laws.BytesArg
import Derived.Laws.MakeOwn
import Derived.Laws.OwnMore
import Derived.Deep.OwnRows
import Derived.Tactics
import Derived.Lib.ConvBytes
import Derived.Laws.Slices
import Derived.KernelRfl
import Derived.RowKit3
import Derived.Deep.LoopGhost
import Derived.WideLaws
import Derived.Deep.DeepCutAuto
import Derived.Deep.CutBlock
import Derived.Deep.RegionHeld3
import Derived.Laws.Rows
import Derived.Lib.AppendStr
import Derived.ArgAppend
import Derived.Laws.IdiomCopy
import Derived.OrdersHeld
import Derived.Laws.BitsLemmas
import Derived.RowKit
set_option maxHeartbeats 8000000
set_option maxRecDepth 100000
set_option linter.unusedVariables false
set_option linter.unusedSimpArgs false
set_option linter.unusedSectionVars false
namespace Go.Proofs.YtcdleippdegibaaDoor.Opens
open Go.ChangeShapes Go.WideShapes Go.Deep Go.RowKit Go.Proofs.YtcdleippdegibaaDoorW.PrintWords
open Go.Proofs.YtcdleippdegibaaDoor
structure Opens {α : Type} (P : Program) (T : TypeId) (d : Kd α) (G : α → Prop) (m : α → Nat) : Prop where
 sz : P.cellsOf T = d.sz
 op : ∀ {H : Type} {enc : TypeId × Value → H} {w : World} {base : Nat} {spare : Nat → Bool} {held : Bool} {fuel : Nat} {cs : List Value} {x : DataW H × List MemPlace},
  DataW.trod enc P w base spare held fuel T cs = some x → ∃ a, d.K w a cs ∧ G a ∧ m a ≤ Rows.uptoBulk x.1
theorem opens_int {P : Program} {T : TypeId} {k : IntKind} (ht : P.underlying T = some (.int k)) (hs : P.cellsOf T = 1) : Opens P T (Kd.int k) (fun n => (Lit.int k n).wf = true) (fun _ => 1) where
 sz := hs
 op := by
  intro H enc w base spare held fuel cs x h
  obtain ⟨n, rfl, rfl, hw⟩ := DataW.trod_int ht h
  exact ⟨n, rfl, hw, by simp [Rows.uptoBulk]⟩
theorem opens_bool {P : Program} {T : TypeId} (ht : P.underlying T = some .bool) (hs : P.cellsOf T = 1) : Opens P T Kd.bool (fun _ => True) (fun _ => 1) where
 sz := hs
 op := by
  intro H enc w base spare held fuel cs x h
  obtain ⟨b, rfl, rfl⟩ := DataW.trod_bool ht h
  exact ⟨b, rfl, trivial, by simp [Rows.uptoBulk]⟩
theorem opens_string {P : Program} {T : TypeId} (ht : P.underlying T = some .string) (hs : P.cellsOf T = 1) : Opens P T Kd.string (fun s => s.size ≤ maxLen) (fun s => s.size + 1) where
 sz := hs
 op := by
  intro H enc w base spare held fuel cs x h
  obtain ⟨s, rfl, rfl, hl⟩ := DataW.trod_string ht h
  exact ⟨s, rfl, hl, by simp [Rows.uptoBulk]⟩
def sumOf {α : Type} (m : α → Nat) : List α → Nat
 | [] => 0
 | x :: r => m x + sumOf m r
theorem bulkAll_map {H α : Type} {m : α → Nat} (F : Nat → DataW H) : ∀ (n s : Nat) (xs : List α), xs.length = n → (∀ i a, xs[i]? = some a → m a ≤ Rows.uptoBulk (F (s + i))) → sumOf m xs ≤ Rows.uptoBulkAll ((List.range' s n).map F)
 | 0, s, xs, hl, _ => by
  obtain rfl := List.length_eq_zero_iff.1 hl
  simp [sumOf]
 | n + 1, s, [], hl, _ => by simp at hl
 | n + 1, s, x :: r, hl, h => by
  have h0 := h 0 x rfl
  have h1 := bulkAll_map F n (s + 1) r (by simpa using hl) (fun i a hi => by
   have := h (i + 1) a (by simpa using hi)
   rwa [show s + (i + 1) = s + 1 + i from by omega] at this)
  simp only [List.range'_succ, List.map_cons, Rows.uptoBulkAll, sumOf]
  have h0' : m x ≤ Rows.uptoBulk (F s) := h0
  omega
theorem exists_list {α : Type} {p : Nat → α → Prop} : ∀ n : Nat, (∀ i, i < n → ∃ x, p i x) → ∃ xs : List α, xs.length = n ∧ ∀ i x, xs[i]? = some x → p i x
 | 0, _ => ⟨[], rfl, fun i x h => by simp at h⟩
 | n + 1, h => by
  obtain ⟨xs, hl, hp⟩ := exists_list n (fun i hi => h i (by omega))
  obtain ⟨x, hx⟩ := h n (by omega)
  refine ⟨xs ++ [x], by simp [hl], fun i y hy => ?_⟩
  by_cases hi : i < n
  ·rw [List.getElem?_append_left (by omega)] at hy
   exact hp i y hy
  have hil : i < (xs ++ [x]).length := (List.getElem?_eq_some_iff.1 hy).1
  have : i = n := by simp [hl] at hil; omega
  subst this
  rw [List.getElem?_append_right (by omega)] at hy
  simp [hl] at hy
  exact hy ▸ hx
theorem opens_slice {P : Program} {T E : TypeId} {α : Type} {d : Kd α} {G : α → Prop} {m : α → Nat} (ht : P.underlying T = some (.slice E)) (hs : P.cellsOf T = 1) (o : Opens P E d G m) :
  Opens P T (Kd.slice E d) (fun xs => xs.length ≤ maxLen ∧ ∀ x ∈ xs, G x) (fun xs => sumOf m xs + 1) where
 sz := hs
 op := by
  intro H enc w base spare held fuel cs x h
  rcases open_slice ht h with ⟨rfl, rfl⟩ | ⟨a, len, cap, mm, n, D, Pl, rfl, hb, hl, hm, hmm, rfl, hi⟩
  ·refine ⟨[], ⟨none, 0, rfl, Nat.le_refl _, rfl, by simp, fun h => absurd h (by simp)⟩, ⟨by simp, by simp⟩, by simp [sumOf, Rows.uptoBulk]⟩
  have hlm : len ≤ mm := by rw [hmm]; split <;> omega
  have hex : ∀ i, i < len → ∃ y : α, (∃ cs', w.cells? base (a.add (i * P.cellsOf E)) (P.cellsOf E) = some cs' ∧ d.K w y cs') ∧ G y ∧ m y ≤ Rows.uptoBulk (D i) := by
   intro i hil
   obtain ⟨cs', hc, ht'⟩ := hi i (by omega)
   obtain ⟨y, hk, hg, hmy⟩ := o.op ht'
   exact ⟨y, ⟨cs', hc, hk⟩, hg, hmy⟩
  obtain ⟨ys, hyl, hy⟩ := exists_list len hex
  have hml : maxLen ≤ 9223372036854775807 := by unfold maxLen; omega
  refine ⟨ys, ⟨some a, cap, by rw [hyl], by rw [hyl]; exact hl, rfl, by omega, fun _ => ⟨a, rfl, fun j p hj => ?_⟩⟩, ⟨by omega, fun y hy' => ?_⟩, ?_⟩
  ·obtain ⟨⟨cs', hc, hk⟩, _, _⟩ := hy j p hj
   obtain ⟨_, hcl, hat⟩ := World.cells?_some hc
   rw [o.sz] at hcl hat hc
   refine ⟨cs', hcl, hk, fun i u hu => ?_⟩
   have hil : i < d.sz := by rw [← hcl]; exact (List.getElem?_eq_some_iff.1 hu).1
   rw [← Go.Deep.add_add, hat i hil, hu]
  ·obtain ⟨i, hi', hget⟩ := List.mem_iff_getElem.1 hy'
   exact (hy i y (by rw [List.getElem?_eq_getElem hi', hget])).2.1
  have := bulkAll_map (m := m) D len 0 ys hyl (fun i y hyi => by rw [Nat.zero_add]; exact (hy i y hyi).2.2)
  rw [← List.range_eq_range'] at this
  simp only [Rows.uptoBulk]
  omega
structure OpensF {α : Type} (P : Program) (fs : List Field) (off : Nat) (d : Kd α) (G : α → Prop) (m : α → Nat) : Prop where
 op : ∀ {H : Type} {enc : TypeId × Value → H} {w : World} {base : Nat} {spare : Nat → Bool} {held : Bool} {fuel : Nat} {cs : List Value} {xs : List (DataW H × List MemPlace)},
  (∀ (i : Nat) (f : Field), fs[i]? = some f → DataW.trod enc P w base spare held fuel f.type ((cs.drop f.offset).take (P.cellsOf f.type)) = xs[i]?) → xs.length = fs.length → cs.length = off + d.sz →
  ∃ a, d.K w a (cs.drop off) ∧ G a ∧ m a ≤ Rows.uptoBulkAll (xs.map (·.1))
theorem opensF_last {P : Program} {f : Field} {off : Nat} {α : Type} {d : Kd α} {G : α → Prop} {m : α → Nat} (ho : f.offset = off) (o : Opens P f.type d G m) : OpensF P [f] off d G m where
 op := by
  intro H enc w base spare held fuel cs xs hf hl hc
  have h0 := hf 0 f rfl
  match xs, hl with
  | [x], _ =>
   rw [ho, o.sz, List.take_of_length_le (by rw [List.length_drop]; omega)] at h0
   obtain ⟨a, hk, hg, hm⟩ := o.op h0
   exact ⟨a, hk, hg, by simpa [Rows.uptoBulkAll] using hm⟩
theorem opensF_cons {P : Program} {f : Field} {fs : List Field} {off : Nat} {α β : Type} {d : Kd α} {G : α → Prop} {m : α → Nat} {d2 : Kd β} {G2 : β → Prop} {m2 : β → Nat} (ho : f.offset = off) (o : Opens P f.type d G m) (r : OpensF P fs (off + d.sz) d2 G2 m2) :
  OpensF P (f :: fs) off (Kd.pair d d2) (fun x => G x.1 ∧ G2 x.2) (fun x => m x.1 + m2 x.2) where
 op := by
  intro H enc w base spare held fuel cs xs hf hl hc
  have h0 := hf 0 f rfl
  match xs, hl with
  | x :: xs, hl =>
   rw [ho, o.sz] at h0
   obtain ⟨a, hk, hg, hm⟩ := o.op h0
   have hsz : (Kd.pair d d2).sz = d.sz + d2.sz := rfl
   obtain ⟨b, hk2, hg2, hm2⟩ := r.op (fun i f' hi => hf (i + 1) f' (by simpa using hi)) (by simpa using hl) (by omega)
   refine ⟨(a, b), ⟨_, _, ?_, hk, hk2⟩, ⟨hg, hg2⟩, ?_⟩
   ·rw [← List.drop_drop, List.take_append_drop]
   simp only [List.map_cons, Rows.uptoBulkAll]; omega
theorem opens_struct {P : Program} {T : TypeId} {fs : List Field} {α β : Type} {d : Kd α} {G : α → Prop} {m : α → Nat} (ht : P.underlying T = some (.struct fs.toArray)) (hs : P.cellsOf T = d.sz) (o : OpensF P fs 0 d G m) (f : β → α) (g : α → β) (hfg : ∀ a, f (g a) = a) :
  Opens P T (Kd.iso d f) (fun x => G (f x)) (fun x => m (f x) + 1) where
 sz := hs
 op := by
  intro H enc w base spare held fuel cs x h
  obtain ⟨xs, n, _, rfl, hl, hxl, hf⟩ := DataW.trod_struct ht h
  obtain ⟨a, hk, hg, hm⟩ := o.op (fun i f' hi => hf i f' (by simpa using hi)) (by simpa using hxl) (by omega)
  refine ⟨g a, ?_, ?_, ?_⟩
  ·show d.K w (f (g a)) cs
   rw [hfg]; simpa using hk
  ·rw [hfg]; exact hg
  rw [hfg]; simp only [Rows.uptoBulk]; omega
end Go.Proofs.YtcdleippdegibaaDoor.Opens
namespace Go.Proofs
open Go.Shelf
def Tryd.lays137_ren : Go.Shelf.Ren := ⟨fun | 137 => 53 | 217 => 63 | 266 => 79 | n => n, fun | 9 => 9 | 5 => 5 | 3 => 3 | n => n, fun | n => n⟩
theorem Tryd.lays137 : Go.Proofs.Lays.n137 Tryd.prog Tryd.lays137_ren := {
 mixed := by kernel_rfl
 f137 := Tryd.func53.trans (congrArg some (by kernel_rfl))
 f217 := Tryd.func63.trans (congrArg some (by kernel_rfl))
 f266 := Tryd.func79.trans (congrArg some (by kernel_rfl))
 t3 := Tryd.underlying3
 a3 := Tryd.isAgg3
 z3 := Tryd.sizeOf3
 v3 := Tryd.zeroValue3
 t5 := Tryd.underlying5
 a5 := Tryd.isAgg5
 z5 := Tryd.sizeOf5
 v5 := Tryd.zeroValue5
 t9 := Tryd.underlying9
 a9 := Tryd.isAgg9
 z9 := Tryd.sizeOf9
 v9 := Tryd.zeroValue9 }
open Go.RowKit in
theorem Tryd.strings_IndexByte (s : ByteArray) (c : Int) (w : World) :
  Calls Tryd.prog 53 #[.string s, .int .u8 c] w fun e w' => e = .returned (.int .i64 (Lib.indexByte s.data.toList c.toNat.toUInt8)) ∧ w' = w := Any.strings_IndexByte Tryd.lays137 s c w
def Tryd.lays143_ren : Go.Shelf.Ren := ⟨fun | 143 => 66 | 219 => 78 | 217 => 63 | 225 => 93 | 224 => 94 | 267 => 95 | 266 => 79 | 314 => 99 | n => n, fun | 9 => 9 | 3 => 3 | 4 => 4 | 5 => 5 | 46 => 73 | 146 => 128 | 51 => 127 | n => n, fun | 1 => 0 | n => n⟩
theorem Tryd.lays143 : Go.Proofs.Lays.n143 Tryd.prog Tryd.lays143_ren := {
 mixed := by kernel_rfl
 f143 := Tryd.func66.trans (congrArg some (by kernel_rfl))
 f217 := Tryd.func63.trans (congrArg some (by kernel_rfl))
 f219 := Tryd.func78.trans (congrArg some (by kernel_rfl))
 f224 := Tryd.func94.trans (congrArg some (by kernel_rfl))
 f225 := Tryd.func93.trans (congrArg some (by kernel_rfl))
 f266 := Tryd.func79.trans (congrArg some (by kernel_rfl))
 f267 := Tryd.func95.trans (congrArg some (by kernel_rfl))
 f314 := Tryd.func99.trans (congrArg some (by kernel_rfl))
 t3 := Tryd.underlying3
 a3 := Tryd.isAgg3
 z3 := Tryd.sizeOf3
 v3 := Tryd.zeroValue3
 t4 := Tryd.underlying4
 a4 := Tryd.isAgg4
 z4 := Tryd.sizeOf4
 v4 := Tryd.zeroValue4
 t5 := Tryd.underlying5
 a5 := Tryd.isAgg5
 z5 := Tryd.sizeOf5
 v5 := Tryd.zeroValue5
 t9 := Tryd.underlying9
 a9 := Tryd.isAgg9
 z9 := Tryd.sizeOf9
 v9 := Tryd.zeroValue9
 t46 := Tryd.underlying73
 a46 := Tryd.isAgg73
 z46 := Tryd.sizeOf73
 v46 := Tryd.zeroValue73
 t51 := Tryd.underlying127
 a51 := Tryd.isAgg127
 z51 := Tryd.sizeOf127
 v51 := Tryd.zeroValue127
 t146 := Tryd.underlying128
 a146 := Tryd.isAgg128
 z146 := Tryd.sizeOf128
 v146 := Tryd.zeroValue128
 g1 := by kernel_rfl }
open Go.RowKit Go.Lib in
theorem Tryd.strings_Index (s sub : ByteArray) (m : Int) (w : World) (hs : s.size < 4294967281) (hm : w.cell? ⟨0, 0, none⟩ = some (.int .i64 m)) :
  Calls Tryd.prog 66 #[.string s, .string sub] w fun e w' => e = .returned (.int .i64 (Lib.index s.data.toList sub.data.toList)) ∧ w' = w := Any.strings_Index Tryd.lays143 s sub m w hs hm
def Tryd.lays145_ren : Go.Shelf.Ren := ⟨fun | 145 => 49 | 220 => 62 | 219 => 78 | 217 => 63 | 225 => 93 | 224 => 94 | 267 => 95 | 266 => 79 | 314 => 99 | n => n, fun | 9 => 9 | 4 => 4 | 59 => 84 | 3 => 3 | 5 => 5 | 46 => 73 | 146 => 128 | 51 => 127 | n => n, fun | 1 => 0 | n => n⟩
theorem Tryd.lays145 : Go.Proofs.Lays.n145 Tryd.prog Tryd.lays145_ren := {
 mixed := by kernel_rfl
 f145 := Tryd.func49.trans (congrArg some (by kernel_rfl))
 f217 := Tryd.func63.trans (congrArg some (by kernel_rfl))
 f219 := Tryd.func78.trans (congrArg some (by kernel_rfl))
 f220 := Tryd.func62.trans (congrArg some (by kernel_rfl))
 f224 := Tryd.func94.trans (congrArg some (by kernel_rfl))
 f225 := Tryd.func93.trans (congrArg some (by kernel_rfl))
 f266 := Tryd.func79.trans (congrArg some (by kernel_rfl))
 f267 := Tryd.func95.trans (congrArg some (by kernel_rfl))
 f314 := Tryd.func99.trans (congrArg some (by kernel_rfl))
 t3 := Tryd.underlying3
 a3 := Tryd.isAgg3
 z3 := Tryd.sizeOf3
 v3 := Tryd.zeroValue3
 t4 := Tryd.underlying4
 a4 := Tryd.isAgg4
 z4 := Tryd.sizeOf4
 v4 := Tryd.zeroValue4
 t5 := Tryd.underlying5
 a5 := Tryd.isAgg5
 z5 := Tryd.sizeOf5
 v5 := Tryd.zeroValue5
 t9 := Tryd.underlying9
 a9 := Tryd.isAgg9
 z9 := Tryd.sizeOf9
 v9 := Tryd.zeroValue9
 t46 := Tryd.underlying73
 a46 := Tryd.isAgg73
 z46 := Tryd.sizeOf73
 v46 := Tryd.zeroValue73
 t51 := Tryd.underlying127
 a51 := Tryd.isAgg127
 z51 := Tryd.sizeOf127
 v51 := Tryd.zeroValue127
 t59 := Tryd.underlying84
 a59 := Tryd.isAgg84
 z59 := Tryd.sizeOf84
 v59 := Tryd.zeroValue84
 t146 := Tryd.underlying128
 a146 := Tryd.isAgg128
 z146 := Tryd.sizeOf128
 v146 := Tryd.zeroValue128
 g1 := by kernel_rfl }
open Go.RowKit Go.Lib in
theorem Tryd.strings_Cut (s sep : ByteArray) (m : Int) (w : World) (hs : s.size < 4294967281) (hm : w.cell? ⟨0, 0, none⟩ = some (.int .i64 m)) :
  Calls Tryd.prog 49 #[.string s, .string sep] w fun e w' => e = .returned (.tuple #[.string ⟨(Lib.cut s.data.toList sep.data.toList).1.toArray⟩, .string ⟨(Lib.cut s.data.toList sep.data.toList).2.1.toArray⟩, .bool (Lib.cut s.data.toList sep.data.toList).2.2]) ∧ ∃ n, w' = w.drewN n := Any.strings_Cut Tryd.lays145 s sep m w hs hm
def Tryd.lays206_ren : Go.Shelf.Ren := ⟨fun | 206 => 51 | n => n, fun | 9 => 9 | 4 => 4 | 3 => 3 | n => n, fun | n => n⟩
theorem Tryd.lays206 : Go.Proofs.Lays.n206 Tryd.prog Tryd.lays206_ren := {
 mixed := by kernel_rfl
 f206 := Tryd.func51.trans (congrArg some (by kernel_rfl))
 t3 := Tryd.underlying3
 a3 := Tryd.isAgg3
 z3 := Tryd.sizeOf3
 v3 := Tryd.zeroValue3
 t4 := Tryd.underlying4
 a4 := Tryd.isAgg4
 z4 := Tryd.sizeOf4
 v4 := Tryd.zeroValue4
 t9 := Tryd.underlying9
 a9 := Tryd.isAgg9
 z9 := Tryd.sizeOf9
 v9 := Tryd.zeroValue9 }
open Go.RowKit Go.Lib in
theorem Tryd.stringslite_HasPrefix (s p : ByteArray) (w : World) :
  Calls Tryd.prog 51 #[.string s, .string p] w fun e w' => e = .returned (.bool (Lib.hasPrefix s.data.toList p.data.toList)) ∧ w' = w := Any.stringslite_HasPrefix Tryd.lays206 s p w
def Tryd.lays99_ren : Go.Shelf.Ren := ⟨fun | 99 => 41 | 206 => 51 | n => n, fun | 9 => 9 | 4 => 4 | 3 => 3 | n => n, fun | n => n⟩
theorem Tryd.lays99 : Go.Proofs.Lays.n99 Tryd.prog Tryd.lays99_ren := {
 mixed := by kernel_rfl
 f99 := Tryd.func41.trans (congrArg some (by kernel_rfl))
 f206 := Tryd.func51.trans (congrArg some (by kernel_rfl))
 t3 := Tryd.underlying3
 a3 := Tryd.isAgg3
 z3 := Tryd.sizeOf3
 v3 := Tryd.zeroValue3
 t4 := Tryd.underlying4
 a4 := Tryd.isAgg4
 z4 := Tryd.sizeOf4
 v4 := Tryd.zeroValue4
 t9 := Tryd.underlying9
 a9 := Tryd.isAgg9
 z9 := Tryd.sizeOf9
 v9 := Tryd.zeroValue9 }
open Go.RowKit Go.Lib in
theorem Tryd.strings_HasPrefix (s p : ByteArray) (w : World) :
  Calls Tryd.prog 41 #[.string s, .string p] w fun e w' => e = .returned (.bool (Lib.hasPrefix s.data.toList p.data.toList)) ∧ w' = w := Any.strings_HasPrefix Tryd.lays99 s p w
def Tryd.lays155_ren : Go.Shelf.Ren := ⟨fun | 155 => 43 | 154 => 54 | 138 => 64 | 165 => 65 | 143 => 66 | 166 => 67 | 197 => 68 | 169 => 69 | 195 => 80 | 218 => 81 | 240 => 82 | 241 => 83 | 219 => 78 | 260 => 84 | 276 => 96 | 277 => 97 | 217 => 63 | 225 => 93 | 224 => 94 | 267 => 95 | 266 => 79 | 314 => 99 | n => n, fun | 9 => 9 | 3 => 3 | 4 => 4 | 72 => 103 | 0 => 0 | 76 => 107 | 105 => 109 | 21 => 21 | 5 => 5 | 70 => 101 | 20 => 20 | 37 => 37 | 75 => 106 | 127 => 117 | 164 => 120 | 46 => 73 | 119 => 123 | 139 => 126 | 138 => 125 | 146 => 128 | 51 => 127 | 80 => 111 | n => n, fun | 1 => 0 | 3 => 1 | 4 => 2 | n => n⟩
theorem Tryd.lays155 : Go.Proofs.Lays.n155 Tryd.prog Tryd.lays155_ren := {
 mixed := by kernel_rfl
 f138 := Tryd.func64.trans (congrArg some (by kernel_rfl))
 f143 := Tryd.func66.trans (congrArg some (by kernel_rfl))
 f154 := Tryd.func54.trans (congrArg some (by kernel_rfl))
 f155 := Tryd.func43.trans (congrArg some (by kernel_rfl))
 f165 := Tryd.func65.trans (congrArg some (by kernel_rfl))
 f166 := Tryd.func67.trans (congrArg some (by kernel_rfl))
 f169 := Tryd.func69.trans (congrArg some (by kernel_rfl))
 f195 := Tryd.func80.trans (congrArg some (by kernel_rfl))
 f197 := Tryd.func68.trans (congrArg some (by kernel_rfl))
 f217 := Tryd.func63.trans (congrArg some (by kernel_rfl))
 f218 := Tryd.func81.trans (congrArg some (by kernel_rfl))
 f219 := Tryd.func78.trans (congrArg some (by kernel_rfl))
 f224 := Tryd.func94.trans (congrArg some (by kernel_rfl))
 f225 := Tryd.func93.trans (congrArg some (by kernel_rfl))
 f240 := Tryd.func82.trans (congrArg some (by kernel_rfl))
 f241 := Tryd.func83.trans (congrArg some (by kernel_rfl))
 f260 := Tryd.func84.trans (congrArg some (by kernel_rfl))
 f266 := Tryd.func79.trans (congrArg some (by kernel_rfl))
 f267 := Tryd.func95.trans (congrArg some (by kernel_rfl))
 f276 := Tryd.func96.trans (congrArg some (by kernel_rfl))
 f277 := Tryd.func97.trans (congrArg some (by kernel_rfl))
 f314 := Tryd.func99.trans (congrArg some (by kernel_rfl))
 t0 := Tryd.underlying0
 a0 := Tryd.isAgg0
 z0 := Tryd.sizeOf0
 v0 := Tryd.zeroValue0
 t3 := Tryd.underlying3
 a3 := Tryd.isAgg3
 z3 := Tryd.sizeOf3
 v3 := Tryd.zeroValue3
 t4 := Tryd.underlying4
 a4 := Tryd.isAgg4
 z4 := Tryd.sizeOf4
 v4 := Tryd.zeroValue4
 t5 := Tryd.underlying5
 a5 := Tryd.isAgg5
 z5 := Tryd.sizeOf5
 v5 := Tryd.zeroValue5
 t9 := Tryd.underlying9
 a9 := Tryd.isAgg9
 z9 := Tryd.sizeOf9
 v9 := Tryd.zeroValue9
 t20 := Tryd.underlying20
 a20 := Tryd.isAgg20
 z20 := Tryd.sizeOf20
 v20 := Tryd.zeroValue20
 t21 := Tryd.underlying21
 a21 := Tryd.isAgg21
 z21 := Tryd.sizeOf21
 v21 := Tryd.zeroValue21
 t37 := Tryd.underlying37
 a37 := Tryd.isAgg37
 z37 := Tryd.sizeOf37
 v37 := Tryd.zeroValue37
 t46 := Tryd.underlying73
 a46 := Tryd.isAgg73
 z46 := Tryd.sizeOf73
 v46 := Tryd.zeroValue73
 t51 := Tryd.underlying127
 a51 := Tryd.isAgg127
 z51 := Tryd.sizeOf127
 v51 := Tryd.zeroValue127
 t70 := Tryd.underlying101
 a70 := Tryd.isAgg101
 z70 := Tryd.sizeOf101
 v70 := Tryd.zeroValue101
 t72 := Tryd.underlying103
 a72 := Tryd.isAgg103
 z72 := Tryd.sizeOf103
 v72 := Tryd.zeroValue103
 t75 := Tryd.underlying106
 a75 := Tryd.isAgg106
 z75 := Tryd.sizeOf106
 v75 := Tryd.zeroValue106
 t76 := Tryd.underlying107
 a76 := Tryd.isAgg107
 z76 := Tryd.sizeOf107
 v76 := Tryd.zeroValue107
 t105 := Tryd.underlying109
 a105 := Tryd.isAgg109
 z105 := Tryd.sizeOf109
 v105 := Tryd.zeroValue109
 t119 := Tryd.underlying123
 a119 := Tryd.isAgg123
 z119 := Tryd.sizeOf123
 t127 := Tryd.underlying117
 a127 := Tryd.isAgg117
 z127 := Tryd.sizeOf117
 v127 := Tryd.zeroValue117
 t138 := Tryd.underlying125
 a138 := Tryd.isAgg125
 z138 := Tryd.sizeOf125
 v138 := Tryd.zeroValue125
 t139 := Tryd.underlying126
 a139 := Tryd.isAgg126
 z139 := Tryd.sizeOf126
 v139 := Tryd.zeroValue126
 t146 := Tryd.underlying128
 a146 := Tryd.isAgg128
 z146 := Tryd.sizeOf128
 v146 := Tryd.zeroValue128
 t164 := Tryd.underlying120
 a164 := Tryd.isAgg120
 z164 := Tryd.sizeOf120
 v164 := Tryd.zeroValue120
 g1 := by kernel_rfl
 g3 := by kernel_rfl
 g4 := by kernel_rfl }
theorem Tryd.Builder_Extra_155 : Builder.Extra Tryd.prog Tryd.lays155_ren := {
 sizeBuilder := by kernel_rfl
 liesBuilder := by kernel_rfl
 t5 := Tryd.underlying5
 a5 := Tryd.isAgg5
 z5 := Tryd.sizeOf5
 v5 := Tryd.zeroValue5
 infoByte := by kernel_rfl
 cellsByte := by kernel_rfl
 sizeByte := by kernel_rfl
 neB5 := by decide }
open Go.RowKit Go.Lib in
theorem Tryd.strings_ReplaceAll (s old new : ByteArray) (m : Int) (w : World) (hs : s.size < 4294967281) (hm : w.cell? ⟨0, 0, none⟩ = some (.int .i64 m)) (h1 : 1 ≤ old.size) (hlen : s.size + Lib.countB s old * new.size ≤ 140737488355328) :
  Calls Tryd.prog 43 #[.string s, .string old, .string new] w fun e w' =>
   e = .returned (.string ⟨(Lib.replaceAll s.data.toList old.data.toList new.data.toList).toArray⟩) ∧ Below w.heap.size w w' := Any.strings_ReplaceAll Tryd.lays155 Tryd.Builder_Extra_155 s old new m w hs hm h1 hlen
end Go.Proofs
namespace Go.Proofs.YtcdleippdegibaaDoor.LibG
open Go.RowKit Go.Shelf Go.Proofs Go.Proofs.YtcdleippdegibaaDoorW.PrintWords
def SH (w : World) : Prop := ∃ m, w.cell? ⟨0, 0, none⟩ = some (.int .i64 m)
theorem SH.below {w w1 : World} (h : SH w) (hb : Below w.heap.size w w1) : SH w1 := by
 obtain ⟨m, hm⟩ := h
 exact ⟨m, (hb.cell (p := ⟨0, 0, none⟩) (World.block_lt_of_cell? _ _ hm)).trans hm⟩
theorem SH.drewN {w : World} (h : SH w) (n : Nat) : SH (w.drewN n) := h.below (pw_below_drewN (Below.refl _ _) n)
theorem SH.drew {w : World} (h : SH w) : SH w.drew := h.below (below_drew (Below.refl _ _))
theorem SH.alloc {w : World} (h : SH w) (o : Obj) : SH (w.alloc o) := h.below ((Below.refl _ _).alloc (Nat.le_refl _) o)
theorem drawn_same {w w' : World} (h : w' = w) : Drawn0 w w' := by subst h; exact Drawn0.refl _
def strings_IndexByte.f (a0 : ByteArray) (a1 : Int) : Option Int := some (Lib.indexByte a0.data.toList a1.toNat.toUInt8)
theorem strings_IndexByte.calls (a0 : ByteArray) (a1 : Int) (r : Int) (w : World) (h : strings_IndexByte.f a0 a1 = some r) :
  Calls Tryd.prog 53 #[.string a0, .int .u8 a1] w fun e w' => e = .returned (.int .i64 r) ∧ Drawn0 w w' := by
 injection h with h
 subst h
 exact (Tryd.strings_IndexByte a0 a1 w).mono fun e w' ⟨he, hw⟩ => ⟨he, drawn_same hw⟩
def strings_Index.f (a0 a1 : ByteArray) : Option Int := if a0.size < 4294967281 then some (Lib.index a0.data.toList a1.data.toList) else none
theorem strings_Index.calls (a0 a1 : ByteArray) (r : Int) (w : World) (hsh : SH w) (h : strings_Index.f a0 a1 = some r) :
  Calls Tryd.prog 66 #[.string a0, .string a1] w fun e w' => e = .returned (.int .i64 r) ∧ Drawn0 w w' := by
 unfold strings_Index.f at h
 obtain ⟨m, hm⟩ := hsh
 split at h
 ·rename_i hs
  injection h with h
  subst h
  exact (Tryd.strings_Index a0 a1 m w hs hm).mono fun e w' ⟨he, hw⟩ => ⟨he, drawn_same hw⟩
 cases h
def strings_Cut.f (a0 a1 : ByteArray) : Option (ByteArray × ByteArray × Bool) :=
 if a0.size < 4294967281 then some (⟨(Lib.cut a0.data.toList a1.data.toList).1.toArray⟩, ⟨(Lib.cut a0.data.toList a1.data.toList).2.1.toArray⟩, (Lib.cut a0.data.toList a1.data.toList).2.2) else none
theorem strings_Cut.calls (a0 a1 : ByteArray) (r1 r2 : ByteArray) (r3 : Bool) (w : World) (hsh : SH w) (h : strings_Cut.f a0 a1 = some (r1, r2, r3)) :
  Calls Tryd.prog 49 #[.string a0, .string a1] w fun e w' => e = .returned (.tuple #[.string r1, .string r2, .bool r3]) ∧ Drawn0 w w' := by
 unfold strings_Cut.f at h
 obtain ⟨m, hm⟩ := hsh
 split at h
 ·rename_i hs
  injection h with h
  injection h with h1 h
  injection h with h2 h3
  subst h1; subst h2; subst h3
  exact (Tryd.strings_Cut a0 a1 m w hs hm).mono fun e w' ⟨he, n, hw⟩ => ⟨he, n, hw⟩
 cases h
end Go.Proofs.YtcdleippdegibaaDoor.LibG
namespace Go.Proofs.YtcdleippdegibaaDoor.Iter
open Go.RowKit Go.Shelf Go.Proofs Go.Proofs.YtcdleippdegibaaDoorW.PrintWords
def KeepS (S : Nat → Prop) (A B : World) : Prop := ∀ b, S b → b < A.heap.size → B.heap[b]? = A.heap[b]?
theorem KeepS.refl (S : Nat → Prop) (A : World) : KeepS S A A := fun _ _ _ => rfl
theorem KeepS.trans {S : Nat → Prop} {A B C : World} (h : KeepS S A B) (k : KeepS S B C) : KeepS S A C := fun b hs hb => by
 have h1 := h b hs hb
 have hb2 : b < B.heap.size := by
  rw [Array.getElem?_eq_getElem hb] at h1
  exact (Array.getElem?_eq_some_iff.1 h1).1
 exact (k b hs hb2).trans h1
theorem KeepS.of_below {S : Nat → Prop} {A B : World} (h : Below A.heap.size A B) : KeepS S A B := fun b _ hb => h.block b hb
theorem KeepS.setCell {S : Nat → Prop} {A : World} {p : Addr} (v : Value) (h : ¬ S p.block) : KeepS S A (A.setCell p v) := fun b hs _ => Below.heap_setCell A p v b (fun e => h (e ▸ hs))
theorem KeepS.putObj {S : Nat → Prop} {A : World} {l : Nat} (o : Obj) (h : ¬ S l) : KeepS S A (A.putObj l o) := fun b hs _ => World.putObj_heap_other (fun e => h (e ▸ hs))
theorem KeepS.cell {S : Nat → Prop} {A B : World} (h : KeepS S A B) {p : Addr} {v : Value} (hs : S p.block) (hc : A.cell? p = some v) : B.cell? p = some v :=
 (World.cell?_of_block (w := A) (h p.block hs (World.block_lt_of_cell? _ _ hc))).trans hc
theorem KeepS.block {S : Nat → Prop} {A B : World} (h : KeepS S A B) {b : Nat} {o : Obj} (hs : S b) (hc : A.heap[b]? = some o) : B.heap[b]? = some o :=
 (h b hs (Array.getElem?_eq_some_iff.1 hc).1).trans hc
theorem KeepS.t {S : Nat → Prop} : ∀ {A B C : World}, KeepS S A B → KeepS S B C → KeepS S A C := fun h k => h.trans k
theorem KeepS.b {S : Nat → Prop} {n : Nat} (hS : ∀ b, S b → b < n) (W : World) (l : Nat) (o o' : Obj) (hl : n ≤ l) (_ : W.heap[l]? = some o) (_ : o.isCells = false) (_ : o.isWalk = false) : KeepS S W (W.putObj l o') :=
 KeepS.putObj o' (fun h => by have := hS l h; omega)
theorem others_of_below {A B : World} (h : Below A.heap.size A B) : KeepsOthers A B := KeepsOthers.of_grownBy (row := none) ⟨h.os, h.tape, h.output, h.size, fun b hb _ => h.block b hb⟩ (fun j o e => by cases e)
theorem cell_of_box_l {W : World} {b : Nat} {v : Value} {t : TypeId} (h : W.heap[b]? = some (.cells #[v] t)) : W.cell? ⟨b, 0, none⟩ = some v ∧ W.frozen? ⟨b, 0, none⟩ = false :=
 ⟨(blk_cell h 0).trans rfl, blk_frozen h 0⟩
theorem cell_new_l (W : World) (v : Value) (t : TypeId) : (W.alloc (.cells #[v] t)).cell? ⟨W.heap.size, 0, none⟩ = some v ∧ (W.alloc (.cells #[v] t)).frozen? ⟨W.heap.size, 0, none⟩ = false :=
 cell_of_box_l (World.alloc_heap_new W _)
theorem cell_alloc_l {W : World} {a : Addr} {v : Value} (o : Obj) (h : W.cell? a = some v) : (W.alloc o).cell? a = some v := cell_kept h (World.grownBy_alloc W o none) (fun r e => by cases e)
theorem frozen_alloc_l {W : World} {a : Addr} {v : Value} (o : Obj) (h : W.cell? a = some v) (hf : W.frozen? a = false) : (W.alloc o).frozen? a = false := (frozen_kept h (World.grownBy_alloc W o none) (fun r e => by cases e)).trans hf
section
variable {F : Fence} {n : Nat} {P : Program} {C : World → Prop} {ops : Array Oper} {md : Region.Mode}
def noDefer (o : Oper) : Bool := match o.op with | .defer _ => false | _ => true
theorem noDefer_ne {o : Oper} (h : noDefer o = true) : ∀ c, o.op ≠ .defer c := by
 intro c e
 unfold noDefer at h
 rw [e] at h
 cases h
theorem opIn_of_quiet {o : Oper} {a : Act} {K : Act → Prop} {K' : Act → World → Prop} {Q' : Exit → Act → World → Prop} {w : World} (hd : noDefer o = true) (hw : C w) (h : ∀ a w', C w' → K a → K' a w')
  (ha : o.askedIn F P a C) (hh : o.quietIn F n P a C K) : o.wpIn F n P a w K' Q' := by
 obtain ⟨v, h1, h2⟩ := hh
 have h3 := h1 w hw
 unfold Oper.quietAtIn at h3
 unfold Oper.wpIn
 refine ⟨ha w hw, ?_⟩
 rw [Oper.semAt_eq _ _ _ (noDefer_ne hd)]
 generalize (execOp a.eval o).run P w = r at *
 cases r with
 | ok x w' =>
  cases x <;> simp only [Oper.quietUponIn] at h3 <;> simp only [Oper.uponIn]
  case value u =>
   obtain ⟨e1, e2⟩ := h3
   rw [e1, e2]
   exact h _ _ hw h2
  case skip =>
   obtain ⟨e1, e2⟩ := h3
   rw [e1, ← e2]
   exact h _ _ hw h2
  case enter f args =>
   obtain ⟨e1, hd, hc⟩ := h3
   rw [e1]
   exact ⟨hd, hc.mono fun e w'' ⟨he, hw''⟩ => by subst he; exact h _ _ hw'' h2⟩
 | halt x w' => simp only [Oper.quietUponIn] at h3
theorem opsIn_of_qOpIn {i : Nat} {a : Act} {K : Act → Prop} {K' : Act → World → Prop} {Q' : Exit → Act → World → Prop} {w : World} (hd : ops.all noDefer = true) (hC : C w) (h : ∀ a w', C w' → K a → K' a w')
  (hh : qOpIn F n P ops C i K a) : wpOpIn F n P ops Q' i K' a w := by
 unfold qOpIn at hh
 unfold wpOpIn
 split
 ·rename_i ho; simp only [ho] at hh; exact h _ _ hC hh
 rename_i o ho
 simp only [ho] at hh
 obtain ⟨ha, hh⟩ := hh
 split
 ·rename_i hw
  simp only [hw, if_true] at hh
  refine opIn_of_quiet ?_ hC h ha hh
  obtain ⟨hi, rfl⟩ := Array.getElem?_eq_some_iff.1 ho
  exact (Array.all_eq_true.1 hd) i hi
 rename_i hw; simp only [hw] at hh; exact ⟨ha w hC, h _ _ hC hh⟩
theorem anyIn_of_quiet {Q : Act → Prop} {Q' : Exit → Act → World → Prop} (hd : ops.all noDefer = true) (hQ : ∀ a w, C w → Q a → Q' .normal a w) : ∀ (fuel : Nat) (listed : Array Bool) (a : Act) (w : World), C w →
  wpAnyQIn F n P md ops C Q fuel listed a → wpAnyIn F n P md ops Q' fuel listed a w
 | 0, _, _, _, hw, h => ⟨h.1, hQ _ _ hw h.2⟩
 | fuel + 1, _, _, _, hw, h => ⟨fun h0 => hQ _ _ hw (h.1 h0), fun i hi => opsIn_of_qOpIn hd hw (fun a' w' hw' => anyIn_of_quiet hd hQ fuel _ a' w' hw') (h.2 i hi)⟩
theorem wpIn_round_quiet {id : Nat} {Q : Exit → Act → World → Prop} {a : Act} {w : World} {l : List Oper} (hd : l.toArray.all noDefer = true) (hm : P.follows .mixedOrders = true) (hB : Region.lexB .any l.toArray = true)
  (h : wpQuietIn F n P l.toArray (fun w' => ∃ n, w' = w.drewN n) (fun a' => ∀ w', (∃ n, w' = w.drewN n) → Q .normal a' w') l a) : (Code.region id l.toArray true).wpIn F n P Q a w := by
 simp only [Region.lexB, Bool.and_eq_true] at hB
 refine wpIn_region_any hm (anyIn_of_quiet (C := fun w' => ∃ n, w' = w.drewN n) (Q := fun a' => ∀ w', (∃ n, w' = w.drewN n) → Q .normal a' w') hd (fun _ w' hw' h => h w' hw') _ _ _ _ ⟨1, rfl⟩ ?_)
 have := wpAnyQIn_lex (F := F) (n := n) (C := fun w' => ∃ n, w' = w.drewN n) (md := .any) hB.1 l.toArray.toList 0 (Array.replicate l.toArray.size false) a (by simp) (by simpa using hB.2) (by simpa using h)
 simpa using this
end
theorem calls_marks {P : Program} {f : FuncId} {args : Array Value} {w : World} {R : Ending → World → Prop} (h : CallsIn Fence.wide 3 P f args w R) : Calls P f args w R := (callsIn_wide (n := 3)).1 h
theorem wp_rangeFunc_list {α : Type} {P : Program} {g : Operand} {ps : Array Tmp} {assign body : Code} {Q : Exit → Act → World → Prop} {a : Act} {w : World} {gf : Nat} {lb : Array Value} (hg : a.eval g = .func (.func gf) #[] lb)
  (eg : ∀ args w, (callFunc gf args).run P w = .ok (.enter gf args) w) {encs : α → Array Value} {S : Nat → Prop} {D : List α}
  (hseq : SeqStopsK Fence.wide 2 P gf lb encs (KeepS S) (fun ys => ys = D) (fun pre => pre <+: D) D.length w) (hS : ∀ b, S b → b < w.heap.size) (hps : ∀ x, (encs x).size = ps.size)
  (I : List α → World → Prop) (Ix : Code → List α → World → Prop) (hI : OwnFrom w.heap.size I) (hIx : ∀ c, OwnFrom w.heap.size (Ix c)) (h0 : I [] w) (a₁ : α → Act)
  (hassign : ∀ (l : Nat) (x : α) (W : World) (K : Act → World → Prop), K (a₁ x) W →
   assign.wpIn (Fence.wide.inRound l) 1 P (Exit.then K (fun _ _ _ => False)) { tmps := (ps.zip (encs x)).foldl (fun t (p, v) => t.setIfInBounds p v) a.tmps, defers := [] } W)
  (hbody : ∀ (l : Nat) (pre : List α) (x : α) (W : World), I pre W → pre.length < D.length → body.wpIn (Fence.wide.inRound l) 1 P (ownPostK (KeepS S) I Ix (pre ++ [x]) W) (a₁ x) W)
  (hdone : ∀ (B : Nat) (W : World), w.heap.size ≤ B → I D W → W.heap[B]? = some (.deferred (some [])) → Q .normal { a with defers := { target := .collected B, args := #[] } :: a.defers } W)
  (hstop : ∀ (B : Nat) (c : Code) (pre : List α) (W : World), w.heap.size ≤ B → pre <+: D → Ix c pre W → W.heap[B]? = some (.deferred (some [])) → c.wp P Q { a with defers := { target := .collected B, args := #[] } :: a.defers } W) :
  (Code.rangeFunc g ps assign body).wp P Q a w :=
 (wpIn_wide (n := 3)).1 (wpIn_rangeFunc_ownF rfl (by omega) hg trivial eg hseq KeepS.t (KeepS.b hS) (Below.refl _ _) hps I Ix hI hIx h0 a₁ hassign hbody (fun B xs W hB hx hi hK => hdone B W hB (hx ▸ hi) hK) (fun B c pre W hB hp hi hK => wpIn_wide.2 (hstop B c pre W hB hp hi hK)))
end Go.Proofs.YtcdleippdegibaaDoor.Iter
namespace Go.Proofs.YtcdleippdegibaaDoor.Digits
open Go.RowKit Go.Shelf Go.Proofs Go.Proofs.YtcdleippdegibaaDoorW.PrintWords Go.Proofs.YtcdleippdegibaaDoor.Iter
attribute [local go_sem] Oper.semAt_some
def hexB : ByteArray := ⟨#[48, 49, 50, 51, 52, 53, 54, 55, 56, 57, 97, 98, 99, 100, 101, 102]⟩
def decB : ByteArray := ⟨#[48, 49, 50, 51, 52, 53, 54, 55, 56, 57]⟩
def dgI (x : Int) : Int := if x ≤ 57 then Lib.indexByte decB.data.toList x.toNat.toUInt8 else Lib.indexByte hexB.data.toList (Go.bits .or .u8 x 32).toNat.toUInt8
def digL (base : Int) : List UInt8 → List Int
 | [] => []
 | b :: r => if dgI b.toNat < 0 then [] else if dgI b.toNat ≥ base then [] else dgI b.toNat :: digL base r
def digs (s : ByteArray) (base : Int) : List Int := digL base s.data.toList
theorem digL_get (base : Int) : ∀ (l : List UInt8) (k : Nat), k < (digL base l).length → ∃ h : k < l.length, (digL base l)[k]? = some (dgI l[k].toNat) ∧ 0 ≤ dgI l[k].toNat ∧ dgI l[k].toNat < base
 | [], k, h => by simp [digL] at h
 | b :: r, k, h => by
  unfold digL at h ⊢
  split at h
  ·simp at h
  rename_i h1
  split at h
  ·simp at h
  rename_i h2
  rw [if_neg h1, if_neg h2]
  cases k with
  | zero => exact ⟨by simp, by simp, by simpa using h1, by simpa using h2⟩
  | succ k =>
   obtain ⟨h3, h4, h5, h6⟩ := digL_get base r k (by simpa using h)
   exact ⟨by simpa using h3, by simpa using h4, by simpa using h5, by simpa using h6⟩
theorem digL_end (base : Int) : ∀ (l : List UInt8), (digL base l).length < l.length → ∃ h : (digL base l).length < l.length, dgI (l[(digL base l).length]).toNat < 0 ∨ dgI (l[(digL base l).length]).toNat ≥ base
 | [], h => by simp [digL] at h
 | b :: r, h => by
  refine ⟨h, ?_⟩
  by_cases h1 : dgI b.toNat < 0
  ·have e : digL base (b :: r) = [] := by simp [digL, h1]
   simp only [e]
   exact .inl h1
  by_cases h2 : dgI b.toNat ≥ base
  ·have e : digL base (b :: r) = [] := by simp [digL, h1, h2]
   simp only [e]
   exact .inr h2
  have e : digL base (b :: r) = dgI b.toNat :: digL base r := by simp [digL, h1, h2]
  have hl : (digL base r).length < r.length := by rw [e] at h; simpa using h
  obtain ⟨_, h4⟩ := digL_end base r hl
  simp only [e, List.length_cons, List.getElem_cons_succ]
  exact h4
theorem digL_le (base : Int) : ∀ l : List UInt8, (digL base l).length ≤ l.length
 | [] => by simp [digL]
 | b :: r => by
  unfold digL
  split
  ·simp
  split
  ·simp
  simpa using digL_le base r
theorem digs_le (s : ByteArray) (base : Int) : (digs s base).length ≤ s.size := by
 have := digL_le base s.data.toList
 simpa [digs] using this
set_option maxHeartbeats 4000000 in
theorem digits1_in {α : Type} (f : α → Int) (D : List α) (n : Nat) (hn : 1 ≤ n) (l Bs Bb : Nat) (S : Nat → Prop) (s : ByteArray) (base : Int) (hs : s.size ≤ maxLen) (hD : D.map f = digs s base) (hb1 : S Bs) (hb2 : S Bb) (J Jx : List α → World → Prop)
  (hY : ∀ pre x W, J pre W → pre.length < D.length → YieldAt Fence.wide (n - 1) Tryd.prog l #[.int .i64 (f x)] W fun e W' =>
   (e = .returned (.bool true) ∧ J (pre ++ [x]) W' ∧ KeepS S W W') ∨ (e = .returned (.bool false) ∧ Jx (pre ++ [x]) W'))
  (W : World) (hBs : W.cell? ⟨Bs, 0, none⟩ = some (.string s)) (hBb : W.cell? ⟨Bb, 0, none⟩ = some (.int .i64 base)) (h0 : J [] W) :
  CallsIn Fence.wide n Tryd.prog 52 #[.func (.yield l) #[] #[], .pointer (some ⟨Bs, 0, none⟩), .pointer (some ⟨Bb, 0, none⟩)] W fun e W' => (∃ v, e = .returned v) ∧
   ((∃ ys, ys = D ∧ J ys W') ∨ (∃ pre, pre <+: D ∧ Jx pre W')) := by
 unfold maxLen at hs
 have hle := digs_le s base
 have hDl : D.length = (digs s base).length := by rw [← hD, List.length_map]
 refine callsIn_of_wp Tryd.func52 rfl trivial ?_ rfl
 simp only [Tryd.ntmps52, List.size_toArray, List.length_cons, List.length_nil, Nat.reduceAdd, Nat.reduceSub, Array.replicate_succ, Array.replicate_zero, List.push_toArray, List.append_toArray, List.nil_append, List.cons_append]
 gi_wp2
 gi_loopw [8] (fun i wr => ∃ k : Nat, k ≤ (digs s base).length ∧ i = .int .i64 k ∧ J (D.take k) wr ∧ KeepS S W wr)
  (fun i _ => s.size - (intOf i).toNat)
 case atStart => exact ⟨0, Nat.zero_le _, rfl, h0, KeepS.refl _ _⟩
 case round =>
  obtain ⟨k, hk, rfl, hJs, hnx⟩ := hrel
  have hcs : wr.cell? ⟨Bs, 0, none⟩ = some (.string s) := hnx.cell (p := ⟨Bs, 0, none⟩) hb1 hBs
  have hcb : wr.cell? ⟨Bb, 0, none⟩ = some (.int .i64 base) := hnx.cell (p := ⟨Bb, 0, none⟩) hb2 hBb
  by_cases hlt : k < s.size
  ·by_cases h57 : ((s[k]'hlt).toNat : Int) ≤ 57
   ·have hd : dgI ((s[k]'hlt).toNat : Int) = Lib.indexByte [48, 49, 50, 51, 52, 53, 54, 55, 56, 57] (s[k]'hlt) := by simp [dgI, h57, decB]
    by_cases hkl : k < (digs s base).length
    ·obtain ⟨_, hget, hge, hlb⟩ := digL_get base s.data.toList k hkl
     have hget' : (digs s base)[k]? = some (Lib.indexByte [48, 49, 50, 51, 52, 53, 54, 55, 56, 57] (s[k]'hlt)) := by rw [← hd]; exact hget
     have hge' : 0 ≤ Lib.indexByte [48, 49, 50, 51, 52, 53, 54, 55, 56, 57] (s[k]'hlt) := by rw [← hd]; exact hge
     have hlb' : Lib.indexByte [48, 49, 50, 51, 52, 53, 54, 55, 56, 57] (s[k]'hlt) < base := by rw [← hd]; exact hlb
     obtain ⟨x, hx, hfx⟩ : ∃ x, D[k]? = some x ∧ f x = Lib.indexByte [48, 49, 50, 51, 52, 53, 54, 55, 56, 57] (s[k]'hlt) := by
      rw [← hD, List.getElem?_map] at hget'
      obtain ⟨x, hx, hfx⟩ := Option.map_eq_some_iff.1 hget'
      exact ⟨x, hx, hfx⟩
     obtain ⟨fn, tmps, assign, body, hy, hR⟩ := hY _ x wr hJs (by rw [List.length_take]; omega)
     rw [hfx] at hy
     have htk : Hid (D.take (k + 1) = D.take k ++ [x]) := Lib.hid (by rw [List.take_add_one, hx]; rfl)
     clear hd hget hget' hge hlb hfx hx hD hDl
     gi_wp2_with (refine ⟨trivial, ?_⟩; gi_at_call 53; refine (callsIn_wide.2 (Tryd.strings_IndexByte _ _ _)).mono ?_; rintro e w' ⟨rfl, rfl⟩)
     refine hR.mono ?_
     rintro e W3 (⟨rfl, hJ3, hk3⟩ | ⟨rfl, hJx3⟩)
     ·gi_wp2
      go_roundw
      case rel => exact ⟨k + 1, by omega, by simp, by rw [htk.out]; exact hJ3, hnx.trans hk3⟩
      case measure => simp [intOf]; omega
     gi_wp2
     refine bodyPost_ret (results_none rfl _ _ _) rfl ?_
     exact ⟨⟨_, rfl⟩, .inr ⟨_, by rw [← htk.out]; exact List.take_prefix _ _, hJx3⟩⟩
    have hkl2 : k = (digs s base).length := by omega
    have hall : D.take k = D := List.take_of_length_le (by omega)
    rw [hall] at hJs
    have hbad : Lib.indexByte [48, 49, 50, 51, 52, 53, 54, 55, 56, 57] (s[k]'hlt) < 0 ∨ base ≤ Lib.indexByte [48, 49, 50, 51, 52, 53, 54, 55, 56, 57] (s[k]'hlt) := by
     rw [← hd]
     obtain ⟨_, h⟩ := digL_end base s.data.toList (by show (digs s base).length < _; rw [← hkl2]; simpa using hlt)
     have e : (s.data.toList[(digL base s.data.toList).length]) = s[k] := by
      show _ = s.data[k]
      simp only [Array.getElem_toList]
      congr 1
      exact hkl2.symm
     rw [e] at h
     exact h
    clear hd hkl2 hall hD hDl
    gi_wp2_with (refine ⟨trivial, ?_⟩; gi_at_call 53; refine (callsIn_wide.2 (Tryd.strings_IndexByte _ _ _)).mono ?_; rintro e w' ⟨rfl, rfl⟩)
    all_goals first
     | (exfalso; omega)
     | (go_end0; exact ⟨⟨_, rfl⟩, .inl ⟨_, rfl, hJs⟩⟩)
     | (refine ⟨fun _ h => (by cases h), ?_⟩; gi_wp2; refine bodyPost_ret (results_none rfl _ _ _) rfl ?_; exact ⟨⟨_, rfl⟩, .inl ⟨_, rfl, hJs⟩⟩)
   have hd : dgI ((s[k]'hlt).toNat : Int) = Lib.indexByte [48, 49, 50, 51, 52, 53, 54, 55, 56, 57, 97, 98, 99, 100, 101, 102] (UInt8.ofNat (Go.bits .or .u8 ((s[k]'hlt).toNat : Int) 32).toNat) := by simp [dgI, h57, hexB]
   by_cases hkl : k < (digs s base).length
   ·obtain ⟨_, hget, hge, hlb⟩ := digL_get base s.data.toList k hkl
    have hget' : (digs s base)[k]? = some (Lib.indexByte [48, 49, 50, 51, 52, 53, 54, 55, 56, 57, 97, 98, 99, 100, 101, 102] (UInt8.ofNat (Go.bits .or .u8 ((s[k]'hlt).toNat : Int) 32).toNat)) := by rw [← hd]; exact hget
    have hge' : 0 ≤ Lib.indexByte [48, 49, 50, 51, 52, 53, 54, 55, 56, 57, 97, 98, 99, 100, 101, 102] (UInt8.ofNat (Go.bits .or .u8 ((s[k]'hlt).toNat : Int) 32).toNat) := by rw [← hd]; exact hge
    have hlb' : Lib.indexByte [48, 49, 50, 51, 52, 53, 54, 55, 56, 57, 97, 98, 99, 100, 101, 102] (UInt8.ofNat (Go.bits .or .u8 ((s[k]'hlt).toNat : Int) 32).toNat) < base := by rw [← hd]; exact hlb
    obtain ⟨x, hx, hfx⟩ : ∃ x, D[k]? = some x ∧ f x = Lib.indexByte [48, 49, 50, 51, 52, 53, 54, 55, 56, 57, 97, 98, 99, 100, 101, 102] (UInt8.ofNat (Go.bits .or .u8 ((s[k]'hlt).toNat : Int) 32).toNat) := by
     rw [← hD, List.getElem?_map] at hget'
     obtain ⟨x, hx, hfx⟩ := Option.map_eq_some_iff.1 hget'
     exact ⟨x, hx, hfx⟩
    obtain ⟨fn, tmps, assign, body, hy, hR⟩ := hY _ x wr hJs (by rw [List.length_take]; omega)
    rw [hfx] at hy
    have htk : Hid (D.take (k + 1) = D.take k ++ [x]) := Lib.hid (by rw [List.take_add_one, hx]; rfl)
    clear hd hget hget' hge hlb hfx hx hD hDl
    gi_wp2_with (refine ⟨trivial, ?_⟩; gi_at_call 53; refine (callsIn_wide.2 (Tryd.strings_IndexByte _ _ _)).mono ?_; rintro e w' ⟨rfl, rfl⟩)
    refine hR.mono ?_
    rintro e W3 (⟨rfl, hJ3, hk3⟩ | ⟨rfl, hJx3⟩)
    ·gi_wp2
     go_roundw
     case rel => exact ⟨k + 1, by omega, by simp, by rw [htk.out]; exact hJ3, hnx.trans hk3⟩
     case measure => simp [intOf]; omega
    gi_wp2
    refine bodyPost_ret (results_none rfl _ _ _) rfl ?_
    exact ⟨⟨_, rfl⟩, .inr ⟨_, by rw [← htk.out]; exact List.take_prefix _ _, hJx3⟩⟩
   have hkl2 : k = (digs s base).length := by omega
   have hall : D.take k = D := List.take_of_length_le (by omega)
   rw [hall] at hJs
   have hbad : Lib.indexByte [48, 49, 50, 51, 52, 53, 54, 55, 56, 57, 97, 98, 99, 100, 101, 102] (UInt8.ofNat (Go.bits .or .u8 ((s[k]'hlt).toNat : Int) 32).toNat) < 0 ∨ base ≤ Lib.indexByte [48, 49, 50, 51, 52, 53, 54, 55, 56, 57, 97, 98, 99, 100, 101, 102] (UInt8.ofNat (Go.bits .or .u8 ((s[k]'hlt).toNat : Int) 32).toNat) := by
    rw [← hd]
    obtain ⟨_, h⟩ := digL_end base s.data.toList (by show (digs s base).length < _; rw [← hkl2]; simpa using hlt)
    have e : (s.data.toList[(digL base s.data.toList).length]) = s[k] := by
     show _ = s.data[k]
     simp only [Array.getElem_toList]
     congr 1
     exact hkl2.symm
    rw [e] at h
    exact h
   clear hd hkl2 hall hD hDl
   gi_wp2_with (refine ⟨trivial, ?_⟩; gi_at_call 53; refine (callsIn_wide.2 (Tryd.strings_IndexByte _ _ _)).mono ?_; rintro e w' ⟨rfl, rfl⟩)
   all_goals first
    | (exfalso; omega)
    | (go_end0; exact ⟨⟨_, rfl⟩, .inl ⟨_, rfl, hJs⟩⟩)
    | (refine ⟨fun _ h => (by cases h), ?_⟩; gi_wp2; refine bodyPost_ret (results_none rfl _ _ _) rfl ?_; exact ⟨⟨_, rfl⟩, .inl ⟨_, rfl, hJs⟩⟩)
  have hkl : k = (digs s base).length := by omega
  have hall : D.take k = D := List.take_of_length_le (by omega)
  rw [hall] at hJs
  clear hkl hall hD hDl
  gi_wp2
  go_end0
  exact ⟨⟨_, rfl⟩, .inl ⟨_, rfl, hJs⟩⟩
theorem digits_stops {α : Type} (f : α → Int) (D : List α) (n : Nat) (hn : 1 ≤ n) (Bs Bb : Nat) (S : Nat → Prop) (s : ByteArray) (base : Int) (hs : s.size ≤ maxLen) (hD : D.map f = digs s base) (hb1 : S Bs) (hb2 : S Bb) (w : World)
  (hBs : w.cell? ⟨Bs, 0, none⟩ = some (.string s)) (hBb : w.cell? ⟨Bb, 0, none⟩ = some (.int .i64 base)) :
  SeqStopsK Fence.wide n Tryd.prog 52 #[.pointer (some ⟨Bs, 0, none⟩), .pointer (some ⟨Bb, 0, none⟩)] (fun x : α => #[Value.int .i64 (f x)]) (KeepS S) (fun ys => ys = D) (fun pre => pre <+: D) D.length w :=
 fun l J Jx W hW _ _ hY h0 => digits1_in f D n hn l Bs Bb S s base hs hD hb1 hb2 J Jx hY W ((hW.cell (p := ⟨Bs, 0, none⟩) (World.block_lt_of_cell? _ _ hBs)).trans hBs) ((hW.cell (p := ⟨Bb, 0, none⟩) (World.block_lt_of_cell? _ _ hBb)).trans hBb) h0
set_option maxHeartbeats 1000000 in
theorem digits_in (n : Nat) (s : ByteArray) (base : Int) (w : World) :
  CallsIn Fence.wide n Tryd.prog 42 #[.string s, .int .i64 base] w fun e w' => e = .returned (.func (.func 52) #[] #[.pointer (some ⟨w.heap.size, 0, none⟩), .pointer (some ⟨w.heap.size + 1, 0, none⟩)]) ∧ w' = (w.alloc (.cells #[.string s] 9)).alloc (.cells #[.int .i64 base] 3) := by
 refine callsIn_of_wp Tryd.func42 rfl trivial ?_ rfl
 simp only [Tryd.ntmps42, List.size_toArray, List.length_cons, List.length_nil, Nat.reduceAdd, Nat.reduceSub, Array.replicate_succ, Array.replicate_zero, List.push_toArray, List.append_toArray, List.nil_append, List.cons_append]
 gi_wp2
 go_ret
 exact ⟨by simp, rfl⟩
end Go.Proofs.YtcdleippdegibaaDoor.Digits
namespace Go.Proofs.YtcdleippdegibaaDoor.PK
open Go.RowKit Go.Proofs.YtcdleippdegibaaDoorW.PrintWords Go.Proofs.YtcdleippdegibaaDoorW.PrintLast Go.Proofs.YtcdleippdegibaaDoorW.PrintMore
attribute [local go_sem] max2_int min2_int max_two min_two max_three min_three max_four min_four
def errW : Option Int → Value
 | none => .nilIface
 | some c => .iface 0 (.int .i64 c)
theorem errW_none : errW none = .nilIface := rfl
theorem errW_some (c : Int) : errW (some c) = .iface 0 (.int .i64 c) := rfl
structure S23 where
 f0 : Int
 f1 : ByteArray
def z23 : S23 := ⟨(0 : Int), (⟨#[]⟩ : ByteArray)⟩
def k23 : Kd S23 := Kd.iso (Kd.pair (Kd.int .i64) Kd.string) (fun x : S23 => (x.f0, x.f1))
theorem k23_open {w : World} {x : S23} {cs : List Value} (h : k23.K w x cs) : cs = [.int .i64 x.f0, .string x.f1] := by
 obtain ⟨_, _, rfl, rfl, rfl⟩ := h
 exact rfl
theorem k23_openM {w : World} {base : Nat} {ok : Nat → Prop} {x : S23} {cs : List Value} (h : k23.M w base ok x cs) : cs = [.int .i64 x.f0, .string x.f1] := by
 obtain ⟨_, _, rfl, rfl, rfl⟩ := h
 exact rfl
theorem k23_mkM (w : World) (base : Nat) (ok : Nat → Prop) (x : S23)  : k23.M w base ok x [.int .i64 x.f0, .string x.f1] := ⟨[.int .i64 x.f0], [.string x.f1], rfl, rfl, rfl⟩
def rd_T23 (xs : List S23) (i : Int) : S23 := xs.getD i.toNat z23
theorem at_T23 {w : World} {A : Option Addr} {n : Nat} {xs : List S23} (h : Kd.C k23 w A n xs) (i : Int) (h0 : 0 ≤ i) (h1 : i < n) : ∃ ad , A = some ad ∧ w.cell? (ad.add (i.toNat * 2)) = some (.int .i64 (rd_T23 xs i).f0) ∧ w.cell? ⟨(ad.add (i.toNat * 2)).block, (ad.add (i.toNat * 2)).off + 1, none⟩ = some (.string (rd_T23 xs i).f1) := by
 obtain ⟨ad, c, e, _, hK, hc0⟩ := Kd.C_get h z23 i h0 h1
 have hc : ∀ j u, c[j]? = some u → w.cell? (ad.add (i.toNat * 2 + j)) = some u := hc0
 obtain rfl := k23_open hK
 exact ⟨ad, e, hc 0 _ rfl, by rw [← add_field _ _ 1 (by omega)]; exact hc 1 _ rfl⟩
structure S44 where
 f0 : Int
 f1 : ByteArray
 f2 : Int
 f3 : Int
 f4 : Bool
def z44 : S44 := ⟨(0 : Int), (⟨#[]⟩ : ByteArray), (0 : Int), (0 : Int), false⟩
def k44 : Kd S44 := Kd.iso (Kd.pair (Kd.int .i64) (Kd.pair Kd.string (Kd.pair (Kd.int .i64) (Kd.pair (Kd.int .i64) Kd.bool)))) (fun x : S44 => (x.f0, x.f1, x.f2, x.f3, x.f4))
theorem k44_open {w : World} {x : S44} {cs : List Value} (h : k44.K w x cs) : cs = [.int .i64 x.f0, .string x.f1, .int .i64 x.f2, .int .i64 x.f3, .bool x.f4] := by
 obtain ⟨_, _, rfl, rfl, ⟨_, _, rfl, rfl, ⟨_, _, rfl, rfl, ⟨_, _, rfl, rfl, rfl⟩⟩⟩⟩ := h
 exact rfl
theorem k44_mkM (w : World) (base : Nat) (ok : Nat → Prop) (x : S44)  : k44.M w base ok x [.int .i64 x.f0, .string x.f1, .int .i64 x.f2, .int .i64 x.f3, .bool x.f4] := ⟨[.int .i64 x.f0], [.string x.f1, .int .i64 x.f2, .int .i64 x.f3, .bool x.f4], rfl, rfl, ⟨[.string x.f1], [.int .i64 x.f2, .int .i64 x.f3, .bool x.f4], rfl, rfl, ⟨[.int .i64 x.f2], [.int .i64 x.f3, .bool x.f4], rfl, rfl, ⟨[.int .i64 x.f3], [.bool x.f4], rfl, rfl, rfl⟩⟩⟩⟩
def rd_T44 (xs : List S44) (i : Int) : S44 := xs.getD i.toNat z44
theorem at_T44 {w : World} {A : Option Addr} {n : Nat} {xs : List S44} (h : Kd.C k44 w A n xs) (i : Int) (h0 : 0 ≤ i) (h1 : i < n) : ∃ ad , A = some ad ∧ w.cell? (ad.add (i.toNat * 5)) = some (.int .i64 (rd_T44 xs i).f0) ∧ w.cell? ⟨(ad.add (i.toNat * 5)).block, (ad.add (i.toNat * 5)).off + 1, none⟩ = some (.string (rd_T44 xs i).f1) ∧ w.cell? ⟨(ad.add (i.toNat * 5)).block, (ad.add (i.toNat * 5)).off + 2, none⟩ = some (.int .i64 (rd_T44 xs i).f2) ∧ w.cell? ⟨(ad.add (i.toNat * 5)).block, (ad.add (i.toNat * 5)).off + 3, none⟩ = some (.int .i64 (rd_T44 xs i).f3) ∧ w.cell? ⟨(ad.add (i.toNat * 5)).block, (ad.add (i.toNat * 5)).off + 4, none⟩ = some (.bool (rd_T44 xs i).f4) := by
 obtain ⟨ad, c, e, _, hK, hc0⟩ := Kd.C_get h z44 i h0 h1
 have hc : ∀ j u, c[j]? = some u → w.cell? (ad.add (i.toNat * 5 + j)) = some u := hc0
 obtain rfl := k44_open hK
 exact ⟨ad, e, hc 0 _ rfl, by rw [← add_field _ _ 1 (by omega)]; exact hc 1 _ rfl, by rw [← add_field _ _ 2 (by omega)]; exact hc 2 _ rfl, by rw [← add_field _ _ 3 (by omega)]; exact hc 3 _ rfl, by rw [← add_field _ _ 4 (by omega)]; exact hc 4 _ rfl⟩
end Go.Proofs.YtcdleippdegibaaDoor.PK
namespace Go.Proofs.YtcdleippdegibaaDoor.PB
open Go.RowKit Go.Proofs.YtcdleippdegibaaDoorW.PrintWords Go.Proofs.YtcdleippdegibaaDoorW.PrintLast Go.Proofs.YtcdleippdegibaaDoorW.PrintMore
open Go.Proofs.YtcdleippdegibaaDoor.PK
attribute [local go_sem] max2_int min2_int max_two min_two max_three min_three max_four min_four
def errW : Option Int → Value
 | none => .nilIface
 | some c => .iface 0 (.int .i64 c)
theorem errW_none : errW none = .nilIface := rfl
theorem errW_some (c : Int) : errW (some c) = .iface 0 (.int .i64 c) := rfl
theorem info2 : (Tryd.prog.info? 2).map (fun i => (i.zero, i.size, i.bytes)) = some (some (.int .i64 0), 1, 8) := by kernel_rfl
theorem info9 : (Tryd.prog.info? 9).map (fun i => (i.zero, i.size, i.bytes)) = some (some (.string ⟨#[]⟩), 1, 16) := by kernel_rfl
theorem info23 : (Tryd.prog.info? 23).map (fun i => (i.zero, i.size, i.bytes)) = some (some (.agg #[(.int .i64 0), (.string ⟨#[]⟩)]), 2, 24) := by kernel_rfl
theorem info44 : (Tryd.prog.info? 44).map (fun i => (i.zero, i.size, i.bytes)) = some (some (.agg #[(.int .i64 0), (.string ⟨#[]⟩), (.int .i64 0), (.int .i64 0), (.bool false)]), 5, 48) := by kernel_rfl
def ctok_Keyword.f (a0 : ByteArray) : Option (Bool) := if a0.toList = ([97, 117, 116, 111] : List UInt8) then (some true) else (if a0.toList = ([98, 114, 101, 97, 107] : List UInt8) then (some true) else (if a0.toList = ([99, 97, 115, 101] : List UInt8) then (some true) else (if a0.toList = ([99, 104, 97, 114] : List UInt8) then (some true) else (if a0.toList = ([99, 111, 110, 115, 116] : List UInt8) then (some true) else (if a0.toList = ([99, 111, 110, 116, 105, 110, 117, 101] : List UInt8) then (some true) else (if a0.toList = ([100, 101, 102, 97, 117, 108, 116] : List UInt8) then (some true) else (if a0.toList = ([100, 111] : List UInt8) then (some true) else (if a0.toList = ([100, 111, 117, 98, 108, 101] : List UInt8) then (some true) else (if a0.toList = ([101, 108, 115, 101] : List UInt8) then (some true) else (if a0.toList = ([101, 110, 117, 109] : List UInt8) then (some true) else (if a0.toList = ([101, 120, 116, 101, 114, 110] : List UInt8) then (some true) else (if a0.toList = ([102, 108, 111, 97, 116] : List UInt8) then (some true) else (if a0.toList = ([102, 111, 114] : List UInt8) then (some true) else (if a0.toList = ([103, 111, 116, 111] : List UInt8) then (some true) else (if a0.toList = ([105, 102] : List UInt8) then (some true) else (if a0.toList = ([105, 110, 108, 105, 110, 101] : List UInt8) then (some true) else (if a0.toList = ([105, 110, 116] : List UInt8) then (some true) else (if a0.toList = ([108, 111, 110, 103] : List UInt8) then (some true) else (if a0.toList = ([114, 101, 103, 105, 115, 116, 101, 114] : List UInt8) then (some true) else (if a0.toList = ([114, 101, 115, 116, 114, 105, 99, 116] : List UInt8) then (some true) else (if a0.toList = ([114, 101, 116, 117, 114, 110] : List UInt8) then (some true) else (if a0.toList = ([115, 104, 111, 114, 116] : List UInt8) then (some true) else (if a0.toList = ([115, 105, 103, 110, 101, 100] : List UInt8) then (some true) else (if a0.toList = ([115, 105, 122, 101, 111, 102] : List UInt8) then (some true) else (if a0.toList = ([115, 116, 97, 116, 105, 99] : List UInt8) then (some true) else (if a0.toList = ([115, 116, 114, 117, 99, 116] : List UInt8) then (some true) else (if a0.toList = ([115, 119, 105, 116, 99, 104] : List UInt8) then (some true) else (if a0.toList = ([116, 121, 112, 101, 100, 101, 102] : List UInt8) then (some true) else (if a0.toList = ([117, 110, 105, 111, 110] : List UInt8) then (some true) else (if a0.toList = ([117, 110, 115, 105, 103, 110, 101, 100] : List UInt8) then (some true) else (if a0.toList = ([118, 111, 105, 100] : List UInt8) then (some true) else (if a0.toList = ([118, 111, 108, 97, 116, 105, 108, 101] : List UInt8) then (some true) else (if a0.toList = ([119, 104, 105, 108, 101] : List UInt8) then (some true) else (if a0.toList = ([95, 65, 108, 105, 103, 110, 97, 115] : List UInt8) then (some true) else (if a0.toList = ([95, 65, 108, 105, 103, 110, 111, 102] : List UInt8) then (some true) else (if a0.toList = ([95, 65, 116, 111, 109, 105, 99] : List UInt8) then (some true) else (if a0.toList = ([95, 66, 111, 111, 108] : List UInt8) then (some true) else (if a0.toList = ([95, 67, 111, 109, 112, 108, 101, 120] : List UInt8) then (some true) else (if a0.toList = ([95, 71, 101, 110, 101, 114, 105, 99] : List UInt8) then (some true) else (if a0.toList = ([95, 73, 109, 97, 103, 105, 110, 97, 114, 121] : List UInt8) then (some true) else (if a0.toList = ([95, 78, 111, 114, 101, 116, 117, 114, 110] : List UInt8) then (some true) else (if a0.toList = ([95, 83, 116, 97, 116, 105, 99, 95, 97, 115, 115, 101, 114, 116] : List UInt8) then (some true) else (if a0.toList = ([95, 84, 104, 114, 101, 97, 100, 95, 108, 111, 99, 97, 108] : List UInt8) then (some true) else (some false))))))))))))))))))))))))))))))))))))))))))))
theorem ctok_Keyword.calls (a0 : ByteArray) (r : Bool) (w : World) (h : ctok_Keyword.f a0 = some r) :
  Calls Tryd.prog 11 #[.string a0] w fun e w' => e = .returned (.bool r) ∧ Drawn0 w w' := by
 have H : (if a0.toList = ([97, 117, 116, 111] : List UInt8) then (some true) else (if a0.toList = ([98, 114, 101, 97, 107] : List UInt8) then (some true) else (if a0.toList = ([99, 97, 115, 101] : List UInt8) then (some true) else (if a0.toList = ([99, 104, 97, 114] : List UInt8) then (some true) else (if a0.toList = ([99, 111, 110, 115, 116] : List UInt8) then (some true) else (if a0.toList = ([99, 111, 110, 116, 105, 110, 117, 101] : List UInt8) then (some true) else (if a0.toList = ([100, 101, 102, 97, 117, 108, 116] : List UInt8) then (some true) else (if a0.toList = ([100, 111] : List UInt8) then (some true) else (if a0.toList = ([100, 111, 117, 98, 108, 101] : List UInt8) then (some true) else (if a0.toList = ([101, 108, 115, 101] : List UInt8) then (some true) else (if a0.toList = ([101, 110, 117, 109] : List UInt8) then (some true) else (if a0.toList = ([101, 120, 116, 101, 114, 110] : List UInt8) then (some true) else (if a0.toList = ([102, 108, 111, 97, 116] : List UInt8) then (some true) else (if a0.toList = ([102, 111, 114] : List UInt8) then (some true) else (if a0.toList = ([103, 111, 116, 111] : List UInt8) then (some true) else (if a0.toList = ([105, 102] : List UInt8) then (some true) else (if a0.toList = ([105, 110, 108, 105, 110, 101] : List UInt8) then (some true) else (if a0.toList = ([105, 110, 116] : List UInt8) then (some true) else (if a0.toList = ([108, 111, 110, 103] : List UInt8) then (some true) else (if a0.toList = ([114, 101, 103, 105, 115, 116, 101, 114] : List UInt8) then (some true) else (if a0.toList = ([114, 101, 115, 116, 114, 105, 99, 116] : List UInt8) then (some true) else (if a0.toList = ([114, 101, 116, 117, 114, 110] : List UInt8) then (some true) else (if a0.toList = ([115, 104, 111, 114, 116] : List UInt8) then (some true) else (if a0.toList = ([115, 105, 103, 110, 101, 100] : List UInt8) then (some true) else (if a0.toList = ([115, 105, 122, 101, 111, 102] : List UInt8) then (some true) else (if a0.toList = ([115, 116, 97, 116, 105, 99] : List UInt8) then (some true) else (if a0.toList = ([115, 116, 114, 117, 99, 116] : List UInt8) then (some true) else (if a0.toList = ([115, 119, 105, 116, 99, 104] : List UInt8) then (some true) else (if a0.toList = ([116, 121, 112, 101, 100, 101, 102] : List UInt8) then (some true) else (if a0.toList = ([117, 110, 105, 111, 110] : List UInt8) then (some true) else (if a0.toList = ([117, 110, 115, 105, 103, 110, 101, 100] : List UInt8) then (some true) else (if a0.toList = ([118, 111, 105, 100] : List UInt8) then (some true) else (if a0.toList = ([118, 111, 108, 97, 116, 105, 108, 101] : List UInt8) then (some true) else (if a0.toList = ([119, 104, 105, 108, 101] : List UInt8) then (some true) else (if a0.toList = ([95, 65, 108, 105, 103, 110, 97, 115] : List UInt8) then (some true) else (if a0.toList = ([95, 65, 108, 105, 103, 110, 111, 102] : List UInt8) then (some true) else (if a0.toList = ([95, 65, 116, 111, 109, 105, 99] : List UInt8) then (some true) else (if a0.toList = ([95, 66, 111, 111, 108] : List UInt8) then (some true) else (if a0.toList = ([95, 67, 111, 109, 112, 108, 101, 120] : List UInt8) then (some true) else (if a0.toList = ([95, 71, 101, 110, 101, 114, 105, 99] : List UInt8) then (some true) else (if a0.toList = ([95, 73, 109, 97, 103, 105, 110, 97, 114, 121] : List UInt8) then (some true) else (if a0.toList = ([95, 78, 111, 114, 101, 116, 117, 114, 110] : List UInt8) then (some true) else (if a0.toList = ([95, 83, 116, 97, 116, 105, 99, 95, 97, 115, 115, 101, 114, 116] : List UInt8) then (some true) else (if a0.toList = ([95, 84, 104, 114, 101, 97, 100, 95, 108, 111, 99, 97, 108] : List UInt8) then (some true) else (some false))))))))))))))))))))))))))))))))))))))))))))) = some r := h
 clear h
 replace H := ie_ H
 obtain ⟨c2b0, c2b1, H⟩ | ⟨c2b0, c2b1, c2, H⟩ := H
 ·obtain rfl := Option.some.inj H
  go_enter Tryd.func11, Tryd.ntmps11
  go_wp2
  go_ret
  exact ⟨er_, dr_⟩
 replace H := ie_ H
 obtain ⟨c3b0, c3b1, H⟩ | ⟨c3b0, c3b1, c3, H⟩ := H
 ·obtain rfl := Option.some.inj H
  go_enter Tryd.func11, Tryd.ntmps11
  go_wp2
  go_ret
  exact ⟨er_, dr_⟩
 replace H := ie_ H
 obtain ⟨c4b0, c4b1, H⟩ | ⟨c4b0, c4b1, c4, H⟩ := H
 ·obtain rfl := Option.some.inj H
  go_enter Tryd.func11, Tryd.ntmps11
  go_wp2
  go_ret
  exact ⟨er_, dr_⟩
 replace H := ie_ H
 obtain ⟨c5b0, c5b1, H⟩ | ⟨c5b0, c5b1, c5, H⟩ := H
 ·obtain rfl := Option.some.inj H
  go_enter Tryd.func11, Tryd.ntmps11
  go_wp2
  go_ret
  exact ⟨er_, dr_⟩
 replace H := ie_ H
 obtain ⟨c6b0, c6b1, H⟩ | ⟨c6b0, c6b1, c6, H⟩ := H
 ·obtain rfl := Option.some.inj H
  go_enter Tryd.func11, Tryd.ntmps11
  go_wp2
  go_ret
  exact ⟨er_, dr_⟩
 replace H := ie_ H
 obtain ⟨c7b0, c7b1, H⟩ | ⟨c7b0, c7b1, c7, H⟩ := H
 ·obtain rfl := Option.some.inj H
  go_enter Tryd.func11, Tryd.ntmps11
  go_wp2
  go_ret
  exact ⟨er_, dr_⟩
 replace H := ie_ H
 obtain ⟨c8b0, c8b1, H⟩ | ⟨c8b0, c8b1, c8, H⟩ := H
 ·obtain rfl := Option.some.inj H
  go_enter Tryd.func11, Tryd.ntmps11
  go_wp2
  go_ret
  exact ⟨er_, dr_⟩
 replace H := ie_ H
 obtain ⟨c9b0, c9b1, H⟩ | ⟨c9b0, c9b1, c9, H⟩ := H
 ·obtain rfl := Option.some.inj H
  go_enter Tryd.func11, Tryd.ntmps11
  go_wp2
  go_ret
  exact ⟨er_, dr_⟩
 replace H := ie_ H
 obtain ⟨c10b0, c10b1, H⟩ | ⟨c10b0, c10b1, c10, H⟩ := H
 ·obtain rfl := Option.some.inj H
  go_enter Tryd.func11, Tryd.ntmps11
  go_wp2
  go_ret
  exact ⟨er_, dr_⟩
 replace H := ie_ H
 obtain ⟨c11b0, c11b1, H⟩ | ⟨c11b0, c11b1, c11, H⟩ := H
 ·obtain rfl := Option.some.inj H
  go_enter Tryd.func11, Tryd.ntmps11
  go_wp2
  go_ret
  exact ⟨er_, dr_⟩
 replace H := ie_ H
 obtain ⟨c12b0, c12b1, H⟩ | ⟨c12b0, c12b1, c12, H⟩ := H
 ·obtain rfl := Option.some.inj H
  go_enter Tryd.func11, Tryd.ntmps11
  go_wp2
  go_ret
  exact ⟨er_, dr_⟩
 replace H := ie_ H
 obtain ⟨c13b0, c13b1, H⟩ | ⟨c13b0, c13b1, c13, H⟩ := H
 ·obtain rfl := Option.some.inj H
  go_enter Tryd.func11, Tryd.ntmps11
  go_wp2
  go_ret
  exact ⟨er_, dr_⟩
 replace H := ie_ H
 obtain ⟨c14b0, c14b1, H⟩ | ⟨c14b0, c14b1, c14, H⟩ := H
 ·obtain rfl := Option.some.inj H
  go_enter Tryd.func11, Tryd.ntmps11
  go_wp2
  go_ret
  exact ⟨er_, dr_⟩
 replace H := ie_ H
 obtain ⟨c15b0, c15b1, H⟩ | ⟨c15b0, c15b1, c15, H⟩ := H
 ·obtain rfl := Option.some.inj H
  go_enter Tryd.func11, Tryd.ntmps11
  go_wp2
  go_ret
  exact ⟨er_, dr_⟩
 replace H := ie_ H
 obtain ⟨c16b0, c16b1, H⟩ | ⟨c16b0, c16b1, c16, H⟩ := H
 ·obtain rfl := Option.some.inj H
  go_enter Tryd.func11, Tryd.ntmps11
  go_wp2
  go_ret
  exact ⟨er_, dr_⟩
 replace H := ie_ H
 obtain ⟨c17b0, c17b1, H⟩ | ⟨c17b0, c17b1, c17, H⟩ := H
 ·obtain rfl := Option.some.inj H
  go_enter Tryd.func11, Tryd.ntmps11
  go_wp2
  go_ret
  exact ⟨er_, dr_⟩
 replace H := ie_ H
 obtain ⟨c18b0, c18b1, H⟩ | ⟨c18b0, c18b1, c18, H⟩ := H
 ·obtain rfl := Option.some.inj H
  go_enter Tryd.func11, Tryd.ntmps11
  go_wp2
  go_ret
  exact ⟨er_, dr_⟩
 replace H := ie_ H
 obtain ⟨c19b0, c19b1, H⟩ | ⟨c19b0, c19b1, c19, H⟩ := H
 ·obtain rfl := Option.some.inj H
  go_enter Tryd.func11, Tryd.ntmps11
  go_wp2
  go_ret
  exact ⟨er_, dr_⟩
 replace H := ie_ H
 obtain ⟨c20b0, c20b1, H⟩ | ⟨c20b0, c20b1, c20, H⟩ := H
 ·obtain rfl := Option.some.inj H
  go_enter Tryd.func11, Tryd.ntmps11
  go_wp2
  go_ret
  exact ⟨er_, dr_⟩
 replace H := ie_ H
 obtain ⟨c21b0, c21b1, H⟩ | ⟨c21b0, c21b1, c21, H⟩ := H
 ·obtain rfl := Option.some.inj H
  go_enter Tryd.func11, Tryd.ntmps11
  go_wp2
  go_ret
  exact ⟨er_, dr_⟩
 replace H := ie_ H
 obtain ⟨c22b0, c22b1, H⟩ | ⟨c22b0, c22b1, c22, H⟩ := H
 ·obtain rfl := Option.some.inj H
  go_enter Tryd.func11, Tryd.ntmps11
  go_wp2
  go_ret
  exact ⟨er_, dr_⟩
 replace H := ie_ H
 obtain ⟨c23b0, c23b1, H⟩ | ⟨c23b0, c23b1, c23, H⟩ := H
 ·obtain rfl := Option.some.inj H
  go_enter Tryd.func11, Tryd.ntmps11
  go_wp2
  go_ret
  exact ⟨er_, dr_⟩
 replace H := ie_ H
 obtain ⟨c24b0, c24b1, H⟩ | ⟨c24b0, c24b1, c24, H⟩ := H
 ·obtain rfl := Option.some.inj H
  go_enter Tryd.func11, Tryd.ntmps11
  go_wp2
  go_ret
  exact ⟨er_, dr_⟩
 replace H := ie_ H
 obtain ⟨c25b0, c25b1, H⟩ | ⟨c25b0, c25b1, c25, H⟩ := H
 ·obtain rfl := Option.some.inj H
  go_enter Tryd.func11, Tryd.ntmps11
  go_wp2
  go_ret
  exact ⟨er_, dr_⟩
 replace H := ie_ H
 obtain ⟨c26b0, c26b1, H⟩ | ⟨c26b0, c26b1, c26, H⟩ := H
 ·obtain rfl := Option.some.inj H
  go_enter Tryd.func11, Tryd.ntmps11
  go_wp2
  go_ret
  exact ⟨er_, dr_⟩
 replace H := ie_ H
 obtain ⟨c27b0, c27b1, H⟩ | ⟨c27b0, c27b1, c27, H⟩ := H
 ·obtain rfl := Option.some.inj H
  go_enter Tryd.func11, Tryd.ntmps11
  go_wp2
  go_ret
  exact ⟨er_, dr_⟩
 replace H := ie_ H
 obtain ⟨c28b0, c28b1, H⟩ | ⟨c28b0, c28b1, c28, H⟩ := H
 ·obtain rfl := Option.some.inj H
  go_enter Tryd.func11, Tryd.ntmps11
  go_wp2
  go_ret
  exact ⟨er_, dr_⟩
 replace H := ie_ H
 obtain ⟨c29b0, c29b1, H⟩ | ⟨c29b0, c29b1, c29, H⟩ := H
 ·obtain rfl := Option.some.inj H
  go_enter Tryd.func11, Tryd.ntmps11
  go_wp2
  go_ret
  exact ⟨er_, dr_⟩
 replace H := ie_ H
 obtain ⟨c30b0, c30b1, H⟩ | ⟨c30b0, c30b1, c30, H⟩ := H
 ·obtain rfl := Option.some.inj H
  go_enter Tryd.func11, Tryd.ntmps11
  go_wp2
  go_ret
  exact ⟨er_, dr_⟩
 replace H := ie_ H
 obtain ⟨c31b0, c31b1, H⟩ | ⟨c31b0, c31b1, c31, H⟩ := H
 ·obtain rfl := Option.some.inj H
  go_enter Tryd.func11, Tryd.ntmps11
  go_wp2
  go_ret
  exact ⟨er_, dr_⟩
 replace H := ie_ H
 obtain ⟨c32b0, c32b1, H⟩ | ⟨c32b0, c32b1, c32, H⟩ := H
 ·obtain rfl := Option.some.inj H
  go_enter Tryd.func11, Tryd.ntmps11
  go_wp2
  go_ret
  exact ⟨er_, dr_⟩
 replace H := ie_ H
 obtain ⟨c33b0, c33b1, H⟩ | ⟨c33b0, c33b1, c33, H⟩ := H
 ·obtain rfl := Option.some.inj H
  go_enter Tryd.func11, Tryd.ntmps11
  go_wp2
  go_ret
  exact ⟨er_, dr_⟩
 replace H := ie_ H
 obtain ⟨c34b0, c34b1, H⟩ | ⟨c34b0, c34b1, c34, H⟩ := H
 ·obtain rfl := Option.some.inj H
  go_enter Tryd.func11, Tryd.ntmps11
  go_wp2
  go_ret
  exact ⟨er_, dr_⟩
 replace H := ie_ H
 obtain ⟨c35b0, c35b1, H⟩ | ⟨c35b0, c35b1, c35, H⟩ := H
 ·obtain rfl := Option.some.inj H
  go_enter Tryd.func11, Tryd.ntmps11
  go_wp2
  go_ret
  exact ⟨er_, dr_⟩
 replace H := ie_ H
 obtain ⟨c36b0, c36b1, H⟩ | ⟨c36b0, c36b1, c36, H⟩ := H
 ·obtain rfl := Option.some.inj H
  go_enter Tryd.func11, Tryd.ntmps11
  go_wp2
  go_ret
  exact ⟨er_, dr_⟩
 replace H := ie_ H
 obtain ⟨c37b0, c37b1, H⟩ | ⟨c37b0, c37b1, c37, H⟩ := H
 ·obtain rfl := Option.some.inj H
  go_enter Tryd.func11, Tryd.ntmps11
  go_wp2
  go_ret
  exact ⟨er_, dr_⟩
 replace H := ie_ H
 obtain ⟨c38b0, c38b1, H⟩ | ⟨c38b0, c38b1, c38, H⟩ := H
 ·obtain rfl := Option.some.inj H
  go_enter Tryd.func11, Tryd.ntmps11
  go_wp2
  go_ret
  exact ⟨er_, dr_⟩
 replace H := ie_ H
 obtain ⟨c39b0, c39b1, H⟩ | ⟨c39b0, c39b1, c39, H⟩ := H
 ·obtain rfl := Option.some.inj H
  go_enter Tryd.func11, Tryd.ntmps11
  go_wp2
  go_ret
  exact ⟨er_, dr_⟩
 replace H := ie_ H
 obtain ⟨c40b0, c40b1, H⟩ | ⟨c40b0, c40b1, c40, H⟩ := H
 ·obtain rfl := Option.some.inj H
  go_enter Tryd.func11, Tryd.ntmps11
  go_wp2
  go_ret
  exact ⟨er_, dr_⟩
 replace H := ie_ H
 obtain ⟨c41b0, c41b1, H⟩ | ⟨c41b0, c41b1, c41, H⟩ := H
 ·obtain rfl := Option.some.inj H
  go_enter Tryd.func11, Tryd.ntmps11
  go_wp2
  go_ret
  exact ⟨er_, dr_⟩
 replace H := ie_ H
 obtain ⟨c42b0, c42b1, H⟩ | ⟨c42b0, c42b1, c42, H⟩ := H
 ·obtain rfl := Option.some.inj H
  go_enter Tryd.func11, Tryd.ntmps11
  go_wp2
  go_ret
  exact ⟨er_, dr_⟩
 replace H := ie_ H
 obtain ⟨c43b0, c43b1, H⟩ | ⟨c43b0, c43b1, c43, H⟩ := H
 ·obtain rfl := Option.some.inj H
  go_enter Tryd.func11, Tryd.ntmps11
  go_wp2
  go_ret
  exact ⟨er_, dr_⟩
 replace H := ie_ H
 obtain ⟨c44b0, c44b1, H⟩ | ⟨c44b0, c44b1, c44, H⟩ := H
 ·obtain rfl := Option.some.inj H
  go_enter Tryd.func11, Tryd.ntmps11
  go_wp2
  go_ret
  exact ⟨er_, dr_⟩
 replace H := ie_ H
 obtain ⟨c45b0, c45b1, H⟩ | ⟨c45b0, c45b1, c45, H⟩ := H
 ·obtain rfl := Option.some.inj H
  go_enter Tryd.func11, Tryd.ntmps11
  go_wp2
  go_ret
  exact ⟨er_, dr_⟩
 obtain rfl := Option.some.inj H
 go_enter Tryd.func11, Tryd.ntmps11
 go_wp2
 go_ret
 exact ⟨er_, dr_⟩
def ctok_Canon.f (a0 : ByteArray) : Option (ByteArray) := if a0.toList = ([60, 58] : List UInt8) then (some (⟨#[91]⟩ : ByteArray)) else (if a0.toList = ([58, 62] : List UInt8) then (some (⟨#[93]⟩ : ByteArray)) else (if a0.toList = ([60, 37] : List UInt8) then (some (⟨#[123]⟩ : ByteArray)) else (if a0.toList = ([37, 62] : List UInt8) then (some (⟨#[125]⟩ : ByteArray)) else (if a0.toList = ([37, 58] : List UInt8) then (some (⟨#[35]⟩ : ByteArray)) else (if a0.toList = ([37, 58, 37, 58] : List UInt8) then (some (⟨#[35, 35]⟩ : ByteArray)) else (some a0))))))
theorem ctok_Canon.calls (a0 : ByteArray) (r : ByteArray) (w : World) (h : ctok_Canon.f a0 = some r) :
  Calls Tryd.prog 13 #[.string a0] w fun e w' => e = .returned (.string r) ∧ Drawn0 w w' := by
 have H : (if a0.toList = ([60, 58] : List UInt8) then (some (⟨#[91]⟩ : ByteArray)) else (if a0.toList = ([58, 62] : List UInt8) then (some (⟨#[93]⟩ : ByteArray)) else (if a0.toList = ([60, 37] : List UInt8) then (some (⟨#[123]⟩ : ByteArray)) else (if a0.toList = ([37, 62] : List UInt8) then (some (⟨#[125]⟩ : ByteArray)) else (if a0.toList = ([37, 58] : List UInt8) then (some (⟨#[35]⟩ : ByteArray)) else (if a0.toList = ([37, 58, 37, 58] : List UInt8) then (some (⟨#[35, 35]⟩ : ByteArray)) else (some a0))))))) = some r := h
 clear h
 replace H := ie_ H
 obtain ⟨c2b0, c2b1, H⟩ | ⟨c2b0, c2b1, c2, H⟩ := H
 ·obtain rfl := Option.some.inj H
  go_enter Tryd.func13, Tryd.ntmps13
  go_wp2
  go_ret
  exact ⟨er_, dr_⟩
 replace H := ie_ H
 obtain ⟨c3b0, c3b1, H⟩ | ⟨c3b0, c3b1, c3, H⟩ := H
 ·obtain rfl := Option.some.inj H
  go_enter Tryd.func13, Tryd.ntmps13
  go_wp2
  go_ret
  exact ⟨er_, dr_⟩
 replace H := ie_ H
 obtain ⟨c4b0, c4b1, H⟩ | ⟨c4b0, c4b1, c4, H⟩ := H
 ·obtain rfl := Option.some.inj H
  go_enter Tryd.func13, Tryd.ntmps13
  go_wp2
  go_ret
  exact ⟨er_, dr_⟩
 replace H := ie_ H
 obtain ⟨c5b0, c5b1, H⟩ | ⟨c5b0, c5b1, c5, H⟩ := H
 ·obtain rfl := Option.some.inj H
  go_enter Tryd.func13, Tryd.ntmps13
  go_wp2
  go_ret
  exact ⟨er_, dr_⟩
 replace H := ie_ H
 obtain ⟨c6b0, c6b1, H⟩ | ⟨c6b0, c6b1, c6, H⟩ := H
 ·obtain rfl := Option.some.inj H
  go_enter Tryd.func13, Tryd.ntmps13
  go_wp2
  go_ret
  exact ⟨er_, dr_⟩
 replace H := ie_ H
 obtain ⟨c7b0, c7b1, H⟩ | ⟨c7b0, c7b1, c7, H⟩ := H
 ·obtain rfl := Option.some.inj H
  go_enter Tryd.func13, Tryd.ntmps13
  go_wp2
  go_ret
  exact ⟨er_, dr_⟩
 obtain rfl := Option.some.inj H
 go_enter Tryd.func13, Tryd.ntmps13
 go_wp2
 go_ret
 exact ⟨er_, dr_⟩
def stringslite_HasPrefix.f (a0 : ByteArray) (a1 : ByteArray) : Option (Bool) := if (a0.size : Int) ≥ (a1.size : Int) then (if 0 ≤ (a1.size : Int) then (if (a1.size : Int) ≤ (a0.size : Int) then (some ((a0.extract 0 ((a1.size : Int) : Int).toNat).toList == a1.toList)) else (none)) else (none)) else (some false)
theorem stringslite_HasPrefix.calls (a0 : ByteArray) (a1 : ByteArray) (r : Bool) (w : World) (h : stringslite_HasPrefix.f a0 a1 = some r) :
  Calls Tryd.prog 51 #[.string a0, .string a1] w fun e w' => e = .returned (.bool r) ∧ Drawn0 w w' := by
 have H : (if (a0.size : Int) ≥ (a1.size : Int) then (if 0 ≤ (a1.size : Int) then (if (a1.size : Int) ≤ (a0.size : Int) then (some ((a0.extract 0 ((a1.size : Int) : Int).toNat).toList == a1.toList)) else (none)) else (none)) else (some false)) = some r := h
 clear h
 replace H := ib_ H
 obtain ⟨c3, H⟩ | ⟨c3, H⟩ := H
 ·have c3b0 : decide ((a1.size : Int) ≤ (a0.size : Int)) = true := decide_eq_true c3
  have c3b1 : decide (a1.size ≤ a0.size) = true := decide_eq_true (Int.ofNat_le.mp c3)
  clear c3
  replace H := id_ H
  obtain ⟨c4b0, c4b1, H⟩ | ⟨-, -, H⟩ := H
  ·replace H := id_ H
   obtain ⟨c5b0, c5b1, H⟩ | ⟨-, -, H⟩ := H
   ·obtain rfl := Option.some.inj H
    go_enter Tryd.func51, Tryd.ntmps51
    go_wp2
    go_ret
    exact ⟨er_, dr_⟩
   exact absurd H (by simp)
  exact absurd H (by simp)
 have c3b0 : decide ((a1.size : Int) ≤ (a0.size : Int)) = false := decide_eq_false c3
 have c3b1 : decide (a1.size ≤ a0.size) = false := decide_eq_false (fun h => c3 (Int.ofNat_le.mpr h))
 clear c3
 obtain rfl := Option.some.inj H
 go_enter Tryd.func51, Tryd.ntmps51
 go_wp2
 go_ret
 exact ⟨er_, dr_⟩
def strings_HasPrefix.f (a0 : ByteArray) (a1 : ByteArray) : Option (Bool) := (stringslite_HasPrefix.f a0 a1).bind fun t101 => (some t101)
theorem strings_HasPrefix.calls (a0 : ByteArray) (a1 : ByteArray) (r : Bool) (w : World) (h : strings_HasPrefix.f a0 a1 = some r) :
  Calls Tryd.prog 41 #[.string a0, .string a1] w fun e w' => e = .returned (.bool r) ∧ Drawn0 w w' := by
 have H : ((stringslite_HasPrefix.f a0 a1).bind fun t101 => (some t101)) = some r := h
 clear h
 replace H := Option.bind_eq_some_iff.mp H
 obtain ⟨t101, A30, H⟩ := H
 replace H : (some t101) = some r := H
 have A3 := Aside0.mk A30
 clear A30
 obtain rfl := Option.some.inj H
 go_enter Tryd.func41, Tryd.ntmps41
 go_wp2_with (first | ((with_reducible refine gate_callee (f := 51) rfl ?_); refine goesL_ (some 7) rfl rfl Tryd.func51 (by kernel_rfl) rfl #[.string a0, .string a1] rfl ar_ ?_; (with_reducible refine (stringslite_HasPrefix.calls a0 a1 t101 _ A3.out).mono ?_); rintro e w' ⟨rfl, ⟨nd, rfl⟩⟩; refine ⟨_, rfl, ?_⟩))
 go_ret
 exact ⟨er_, dr_⟩
def ctok_hexed.f (a0 : ByteArray) : Option (Bool) := (strings_HasPrefix.f a0 (⟨#[48, 120]⟩ : ByteArray)).bind fun t102 => (if t102 = true then (some true) else ((strings_HasPrefix.f a0 (⟨#[48, 88]⟩ : ByteArray)).bind fun t103 => (some t103)))
theorem ctok_hexed.calls (a0 : ByteArray) (r : Bool) (w : World) (h : ctok_hexed.f a0 = some r) :
  Calls Tryd.prog 31 #[.string a0] w fun e w' => e = .returned (.bool r) ∧ Drawn0 w w' := by
 have H : ((strings_HasPrefix.f a0 (⟨#[48, 120]⟩ : ByteArray)).bind fun t102 => (if t102 = true then (some true) else ((strings_HasPrefix.f a0 (⟨#[48, 88]⟩ : ByteArray)).bind fun t103 => (some t103)))) = some r := h
 clear h
 replace H := Option.bind_eq_some_iff.mp H
 obtain ⟨t102, A20, H⟩ := H
 replace H : (if t102 = true then (some true) else ((strings_HasPrefix.f a0 (⟨#[48, 88]⟩ : ByteArray)).bind fun t103 => (some t103))) = some r := H
 have A2 := Aside0.mk A20
 clear A20
 by_cases c3 : t102 = true
 ·subst c3
  have H1 : (some true) = some r := by rw [if_pos rfl] at H; exact H
  clear H
  have H := H1
  clear H1
  obtain rfl := Option.some.inj H
  go_enter Tryd.func31, Tryd.ntmps31
  go_wp2_with (first | ((with_reducible refine gate_callee (f := 41) rfl ?_); refine goesL_ (some 4) rfl rfl Tryd.func41 (by kernel_rfl) rfl #[.string a0, .string (⟨#[48, 120]⟩ : ByteArray)] rfl ar_ ?_; (with_reducible refine (strings_HasPrefix.calls a0 (⟨#[48, 120]⟩ : ByteArray) true _ A2.out).mono ?_); rintro e w' ⟨rfl, ⟨nd, rfl⟩⟩; refine ⟨_, rfl, ?_⟩))
  go_ret
  exact ⟨er_, dr_⟩
 replace c3 := Bool.eq_false_iff.mpr c3
 subst c3
 have H1 : ((strings_HasPrefix.f a0 (⟨#[48, 88]⟩ : ByteArray)).bind fun t103 => (some t103)) = some r := by rw [if_neg (show ¬ (false = true) by decide)] at H; exact H
 clear H
 have H := H1
 clear H1
 replace H := Option.bind_eq_some_iff.mp H
 obtain ⟨t103, A40, H⟩ := H
 replace H : (some t103) = some r := H
 have A4 := Aside0.mk A40
 clear A40
 obtain rfl := Option.some.inj H
 go_enter Tryd.func31, Tryd.ntmps31
 go_wp2_with (first | ((with_reducible refine gate_callee (f := 41) rfl ?_); refine goesL_ (some 4) rfl rfl Tryd.func41 (by kernel_rfl) rfl #[.string a0, .string (⟨#[48, 120]⟩ : ByteArray)] rfl ar_ ?_; (with_reducible refine (strings_HasPrefix.calls a0 (⟨#[48, 120]⟩ : ByteArray) false _ A2.out).mono ?_); rintro e w' ⟨rfl, ⟨nd, rfl⟩⟩; refine ⟨_, rfl, ?_⟩) | (go_at_call 41; (with_reducible refine (strings_HasPrefix.calls a0 (⟨#[48, 88]⟩ : ByteArray) t103 _ A4.out).mono ?_); rintro e w' ⟨rfl, ⟨nd, rfl⟩⟩))
 go_ret
 exact ⟨er_, dr_⟩
end Go.Proofs.YtcdleippdegibaaDoor.PB
namespace Go.Proofs.YtcdleippdegibaaDoor.Digits
open Go.RowKit Go.Shelf Go.Proofs Go.Proofs.YtcdleippdegibaaDoorW.PrintWords Go.Proofs.YtcdleippdegibaaDoor.Iter Go.Proofs.YtcdleippdegibaaDoor.PB
attribute [local go_sem] Oper.semAt_some
set_option maxHeartbeats 2000000 in
theorem run_any (s : ByteArray) (base : Int) (w : World) (hs : s.size ≤ maxLen) :
  Calls Tryd.prog 32 #[.string s, .int .i64 base] w fun e w' => e = .returned (.int .i64 ((digs s base).length : Int)) ∧ Below w.heap.size w w' := by
 have hle := digs_le s base
 have hsm : s.size ≤ 9223372036854775807 := by unfold maxLen at hs; omega
 refine (callsIn_wide (n := 3)).1 ?_
 refine callsIn_of_wp_marks Tryd.func32 rfl trivial ?_ rfl
 simp only [Tryd.ntmps32, List.size_toArray, List.length_cons, List.length_nil, Nat.reduceAdd, Nat.reduceSub, Array.replicate_succ, Array.replicate_zero, List.push_toArray, List.append_toArray, List.nil_append, List.cons_append]
 gi_wp2_with (refine ⟨trivial, ?_⟩; gi_at_call 42; refine (digits_in _ _ _ _).mono ?_; rintro e w' ⟨rfl, rfl⟩)
 obtain ⟨W0, hW0⟩ : ∃ W0, ((w.alloc (.cells #[.int .i64 0] 3)).alloc (.cells #[.string s] 9)).alloc (.cells #[.int .i64 base] 3) = W0 := ⟨_, rfl⟩
 have h1 := cell_new_l w (.int .i64 0) 3
 have h2 := cell_new_l (w.alloc (.cells #[.int .i64 0] 3)) (.string s) 9
 have h3 := cell_new_l ((w.alloc (.cells #[.int .i64 0] 3)).alloc (.cells #[.string s] 9)) (.int .i64 base) 3
 simp only [World.size_alloc] at h2 h3
 have hn : W0.cell? ⟨w.heap.size, 0, none⟩ = some (.int .i64 0) := by rw [← hW0]; exact cell_alloc_l _ (cell_alloc_l _ h1.1)
 have hnf : W0.frozen? ⟨w.heap.size, 0, none⟩ = false := by rw [← hW0]; exact frozen_alloc_l _ (cell_alloc_l _ h1.1) (frozen_alloc_l _ h1.1 h1.2)
 have hcs : W0.cell? ⟨w.heap.size + 1, 0, none⟩ = some (.string s) := by rw [← hW0]; exact cell_alloc_l _ h2.1
 have hcb : W0.cell? ⟨w.heap.size + 1 + 1, 0, none⟩ = some (.int .i64 base) := by rw [← hW0]; exact h3.1
 have hsz : W0.heap.size = w.heap.size + 3 := by rw [← hW0]; simp only [World.size_alloc]
 have hB : Below w.heap.size w W0 := by rw [← hW0]; exact (((Below.refl _ _).alloc (Nat.le_refl _) _).alloc (by simp) _).alloc (by simp; omega) _
 rw [hW0]
 clear hW0 h1 h2 h3
 refine wpIn_rangeFunc_ownF rfl (by omega) (gf := 52) (lb := #[.pointer (some ⟨w.heap.size + 1, 0, none⟩), .pointer (some ⟨w.heap.size + 1 + 1, 0, none⟩)]) rfl trivial (enters_of Tryd.func52 (by kernel_rfl) rfl)
  (digits_stops id (digs s base) _ (by omega) (w.heap.size + 1) (w.heap.size + 1 + 1) (fun b => b = w.heap.size + 1 ∨ b = w.heap.size + 1 + 1) s base hs (by simp) (.inl rfl) (.inr rfl) W0 hcs hcb)
  KeepS.t (KeepS.b (by rintro b (rfl | rfl) <;> omega)) (Below.refl _ _) (fun _ => rfl)
  (fun pre W => (W.cell? ⟨w.heap.size, 0, none⟩ = some (.int .i64 (pre.length : Int)) ∧ W.frozen? ⟨w.heap.size, 0, none⟩ = false) ∧ Below w.heap.size w W)
  (fun _ _ _ => False)
  (OwnFrom.and (Own.from (fun s A B row hs hg hr => ⟨cell_kept hs.1 hg hr, (frozen_kept hs.1 hg hr).trans hs.2⟩) _) (ownFrom_below (Nat.le_refl _) (by omega)))
  (fun _ _ _ _ _ hs _ _ => hs)
  ⟨⟨hn, hnf⟩, hB⟩ ?a1 ?assign ?body ?done ?stop
 case assign =>
  intro l x W K hK
  gi_wp2
  exact hK
 case body =>
  rintro l pre x W ⟨⟨hc, hf⟩, hBW⟩ hlen
  have h1 : IntKind.i64.wrap ((pre.length : Int) + 1) = (pre.length : Int) + 1 := IntWalk.i64_in _ (by omega)
  gi_wp2
  exact ⟨KeepsOthers.setCell _ _ _, KeepS.setCell _ (by rintro (h | h) <;> (simp at h; try omega)), ⟨⟨by rw [World.cell?_setCell_same' _ _ _ (by rw [hc]; rfl)]; simp, by rw [World.frozen?_setCell]; exact hf⟩, hBW.setCell (p := ⟨w.heap.size, 0, none⟩) (Nat.le_refl _) _⟩⟩
 case done =>
  rintro D ys W hD rfl ⟨⟨hc, _⟩, hBW⟩ hK
  gi_wp2
  refine ⟨by simp, .inl ⟨_, _, rfl, run_takeDeferred hK, ?_⟩⟩
  exact ⟨_, results_tmp rfl _ _ _, rfl, hBW.trans (belowK_b (w := w) (Nat.le_refl _) W D _ _ (by omega) hK rfl rfl)⟩
 case stop =>
  rintro D c pre W _ _ h _
  exact h.elim
def vStep (base : Int) (o : Option Int) (d : Int) : Option Int := o.bind fun v => if v > (18446744073709551615 - d) / base then none else some (v * base + d)
def vOf (base : Int) (l : List Int) : Option Int := l.foldl (vStep base) (some 0)
theorem vOf_snoc (base : Int) (l : List Int) (d : Int) : vOf base (l ++ [d]) = vStep base (vOf base l) d := by simp [vOf, List.foldl_append]
theorem vOf_none (base : Int) : ∀ (l : List Int), l.foldl (vStep base) none = none
 | [] => rfl
 | d :: l => by simpa [vStep] using vOf_none base l
theorem vOf_prefix {base : Int} {p l : List Int} (h : p <+: l) (hp : vOf base p = none) : vOf base l = none := by
 obtain ⟨r, rfl⟩ := h
 unfold vOf at hp ⊢
 rw [List.foldl_append, hp, vOf_none]
abbrev Dig (base : Int) := { d : Int // 0 ≤ d ∧ d < base }
theorem digs_ok (s : ByteArray) (base : Int) : ∀ d ∈ digs s base, 0 ≤ d ∧ d < base := by
 intro d hd
 obtain ⟨k, hk, rfl⟩ := List.mem_iff_getElem.1 hd
 obtain ⟨_, hget, h1, h2⟩ := digL_get base s.data.toList k hk
 have hget : (digs s base)[k]? = _ := hget
 rw [List.getElem?_eq_getElem hk] at hget
 injection hget with hget
 rw [hget]
 exact ⟨h1, h2⟩
def digD (s : ByteArray) (base : Int) : List (Dig base) := (digs s base).attachWith _ (digs_ok s base)
theorem digD_map (s : ByteArray) (base : Int) : (digD s base).map (·.1) = digs s base := by unfold digD; exact List.attachWith_map_subtype_val _
theorem vOf_bound1 {base : Int} (hb : 1 ≤ base) : ∀ (l : List (Dig base)) (o : Option Int) (_ : ∀ u, o = some u → 0 ≤ u ∧ u ≤ 18446744073709551615) (v : Int), (l.map (·.1)).foldl (vStep base) o = some v → 0 ≤ v ∧ v ≤ 18446744073709551615
 | [], o, ho, v, h => ho v h
 | d :: l, o, ho, v, h => by
  refine vOf_bound1 hb l (vStep base o d.1) (fun w hw => ?_) v h
  unfold vStep at hw
  obtain ⟨u, hu, hw⟩ := Option.bind_eq_some_iff.1 hw
  have := ho u hu
  split at hw
  ·cases hw
  injection hw with hw
  have hd := d.2
  have h1 : u ≤ (18446744073709551615 - d.1) / base := by omega
  have h2 : u * base ≤ 18446744073709551615 - d.1 := by
   have := Int.mul_le_mul_of_nonneg_right h1 (by omega : 0 ≤ base)
   have h3 := Int.ediv_mul_le (18446744073709551615 - d.1) (by omega : base ≠ 0)
   omega
  have h4 : 0 ≤ u * base := Int.mul_nonneg (by omega) (by omega)
  omega
theorem vOf_bound {base : Int} (hb : 1 ≤ base) {l : List (Dig base)} {v : Int} (h : vOf base (l.map (·.1)) = some v) : 0 ≤ v ∧ v ≤ 18446744073709551615 :=
 vOf_bound1 hb l (some 0) (fun u hu => by injection hu with hu; omega) v h
theorem digits_calls (s : ByteArray) (base : Int) (w : World) :
  Calls Tryd.prog 42 #[.string s, .int .i64 base] w fun e w' => e = .returned (.func (.func 52) #[] #[.pointer (some ⟨w.heap.size, 0, none⟩), .pointer (some ⟨w.heap.size + 1, 0, none⟩)]) ∧ w' = (w.alloc (.cells #[.string s] 9)).alloc (.cells #[.int .i64 base] 3) := calls_marks (digits_in 3 s base w)
def sufOf (s : ByteArray) (n : Nat) : List UInt8 := Lib.replaceAll (s.extract n s.size).data.toList [85] [117]
def intTail (base v : Int) (suf : List UInt8) : Int × Bool × Int :=
 if suf = [] ∨ suf = [108] ∨ suf = [76] ∨ suf = [108, 108] ∨ suf = [76, 76] then (if base = 10 ∧ v > 9223372036854775807 then (0, false, 40) else (v, decide (¬ base = 10 ∧ v > 9223372036854775807), 0))
 else if suf = [117] ∨ suf = [117, 108] ∨ suf = [117, 76] ∨ suf = [117, 108, 108] ∨ suf = [117, 76, 76] ∨ suf = [108, 117] ∨ suf = [76, 117] ∨ suf = [108, 108, 117] ∨ suf = [76, 76, 117] then (v, true, 0) else (0, false, 40)
def intRes (base : Int) (s : ByteArray) : Int × Bool × Int :=
 match vOf base (digs s base) with
 | none => (0, false, 40)
 | some v => if (digs s base).length = 0 then (0, false, 40) else intTail base v (sufOf s (digs s base).length)
set_option maxHeartbeats 4000000 in
theorem int16 (t : ByteArray) (w : World) (hs : t.size < 4294967281) (hh : ctok_hexed.f t = some true) (h2 : 2 ≤ t.size) (m : Int) (hm : w.cell? ⟨0, 0, none⟩ = some (.int .i64 m)) :
    Calls Tryd.prog 28 #[.string t] w fun e w' => e = .returned (.tuple #[.int .u64 (intRes 16 (t.extract 2 t.size)).1, .bool (intRes 16 (t.extract 2 t.size)).2.1, .int .i64 (intRes 16 (t.extract 2 t.size)).2.2]) ∧ Below w.heap.size w w' := by
  refine calls_marks (callsIn_of_wp_marks Tryd.func28 rfl trivial ?_ rfl)
  refine wpIn_wide.2 ?_
  simp only [Tryd.ntmps28, List.size_toArray, List.length_cons, List.length_nil, Nat.reduceAdd, Nat.reduceSub, Array.replicate_succ, Array.replicate_zero, List.push_toArray, List.append_toArray, List.nil_append, List.cons_append]
  go_wp2
  go_step3
  go_wp2_with (first | (go_at_call 31; refine (ctok_hexed.calls _ _ _ hh).mono ?_; rintro e w' ⟨rfl, ⟨nd, rfl⟩⟩))
  go_region
  go_wp2
  go_step3
  go_wp2_with (first | (go_at_call 42; refine (digits_calls _ _ _).mono ?_; rintro e w' ⟨rfl, rfl⟩))
  have hss0 : (t.extract 2 t.size).size ≤ t.size := by simp
  obtain ⟨s, hse⟩ : ∃ s, t.extract 2 t.size = s := ⟨_, rfl⟩
  have hss : s.size ≤ t.size := by rw [← hse]; exact hss0
  have HSE := Lib.hid hse
  simp only [hse]
  clear hse hss0
  obtain ⟨W1, hW1⟩ : ∃ W1, (((w.alloc (.cells #[.int .u64 0] 32)).alloc (.cells #[.int .i64 10] 3)).drewN (nd + 1)).setCell ⟨w.heap.size + 1, 0, none⟩ (.int .i64 16) = W1 := ⟨_, rfl⟩
  have k2 : W1.heap[w.heap.size]? = some (.cells #[.int .u64 0] 32) := by rw [← hW1]; exact blk_far (blk_drewN (blk_alloc (blk_new _ _) _) _) (by simp) _
  have k5 : W1.heap[w.heap.size + 1]? = some (.cells #[.int .i64 16] 3) := by rw [← hW1]; exact blk_put (cs := #[.int .i64 10]) (blk_drewN (by simpa using blk_new (w.alloc (.cells #[.int .u64 0] 32)) (.cells #[.int .i64 10] 3)) _) 0 _ rfl
  have hz1 : W1.heap.size = w.heap.size + 2 := by rw [← hW1]; simp
  have hB1 : Below w.heap.size w W1 := by rw [← hW1]; exact (pw_below_drewN (((Below.refl _ _).alloc (Nat.le_refl _) _).alloc (by simp) _) _).setCell (by simp) _
  rw [hW1]
  clear hW1
  obtain ⟨W0, hW0⟩ : ∃ W0, (((W1.alloc (.cells #[.int .i64 0] 3)).alloc (.cells #[.bool false] 4)).alloc (.cells #[.string s] 9)).alloc (.cells #[.int .i64 16] 3) = W0 := ⟨_, rfl⟩
  have p2 : W0.heap[w.heap.size]? = some (.cells #[.int .u64 0] 32) := by rw [← hW0]; exact blk_alloc (blk_alloc (blk_alloc (blk_alloc k2 _) _) _) _
  have p5 : W0.heap[w.heap.size + 1]? = some (.cells #[.int .i64 16] 3) := by rw [← hW0]; exact blk_alloc (blk_alloc (blk_alloc (blk_alloc k5 _) _) _) _
  have p7 : W0.heap[w.heap.size + 1 + 1]? = some (.cells #[.int .i64 0] 3) := by rw [← hW0]; exact blk_alloc (blk_alloc (blk_alloc (by simpa [hz1] using blk_new W1 (.cells #[.int .i64 0] 3)) _) _) _
  have p8 : W0.heap[w.heap.size + 1 + 1 + 1]? = some (.cells #[.bool false] 4) := by rw [← hW0]; exact blk_alloc (blk_alloc (by simpa [hz1] using blk_new (W1.alloc (.cells #[.int .i64 0] 3)) (.cells #[.bool false] 4)) _) _
  have ps : W0.heap[w.heap.size + 1 + 1 + 1 + 1]? = some (.cells #[.string s] 9) := by rw [← hW0]; exact blk_alloc (by simpa [hz1] using blk_new ((W1.alloc (.cells #[.int .i64 0] 3)).alloc (.cells #[.bool false] 4)) (.cells #[.string s] 9)) _
  have pb : W0.heap[w.heap.size + 1 + 1 + 1 + 1 + 1]? = some (.cells #[.int .i64 16] 3) := by rw [← hW0]; simpa [hz1] using blk_new (((W1.alloc (.cells #[.int .i64 0] 3)).alloc (.cells #[.bool false] 4)).alloc (.cells #[.string s] 9)) (.cells #[.int .i64 16] 3)
  have hz0 : W0.heap.size = w.heap.size + 6 := by rw [← hW0]; simp [hz1]
  have hB0 : Below w.heap.size w W0 := by rw [← hW0]; exact ((((hB1.alloc (by omega) _).alloc (by simp; omega) _).alloc (by simp; omega) _).alloc (by simp; omega) _)
  rw [hW0]
  clear hW0 k2 k5 hz1 hB1
  have hle := digs_le s 16
  have hDl : (digD s 16).length = (digs s 16).length := by rw [← digD_map, List.length_map]
  refine wp_rangeFunc_list (gf := 52) (lb := #[.pointer (some ⟨w.heap.size + 1 + 1 + 1 + 1, 0, none⟩), .pointer (some ⟨w.heap.size + 1 + 1 + 1 + 1 + 1, 0, none⟩)]) rfl (enters_of Tryd.func52 (by kernel_rfl) rfl)
    (digits_stops (fun x : Dig 16 => x.1) (digD s 16) _ (by omega) (w.heap.size + 1 + 1 + 1 + 1) (w.heap.size + 1 + 1 + 1 + 1 + 1) (fun b => b = w.heap.size + 1 + 1 + 1 + 1 ∨ b = w.heap.size + 1 + 1 + 1 + 1 + 1) s 16 (by unfold maxLen; omega) (digD_map s 16) (.inl rfl) (.inr rfl) W0 (cell_of_box_l ps).1 (cell_of_box_l pb).1)
    (by rintro b (rfl | rfl) <;> omega) (fun _ => rfl)
    (fun pre W => (∃ v, vOf 16 (pre.map (·.1)) = some v ∧ W.cell? ⟨w.heap.size, 0, none⟩ = some (.int .u64 v) ∧ W.frozen? ⟨w.heap.size, 0, none⟩ = false ∧ W.cell? ⟨w.heap.size + 1, 0, none⟩ = some (.int .i64 16) ∧
      W.cell? ⟨w.heap.size + 1 + 1, 0, none⟩ = some (.int .i64 (pre.length : Int)) ∧ W.frozen? ⟨w.heap.size + 1 + 1, 0, none⟩ = false ∧ W.cell? ⟨w.heap.size + 1 + 1 + 1, 0, none⟩ = some (.bool false) ∧ W.frozen? ⟨w.heap.size + 1 + 1 + 1, 0, none⟩ = false) ∧ Below w.heap.size w W)
    (fun c pre W => (c = .exit 1 ∧ vOf 16 (pre.map (·.1)) = none ∧ (∃ v, W.cell? ⟨w.heap.size, 0, none⟩ = some v) ∧ W.frozen? ⟨w.heap.size, 0, none⟩ = false ∧ (∃ n : Nat, W.cell? ⟨w.heap.size + 1 + 1, 0, none⟩ = some (.int .i64 (n : Int))) ∧ W.cell? ⟨w.heap.size + 1 + 1 + 1, 0, none⟩ = some (.bool true)) ∧ Below w.heap.size w W)
    (OwnFrom.and (Own.from (fun s A B row hs hg hr => by
      obtain ⟨v, a1, a2, a3, a4, a5, a6, a7, a8⟩ := hs
      exact ⟨v, a1, cell_kept a2 hg hr, (frozen_kept a2 hg hr).trans a3, cell_kept a4 hg hr, cell_kept a5 hg hr, (frozen_kept a5 hg hr).trans a6, cell_kept a7 hg hr, (frozen_kept a7 hg hr).trans a8⟩) _) (ownFrom_below (Nat.le_refl _) (by omega)))
    (fun c => OwnFrom.and (Own.from (fun s A B row hs hg hr => by
      obtain ⟨a0, a1, ⟨v, a2⟩, a3, ⟨n, a4⟩, a5⟩ := hs
      exact ⟨a0, a1, ⟨v, cell_kept a2 hg hr⟩, (frozen_kept a2 hg hr).trans a3, ⟨n, cell_kept a4 hg hr⟩, cell_kept a5 hg hr⟩) _) (ownFrom_below (Nat.le_refl _) (by omega)))
    ⟨⟨0, rfl, (cell_of_box_l p2).1, (cell_of_box_l p2).2, (cell_of_box_l p5).1, (cell_of_box_l p7).1, (cell_of_box_l p7).2, (cell_of_box_l p8).1, (cell_of_box_l p8).2⟩, hB0⟩ ?a1 ?assign ?body ?done ?stop
  case assign =>
    intro l x W K hK
    gi_wp2
    exact hK
  case body =>
    rintro l pre x W ⟨⟨v, hv, c2, f2, c5, c7, f7, c8, f8⟩, hBW⟩ hlen
    have hvb := vOf_bound (by omega) hv
    have hx := x.2
    have hmx : Tryd.prog.follows .mixedOrders = true := by kernel_rfl
    have e1 : IntKind.u64.wrap x.1 = x.1 := by rw [IntKind.wrap_u64]; omega
    by_cases hq : (18446744073709551615 - x.1) / 16 < v
    · have hqb : decide ((18446744073709551615 - x.1) / 16 < v) = true := decide_eq_true hq
      have HQ := Lib.hid hq
      clear hq
      gi_wp2
      refine wpIn_round_quiet (by kernel_rfl) hmx (by kernel_rfl) ?_
      repeat (gi_big_quiet_step (fail))
      refine wpQuietIn_nil ?_
      intro _ hw'
      obtain ⟨nq, hw''⟩ := hw'
      subst hw''
      gi_wp2
      refine ⟨(others_of_below (pw_below_drewN (Below.refl W.heap.size W) nq)).trans (KeepsOthers.setCell _ _ _), ⟨rfl, ?_, ⟨_, (cell_far (p := ⟨w.heap.size + 1 + 1 + 1, 0, none⟩) (by simp; try omega) _).trans c2⟩, ?_, ⟨_, (cell_far (p := ⟨w.heap.size + 1 + 1 + 1, 0, none⟩) (by simp; try omega) _).trans c7⟩, ?_⟩, (pw_below_drewN hBW _).setCell (p := ⟨w.heap.size + 1 + 1 + 1, 0, none⟩) (by simp; omega) _⟩
      · rw [List.map_append, List.map_cons, List.map_nil, vOf_snoc, hv]
        simp only [vStep, Option.bind_some]
        rw [if_pos HQ.out]
      · rw [World.frozen?_setCell]; exact f2
      exact World.cell?_setCell_same' _ _ _ (by show Option.isSome (W.cell? _) = true; rw [c8]; rfl)
    have hq1 : v * 16 ≤ 18446744073709551615 - x.1 := by omega
    have hq2 : 0 ≤ v * 16 := by omega
    have hl1 : (pre.length : Int) + 1 ≤ 4294967281 := by omega
    have hvn : Hid (vOf 16 ((pre ++ [x]).map (·.1)) = some (v * 16 + x.1)) := Lib.hid (by
      rw [List.map_append, List.map_cons, List.map_nil, vOf_snoc, hv]
      simp only [vStep, Option.bind_some]
      rw [if_neg hq])
    have HQ1 := Lib.hid hq1
    have HQ2 := Lib.hid hq2
    have HVB := Lib.hid hvb
    have hqb : decide ((18446744073709551615 - x.1) / 16 < v) = false := decide_eq_false hq
    clear hv hq1 hq2 hvb hq
    gi_wp2
    refine wpIn_round_quiet (by kernel_rfl) hmx (by kernel_rfl) ?_
    repeat (gi_big_quiet_step (fail))
    refine wpQuietIn_nil ?_
    intro _ hw'
    obtain ⟨nq, hw''⟩ := hw'
    subst hw''
    gi_wp2
    have hw : IntKind.u64.wrap (IntKind.u64.wrap (v * 16) + x.1) = v * 16 + x.1 := by have := HQ1.out; have := HQ2.out; rw [IntKind.wrap_u64, IntKind.wrap_u64]; omega
    rw [hw]
    refine ⟨(others_of_below (pw_below_drewN (Below.refl W.heap.size W) nq)).trans ((KeepsOthers.setCell _ _ _).trans (KeepsOthers.setCell _ _ _)), (KeepS.of_below (pw_below_drewN (Below.refl W.heap.size W) nq)).trans ((KeepS.setCell _ (by rintro (h | h) <;> (simp at h; try omega))).trans (KeepS.setCell _ (by rintro (h | h) <;> (simp at h; try omega)))),
      ⟨_, hvn.out, ?_, ?_, ?_, ?_, ?_, ?_, ?_⟩, ((pw_below_drewN hBW _).setCell (p := ⟨w.heap.size, 0, none⟩) (Nat.le_refl _) _).setCell (p := ⟨w.heap.size + 1 + 1, 0, none⟩) (by show w.heap.size ≤ w.heap.size + 1 + 1; omega) _⟩
    · rw [cell_far (p := ⟨w.heap.size + 1 + 1, 0, none⟩) (by simp; try omega)]
      exact World.cell?_setCell_same' _ _ _ (by show Option.isSome (W.cell? _) = true; rw [c2]; rfl)
    · rw [World.frozen?_setCell, World.frozen?_setCell]; exact f2
    · exact ((cell_far (p := ⟨w.heap.size + 1 + 1, 0, none⟩) (by simp; try omega) _).trans (cell_far (p := ⟨w.heap.size, 0, none⟩) (by simp; try omega) _)).trans c5
    · rw [World.cell?_setCell_same' _ _ _ (by rw [cell_far (p := ⟨w.heap.size, 0, none⟩) (by simp; try omega)]; show Option.isSome (W.cell? _) = true; rw [c7]; rfl)]
      simp
    · rw [World.frozen?_setCell, World.frozen?_setCell]; exact f7
    · exact ((cell_far (p := ⟨w.heap.size + 1 + 1, 0, none⟩) (by simp; try omega) _).trans (cell_far (p := ⟨w.heap.size, 0, none⟩) (by simp; try omega) _)).trans c8
    rw [World.frozen?_setCell, World.frozen?_setCell]; exact f8
  case done =>
    rintro B W hD ⟨⟨v, hv, c2, f2, c5, c7, f7, c8, f8⟩, hBW⟩ hK
    rw [digD_map] at hv
    rw [hDl] at c7
    have hBl : ∀ {W' : World}, Below w.heap.size w W' → W'.heap[B]? = some (.deferred (some [])) → Below w.heap.size w (W'.putObj B (.deferred none)) := fun hb hk => hb.trans (belowK_b (w := w) (Nat.le_refl _) _ B _ _ (by omega) hk rfl rfl)
    by_cases h0 : (digs s 16).length = 0
    · rw [h0] at c7
      have hres : intRes 16 s = (0, false, 40) := by unfold intRes; rw [hv]; simp only [h0, if_true]
      clear hDl hle
      go_wp2
      rw [Exit.noGoto_ret]
      have hK' := (KeepsOthers.setCell W ⟨w.heap.size, 0, none⟩ (.int .u64 0)).same B _ hK rfl
      have hc := cell_kept (World.cell?_setCell_same' W ⟨w.heap.size, 0, none⟩ (.int .u64 0) (by rw [c2]; rfl)) (grownBy_putObj' _ B (.deferred none)) (fun r e => by cases e; exact ⟨_, hK', rfl⟩)
      refine ⟨by simp, .inl ⟨_, _, rfl, run_takeDeferred hK', ?_⟩⟩
      refine ⟨_, ?_, by rw [HSE.out, hres], hBl (hBW.setCell (p := ⟨w.heap.size, 0, none⟩) (Nat.le_refl _) _) hK'⟩
      simp [results, Tryd.results28, go_sem, hc]
    have hn0 : 0 < (digs s 16).length := by omega
    obtain ⟨nn, hnn⟩ : ∃ nn, (digs s 16).length = nn := ⟨_, rfl⟩
    have hres : Hid (intRes 16 s = intTail 16 v (sufOf s nn)) := Lib.hid (by unfold intRes; rw [hv]; rw [← hnn]; simp only [h0, if_false])
    rw [hnn] at c7 hle hn0
    clear hDl hnn h0 hv
    have hb0 : ((nn : Int) == 0) = false := beq_eq_false_iff_ne.mpr (by omega)
    have hcnt : (s.extract nn s.size).size + Lib.countB (s.extract nn s.size) ⟨#[85]⟩ * (⟨#[117]⟩ : ByteArray).size ≤ 140737488355328 := by
      have h1 := Lib.countB_le ⟨#[85]⟩ (by decide) _ (s.extract nn s.size) (Nat.le_refl _)
      have h3 : (⟨#[117]⟩ : ByteArray).size = 1 := rfl
      rw [h3]
      have h2 : (s.extract nn s.size).size ≤ s.size := by simp
      omega
    have hxs : (s.extract nn s.size).size < 4294967281 := by have h2 : (s.extract nn s.size).size ≤ s.size := by simp
                                                             omega
    have hmW : W.cell? ⟨0, 0, none⟩ = some (.int .i64 m) := (hBW.cell (p := ⟨0, 0, none⟩) (World.block_lt_of_cell? _ _ hm)).trans hm
    go_wp2_with (fail)
    refine (Tryd.strings_ReplaceAll (s.extract nn s.size) ⟨#[85]⟩ ⟨#[117]⟩ m _ hxs hmW (by decide) hcnt).mono ?_
    rintro e w3 ⟨rfl, hB3⟩
    have hres' : Hid (intRes 16 s = intTail 16 v (Lib.replaceAll (s.extract nn s.size).data.toList [85] [117])) := hres
    clear hres hxs hmW hcnt
    generalize Lib.replaceAll (s.extract nn s.size).data.toList [85] [117] = suf at hres' ⊢
    have d2 := (hB3.cell (p := ⟨w.heap.size, 0, none⟩) (World.block_lt_of_cell? _ _ c2)).trans c2
    have g2 := (hB3.frozen (p := ⟨w.heap.size, 0, none⟩) (World.block_lt_of_cell? _ _ c2)).trans f2
    have d5 := (hB3.cell (p := ⟨w.heap.size + 1, 0, none⟩) (World.block_lt_of_cell? _ _ c5)).trans c5
    have hK3 := (others_of_below hB3).same B _ hK rfl
    have hBW3 := hBW.trans (hB3.mono hBW.size)
    clear c2 f2 c5 c7 f7 c8 f8 hK hB3 hBW
    have hfin : ∀ (X : Int) (bb : Bool) (ee : Int), intTail 16 v suf = (X, bb, ee) →
        ((w3.setCell ⟨w.heap.size, 0, none⟩ (.int .u64 X)).putObj B (.deferred none)).cell? ⟨w.heap.size, 0, none⟩ = some (.int .u64 X) ∧
        Hid (Ending.returned (.tuple #[.int .u64 X, .bool bb, .int .i64 ee]) = .returned (.tuple #[.int .u64 (intRes 16 (t.extract 2 t.size)).1, .bool (intRes 16 (t.extract 2 t.size)).2.1, .int .i64 (intRes 16 (t.extract 2 t.size)).2.2])) ∧
        Below w.heap.size w ((w3.setCell ⟨w.heap.size, 0, none⟩ (.int .u64 X)).putObj B (.deferred none)) ∧ (w3.setCell ⟨w.heap.size, 0, none⟩ (.int .u64 X)).heap[B]? = some (.deferred (some [])) := by
      intro X bb ee hX
      have hK4 := (KeepsOthers.setCell w3 ⟨w.heap.size, 0, none⟩ (.int .u64 X)).same B _ hK3 rfl
      refine ⟨cell_kept (World.cell?_setCell_same' w3 ⟨w.heap.size, 0, none⟩ (.int .u64 X) (by rw [d2]; rfl)) (grownBy_putObj' _ B (.deferred none)) (fun r e => by cases e; exact ⟨_, hK4, rfl⟩), Lib.hid ?_, hBl (hBW3.setCell (p := ⟨w.heap.size, 0, none⟩) (Nat.le_refl _) _) hK4, hK4⟩
      rw [HSE.out, hres'.out, hX]
    clear hres' hBW3 hK3 hBl
    by_cases hA : suf = [] ∨ suf = [108] ∨ suf = [76] ∨ suf = [108, 108] ∨ suf = [76, 76]
    · obtain ⟨hc, HE, hb, hk⟩ := hfin v (decide (9223372036854775807 < v)) 0 (by unfold intTail; rw [if_pos hA]; simp)
      clear hfin
      rcases hA with rfl | rfl | rfl | rfl | rfl
      all_goals go_wp2
      all_goals rw [Exit.noGoto_ret]
      all_goals refine ⟨by simp, .inl ⟨_, _, rfl, run_takeDeferred hk, ?_⟩⟩
      all_goals refine ⟨_, ?_, HE.out, hb⟩
      all_goals simp [results, Tryd.results28, go_sem, hc]
    by_cases hB : suf = [117] ∨ suf = [117, 108] ∨ suf = [117, 76] ∨ suf = [117, 108, 108] ∨ suf = [117, 76, 76] ∨ suf = [108, 117] ∨ suf = [76, 117] ∨ suf = [108, 108, 117] ∨ suf = [76, 76, 117]
    · obtain ⟨hc, HE, hb, hk⟩ := hfin v true 0 (by unfold intTail; rw [if_neg hA, if_pos hB])
      clear hfin hA
      rcases hB with rfl | rfl | rfl | rfl | rfl | rfl | rfl | rfl | rfl
      all_goals go_wp2
      all_goals rw [Exit.noGoto_ret]
      all_goals refine ⟨by simp, .inl ⟨_, _, rfl, run_takeDeferred hk, ?_⟩⟩
      all_goals refine ⟨_, ?_, HE.out, hb⟩
      all_goals simp [results, Tryd.results28, go_sem, hc]
    obtain ⟨hc, HE, hb, hk⟩ := hfin 0 false 40 (by unfold intTail; rw [if_neg hA, if_neg hB])
    clear hfin
    simp only [not_or, ← beq_eq_false_iff_ne (α := List UInt8)] at hA hB
    obtain ⟨g0, g1, g3, g4, g5⟩ := hA
    obtain ⟨g6, g7, g8, g9, ga, gb, gc, gd, ge⟩ := hB
    have g0' : suf.isEmpty = false := by rw [List.isEmpty_eq_false_iff]; simpa using g0
    all_goals go_wp2
    all_goals rw [Exit.noGoto_ret]
    all_goals refine ⟨by simp, .inl ⟨_, _, rfl, run_takeDeferred hk, ?_⟩⟩
    all_goals refine ⟨_, ?_, HE.out, hb⟩
    all_goals simp [results, Tryd.results28, go_sem, hc]
  case stop =>
    rintro B c pre W hD hp ⟨⟨rfl, hvn, ⟨v, c2⟩, f2, ⟨n, c7⟩, c8⟩, hBW⟩ hK
    have hres : intRes 16 s = (0, false, 40) := by
      have hp' : pre.map (·.1) <+: digs s 16 := by rw [← digD_map]; exact hp.map _
      unfold intRes; rw [vOf_prefix hp' hvn]
    have hBl : ∀ {W' : World}, Below w.heap.size w W' → W'.heap[B]? = some (.deferred (some [])) → Below w.heap.size w (W'.putObj B (.deferred none)) := fun hb hk => hb.trans (belowK_b (w := w) (Nat.le_refl _) _ B _ _ (by omega) hk rfl rfl)
    have hK' := (KeepsOthers.setCell W ⟨w.heap.size, 0, none⟩ (.int .u64 0)).same B _ hK rfl
    have hc := cell_kept (World.cell?_setCell_same' W ⟨w.heap.size, 0, none⟩ (.int .u64 0) (by rw [c2]; rfl)) (grownBy_putObj' _ B (.deferred none)) (fun r e => by cases e; exact ⟨_, hK', rfl⟩)
    have HC := Lib.hid hc
    have HR := Lib.hid hres
    clear hc hres hvn hp hDl hle
    by_cases hn : n = 0
    · subst hn
      go_wp2
      rw [Exit.noGoto_ret]
      refine ⟨by simp, .inl ⟨_, _, rfl, run_takeDeferred hK', ?_⟩⟩
      refine ⟨_, ?_, by rw [HSE.out, HR.out], hBl (hBW.setCell (p := ⟨w.heap.size, 0, none⟩) (Nat.le_refl _) _) hK'⟩
      simp [results, Tryd.results28, go_sem, HC.out]
    have hb0 : ((n : Int) == 0) = false := beq_eq_false_iff_ne.mpr (by omega)
    clear hn
    go_wp2
    rw [Exit.noGoto_ret]
    refine ⟨by simp, .inl ⟨_, _, rfl, run_takeDeferred hK', ?_⟩⟩
    refine ⟨_, ?_, by rw [HSE.out, HR.out], hBl (hBW.setCell (p := ⟨w.heap.size, 0, none⟩) (Nat.le_refl _) _) hK'⟩
    simp [results, Tryd.results28, go_sem, HC.out]
set_option maxHeartbeats 4000000 in
theorem int8 (t : ByteArray) (w : World) (hs : t.size < 4294967281) (hh : ctok_hexed.f t = some false) (hz : strings_HasPrefix.f t ⟨#[48]⟩ = some true) (m : Int) (hm : w.cell? ⟨0, 0, none⟩ = some (.int .i64 m)) :
    Calls Tryd.prog 28 #[.string t] w fun e w' => e = .returned (.tuple #[.int .u64 (intRes 8 (t)).1, .bool (intRes 8 (t)).2.1, .int .i64 (intRes 8 (t)).2.2]) ∧ Below w.heap.size w w' := by
  refine calls_marks (callsIn_of_wp_marks Tryd.func28 rfl trivial ?_ rfl)
  refine wpIn_wide.2 ?_
  simp only [Tryd.ntmps28, List.size_toArray, List.length_cons, List.length_nil, Nat.reduceAdd, Nat.reduceSub, Array.replicate_succ, Array.replicate_zero, List.push_toArray, List.append_toArray, List.nil_append, List.cons_append]
  go_wp2
  go_step3
  go_wp2_with (first | (go_at_call 31; refine (ctok_hexed.calls _ _ _ hh).mono ?_; rintro e w' ⟨rfl, ⟨nd, rfl⟩⟩) | (go_at_call 41; refine (strings_HasPrefix.calls _ _ _ _ hz).mono ?_; rintro e w' ⟨rfl, ⟨nd2, rfl⟩⟩))
  go_step3
  go_wp2_with (first | (go_at_call 42; refine (digits_calls _ _ _).mono ?_; rintro e w' ⟨rfl, rfl⟩))
  have hss0 : (t).size ≤ t.size := by simp
  obtain ⟨s, hse⟩ : ∃ s, t = s := ⟨_, rfl⟩
  have hss : s.size ≤ t.size := by rw [← hse]; exact hss0
  have HSE := Lib.hid hse
  simp only [hse]
  clear hse hss0
  obtain ⟨W1, hW1⟩ : ∃ W1, (((w.alloc (.cells #[.int .u64 0] 32)).alloc (.cells #[.int .i64 10] 3)).drewN (nd + nd2)).setCell ⟨w.heap.size + 1, 0, none⟩ (.int .i64 8) = W1 := ⟨_, rfl⟩
  have k2 : W1.heap[w.heap.size]? = some (.cells #[.int .u64 0] 32) := by rw [← hW1]; exact blk_far (blk_drewN (blk_alloc (blk_new _ _) _) _) (by simp) _
  have k5 : W1.heap[w.heap.size + 1]? = some (.cells #[.int .i64 8] 3) := by rw [← hW1]; exact blk_put (cs := #[.int .i64 10]) (blk_drewN (by simpa using blk_new (w.alloc (.cells #[.int .u64 0] 32)) (.cells #[.int .i64 10] 3)) _) 0 _ rfl
  have hz1 : W1.heap.size = w.heap.size + 2 := by rw [← hW1]; simp
  have hB1 : Below w.heap.size w W1 := by rw [← hW1]; exact (pw_below_drewN (((Below.refl _ _).alloc (Nat.le_refl _) _).alloc (by simp) _) _).setCell (by simp) _
  rw [hW1]
  clear hW1
  obtain ⟨W0, hW0⟩ : ∃ W0, (((W1.alloc (.cells #[.int .i64 0] 3)).alloc (.cells #[.bool false] 4)).alloc (.cells #[.string s] 9)).alloc (.cells #[.int .i64 8] 3) = W0 := ⟨_, rfl⟩
  have p2 : W0.heap[w.heap.size]? = some (.cells #[.int .u64 0] 32) := by rw [← hW0]; exact blk_alloc (blk_alloc (blk_alloc (blk_alloc k2 _) _) _) _
  have p5 : W0.heap[w.heap.size + 1]? = some (.cells #[.int .i64 8] 3) := by rw [← hW0]; exact blk_alloc (blk_alloc (blk_alloc (blk_alloc k5 _) _) _) _
  have p7 : W0.heap[w.heap.size + 1 + 1]? = some (.cells #[.int .i64 0] 3) := by rw [← hW0]; exact blk_alloc (blk_alloc (blk_alloc (by simpa [hz1] using blk_new W1 (.cells #[.int .i64 0] 3)) _) _) _
  have p8 : W0.heap[w.heap.size + 1 + 1 + 1]? = some (.cells #[.bool false] 4) := by rw [← hW0]; exact blk_alloc (blk_alloc (by simpa [hz1] using blk_new (W1.alloc (.cells #[.int .i64 0] 3)) (.cells #[.bool false] 4)) _) _
  have ps : W0.heap[w.heap.size + 1 + 1 + 1 + 1]? = some (.cells #[.string s] 9) := by rw [← hW0]; exact blk_alloc (by simpa [hz1] using blk_new ((W1.alloc (.cells #[.int .i64 0] 3)).alloc (.cells #[.bool false] 4)) (.cells #[.string s] 9)) _
  have pb : W0.heap[w.heap.size + 1 + 1 + 1 + 1 + 1]? = some (.cells #[.int .i64 8] 3) := by rw [← hW0]; simpa [hz1] using blk_new (((W1.alloc (.cells #[.int .i64 0] 3)).alloc (.cells #[.bool false] 4)).alloc (.cells #[.string s] 9)) (.cells #[.int .i64 8] 3)
  have hz0 : W0.heap.size = w.heap.size + 6 := by rw [← hW0]; simp [hz1]
  have hB0 : Below w.heap.size w W0 := by rw [← hW0]; exact ((((hB1.alloc (by omega) _).alloc (by simp; omega) _).alloc (by simp; omega) _).alloc (by simp; omega) _)
  rw [hW0]
  clear hW0 k2 k5 hz1 hB1
  have hle := digs_le s 8
  have hDl : (digD s 8).length = (digs s 8).length := by rw [← digD_map, List.length_map]
  refine wp_rangeFunc_list (gf := 52) (lb := #[.pointer (some ⟨w.heap.size + 1 + 1 + 1 + 1, 0, none⟩), .pointer (some ⟨w.heap.size + 1 + 1 + 1 + 1 + 1, 0, none⟩)]) rfl (enters_of Tryd.func52 (by kernel_rfl) rfl)
    (digits_stops (fun x : Dig 8 => x.1) (digD s 8) _ (by omega) (w.heap.size + 1 + 1 + 1 + 1) (w.heap.size + 1 + 1 + 1 + 1 + 1) (fun b => b = w.heap.size + 1 + 1 + 1 + 1 ∨ b = w.heap.size + 1 + 1 + 1 + 1 + 1) s 8 (by unfold maxLen; omega) (digD_map s 8) (.inl rfl) (.inr rfl) W0 (cell_of_box_l ps).1 (cell_of_box_l pb).1)
    (by rintro b (rfl | rfl) <;> omega) (fun _ => rfl)
    (fun pre W => (∃ v, vOf 8 (pre.map (·.1)) = some v ∧ W.cell? ⟨w.heap.size, 0, none⟩ = some (.int .u64 v) ∧ W.frozen? ⟨w.heap.size, 0, none⟩ = false ∧ W.cell? ⟨w.heap.size + 1, 0, none⟩ = some (.int .i64 8) ∧
      W.cell? ⟨w.heap.size + 1 + 1, 0, none⟩ = some (.int .i64 (pre.length : Int)) ∧ W.frozen? ⟨w.heap.size + 1 + 1, 0, none⟩ = false ∧ W.cell? ⟨w.heap.size + 1 + 1 + 1, 0, none⟩ = some (.bool false) ∧ W.frozen? ⟨w.heap.size + 1 + 1 + 1, 0, none⟩ = false) ∧ Below w.heap.size w W)
    (fun c pre W => (c = .exit 1 ∧ vOf 8 (pre.map (·.1)) = none ∧ (∃ v, W.cell? ⟨w.heap.size, 0, none⟩ = some v) ∧ W.frozen? ⟨w.heap.size, 0, none⟩ = false ∧ (∃ n : Nat, W.cell? ⟨w.heap.size + 1 + 1, 0, none⟩ = some (.int .i64 (n : Int))) ∧ W.cell? ⟨w.heap.size + 1 + 1 + 1, 0, none⟩ = some (.bool true)) ∧ Below w.heap.size w W)
    (OwnFrom.and (Own.from (fun s A B row hs hg hr => by
      obtain ⟨v, a1, a2, a3, a4, a5, a6, a7, a8⟩ := hs
      exact ⟨v, a1, cell_kept a2 hg hr, (frozen_kept a2 hg hr).trans a3, cell_kept a4 hg hr, cell_kept a5 hg hr, (frozen_kept a5 hg hr).trans a6, cell_kept a7 hg hr, (frozen_kept a7 hg hr).trans a8⟩) _) (ownFrom_below (Nat.le_refl _) (by omega)))
    (fun c => OwnFrom.and (Own.from (fun s A B row hs hg hr => by
      obtain ⟨a0, a1, ⟨v, a2⟩, a3, ⟨n, a4⟩, a5⟩ := hs
      exact ⟨a0, a1, ⟨v, cell_kept a2 hg hr⟩, (frozen_kept a2 hg hr).trans a3, ⟨n, cell_kept a4 hg hr⟩, cell_kept a5 hg hr⟩) _) (ownFrom_below (Nat.le_refl _) (by omega)))
    ⟨⟨0, rfl, (cell_of_box_l p2).1, (cell_of_box_l p2).2, (cell_of_box_l p5).1, (cell_of_box_l p7).1, (cell_of_box_l p7).2, (cell_of_box_l p8).1, (cell_of_box_l p8).2⟩, hB0⟩ ?a1 ?assign ?body ?done ?stop
  case assign =>
    intro l x W K hK
    gi_wp2
    exact hK
  case body =>
    rintro l pre x W ⟨⟨v, hv, c2, f2, c5, c7, f7, c8, f8⟩, hBW⟩ hlen
    have hvb := vOf_bound (by omega) hv
    have hx := x.2
    have hmx : Tryd.prog.follows .mixedOrders = true := by kernel_rfl
    have e1 : IntKind.u64.wrap x.1 = x.1 := by rw [IntKind.wrap_u64]; omega
    by_cases hq : (18446744073709551615 - x.1) / 8 < v
    · have hqb : decide ((18446744073709551615 - x.1) / 8 < v) = true := decide_eq_true hq
      have HQ := Lib.hid hq
      clear hq
      gi_wp2
      refine wpIn_round_quiet (by kernel_rfl) hmx (by kernel_rfl) ?_
      repeat (gi_big_quiet_step (fail))
      refine wpQuietIn_nil ?_
      intro _ hw'
      obtain ⟨nq, hw''⟩ := hw'
      subst hw''
      gi_wp2
      refine ⟨(others_of_below (pw_below_drewN (Below.refl W.heap.size W) nq)).trans (KeepsOthers.setCell _ _ _), ⟨rfl, ?_, ⟨_, (cell_far (p := ⟨w.heap.size + 1 + 1 + 1, 0, none⟩) (by simp; try omega) _).trans c2⟩, ?_, ⟨_, (cell_far (p := ⟨w.heap.size + 1 + 1 + 1, 0, none⟩) (by simp; try omega) _).trans c7⟩, ?_⟩, (pw_below_drewN hBW _).setCell (p := ⟨w.heap.size + 1 + 1 + 1, 0, none⟩) (by simp; omega) _⟩
      · rw [List.map_append, List.map_cons, List.map_nil, vOf_snoc, hv]
        simp only [vStep, Option.bind_some]
        rw [if_pos HQ.out]
      · rw [World.frozen?_setCell]; exact f2
      exact World.cell?_setCell_same' _ _ _ (by show Option.isSome (W.cell? _) = true; rw [c8]; rfl)
    have hq1 : v * 8 ≤ 18446744073709551615 - x.1 := by omega
    have hq2 : 0 ≤ v * 8 := by omega
    have hl1 : (pre.length : Int) + 1 ≤ 4294967281 := by omega
    have hvn : Hid (vOf 8 ((pre ++ [x]).map (·.1)) = some (v * 8 + x.1)) := Lib.hid (by
      rw [List.map_append, List.map_cons, List.map_nil, vOf_snoc, hv]
      simp only [vStep, Option.bind_some]
      rw [if_neg hq])
    have HQ1 := Lib.hid hq1
    have HQ2 := Lib.hid hq2
    have HVB := Lib.hid hvb
    have hqb : decide ((18446744073709551615 - x.1) / 8 < v) = false := decide_eq_false hq
    clear hv hq1 hq2 hvb hq
    gi_wp2
    refine wpIn_round_quiet (by kernel_rfl) hmx (by kernel_rfl) ?_
    repeat (gi_big_quiet_step (fail))
    refine wpQuietIn_nil ?_
    intro _ hw'
    obtain ⟨nq, hw''⟩ := hw'
    subst hw''
    gi_wp2
    have hw : IntKind.u64.wrap (IntKind.u64.wrap (v * 8) + x.1) = v * 8 + x.1 := by have := HQ1.out; have := HQ2.out; rw [IntKind.wrap_u64, IntKind.wrap_u64]; omega
    rw [hw]
    refine ⟨(others_of_below (pw_below_drewN (Below.refl W.heap.size W) nq)).trans ((KeepsOthers.setCell _ _ _).trans (KeepsOthers.setCell _ _ _)), (KeepS.of_below (pw_below_drewN (Below.refl W.heap.size W) nq)).trans ((KeepS.setCell _ (by rintro (h | h) <;> (simp at h; try omega))).trans (KeepS.setCell _ (by rintro (h | h) <;> (simp at h; try omega)))),
      ⟨_, hvn.out, ?_, ?_, ?_, ?_, ?_, ?_, ?_⟩, ((pw_below_drewN hBW _).setCell (p := ⟨w.heap.size, 0, none⟩) (Nat.le_refl _) _).setCell (p := ⟨w.heap.size + 1 + 1, 0, none⟩) (by show w.heap.size ≤ w.heap.size + 1 + 1; omega) _⟩
    · rw [cell_far (p := ⟨w.heap.size + 1 + 1, 0, none⟩) (by simp; try omega)]
      exact World.cell?_setCell_same' _ _ _ (by show Option.isSome (W.cell? _) = true; rw [c2]; rfl)
    · rw [World.frozen?_setCell, World.frozen?_setCell]; exact f2
    · exact ((cell_far (p := ⟨w.heap.size + 1 + 1, 0, none⟩) (by simp; try omega) _).trans (cell_far (p := ⟨w.heap.size, 0, none⟩) (by simp; try omega) _)).trans c5
    · rw [World.cell?_setCell_same' _ _ _ (by rw [cell_far (p := ⟨w.heap.size, 0, none⟩) (by simp; try omega)]; show Option.isSome (W.cell? _) = true; rw [c7]; rfl)]
      simp
    · rw [World.frozen?_setCell, World.frozen?_setCell]; exact f7
    · exact ((cell_far (p := ⟨w.heap.size + 1 + 1, 0, none⟩) (by simp; try omega) _).trans (cell_far (p := ⟨w.heap.size, 0, none⟩) (by simp; try omega) _)).trans c8
    rw [World.frozen?_setCell, World.frozen?_setCell]; exact f8
  case done =>
    rintro B W hD ⟨⟨v, hv, c2, f2, c5, c7, f7, c8, f8⟩, hBW⟩ hK
    rw [digD_map] at hv
    rw [hDl] at c7
    have hBl : ∀ {W' : World}, Below w.heap.size w W' → W'.heap[B]? = some (.deferred (some [])) → Below w.heap.size w (W'.putObj B (.deferred none)) := fun hb hk => hb.trans (belowK_b (w := w) (Nat.le_refl _) _ B _ _ (by omega) hk rfl rfl)
    by_cases h0 : (digs s 8).length = 0
    · rw [h0] at c7
      have hres : intRes 8 s = (0, false, 40) := by unfold intRes; rw [hv]; simp only [h0, if_true]
      clear hDl hle
      go_wp2
      rw [Exit.noGoto_ret]
      have hK' := (KeepsOthers.setCell W ⟨w.heap.size, 0, none⟩ (.int .u64 0)).same B _ hK rfl
      have hc := cell_kept (World.cell?_setCell_same' W ⟨w.heap.size, 0, none⟩ (.int .u64 0) (by rw [c2]; rfl)) (grownBy_putObj' _ B (.deferred none)) (fun r e => by cases e; exact ⟨_, hK', rfl⟩)
      refine ⟨by simp, .inl ⟨_, _, rfl, run_takeDeferred hK', ?_⟩⟩
      refine ⟨_, ?_, by rw [HSE.out, hres], hBl (hBW.setCell (p := ⟨w.heap.size, 0, none⟩) (Nat.le_refl _) _) hK'⟩
      simp [results, Tryd.results28, go_sem, hc]
    have hn0 : 0 < (digs s 8).length := by omega
    obtain ⟨nn, hnn⟩ : ∃ nn, (digs s 8).length = nn := ⟨_, rfl⟩
    have hres : Hid (intRes 8 s = intTail 8 v (sufOf s nn)) := Lib.hid (by unfold intRes; rw [hv]; rw [← hnn]; simp only [h0, if_false])
    rw [hnn] at c7 hle hn0
    clear hDl hnn h0 hv
    have hb0 : ((nn : Int) == 0) = false := beq_eq_false_iff_ne.mpr (by omega)
    have hcnt : (s.extract nn s.size).size + Lib.countB (s.extract nn s.size) ⟨#[85]⟩ * (⟨#[117]⟩ : ByteArray).size ≤ 140737488355328 := by
      have h1 := Lib.countB_le ⟨#[85]⟩ (by decide) _ (s.extract nn s.size) (Nat.le_refl _)
      have h3 : (⟨#[117]⟩ : ByteArray).size = 1 := rfl
      rw [h3]
      have h2 : (s.extract nn s.size).size ≤ s.size := by simp
      omega
    have hxs : (s.extract nn s.size).size < 4294967281 := by have h2 : (s.extract nn s.size).size ≤ s.size := by simp
                                                             omega
    have hmW : W.cell? ⟨0, 0, none⟩ = some (.int .i64 m) := (hBW.cell (p := ⟨0, 0, none⟩) (World.block_lt_of_cell? _ _ hm)).trans hm
    go_wp2_with (fail)
    refine (Tryd.strings_ReplaceAll (s.extract nn s.size) ⟨#[85]⟩ ⟨#[117]⟩ m _ hxs hmW (by decide) hcnt).mono ?_
    rintro e w3 ⟨rfl, hB3⟩
    have hres' : Hid (intRes 8 s = intTail 8 v (Lib.replaceAll (s.extract nn s.size).data.toList [85] [117])) := hres
    clear hres hxs hmW hcnt
    generalize Lib.replaceAll (s.extract nn s.size).data.toList [85] [117] = suf at hres' ⊢
    have d2 := (hB3.cell (p := ⟨w.heap.size, 0, none⟩) (World.block_lt_of_cell? _ _ c2)).trans c2
    have g2 := (hB3.frozen (p := ⟨w.heap.size, 0, none⟩) (World.block_lt_of_cell? _ _ c2)).trans f2
    have d5 := (hB3.cell (p := ⟨w.heap.size + 1, 0, none⟩) (World.block_lt_of_cell? _ _ c5)).trans c5
    have hK3 := (others_of_below hB3).same B _ hK rfl
    have hBW3 := hBW.trans (hB3.mono hBW.size)
    clear c2 f2 c5 c7 f7 c8 f8 hK hB3 hBW
    have hfin : ∀ (X : Int) (bb : Bool) (ee : Int), intTail 8 v suf = (X, bb, ee) →
        ((w3.setCell ⟨w.heap.size, 0, none⟩ (.int .u64 X)).putObj B (.deferred none)).cell? ⟨w.heap.size, 0, none⟩ = some (.int .u64 X) ∧
        Hid (Ending.returned (.tuple #[.int .u64 X, .bool bb, .int .i64 ee]) = .returned (.tuple #[.int .u64 (intRes 8 (t)).1, .bool (intRes 8 (t)).2.1, .int .i64 (intRes 8 (t)).2.2])) ∧
        Below w.heap.size w ((w3.setCell ⟨w.heap.size, 0, none⟩ (.int .u64 X)).putObj B (.deferred none)) ∧ (w3.setCell ⟨w.heap.size, 0, none⟩ (.int .u64 X)).heap[B]? = some (.deferred (some [])) := by
      intro X bb ee hX
      have hK4 := (KeepsOthers.setCell w3 ⟨w.heap.size, 0, none⟩ (.int .u64 X)).same B _ hK3 rfl
      refine ⟨cell_kept (World.cell?_setCell_same' w3 ⟨w.heap.size, 0, none⟩ (.int .u64 X) (by rw [d2]; rfl)) (grownBy_putObj' _ B (.deferred none)) (fun r e => by cases e; exact ⟨_, hK4, rfl⟩), Lib.hid ?_, hBl (hBW3.setCell (p := ⟨w.heap.size, 0, none⟩) (Nat.le_refl _) _) hK4, hK4⟩
      rw [HSE.out, hres'.out, hX]
    clear hres' hBW3 hK3 hBl
    by_cases hA : suf = [] ∨ suf = [108] ∨ suf = [76] ∨ suf = [108, 108] ∨ suf = [76, 76]
    · obtain ⟨hc, HE, hb, hk⟩ := hfin v (decide (9223372036854775807 < v)) 0 (by unfold intTail; rw [if_pos hA]; simp)
      clear hfin
      rcases hA with rfl | rfl | rfl | rfl | rfl
      all_goals go_wp2
      all_goals rw [Exit.noGoto_ret]
      all_goals refine ⟨by simp, .inl ⟨_, _, rfl, run_takeDeferred hk, ?_⟩⟩
      all_goals refine ⟨_, ?_, HE.out, hb⟩
      all_goals simp [results, Tryd.results28, go_sem, hc]
    by_cases hB : suf = [117] ∨ suf = [117, 108] ∨ suf = [117, 76] ∨ suf = [117, 108, 108] ∨ suf = [117, 76, 76] ∨ suf = [108, 117] ∨ suf = [76, 117] ∨ suf = [108, 108, 117] ∨ suf = [76, 76, 117]
    · obtain ⟨hc, HE, hb, hk⟩ := hfin v true 0 (by unfold intTail; rw [if_neg hA, if_pos hB])
      clear hfin hA
      rcases hB with rfl | rfl | rfl | rfl | rfl | rfl | rfl | rfl | rfl
      all_goals go_wp2
      all_goals rw [Exit.noGoto_ret]
      all_goals refine ⟨by simp, .inl ⟨_, _, rfl, run_takeDeferred hk, ?_⟩⟩
      all_goals refine ⟨_, ?_, HE.out, hb⟩
      all_goals simp [results, Tryd.results28, go_sem, hc]
    obtain ⟨hc, HE, hb, hk⟩ := hfin 0 false 40 (by unfold intTail; rw [if_neg hA, if_neg hB])
    clear hfin
    simp only [not_or, ← beq_eq_false_iff_ne (α := List UInt8)] at hA hB
    obtain ⟨g0, g1, g3, g4, g5⟩ := hA
    obtain ⟨g6, g7, g8, g9, ga, gb, gc, gd, ge⟩ := hB
    have g0' : suf.isEmpty = false := by rw [List.isEmpty_eq_false_iff]; simpa using g0
    all_goals go_wp2
    all_goals rw [Exit.noGoto_ret]
    all_goals refine ⟨by simp, .inl ⟨_, _, rfl, run_takeDeferred hk, ?_⟩⟩
    all_goals refine ⟨_, ?_, HE.out, hb⟩
    all_goals simp [results, Tryd.results28, go_sem, hc]
  case stop =>
    rintro B c pre W hD hp ⟨⟨rfl, hvn, ⟨v, c2⟩, f2, ⟨n, c7⟩, c8⟩, hBW⟩ hK
    have hres : intRes 8 s = (0, false, 40) := by
      have hp' : pre.map (·.1) <+: digs s 8 := by rw [← digD_map]; exact hp.map _
      unfold intRes; rw [vOf_prefix hp' hvn]
    have hBl : ∀ {W' : World}, Below w.heap.size w W' → W'.heap[B]? = some (.deferred (some [])) → Below w.heap.size w (W'.putObj B (.deferred none)) := fun hb hk => hb.trans (belowK_b (w := w) (Nat.le_refl _) _ B _ _ (by omega) hk rfl rfl)
    have hK' := (KeepsOthers.setCell W ⟨w.heap.size, 0, none⟩ (.int .u64 0)).same B _ hK rfl
    have hc := cell_kept (World.cell?_setCell_same' W ⟨w.heap.size, 0, none⟩ (.int .u64 0) (by rw [c2]; rfl)) (grownBy_putObj' _ B (.deferred none)) (fun r e => by cases e; exact ⟨_, hK', rfl⟩)
    have HC := Lib.hid hc
    have HR := Lib.hid hres
    clear hc hres hvn hp hDl hle
    by_cases hn : n = 0
    · subst hn
      go_wp2
      rw [Exit.noGoto_ret]
      refine ⟨by simp, .inl ⟨_, _, rfl, run_takeDeferred hK', ?_⟩⟩
      refine ⟨_, ?_, by rw [HSE.out, HR.out], hBl (hBW.setCell (p := ⟨w.heap.size, 0, none⟩) (Nat.le_refl _) _) hK'⟩
      simp [results, Tryd.results28, go_sem, HC.out]
    have hb0 : ((n : Int) == 0) = false := beq_eq_false_iff_ne.mpr (by omega)
    clear hn
    go_wp2
    rw [Exit.noGoto_ret]
    refine ⟨by simp, .inl ⟨_, _, rfl, run_takeDeferred hK', ?_⟩⟩
    refine ⟨_, ?_, by rw [HSE.out, HR.out], hBl (hBW.setCell (p := ⟨w.heap.size, 0, none⟩) (Nat.le_refl _) _) hK'⟩
    simp [results, Tryd.results28, go_sem, HC.out]
set_option maxHeartbeats 4000000 in
theorem int10 (t : ByteArray) (w : World) (hs : t.size < 4294967281) (hh : ctok_hexed.f t = some false) (hz : strings_HasPrefix.f t ⟨#[48]⟩ = some false) (m : Int) (hm : w.cell? ⟨0, 0, none⟩ = some (.int .i64 m)) :
    Calls Tryd.prog 28 #[.string t] w fun e w' => e = .returned (.tuple #[.int .u64 (intRes 10 (t)).1, .bool (intRes 10 (t)).2.1, .int .i64 (intRes 10 (t)).2.2]) ∧ Below w.heap.size w w' := by
  refine calls_marks (callsIn_of_wp_marks Tryd.func28 rfl trivial ?_ rfl)
  refine wpIn_wide.2 ?_
  simp only [Tryd.ntmps28, List.size_toArray, List.length_cons, List.length_nil, Nat.reduceAdd, Nat.reduceSub, Array.replicate_succ, Array.replicate_zero, List.push_toArray, List.append_toArray, List.nil_append, List.cons_append]
  go_wp2
  go_step3
  go_wp2_with (first | (go_at_call 31; refine (ctok_hexed.calls _ _ _ hh).mono ?_; rintro e w' ⟨rfl, ⟨nd, rfl⟩⟩) | (go_at_call 41; refine (strings_HasPrefix.calls _ _ _ _ hz).mono ?_; rintro e w' ⟨rfl, ⟨nd2, rfl⟩⟩))
  go_step3
  go_wp2_with (first | (go_at_call 42; refine (digits_calls _ _ _).mono ?_; rintro e w' ⟨rfl, rfl⟩))
  have hss0 : (t).size ≤ t.size := by simp
  obtain ⟨s, hse⟩ : ∃ s, t = s := ⟨_, rfl⟩
  have hss : s.size ≤ t.size := by rw [← hse]; exact hss0
  have HSE := Lib.hid hse
  simp only [hse]
  clear hse hss0
  obtain ⟨W1, hW1⟩ : ∃ W1, (((w.alloc (.cells #[.int .u64 0] 32)).alloc (.cells #[.int .i64 10] 3)).drewN (nd + nd2)) = W1 := ⟨_, rfl⟩
  have k2 : W1.heap[w.heap.size]? = some (.cells #[.int .u64 0] 32) := by rw [← hW1]; exact (blk_drewN (blk_alloc (blk_new _ _) _) _)
  have k5 : W1.heap[w.heap.size + 1]? = some (.cells #[.int .i64 10] 3) := by rw [← hW1]; exact (blk_drewN (by simpa using blk_new (w.alloc (.cells #[.int .u64 0] 32)) (.cells #[.int .i64 10] 3)) _)
  have hz1 : W1.heap.size = w.heap.size + 2 := by rw [← hW1]; simp
  have hB1 : Below w.heap.size w W1 := by rw [← hW1]; exact (pw_below_drewN (((Below.refl _ _).alloc (Nat.le_refl _) _).alloc (by simp) _) _)
  rw [hW1]
  clear hW1
  obtain ⟨W0, hW0⟩ : ∃ W0, (((W1.alloc (.cells #[.int .i64 0] 3)).alloc (.cells #[.bool false] 4)).alloc (.cells #[.string s] 9)).alloc (.cells #[.int .i64 10] 3) = W0 := ⟨_, rfl⟩
  have p2 : W0.heap[w.heap.size]? = some (.cells #[.int .u64 0] 32) := by rw [← hW0]; exact blk_alloc (blk_alloc (blk_alloc (blk_alloc k2 _) _) _) _
  have p5 : W0.heap[w.heap.size + 1]? = some (.cells #[.int .i64 10] 3) := by rw [← hW0]; exact blk_alloc (blk_alloc (blk_alloc (blk_alloc k5 _) _) _) _
  have p7 : W0.heap[w.heap.size + 1 + 1]? = some (.cells #[.int .i64 0] 3) := by rw [← hW0]; exact blk_alloc (blk_alloc (blk_alloc (by simpa [hz1] using blk_new W1 (.cells #[.int .i64 0] 3)) _) _) _
  have p8 : W0.heap[w.heap.size + 1 + 1 + 1]? = some (.cells #[.bool false] 4) := by rw [← hW0]; exact blk_alloc (blk_alloc (by simpa [hz1] using blk_new (W1.alloc (.cells #[.int .i64 0] 3)) (.cells #[.bool false] 4)) _) _
  have ps : W0.heap[w.heap.size + 1 + 1 + 1 + 1]? = some (.cells #[.string s] 9) := by rw [← hW0]; exact blk_alloc (by simpa [hz1] using blk_new ((W1.alloc (.cells #[.int .i64 0] 3)).alloc (.cells #[.bool false] 4)) (.cells #[.string s] 9)) _
  have pb : W0.heap[w.heap.size + 1 + 1 + 1 + 1 + 1]? = some (.cells #[.int .i64 10] 3) := by rw [← hW0]; simpa [hz1] using blk_new (((W1.alloc (.cells #[.int .i64 0] 3)).alloc (.cells #[.bool false] 4)).alloc (.cells #[.string s] 9)) (.cells #[.int .i64 10] 3)
  have hz0 : W0.heap.size = w.heap.size + 6 := by rw [← hW0]; simp [hz1]
  have hB0 : Below w.heap.size w W0 := by rw [← hW0]; exact ((((hB1.alloc (by omega) _).alloc (by simp; omega) _).alloc (by simp; omega) _).alloc (by simp; omega) _)
  rw [hW0]
  clear hW0 k2 k5 hz1 hB1
  have hle := digs_le s 10
  have hDl : (digD s 10).length = (digs s 10).length := by rw [← digD_map, List.length_map]
  refine wp_rangeFunc_list (gf := 52) (lb := #[.pointer (some ⟨w.heap.size + 1 + 1 + 1 + 1, 0, none⟩), .pointer (some ⟨w.heap.size + 1 + 1 + 1 + 1 + 1, 0, none⟩)]) rfl (enters_of Tryd.func52 (by kernel_rfl) rfl)
    (digits_stops (fun x : Dig 10 => x.1) (digD s 10) _ (by omega) (w.heap.size + 1 + 1 + 1 + 1) (w.heap.size + 1 + 1 + 1 + 1 + 1) (fun b => b = w.heap.size + 1 + 1 + 1 + 1 ∨ b = w.heap.size + 1 + 1 + 1 + 1 + 1) s 10 (by unfold maxLen; omega) (digD_map s 10) (.inl rfl) (.inr rfl) W0 (cell_of_box_l ps).1 (cell_of_box_l pb).1)
    (by rintro b (rfl | rfl) <;> omega) (fun _ => rfl)
    (fun pre W => (∃ v, vOf 10 (pre.map (·.1)) = some v ∧ W.cell? ⟨w.heap.size, 0, none⟩ = some (.int .u64 v) ∧ W.frozen? ⟨w.heap.size, 0, none⟩ = false ∧ W.cell? ⟨w.heap.size + 1, 0, none⟩ = some (.int .i64 10) ∧
      W.cell? ⟨w.heap.size + 1 + 1, 0, none⟩ = some (.int .i64 (pre.length : Int)) ∧ W.frozen? ⟨w.heap.size + 1 + 1, 0, none⟩ = false ∧ W.cell? ⟨w.heap.size + 1 + 1 + 1, 0, none⟩ = some (.bool false) ∧ W.frozen? ⟨w.heap.size + 1 + 1 + 1, 0, none⟩ = false) ∧ Below w.heap.size w W)
    (fun c pre W => (c = .exit 1 ∧ vOf 10 (pre.map (·.1)) = none ∧ (∃ v, W.cell? ⟨w.heap.size, 0, none⟩ = some v) ∧ W.frozen? ⟨w.heap.size, 0, none⟩ = false ∧ (∃ n : Nat, W.cell? ⟨w.heap.size + 1 + 1, 0, none⟩ = some (.int .i64 (n : Int))) ∧ W.cell? ⟨w.heap.size + 1 + 1 + 1, 0, none⟩ = some (.bool true)) ∧ Below w.heap.size w W)
    (OwnFrom.and (Own.from (fun s A B row hs hg hr => by
      obtain ⟨v, a1, a2, a3, a4, a5, a6, a7, a8⟩ := hs
      exact ⟨v, a1, cell_kept a2 hg hr, (frozen_kept a2 hg hr).trans a3, cell_kept a4 hg hr, cell_kept a5 hg hr, (frozen_kept a5 hg hr).trans a6, cell_kept a7 hg hr, (frozen_kept a7 hg hr).trans a8⟩) _) (ownFrom_below (Nat.le_refl _) (by omega)))
    (fun c => OwnFrom.and (Own.from (fun s A B row hs hg hr => by
      obtain ⟨a0, a1, ⟨v, a2⟩, a3, ⟨n, a4⟩, a5⟩ := hs
      exact ⟨a0, a1, ⟨v, cell_kept a2 hg hr⟩, (frozen_kept a2 hg hr).trans a3, ⟨n, cell_kept a4 hg hr⟩, cell_kept a5 hg hr⟩) _) (ownFrom_below (Nat.le_refl _) (by omega)))
    ⟨⟨0, rfl, (cell_of_box_l p2).1, (cell_of_box_l p2).2, (cell_of_box_l p5).1, (cell_of_box_l p7).1, (cell_of_box_l p7).2, (cell_of_box_l p8).1, (cell_of_box_l p8).2⟩, hB0⟩ ?a1 ?assign ?body ?done ?stop
  case assign =>
    intro l x W K hK
    gi_wp2
    exact hK
  case body =>
    rintro l pre x W ⟨⟨v, hv, c2, f2, c5, c7, f7, c8, f8⟩, hBW⟩ hlen
    have hvb := vOf_bound (by omega) hv
    have hx := x.2
    have hmx : Tryd.prog.follows .mixedOrders = true := by kernel_rfl
    have e1 : IntKind.u64.wrap x.1 = x.1 := by rw [IntKind.wrap_u64]; omega
    by_cases hq : (18446744073709551615 - x.1) / 10 < v
    · have hqb : decide ((18446744073709551615 - x.1) / 10 < v) = true := decide_eq_true hq
      have HQ := Lib.hid hq
      clear hq
      gi_wp2
      refine wpIn_round_quiet (by kernel_rfl) hmx (by kernel_rfl) ?_
      repeat (gi_big_quiet_step (fail))
      refine wpQuietIn_nil ?_
      intro _ hw'
      obtain ⟨nq, hw''⟩ := hw'
      subst hw''
      gi_wp2
      refine ⟨(others_of_below (pw_below_drewN (Below.refl W.heap.size W) nq)).trans (KeepsOthers.setCell _ _ _), ⟨rfl, ?_, ⟨_, (cell_far (p := ⟨w.heap.size + 1 + 1 + 1, 0, none⟩) (by simp; try omega) _).trans c2⟩, ?_, ⟨_, (cell_far (p := ⟨w.heap.size + 1 + 1 + 1, 0, none⟩) (by simp; try omega) _).trans c7⟩, ?_⟩, (pw_below_drewN hBW _).setCell (p := ⟨w.heap.size + 1 + 1 + 1, 0, none⟩) (by simp; omega) _⟩
      · rw [List.map_append, List.map_cons, List.map_nil, vOf_snoc, hv]
        simp only [vStep, Option.bind_some]
        rw [if_pos HQ.out]
      · rw [World.frozen?_setCell]; exact f2
      exact World.cell?_setCell_same' _ _ _ (by show Option.isSome (W.cell? _) = true; rw [c8]; rfl)
    have hq1 : v * 10 ≤ 18446744073709551615 - x.1 := by omega
    have hq2 : 0 ≤ v * 10 := by omega
    have hl1 : (pre.length : Int) + 1 ≤ 4294967281 := by omega
    have hvn : Hid (vOf 10 ((pre ++ [x]).map (·.1)) = some (v * 10 + x.1)) := Lib.hid (by
      rw [List.map_append, List.map_cons, List.map_nil, vOf_snoc, hv]
      simp only [vStep, Option.bind_some]
      rw [if_neg hq])
    have HQ1 := Lib.hid hq1
    have HQ2 := Lib.hid hq2
    have HVB := Lib.hid hvb
    have hqb : decide ((18446744073709551615 - x.1) / 10 < v) = false := decide_eq_false hq
    clear hv hq1 hq2 hvb hq
    gi_wp2
    refine wpIn_round_quiet (by kernel_rfl) hmx (by kernel_rfl) ?_
    repeat (gi_big_quiet_step (fail))
    refine wpQuietIn_nil ?_
    intro _ hw'
    obtain ⟨nq, hw''⟩ := hw'
    subst hw''
    gi_wp2
    have hw : IntKind.u64.wrap (IntKind.u64.wrap (v * 10) + x.1) = v * 10 + x.1 := by have := HQ1.out; have := HQ2.out; rw [IntKind.wrap_u64, IntKind.wrap_u64]; omega
    rw [hw]
    refine ⟨(others_of_below (pw_below_drewN (Below.refl W.heap.size W) nq)).trans ((KeepsOthers.setCell _ _ _).trans (KeepsOthers.setCell _ _ _)), (KeepS.of_below (pw_below_drewN (Below.refl W.heap.size W) nq)).trans ((KeepS.setCell _ (by rintro (h | h) <;> (simp at h; try omega))).trans (KeepS.setCell _ (by rintro (h | h) <;> (simp at h; try omega)))),
      ⟨_, hvn.out, ?_, ?_, ?_, ?_, ?_, ?_, ?_⟩, ((pw_below_drewN hBW _).setCell (p := ⟨w.heap.size, 0, none⟩) (Nat.le_refl _) _).setCell (p := ⟨w.heap.size + 1 + 1, 0, none⟩) (by show w.heap.size ≤ w.heap.size + 1 + 1; omega) _⟩
    · rw [cell_far (p := ⟨w.heap.size + 1 + 1, 0, none⟩) (by simp; try omega)]
      exact World.cell?_setCell_same' _ _ _ (by show Option.isSome (W.cell? _) = true; rw [c2]; rfl)
    · rw [World.frozen?_setCell, World.frozen?_setCell]; exact f2
    · exact ((cell_far (p := ⟨w.heap.size + 1 + 1, 0, none⟩) (by simp; try omega) _).trans (cell_far (p := ⟨w.heap.size, 0, none⟩) (by simp; try omega) _)).trans c5
    · rw [World.cell?_setCell_same' _ _ _ (by rw [cell_far (p := ⟨w.heap.size, 0, none⟩) (by simp; try omega)]; show Option.isSome (W.cell? _) = true; rw [c7]; rfl)]
      simp
    · rw [World.frozen?_setCell, World.frozen?_setCell]; exact f7
    · exact ((cell_far (p := ⟨w.heap.size + 1 + 1, 0, none⟩) (by simp; try omega) _).trans (cell_far (p := ⟨w.heap.size, 0, none⟩) (by simp; try omega) _)).trans c8
    rw [World.frozen?_setCell, World.frozen?_setCell]; exact f8
  case done =>
    rintro B W hD ⟨⟨v, hv, c2, f2, c5, c7, f7, c8, f8⟩, hBW⟩ hK
    rw [digD_map] at hv
    rw [hDl] at c7
    have hBl : ∀ {W' : World}, Below w.heap.size w W' → W'.heap[B]? = some (.deferred (some [])) → Below w.heap.size w (W'.putObj B (.deferred none)) := fun hb hk => hb.trans (belowK_b (w := w) (Nat.le_refl _) _ B _ _ (by omega) hk rfl rfl)
    by_cases h0 : (digs s 10).length = 0
    · rw [h0] at c7
      have hres : intRes 10 s = (0, false, 40) := by unfold intRes; rw [hv]; simp only [h0, if_true]
      clear hDl hle
      go_wp2
      rw [Exit.noGoto_ret]
      have hK' := (KeepsOthers.setCell W ⟨w.heap.size, 0, none⟩ (.int .u64 0)).same B _ hK rfl
      have hc := cell_kept (World.cell?_setCell_same' W ⟨w.heap.size, 0, none⟩ (.int .u64 0) (by rw [c2]; rfl)) (grownBy_putObj' _ B (.deferred none)) (fun r e => by cases e; exact ⟨_, hK', rfl⟩)
      refine ⟨by simp, .inl ⟨_, _, rfl, run_takeDeferred hK', ?_⟩⟩
      refine ⟨_, ?_, by rw [HSE.out, hres], hBl (hBW.setCell (p := ⟨w.heap.size, 0, none⟩) (Nat.le_refl _) _) hK'⟩
      simp [results, Tryd.results28, go_sem, hc]
    have hn0 : 0 < (digs s 10).length := by omega
    obtain ⟨nn, hnn⟩ : ∃ nn, (digs s 10).length = nn := ⟨_, rfl⟩
    have hres : Hid (intRes 10 s = intTail 10 v (sufOf s nn)) := Lib.hid (by unfold intRes; rw [hv]; rw [← hnn]; simp only [h0, if_false])
    rw [hnn] at c7 hle hn0
    clear hDl hnn h0 hv
    have hb0 : ((nn : Int) == 0) = false := beq_eq_false_iff_ne.mpr (by omega)
    have hcnt : (s.extract nn s.size).size + Lib.countB (s.extract nn s.size) ⟨#[85]⟩ * (⟨#[117]⟩ : ByteArray).size ≤ 140737488355328 := by
      have h1 := Lib.countB_le ⟨#[85]⟩ (by decide) _ (s.extract nn s.size) (Nat.le_refl _)
      have h3 : (⟨#[117]⟩ : ByteArray).size = 1 := rfl
      rw [h3]
      have h2 : (s.extract nn s.size).size ≤ s.size := by simp
      omega
    have hxs : (s.extract nn s.size).size < 4294967281 := by have h2 : (s.extract nn s.size).size ≤ s.size := by simp
                                                             omega
    have hmW : W.cell? ⟨0, 0, none⟩ = some (.int .i64 m) := (hBW.cell (p := ⟨0, 0, none⟩) (World.block_lt_of_cell? _ _ hm)).trans hm
    go_wp2_with (fail)
    refine (Tryd.strings_ReplaceAll (s.extract nn s.size) ⟨#[85]⟩ ⟨#[117]⟩ m _ hxs hmW (by decide) hcnt).mono ?_
    rintro e w3 ⟨rfl, hB3⟩
    have hres' : Hid (intRes 10 s = intTail 10 v (Lib.replaceAll (s.extract nn s.size).data.toList [85] [117])) := hres
    clear hres hxs hmW hcnt
    generalize Lib.replaceAll (s.extract nn s.size).data.toList [85] [117] = suf at hres' ⊢
    have d2 := (hB3.cell (p := ⟨w.heap.size, 0, none⟩) (World.block_lt_of_cell? _ _ c2)).trans c2
    have g2 := (hB3.frozen (p := ⟨w.heap.size, 0, none⟩) (World.block_lt_of_cell? _ _ c2)).trans f2
    have d5 := (hB3.cell (p := ⟨w.heap.size + 1, 0, none⟩) (World.block_lt_of_cell? _ _ c5)).trans c5
    have hK3 := (others_of_below hB3).same B _ hK rfl
    have hBW3 := hBW.trans (hB3.mono hBW.size)
    clear c2 f2 c5 c7 f7 c8 f8 hK hB3 hBW
    have hfin : ∀ (X : Int) (bb : Bool) (ee : Int), intTail 10 v suf = (X, bb, ee) →
        ((w3.setCell ⟨w.heap.size, 0, none⟩ (.int .u64 X)).putObj B (.deferred none)).cell? ⟨w.heap.size, 0, none⟩ = some (.int .u64 X) ∧
        Hid (Ending.returned (.tuple #[.int .u64 X, .bool bb, .int .i64 ee]) = .returned (.tuple #[.int .u64 (intRes 10 (t)).1, .bool (intRes 10 (t)).2.1, .int .i64 (intRes 10 (t)).2.2])) ∧
        Below w.heap.size w ((w3.setCell ⟨w.heap.size, 0, none⟩ (.int .u64 X)).putObj B (.deferred none)) ∧ (w3.setCell ⟨w.heap.size, 0, none⟩ (.int .u64 X)).heap[B]? = some (.deferred (some [])) := by
      intro X bb ee hX
      have hK4 := (KeepsOthers.setCell w3 ⟨w.heap.size, 0, none⟩ (.int .u64 X)).same B _ hK3 rfl
      refine ⟨cell_kept (World.cell?_setCell_same' w3 ⟨w.heap.size, 0, none⟩ (.int .u64 X) (by rw [d2]; rfl)) (grownBy_putObj' _ B (.deferred none)) (fun r e => by cases e; exact ⟨_, hK4, rfl⟩), Lib.hid ?_, hBl (hBW3.setCell (p := ⟨w.heap.size, 0, none⟩) (Nat.le_refl _) _) hK4, hK4⟩
      rw [HSE.out, hres'.out, hX]
    clear hres' hBW3 hK3 hBl
    by_cases hA : suf = [] ∨ suf = [108] ∨ suf = [76] ∨ suf = [108, 108] ∨ suf = [76, 76]
    · by_cases hv10 : 9223372036854775807 < v
      · obtain ⟨hc, HE, hb, hk⟩ := hfin 0 false 40 (by unfold intTail; rw [if_pos hA, if_pos ⟨rfl, hv10⟩])
        clear hfin
        rcases hA with rfl | rfl | rfl | rfl | rfl
        all_goals go_wp2
        all_goals rw [Exit.noGoto_ret]
        all_goals refine ⟨by simp, .inl ⟨_, _, rfl, run_takeDeferred hk, ?_⟩⟩
        all_goals refine ⟨_, ?_, HE.out, hb⟩
        all_goals simp [results, Tryd.results28, go_sem, hc]
      obtain ⟨hc, HE, hb, hk⟩ := hfin v false 0 (by unfold intTail; rw [if_pos hA, if_neg (fun h => hv10 h.2)]; simp)
      have hv11 : decide (9223372036854775807 < v) = false := decide_eq_false hv10
      clear hfin hv10
      rcases hA with rfl | rfl | rfl | rfl | rfl
      all_goals go_wp2
      all_goals rw [Exit.noGoto_ret]
      all_goals refine ⟨by simp, .inl ⟨_, _, rfl, run_takeDeferred hk, ?_⟩⟩
      all_goals refine ⟨_, ?_, HE.out, hb⟩
      all_goals simp [results, Tryd.results28, go_sem, hc]
    by_cases hB : suf = [117] ∨ suf = [117, 108] ∨ suf = [117, 76] ∨ suf = [117, 108, 108] ∨ suf = [117, 76, 76] ∨ suf = [108, 117] ∨ suf = [76, 117] ∨ suf = [108, 108, 117] ∨ suf = [76, 76, 117]
    · obtain ⟨hc, HE, hb, hk⟩ := hfin v true 0 (by unfold intTail; rw [if_neg hA, if_pos hB])
      clear hfin hA
      rcases hB with rfl | rfl | rfl | rfl | rfl | rfl | rfl | rfl | rfl
      all_goals go_wp2
      all_goals rw [Exit.noGoto_ret]
      all_goals refine ⟨by simp, .inl ⟨_, _, rfl, run_takeDeferred hk, ?_⟩⟩
      all_goals refine ⟨_, ?_, HE.out, hb⟩
      all_goals simp [results, Tryd.results28, go_sem, hc]
    obtain ⟨hc, HE, hb, hk⟩ := hfin 0 false 40 (by unfold intTail; rw [if_neg hA, if_neg hB])
    clear hfin
    simp only [not_or, ← beq_eq_false_iff_ne (α := List UInt8)] at hA hB
    obtain ⟨g0, g1, g3, g4, g5⟩ := hA
    obtain ⟨g6, g7, g8, g9, ga, gb, gc, gd, ge⟩ := hB
    have g0' : suf.isEmpty = false := by rw [List.isEmpty_eq_false_iff]; simpa using g0
    all_goals go_wp2
    all_goals rw [Exit.noGoto_ret]
    all_goals refine ⟨by simp, .inl ⟨_, _, rfl, run_takeDeferred hk, ?_⟩⟩
    all_goals refine ⟨_, ?_, HE.out, hb⟩
    all_goals simp [results, Tryd.results28, go_sem, hc]
  case stop =>
    rintro B c pre W hD hp ⟨⟨rfl, hvn, ⟨v, c2⟩, f2, ⟨n, c7⟩, c8⟩, hBW⟩ hK
    have hres : intRes 10 s = (0, false, 40) := by
      have hp' : pre.map (·.1) <+: digs s 10 := by rw [← digD_map]; exact hp.map _
      unfold intRes; rw [vOf_prefix hp' hvn]
    have hBl : ∀ {W' : World}, Below w.heap.size w W' → W'.heap[B]? = some (.deferred (some [])) → Below w.heap.size w (W'.putObj B (.deferred none)) := fun hb hk => hb.trans (belowK_b (w := w) (Nat.le_refl _) _ B _ _ (by omega) hk rfl rfl)
    have hK' := (KeepsOthers.setCell W ⟨w.heap.size, 0, none⟩ (.int .u64 0)).same B _ hK rfl
    have hc := cell_kept (World.cell?_setCell_same' W ⟨w.heap.size, 0, none⟩ (.int .u64 0) (by rw [c2]; rfl)) (grownBy_putObj' _ B (.deferred none)) (fun r e => by cases e; exact ⟨_, hK', rfl⟩)
    have HC := Lib.hid hc
    have HR := Lib.hid hres
    clear hc hres hvn hp hDl hle
    by_cases hn : n = 0
    · subst hn
      go_wp2
      rw [Exit.noGoto_ret]
      refine ⟨by simp, .inl ⟨_, _, rfl, run_takeDeferred hK', ?_⟩⟩
      refine ⟨_, ?_, by rw [HSE.out, HR.out], hBl (hBW.setCell (p := ⟨w.heap.size, 0, none⟩) (Nat.le_refl _) _) hK'⟩
      simp [results, Tryd.results28, go_sem, HC.out]
    have hb0 : ((n : Int) == 0) = false := beq_eq_false_iff_ne.mpr (by omega)
    clear hn
    go_wp2
    rw [Exit.noGoto_ret]
    refine ⟨by simp, .inl ⟨_, _, rfl, run_takeDeferred hK', ?_⟩⟩
    refine ⟨_, ?_, by rw [HSE.out, HR.out], hBl (hBW.setCell (p := ⟨w.heap.size, 0, none⟩) (Nat.le_refl _) _) hK'⟩
    simp [results, Tryd.results28, go_sem, HC.out]
def ctok_Int.f (a0 : ByteArray) : Option (Int × Bool × Int) :=
 if a0.size < 4294967281 then (ctok_hexed.f a0).bind fun h => if h = true then (if 2 ≤ a0.size then some (intRes 16 (a0.extract 2 a0.size)) else none) else (strings_HasPrefix.f a0 ⟨#[48]⟩).bind fun z => if z = true then some (intRes 8 a0) else some (intRes 10 a0)
 else none
theorem ctok_Int.calls (a0 : ByteArray) (r1 : Int) (r2 : Bool) (r3 : Int) (w : World) (hsh : ∃ m, w.cell? ⟨0, 0, none⟩ = some (.int .i64 m)) (h : ctok_Int.f a0 = some (r1, r2, r3)) :
  Calls Tryd.prog 28 #[.string a0] w fun e w' => e = .returned (.tuple #[.int .u64 r1, .bool r2, .int .i64 r3]) ∧ Below w.heap.size w w' := by
 obtain ⟨m, hm⟩ := hsh
 unfold ctok_Int.f at h
 split at h
 ·rename_i hs
  obtain ⟨b, hh, h⟩ := Option.bind_eq_some_iff.1 h
  cases b with
  | true =>
   simp only [if_true] at h
   split at h
   ·rename_i h2
    injection h with h
    have := int16 a0 w hs hh h2 m hm
    rwa [h] at this
   cases h
  | false =>
   rw [if_neg (by simp)] at h
   obtain ⟨z, hz, h⟩ := Option.bind_eq_some_iff.1 h
   cases z with
   | true =>
    simp only [if_true] at h
    injection h with h
    have := int8 a0 w hs hh hz m hm
    rwa [h] at this
   | false =>
    rw [if_neg (by simp)] at h
    injection h with h
    have := int10 a0 w hs hh hz m hm
    rwa [h] at this
 cases h
def ctok_run.f (a0 : ByteArray) (a1 : Int) : Option Int := if a0.size ≤ 140737488355328 then some ((digs a0 a1).length : Int) else none
theorem ctok_run.calls (a0 : ByteArray) (a1 : Int) (r : Int) (w : World) (h : ctok_run.f a0 a1 = some r) : Calls Tryd.prog 32 #[.string a0, .int .i64 a1] w fun e w' => e = .returned (.int .i64 r) ∧ Below w.heap.size w w' := by
 unfold ctok_run.f at h
 split at h
 ·injection h with h
  have := run_any a0 a1 w (by unfold maxLen; omega)
  rwa [h] at this
 cases h
end Go.Proofs.YtcdleippdegibaaDoor.Digits
