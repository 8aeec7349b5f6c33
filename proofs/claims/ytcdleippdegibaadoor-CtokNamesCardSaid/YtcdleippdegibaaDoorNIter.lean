import Derived.RangeFuncNested
import Derived.RangeFuncBound
import Derived.RangeFuncCalls
import Derived.RangeFuncLeaves
import Derived.Shelf.Abstract
import Derived.Shelf.RegionOpen
import Derived.WalkKit
import Derived.OwnWalkIn
import Derived.TacticsInMore
import Derived.LoopNIn
import Derived.LoopIn
import Derived.Lib.Hide
import Derived.RangeFuncBox
import Derived.Sort.BigQuietIn
import Derived.WalkMore
import Derived.IntWalk
import Derived.BigQuiet
import Derived.Deep.QuietTactic
import Derived.Test.YtcdleippdegibaaDoorNWWords
set_option linter.unusedVariables false
namespace Go.Proofs.YtcdleippdegibaaDoor.Iter
open Go.RowKit Go.Shelf Go.Proofs Go.Proofs.YtcdleippdegibaaDoorW.PrintWords
def KeepS (S : Nat → Prop) (A B : World) : Prop := ∀ b, S b → b < A.heap.size → B.heap[b]? = A.heap[b]?
theorem KeepS.refl (S : Nat → Prop) (A : World) : KeepS S A A := fun _ _ _ => rfl
theorem KeepS.trans {S : Nat → Prop} {A B C : World} (h : KeepS S A B) (k : KeepS S B C) : KeepS S A C := fun b hs hb => by
  have h1 := h b hs hb
  have hb2 : b < B.heap.size := by
    rw [Array.getElem?_eq_getElem hb] at h1
    exact (Array.getElem?_eq_some_iff.1 h1).1
  exact (k b hs hb2).trans h1
theorem KeepS.of_below {S : Nat → Prop} {A B : World} (h : Below A.heap.size A B) : KeepS S A B := fun b _ hb => h.block b hb
theorem KeepS.setCell {S : Nat → Prop} {A : World} {p : Addr} (v : Value) (h : ¬ S p.block) : KeepS S A (A.setCell p v) := fun b hs _ => Below.heap_setCell A p v b (fun e => h (e ▸ hs))
theorem KeepS.putObj {S : Nat → Prop} {A : World} {l : Nat} (o : Obj) (h : ¬ S l) : KeepS S A (A.putObj l o) := fun b hs _ => World.putObj_heap_other (fun e => h (e ▸ hs))
theorem KeepS.cell {S : Nat → Prop} {A B : World} (h : KeepS S A B) {p : Addr} {v : Value} (hs : S p.block) (hc : A.cell? p = some v) : B.cell? p = some v :=
  (World.cell?_of_block (w := A) (h p.block hs (World.block_lt_of_cell? _ _ hc))).trans hc
theorem KeepS.block {S : Nat → Prop} {A B : World} (h : KeepS S A B) {b : Nat} {o : Obj} (hs : S b) (hc : A.heap[b]? = some o) : B.heap[b]? = some o :=
  (h b hs (Array.getElem?_eq_some_iff.1 hc).1).trans hc
theorem KeepS.t {S : Nat → Prop} : ∀ {A B C : World}, KeepS S A B → KeepS S B C → KeepS S A C := fun h k => h.trans k
theorem KeepS.b {S : Nat → Prop} {n : Nat} (hS : ∀ b, S b → b < n) (W : World) (l : Nat) (o o' : Obj) (hl : n ≤ l) (_ : W.heap[l]? = some o) (_ : o.isCells = false) (_ : o.isWalk = false) : KeepS S W (W.putObj l o') :=
  KeepS.putObj o' (fun h => by have := hS l h; omega)
set_option linter.unusedVariables false in
theorem others_of_below {A B : World} (h : Below A.heap.size A B) : KeepsOthers A B := KeepsOthers.of_grownBy (row := none) ⟨h.os, h.tape, h.output, h.size, fun b hb _ => h.block b hb⟩ (fun j o e => by cases e)
theorem cell_of_box_l {W : World} {b : Nat} {v : Value} {t : TypeId} (h : W.heap[b]? = some (.cells #[v] t)) : W.cell? ⟨b, 0, none⟩ = some v ∧ W.frozen? ⟨b, 0, none⟩ = false :=
  ⟨(blk_cell h 0).trans rfl, blk_frozen h 0⟩
theorem cell_new_l (W : World) (v : Value) (t : TypeId) : (W.alloc (.cells #[v] t)).cell? ⟨W.heap.size, 0, none⟩ = some v ∧ (W.alloc (.cells #[v] t)).frozen? ⟨W.heap.size, 0, none⟩ = false :=
  cell_of_box_l (World.alloc_heap_new W _)
theorem cell_alloc_l {W : World} {a : Addr} {v : Value} (o : Obj) (h : W.cell? a = some v) : (W.alloc o).cell? a = some v := cell_kept h (World.grownBy_alloc W o none) (fun r e => by cases e)
theorem frozen_alloc_l {W : World} {a : Addr} {v : Value} (o : Obj) (h : W.cell? a = some v) (hf : W.frozen? a = false) : (W.alloc o).frozen? a = false := (frozen_kept h (World.grownBy_alloc W o none) (fun r e => by cases e)).trans hf
section
variable {F : Fence} {n : Nat} {P : Program} {C : World → Prop} {ops : Array Oper} {md : Region.Mode}
def noDefer (o : Oper) : Bool := match o.op with | .defer _ => false | _ => true
theorem noDefer_ne {o : Oper} (h : noDefer o = true) : ∀ c, o.op ≠ .defer c := by
  intro c e
  unfold noDefer at h
  rw [e] at h
  cases h
theorem opIn_of_quiet {o : Oper} {a : Act} {K : Act → Prop} {K' : Act → World → Prop} {Q' : Exit → Act → World → Prop} {w : World} (hd : noDefer o = true) (hw : C w) (h : ∀ a w', C w' → K a → K' a w')
    (ha : o.askedIn F P a C) (hh : o.quietIn F n P a C K) : o.wpIn F n P a w K' Q' := by
  obtain ⟨v, h1, h2⟩ := hh
  have h3 := h1 w hw
  unfold Oper.quietAtIn at h3
  unfold Oper.wpIn
  refine ⟨ha w hw, ?_⟩
  rw [Oper.semAt_eq _ _ _ (noDefer_ne hd)]
  generalize (execOp a.eval o).run P w = r at *
  cases r with
  | ok x w' =>
    cases x <;> simp only [Oper.quietUponIn] at h3 <;> simp only [Oper.uponIn]
    case value u =>
      obtain ⟨e1, e2⟩ := h3
      rw [e1, e2]
      exact h _ _ hw h2
    case skip =>
      obtain ⟨e1, e2⟩ := h3
      rw [e1, ← e2]
      exact h _ _ hw h2
    case enter f args =>
      obtain ⟨e1, hd, hc⟩ := h3
      rw [e1]
      exact ⟨hd, hc.mono fun e w'' ⟨he, hw''⟩ => by subst he; exact h _ _ hw'' h2⟩
  | halt x w' => simp only [Oper.quietUponIn] at h3
theorem opsIn_of_qOpIn {i : Nat} {a : Act} {K : Act → Prop} {K' : Act → World → Prop} {Q' : Exit → Act → World → Prop} {w : World} (hd : ops.all noDefer = true) (hC : C w) (h : ∀ a w', C w' → K a → K' a w')
    (hh : qOpIn F n P ops C i K a) : wpOpIn F n P ops Q' i K' a w := by
  unfold qOpIn at hh
  unfold wpOpIn
  split
  · rename_i ho; simp only [ho] at hh; exact h _ _ hC hh
  · rename_i o ho
    simp only [ho] at hh
    obtain ⟨ha, hh⟩ := hh
    split
    · rename_i hw
      simp only [hw, if_true] at hh
      refine opIn_of_quiet ?_ hC h ha hh
      obtain ⟨hi, rfl⟩ := Array.getElem?_eq_some_iff.1 ho
      exact (Array.all_eq_true.1 hd) i hi
    · rename_i hw; simp only [hw] at hh; exact ⟨ha w hC, h _ _ hC hh⟩
theorem anyIn_of_quiet {Q : Act → Prop} {Q' : Exit → Act → World → Prop} (hd : ops.all noDefer = true) (hQ : ∀ a w, C w → Q a → Q' .normal a w) : ∀ (fuel : Nat) (listed : Array Bool) (a : Act) (w : World), C w →
    wpAnyQIn F n P md ops C Q fuel listed a → wpAnyIn F n P md ops Q' fuel listed a w
  | 0, _, _, _, hw, h => ⟨h.1, hQ _ _ hw h.2⟩
  | fuel + 1, _, _, _, hw, h => ⟨fun h0 => hQ _ _ hw (h.1 h0), fun i hi => opsIn_of_qOpIn hd hw (fun a' w' hw' => anyIn_of_quiet hd hQ fuel _ a' w' hw') (h.2 i hi)⟩
theorem wpIn_round_quiet {id : Nat} {Q : Exit → Act → World → Prop} {a : Act} {w : World} {l : List Oper} (hd : l.toArray.all noDefer = true) (hm : P.follows .mixedOrders = true) (hB : Region.lexB .any l.toArray = true)
    (h : wpQuietIn F n P l.toArray (fun w' => ∃ n, w' = w.drewN n) (fun a' => ∀ w', (∃ n, w' = w.drewN n) → Q .normal a' w') l a) : (Code.region id l.toArray true).wpIn F n P Q a w := by
  simp only [Region.lexB, Bool.and_eq_true] at hB
  refine wpIn_region_any hm (anyIn_of_quiet (C := fun w' => ∃ n, w' = w.drewN n) (Q := fun a' => ∀ w', (∃ n, w' = w.drewN n) → Q .normal a' w') hd (fun _ w' hw' h => h w' hw') _ _ _ _ ⟨1, rfl⟩ ?_)
  have := wpAnyQIn_lex (F := F) (n := n) (C := fun w' => ∃ n, w' = w.drewN n) (md := .any) hB.1 l.toArray.toList 0 (Array.replicate l.toArray.size false) a (by simp) (by simpa using hB.2) (by simpa using h)
  simpa using this
end
theorem calls_marks {P : Program} {f : FuncId} {args : Array Value} {w : World} {R : Ending → World → Prop} (h : CallsIn Fence.wide 3 P f args w R) : Calls P f args w R := (callsIn_wide (n := 3)).1 h
theorem wp_rangeFunc_list {α : Type} {P : Program} {g : Operand} {ps : Array Tmp} {assign body : Code} {Q : Exit → Act → World → Prop} {a : Act} {w : World} {gf : Nat} {lb : Array Value} (hg : a.eval g = .func (.func gf) #[] lb)
    (eg : ∀ args w, (callFunc gf args).run P w = .ok (.enter gf args) w) {encs : α → Array Value} {S : Nat → Prop} {D : List α}
    (hseq : SeqStopsK Fence.wide 2 P gf lb encs (KeepS S) (fun ys => ys = D) (fun pre => pre <+: D) D.length w) (hS : ∀ b, S b → b < w.heap.size) (hps : ∀ x, (encs x).size = ps.size)
    (I : List α → World → Prop) (Ix : Code → List α → World → Prop) (hI : OwnFrom w.heap.size I) (hIx : ∀ c, OwnFrom w.heap.size (Ix c)) (h0 : I [] w) (a₁ : α → Act)
    (hassign : ∀ (l : Nat) (x : α) (W : World) (K : Act → World → Prop), K (a₁ x) W →
      assign.wpIn (Fence.wide.inRound l) 1 P (Exit.then K (fun _ _ _ => False)) { tmps := (ps.zip (encs x)).foldl (fun t (p, v) => t.setIfInBounds p v) a.tmps, defers := [] } W)
    (hbody : ∀ (l : Nat) (pre : List α) (x : α) (W : World), I pre W → pre.length < D.length → body.wpIn (Fence.wide.inRound l) 1 P (ownPostK (KeepS S) I Ix (pre ++ [x]) W) (a₁ x) W)
    (hdone : ∀ (B : Nat) (W : World), w.heap.size ≤ B → I D W → W.heap[B]? = some (.deferred (some [])) → Q .normal { a with defers := { target := .collected B, args := #[] } :: a.defers } W)
    (hstop : ∀ (B : Nat) (c : Code) (pre : List α) (W : World), w.heap.size ≤ B → pre <+: D → Ix c pre W → W.heap[B]? = some (.deferred (some [])) → c.wp P Q { a with defers := { target := .collected B, args := #[] } :: a.defers } W) :
    (Code.rangeFunc g ps assign body).wp P Q a w :=
  (wpIn_wide (n := 3)).1 (wpIn_rangeFunc_ownF rfl (by omega) hg trivial eg hseq KeepS.t (KeepS.b hS) (Below.refl _ _) hps I Ix hI hIx h0 a₁ hassign hbody (fun B xs W hB hx hi hK => hdone B W hB (hx ▸ hi) hK) (fun B c pre W hB hp hi hK => wpIn_wide.2 (hstop B c pre W hB hp hi hK)))
end Go.Proofs.YtcdleippdegibaaDoor.Iter
