import Derived.Test.YtcdleippdegibaaDoorNIter
namespace Go.Proofs.YtcdleippdegibaaDoor.First
open Go Go.RowKit Go.Proofs Go.Proofs.YtcdleippdegibaaDoor.Iter
variable {F : Fence} {P : Program} {n : Nat}
def SeqFirst {α : Type} (F : Fence) (n : Nat) (P : Program) (g : Nat) (lb : Array Value) (encs : α → Array Value) (D : Option α) (w : World) : Prop :=
  ∀ (l : Nat) (J Jx : World → Prop) (W : World), Below w.heap.size w W → (∀ A B, J A → Below A.heap.size A B → J B) → (∀ A B, Jx A → Below A.heap.size A B → Jx B) →
    (∀ x W1, D = some x → J W1 → Below W.heap.size W W1 → YieldAt F (n - 1) P l (encs x) W1 fun e W' => e = .returned (.bool false) ∧ Jx W') → J W →
    CallsIn F n P g (#[.func (.yield l) #[] #[]] ++ lb) W fun e W' => (∃ v, e = .returned v) ∧ ((D = none ∧ J W') ∨ (∃ x, D = some x ∧ Jx W'))
theorem loop_kept {A B : World} {l : Nat} {o : Obj} (h : A.heap[l]? = some o) (hb : Below A.heap.size A B) : B.heap[l]? = some o :=
  (hb.block l (Array.getElem?_eq_some_iff.1 h).1).trans h
theorem wpIn_rangeFunc_first {α : Type} {g : Operand} {ps : Array Tmp} {assign body : Code} {Q : Exit → Act → World → Prop} {a : Act} {w : World}
    (hro : F.round = none) (h1 : 1 ≤ n) {gf : Nat} {lb : Array Value} (hg : a.eval g = .func (.func gf) #[] lb) (hFg : F.fn gf) (eg : ∀ args w, (callFunc gf args).run P w = .ok (.enter gf args) w)
    {encs : α → Array Value} {D : Option α} (hseq : SeqFirst F (n - 1) P gf lb encs D w) (hps : ∀ x, (encs x).size = ps.size)
    (I Rx : World → Prop) (hI : ∀ A B, I A → Below A.heap.size A B → I B) (hIo : ∀ A l o o', I A → w.heap.size ≤ l → A.heap[l]? = some o → o.isCells = false → o.isWalk = false → I (A.putObj l o'))
    (hR : ∀ A B, Rx A → Below A.heap.size A B → Rx B) (hRo : ∀ A l o o', Rx A → w.heap.size ≤ l → A.heap[l]? = some o → o.isCells = false → o.isWalk = false → Rx (A.putObj l o'))
    (h0 : I w) (A : α → Act → World → Prop) (hAo : ∀ x a1 B l o o', A x a1 B → B.heap[l]? = some o → o.isCells = false → o.isWalk = false → A x a1 (B.putObj l o'))
    (hassign : ∀ (l : Nat) (x : α) (W : World) (K : Act → World → Prop), D = some x → I W → (∀ a1 W', A x a1 W' → Below W.heap.size W W' → K a1 W') →
      assign.wpIn (F.inRound l) (n - 1 - 1) P (Exit.then K (fun _ _ _ => False)) { tmps := (ps.zip (encs x)).foldl (fun t (p, v) => t.setIfInBounds p v) a.tmps, defers := [] } W)
    (hbody : ∀ (l : Nat) (x : α) (a1 : Act) (W : World), D = some x → I W → A x a1 W → body.wpIn (F.inRound l) (n - 1 - 1) P (fun e _ W' => e = .ret ∧ KeepsOthers W W' ∧ Rx W') a1 W)
    (hdone : ∀ (K : Nat) (W : World), w.heap.size ≤ K → D = none → I W → W.heap[K]? = some (.deferred (some [])) → Q .normal { a with defers := { target := .collected K, args := #[] } :: a.defers } W)
    (hstop : ∀ (K : Nat) (x : α) (W : World), w.heap.size ≤ K → D = some x → Rx W → W.heap[K]? = some (.deferred (some [])) → Code.ret.wpIn F n P Q { a with defers := { target := .collected K, args := #[] } :: a.defers } W) :
    (Code.rangeFunc g ps assign body).wpIn F n P Q a w := by
  refine wpIn_rangeFunc fun fn hfn => ?_
  rw [hro]
  obtain ⟨rc, hrc⟩ : ∃ rc : LoopState → Option Code → Loop, rc = fun st pe => { state := st, pending := pe, fn, tmps := a.tmps, params := ps, assign, body, defers := w.heap.size } := ⟨_, rfl⟩
  obtain ⟨W1, hW1⟩ : ∃ W1, (w.alloc (.deferred (some []))).alloc (.loop (rc .ready none)) = W1 := ⟨_, rfl⟩
  have bW1 : Below w.heap.size w W1 := by rw [← hW1]; exact ((Below.refl _ w).alloc (Nat.le_refl _) _).alloc (by simp) _
  have l1 : W1.heap[w.heap.size + 1]? = some (.loop (rc .ready none)) := by
    have := World.alloc_heap_new (w.alloc (.deferred (some []))) (.loop (rc .ready none))
    rw [World.size_alloc] at this
    rw [← hW1]; exact this
  have k1 : W1.heap[w.heap.size]? = some (.deferred (some [])) := by
    rw [← hW1]; exact (Below.heap_alloc _ _ _ (by simp)).trans (World.alloc_heap_new w _)
  have i1 : I W1 := hI _ _ h0 bW1
  refine ⟨w.heap.size + 1, [{ target := .collected w.heap.size, args := #[] }], W1, { target := .fn (.func gf) lb, args := #[.func (.yield (w.heap.size + 1)) #[] #[]] }, W1, gf,
    #[.func (.yield (w.heap.size + 1)) #[] #[]] ++ lb, W1, by rw [← hW1, hrc]; exact run_enterLoop_outer _ _ _ _ _, by simp only [resolve, hg]; simp [go_sem], ?_, by simp [invoke, go_sem, eg], fun _ => h1, ?_⟩
  · intro f' hf'
    simp [Target.leads] at hf'
    exact hf' ▸ hFg
  refine (hseq (w.heap.size + 1) (fun W => I W ∧ W.heap[w.heap.size + 1]? = some (.loop (rc .ready none)) ∧ W.heap[w.heap.size]? = some (.deferred (some [])))
    (fun W => Rx W ∧ W.heap[w.heap.size + 1]? = some (.loop (rc .done (some .ret))) ∧ W.heap[w.heap.size]? = some (.deferred (some [])))
    W1 bW1 (fun A B h hb => ⟨hI _ _ h.1 hb, loop_kept h.2.1 hb, loop_kept h.2.2 hb⟩) (fun A B h hb => ⟨hR _ _ h.1 hb, loop_kept h.2.1 hb, loop_kept h.2.2 hb⟩) ?_ ⟨i1, l1, k1⟩).mono ?_
  · rintro x W hD ⟨hi, hl, hk⟩ _
    have hy := run_yield (P := P) (args := encs x) hl (by rw [hrc]; exact hps x)
    rw [hrc] at hy
    refine ⟨fn, _, assign, body, hy, roundIn_of_wpIn hfn (hassign _ x W _ hD hi fun a1 Wa haa hba => ?_)⟩
    have hia := hI _ _ hi hba
    have hla := loop_kept hl hba
    have hka := loop_kept hk hba
    have hlt : w.heap.size + 1 < Wa.heap.size := (Array.getElem?_eq_some_iff.1 hla).1
    refine ⟨_, run_beginRound hla (by rw [hrc]), ?_⟩
    have hl2 : (Wa.putObj (w.heap.size + 1) (.loop { rc .ready none with state := .busy })).heap[w.heap.size + 1]? = some (.loop { rc .ready none with state := .busy }) := World.putObj_heap_same hlt
    have hk2 : (Wa.putObj (w.heap.size + 1) (.loop { rc .ready none with state := .busy })).heap[w.heap.size]? = some (.deferred (some [])) := (World.putObj_heap_other (by omega)).trans hka
    refine wpIn_mono (hbody _ x _ _ hD (hIo _ _ _ _ hia (by omega) hla rfl rfl) (hAo _ _ _ _ _ _ haa hla rfl rfl)) ?_
    rintro e a3 W3 ⟨rfl, hk3, hr3⟩
    have hl3 := hk3.same _ _ hl2 rfl
    have he := run_endRound (P := P) (some .ret) hl3
    have hl4 := (Array.getElem?_eq_some_iff.1 hl3).1
    exact ⟨_, _, he, rfl, hRo _ _ _ _ hr3 (by omega) hl3 rfl rfl, by rw [World.putObj_heap_same hl4, hrc]; rfl, (World.putObj_heap_other (by omega)).trans (hk3.same _ _ hk2 rfl)⟩
  · rintro e W2 ⟨⟨v, rfl⟩, (⟨hD, hi, hl, hk⟩ | ⟨x, hD, hr, hl, hk⟩)⟩
    · have he := run_endLoop (P := P) hl (by rw [hrc]; simp)
      rw [hrc] at he
      exact ⟨none, _, he, hdone _ _ (Nat.le_refl _) hD (hIo _ _ _ _ hi (by omega) hl rfl rfl) ((World.putObj_heap_other (by omega)).trans hk)⟩
    · have he := run_endLoop (P := P) hl (by rw [hrc]; simp)
      rw [hrc] at he
      exact ⟨some .ret, _, he, hstop _ x _ (Nat.le_refl _) hD (hRo _ _ _ _ hr (by omega) hl rfl rfl) ((World.putObj_heap_other (by omega)).trans hk)⟩
end Go.Proofs.YtcdleippdegibaaDoor.First
