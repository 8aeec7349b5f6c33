/-
Whether two lists of macro tokens are the same, white space aside, is told alike by the program and by the document's answer, and the lists stay as they were. Conditions: none but the machine's own.
-/
import Derived.Test.YtcdleippdegibaaOpen
import Derived.Test.YtcdleippdegibaaPureSames
import Derived.WalkKit
import Derived.ProofKit
import Derived.OpenShut
import Derived.ChangeOld
import Derived.Below
namespace Go.Proofs.Ytcdleippdegibaa.LawSames
open Go.ChangeShapes Go.WideShapes Go.ChangeAt Go.RowKit Go.Proofs.Ytcdleippdegibaa.Opens Go.Proofs.Ytcdleippdegibaa.PA Go.Proofs.YtcdleippdegibaaW.PrintWords
theorem own : ownKnob Try.prog.godebug = none := by kernel_rfl
theorem laidOut : laidOutB Try.prog = true := by kernel_rfl

noncomputable def fields27 : List Field := match Try.prog.underlying 27 with | some (.struct fs) => fs.toList | _ => []
theorem opens27 : ∃ G m, Opens Try.prog 27 k27 G m ∧ ∀ x, G x → x.f3.length ≤ maxLen := by
  have e : Try.prog.underlying 27 = some (.struct fields27.toArray) := by kernel_rfl
  exact ⟨_, _, opens_struct e (by kernel_rfl)
    (opensF_cons (by rfl) (opens_int (by kernel_rfl) (by kernel_rfl)) (opensF_cons (by rfl) (opens_string (by kernel_rfl) (by kernel_rfl)) (opensF_cons (by rfl) (opens_bool (by kernel_rfl) (by kernel_rfl)) (opensF_last (by rfl) (opens_slice (by kernel_rfl) (by kernel_rfl) (opens_string (by kernel_rfl) (by kernel_rfl)))))))
    (fun x : S27 => (x.f0, x.f1, x.f2, x.f3)) (fun y => ⟨y.1, y.2.1, y.2.2.1, y.2.2.2⟩) (fun _ => rfl), fun x h => h.2.2.2.1⟩
theorem openL {H : Type} {enc : TypeId × Value → H} {w : World} {base : Nat} {spare : Nat → Bool} {held : Bool} {A : Option Addr} {len cap : Nat} {d : DataW H} {p : List MemPlace}
    (h : DataW.Trod enc Try.prog w base spare held 22 (.slice A len cap) d p) : ∃ l : List S27, len = l.length ∧ l.length ≤ cap ∧ Kd.C k27 w A l.length l ∧ PureSames.Fits l := by
  obtain ⟨G, m, o, hG⟩ := opens27
  obtain ⟨fuel, hf⟩ := h
  obtain ⟨l, ⟨A', c', hcs, hl, hC⟩, hg, _⟩ := (opens_slice (T := 22) (by kernel_rfl) (by kernel_rfl) o).op hf
  simp [Value.cells] at hcs
  obtain ⟨rfl, rfl, rfl⟩ := hcs
  exact ⟨l, rfl, hl, hC, hg.1, fun x hx => hG x (hg.2 x hx)⟩

set_option maxRecDepth 100000 in
theorem lifted (os : Os) (started : os.Started) (H : Type) (enc : TypeId × Value → H) :
    ReturnsInHanded {} Try.checked os 3 .any (Rows.prepSamesSpec.pre6 enc Try.prog Try.f3 Rows.prepSamesRow.domain false) (Rows.prepSamesSpec.post enc Try.prog Try.f3 false true false false) := by
  refine returnsInHanded_of_change (C := Try.checked) own started (by kernel_rfl) Try.func3
    (ChangeSpec.witness6 (enc := enc) (C := Try.checked) false ⟨#[], #[.slice none 0 0, .slice none 0 0], []⟩ 8 (by kernel_rfl) (by kernel_rfl) (by kernel_rfl) (by kernel_rfl)) ?_
  intro W base args ds gs before hval0 hW hcnd _
  have hval : ∀ (j : Nat) t v, Try.f3.params[j]? = some t → args[j]? = some v → Value.okWide Try.prog W .any base t v := hval0
  have hW' := hW
  obtain ⟨p, q, hA0, hV, rfl, hfz, hnd⟩ := hW
  have hA : DataW.TrodAll enc Try.prog W 0 (fun _ => true) true Try.f3.params.toList args.toList ds p := hA0
  rw [Try.params3] at hA hval
  obtain ⟨v0, v1, d0, d1, p0, p1, rfl, rfl, rfl, h0, h1⟩ := trodAll_two hA
  obtain ⟨rfl, rfl⟩ := trodVars_none hV
  obtain ⟨a0, len0, cap0, rfl⟩ := okWide_slice Try.underlying22 (hval 0 22 v0 rfl rfl)
  obtain ⟨a1, len1, cap1, rfl⟩ := okWide_slice Try.underlying22 (hval 1 22 v1 rfl rfl)
  have lt0 : ∀ x ∈ p0, x.block < W.heap.size := by obtain ⟨m, hm⟩ := h0; exact DataW.trod_lt m _ _ _ hm
  have lt1 : ∀ x ∈ p1, x.block < W.heap.size := by obtain ⟨m, hm⟩ := h1; exact DataW.trod_lt m _ _ _ hm
  obtain ⟨l0, rfl, hc0, hr0, fit0⟩ := openL h0
  obtain ⟨l1, rfl, hc1, hr1, fit1⟩ := openL h1
  clear hA0 hval0
  obtain ⟨k, hk⟩ := PureSames.holds l0 l1 fit0 fit1
  refine (regletlaw08_PrepSames.calls k a0 cap0 l0 a1 cap1 l1 true W hr0 hc0 hr1 hc1 hk).mono fun e W' ⟨he, bel⟩ => ?_
  subst he
  exact ⟨_, rfl, _, _, _, [], _, [], hW', trodAll_mk1 (shut_bool Try.underlying4 _), (trodAll_cons_mk (Below.trod laidOut (by kernel_rfl) (of_decide_eq_true (by kernel_rfl)) h0 bel lt0) (trodAll_cons_mk (Below.trod laidOut (by kernel_rfl) (of_decide_eq_true (by kernel_rfl)) h1 bel lt1) trodAll_mk0)), rfl, bel.frame _, fun h => by cases h⟩
theorem over : Rows.prepSamesRow.holds Try.pinned (OpenSpec.ofChange Rows.prepSamesSpec) :=
  OpenClaim.holds_of_wide 3 Try.f3 rfl rfl rfl rfl rfl rfl rfl ⟨rfl, rfl, rfl, rfl, rfl⟩ rfl rfl rfl rfl rfl (by kernel_rfl) Try.func3 (by kernel_rfl)
    (of_decide_eq_true (by kernel_rfl)) (by unfold Func.isWrapper; first | (rw [if_pos (by decide +kernel)]; kernel_rfl) | (rw [if_neg (by decide +kernel)]; exact ⟨rfl, rfl⟩))
    (fun os started H enc _ => lifted os started H enc)
end Go.Proofs.Ytcdleippdegibaa.LawSames
namespace Go.Proofs.Ytcdleippdegibaa
/-- The row, under a short name, for the claim. -/
theorem prepSames_holds : Rows.PrepSamesSaid := LawSames.over
#print axioms prepSames_holds
end Go.Proofs.Ytcdleippdegibaa
