/-
The tokens of C of a list, or the first one that is none, are told alike by the program and by the document's answer, and the list stays as it was; any list (where a text has more than 1,000 bytes the law says nothing). Conditions: none but the machine's own.
-/
import Derived.Test.YtcdleippdegibaaDoorXM1
import Derived.Test.YtcdleippdegibaaDoorXM10
import Derived.Test.YtcdleippdegibaaDoorCards
import Derived.Test.YtcdleippdegibaaDoorTie
import Derived.WalkKit
import Derived.ProofKit
import Derived.OpenShut
import Derived.ShutString
import Derived.Below
import Derived.Shelf.Vars
import Derived.Deep.DeepHandedRow
import Derived.Lib.LaidTab
import Derived.ChangeOld
import Derived.SizedLaws
set_option maxHeartbeats 8000000
set_option maxRecDepth 100000
set_option linter.unusedVariables false
set_option linter.unusedSimpArgs false
set_option linter.unusedSectionVars false
namespace Go.Proofs.YtcdleippdegibaaDoor.ctokTokens
open Go.ChangeShapes Go.WideShapes Go.ChangeAt Go.RowKit Go.Proofs.YtcdleippdegibaaDoor.PT Go.Proofs.YtcdleippdegibaaDoor.PK Go.Proofs.YtcdleippdegibaaDoor.Opens Go.Proofs.YtcdleippdegibaaDoorW.PrintWords Go.Proofs.YtcdleippdegibaaDoor.LibG
open Go.ChangeMaps (open_string shut_string)
open Go.Proofs.YtcdleippdegibaaDoorW
theorem laidOut : laidOutB Tryd.prog = true := by kernel_rfl
noncomputable def fields44 : List Field := match Tryd.prog.underlying 44 with | some (.struct fs) => fs.toList | _ => []
theorem opens44 : ∃ G m, Opens Tryd.prog 44 k44 G m := by
 have e : Tryd.prog.underlying 44 = some (.struct fields44.toArray) := by kernel_rfl
 exact ⟨_, _, opens_struct e (by kernel_rfl)
  (opensF_cons (by rfl) (opens_int (by kernel_rfl) (by kernel_rfl)) (opensF_cons (by rfl) (opens_string (by kernel_rfl) (by kernel_rfl)) (opensF_cons (by rfl) (opens_int (by kernel_rfl) (by kernel_rfl)) (opensF_cons (by rfl) (opens_int (by kernel_rfl) (by kernel_rfl)) (opensF_last (by rfl) (opens_bool (by kernel_rfl) (by kernel_rfl)))))))
  (fun x : S44 => (x.f0, x.f1, x.f2, x.f3, x.f4)) (fun y => ⟨y.1, y.2.1, y.2.2.1, y.2.2.2.1, y.2.2.2.2⟩) (fun _ => rfl)⟩
theorem openL {H : Type} {enc : TypeId × Value → H} {w : World} {base : Nat} {spare : Nat → Bool} {held : Bool} {A : Option Addr} {len cap : Nat} {d : DataW H} {p : List MemPlace}
  (h : DataW.Trod enc Tryd.prog w base spare held 42 (.slice A len cap) d p) : ∃ l : List S44, len = l.length ∧ l.length ≤ cap ∧ Kd.C k44 w A l.length l := by
 obtain ⟨G, m, o⟩ := opens44
 obtain ⟨fuel, hf⟩ := h
 obtain ⟨l, ⟨A', c', hcs, hl, hC⟩, hg, _⟩ := (opens_slice (T := 42) (by kernel_rfl) (by kernel_rfl) o).op hf
 simp [Value.cells] at hcs
 obtain ⟨rfl, rfl, rfl⟩ := hcs
 exact ⟨l, rfl, hl, hC⟩
theorem sizedL {H : Type} {enc : TypeId × Value → H} {w : World} {base : Nat} {spare : Nat → Bool} {held : Bool} {A : Option Addr} {len cap : Nat} {d : DataW H} {p : List MemPlace} {ts : List TypeId} {ds : List (DataW H)} {j : Nat}
  (hsz : (DataW.weightsEach Tryd.prog ts ds).all (· ≤ reachBytes) = true) (ht : ts[j]? = some 42) (hd : ds[j]? = some d)
  (h : DataW.Trod enc Tryd.prog w base spare held 42 (.slice A len cap) d p) : len * 48 ≤ 140737488351232 := by
 obtain ⟨fuel, hf⟩ := h
 rcases Go.Deep.open_slice Tryd.underlying42 hf with ⟨hcs, _⟩ | ⟨a, len', cap', mm, n, D, Pl, hcs, hb, hl, hm, hmm, hx, hi⟩
 ·simp [Value.cells] at hcs
  obtain ⟨rfl, rfl, rfl⟩ := hcs
  simp
 simp [Value.cells] at hcs
 obtain ⟨rfl, rfl, rfl⟩ := hcs
 obtain ⟨hx, _⟩ := Prod.mk.inj hx
 subst hx
 have z := sized_slice hsz ht hd Tryd.underlying42
 rw [show Tryd.prog.bytesOf 44 = 48 by kernel_rfl] at z
 simp only [List.length_map, List.length_range] at z
 have hr : reachBytes = 140737488351232 := rfl
 rw [hr] at z
 omega
theorem own : ownKnob Tryd.prog.godebug = none := by kernel_rfl
theorem sh_of {W : World} (h : W.ShapedOpen Tryd.prog) : SH W :=
 cell_of_shapedOpen_int (zero := #[.int .i64 0]) (t := 3) h (of_decide_eq_true (by kernel_rfl)) (by kernel_rfl) rfl (by kernel_rfl) (by kernel_rfl) Tryd.underlying3
theorem contract (H : Type) (enc : TypeId × Value → H) (W : World) (base : Nat) (args : Array Value) (ds gs : List (DataW H)) (before : List MemPlace)
  (hval : ∀ (j : Nat) t v, Tryd.f7.params[j]? = some t → args[j]? = some v → Value.okWide Tryd.prog W .any base t v)
  (hW : DataW.Whole enc Tryd.prog Tryd.f7.params.toList Rows.ctokTokensSpec.vars false W args.toList ds gs before) (sh : SH W) (hsz : (DataW.weightsEach Tryd.prog (Tryd.f7.params.toList ++ Rows.ctokTokensSpec.plain.varTypes Tryd.prog) (ds ++ gs)).all (· ≤ reachBytes) = true) :
  Calls Tryd.prog 7 args W fun e W' => ∃ v, e = .returned v ∧ Rows.ctokTokensSpec.post enc Tryd.prog Tryd.f7 false true false false W args v W' := by
 have hW' := hW
 obtain ⟨p, q, hA0, hV, rfl, hfz, hnd⟩ := hW
 have hA : DataW.TrodAll enc Tryd.prog W 0 (fun _ => true) true Tryd.f7.params.toList args.toList ds p := hA0
 rw [Tryd.params7] at hA hval hsz
 obtain ⟨v0, vs0, d0, ds0, p0, q0, hargs, rfl, rfl, h0, r0⟩ := trodAll_cons hA
 obtain ⟨rfl, rfl, rfl⟩ := trodAll_nil r0
 obtain rfl : args = #[v0] := by cases args; simp_all
 obtain ⟨rfl, rfl⟩ := trodVars_none hV
 obtain ⟨a0, len0, cap0, rfl⟩ := okWide_slice Tryd.underlying42 (hval 0 42 v0 rfl rfl)
 have k0 := h0
 have lt0 : ∀ x ∈ p0, x.block < W.heap.size := by obtain ⟨m, hm⟩ := k0; exact DataW.trod_lt m _ _ _ hm
 have y0 : len0 * 48 ≤ 140737488351232 := sizedL hsz (j := 0) rfl rfl h0
 obtain ⟨l0, rfl, hc0, hr0⟩ := openL h0
 clear hA0
 obtain ⟨k, hk⟩ := Ctk.law_tokens l0 (by omega)
 refine (l_CtokTokens.calls k a0 cap0 l0 true W hr0 hc0 sh hk).mono fun e W' ⟨he, bel⟩ => ?_
 subst he
 exact ⟨_, rfl, _, _, _, [], _, [], hW', trodAll_mk1 (shut_bool Tryd.underlying4 _), (trodAll_cons_mk (Below.trod laidOut (by kernel_rfl) (of_decide_eq_true (by kernel_rfl)) k0 bel lt0) trodAll_mk0), rfl, bel.frame _, fun h => by cases h⟩
def putObj (vs : Array Value) : Obj → Obj
 | .cells _ t frozen => .cells vs t frozen
 | o => o
noncomputable def laidWorld (os : Os) : World :=
 { World.holding Tryd.prog os ⟨#[], #[], []⟩ with heap := ((World.holding Tryd.prog os ⟨#[], #[], []⟩).heap.modify 1 (putObj (Pinned.utf8FirstZ.map fun n : Nat => Value.int .u8 (n : Int)).toArray)).modify 2 (putObj (([128, 191, 160, 191, 128, 159, 144, 191, 128, 143, 0, 0, 0, 0, 0, 0, 0, 0, 0, 0, 0, 0, 0, 0, 0, 0, 0, 0, 0, 0, 0, 0] : List Nat).map fun n : Nat => Value.int .u8 (n : Int)).toArray) }
theorem laid_met (os : Os) : laidMet Tryd.prog Rows.ctokTokensRow.laid ((laidWorld os).forCall (fun _ _ => 0) ⟨#[], #[.slice none 0 0], []⟩).memory :=
 laidMet_of_run' 8 (by kernel_rfl) (by kernel_rfl)
theorem reads (os : Os) {H : Type} (enc : TypeId × Value → H) : ∃ places, DataW.whole enc Tryd.prog ((laidWorld os).forCall (fun _ _ => 0) ⟨#[], #[.slice none 0 0], []⟩).memory Tryd.f7.params.toList Rows.ctokTokensSpec.vars false #[(.slice none 0 0 : Value)].toList 8 = some ([.nil], [], places) :=
 ⟨[], by kernel_rfl⟩
theorem lifted (os : Os) (started : os.Started) (H : Type) (enc : TypeId × Value → H) (F : Stop.Interp) :
  ReturnsInHanded {} Tryd.checked os 7 .any ((OpenSpec.ofChange Rows.ctokTokensSpec).preRow enc Tryd.prog Tryd.f7 Rows.ctokTokensRow.domain false Rows.ctokTokensRow.laid) (((OpenSpec.ofChange Rows.ctokTokensSpec).at F).post enc Tryd.prog Tryd.f7 false true false false) := by
 obtain ⟨places, hx⟩ := reads os enc
 refine returnsInHanded_of_row (C := Tryd.checked) (s := OpenSpec.ofChange Rows.ctokTokensSpec) own started (by kernel_rfl) Tryd.func7
  (witness_row_at (enc := enc) (C := Tryd.checked) false (laidWorld os) #[.slice none 0 0] rfl (by kernel_rfl) (by kernel_rfl) (by kernel_rfl)
   (OpenSpec.preRow_of_cond 8 hx (by kernel_rfl) (fun k hk => by cases hk) (by kernel_rfl) (laid_met os))) ?_
 intro W base args ds gs before hval hW _ hcond hsz hL hso _
 exact contract H enc W base args ds gs before hval hW (sh_of hso) hsz
theorem said : Rows.CtokTokensSaid :=
 OpenClaim.holds_of_cond 7 Tryd.f7 rfl rfl rfl rfl rfl rfl rfl ⟨rfl, rfl, rfl, rfl, rfl⟩ rfl rfl rfl rfl rfl (by kernel_rfl) Tryd.func7 (by kernel_rfl)
  (of_decide_eq_true (by kernel_rfl)) (by unfold Func.isWrapper; first | (rw [if_pos (by decide +kernel)]; kernel_rfl) | (rw [if_neg (by decide +kernel)]; exact ⟨rfl, rfl⟩))
  (fun os started H enc _ F => by rw [OpenClaim.pre_eq_preRow]; exact lifted os started H enc F)
theorem plain (f : FuncId) (fn : Func) (hf : Tryd.pinned.checked.prog.funcNamed "reglet/regletlaw04.CtokTokens" = some f) (hfn : Tryd.pinned.checked.prog.funcs[f]? = some fn) :
  false = Tryd.pinned.checked.prog.looks [] ∧ ∀ (j : Nat) t, fn.params[j]? = some t → Tryd.pinned.checked.prog.wantsStandIn t = false := by
 obtain rfl : f = 7 := Option.some.inj ((show Tryd.prog.funcNamed "reglet/regletlaw04.CtokTokens" = some 7 by kernel_rfl).symm.trans hf) |>.symm
 obtain rfl : fn = Tryd.f7 := (Option.some.inj (Tryd.func7.symm.trans hfn)).symm
 refine ⟨by kernel_rfl, fun j t ht => ?_⟩
 rw [Tryd.params7] at ht
 obtain rfl : t = 42 := by simpa using Array.mem_of_getElem? ht
 exact (show Tryd.prog.wantsStandIn 42 = false by kernel_rfl)
end Go.Proofs.YtcdleippdegibaaDoor.ctokTokens
namespace Go.Proofs.YtcdleippdegibaaDoor
theorem ctokTokens_holds : Rows.CtokTokensCardSaid :=
 Claim7.holds_tied_plain_at .later [] _ _ _ _ ctokTokens.said (fun _ h => by cases h) (by kernel_rfl) (fun _ h => by cases h) ctokTokens_row_tie rfl ⟨rfl, rfl⟩ (by kernel_rfl) rfl ctokTokens.plain (by kernel_rfl)
#print axioms ctokTokens_holds
end Go.Proofs.YtcdleippdegibaaDoor
