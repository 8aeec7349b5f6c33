/-
The error and the classes have their numbers, and the examples of the chapter hold. (Closed.) Conditions: none but the machine's own.
-/
import Derived.Test.YtcdleippdegibaaDoorNPF
import Derived.Test.YtcdleippdegibaaDoorNClassH
import Derived.Test.YtcdleippdegibaaDoorNPCx2
import Derived.Test.YtcdleippdegibaaDoorNPCx3
import Derived.Test.YtcdleippdegibaaDoorNAlive
import Derived.Test.YtcdleippdegibaaDoorCards
import Derived.Test.YtcdleippdegibaaDoorTie
import Derived.WalkKit
import Derived.ProofKit
import Derived.OpenShut
import Derived.ShutString
import Derived.Below
import Derived.Shelf.Vars
import Derived.Deep.DeepHandedRow
import Derived.Lib.LaidTab
namespace Go.Proofs.YtcdleippdegibaaDoor.NamesV
open Go Go.RowKit Go.Proofs Go.Proofs.YtcdleippdegibaaDoor Go.Proofs.YtcdleippdegibaaDoor.PB Go.Proofs.YtcdleippdegibaaDoor.PC Go.Proofs.YtcdleippdegibaaDoor.PE Go.Proofs.YtcdleippdegibaaDoor.PF Go.Proofs.YtcdleippdegibaaDoor.PK Go.Proofs.YtcdleippdegibaaDoor.ClassH
set_option maxRecDepth 100000
theorem w0 : regletlaw04_worth.f ⟨#[48, 49, 55]⟩ 15 false = some true := by kernel_rfl
theorem w1 : regletlaw04_worth.f ⟨#[48]⟩ 0 false = some true := by kernel_rfl
theorem w2 : regletlaw04_worth.f ⟨#[49, 117, 108]⟩ 1 true = some true := by kernel_rfl
theorem w3 : regletlaw04_worth.f ⟨#[49, 76, 76, 85]⟩ 1 true = some true := by kernel_rfl
theorem w4 : regletlaw04_worth.f ⟨#[49, 56, 52, 52, 54, 55, 52, 52, 48, 55, 51, 55, 48, 57, 53, 53, 49, 54, 49, 53, 117]⟩ 18446744073709551615 true = some true := by kernel_rfl
theorem w5 : regletlaw04_worth.f ⟨#[48, 120, 102, 102, 102, 102, 102, 102, 102, 102, 102, 102, 102, 102, 102, 102, 102, 102]⟩ 18446744073709551615 true = some true := by kernel_rfl
theorem w6 : regletlaw04_worth.f ⟨#[57, 50, 50, 51, 51, 55, 50, 48, 51, 54, 56, 53, 52, 55, 55, 53, 56, 48, 55]⟩ 9223372036854775807 false = some true := by kernel_rfl
theorem n0 : regletlaw04_none.f ⟨#[48, 56]⟩ = some true := by kernel_rfl
theorem n1 : regletlaw04_none.f ⟨#[49, 108, 117, 108]⟩ = some true := by kernel_rfl
theorem n2 : regletlaw04_none.f ⟨#[49, 76, 108]⟩ = some true := by kernel_rfl
theorem n3 : regletlaw04_none.f ⟨#[]⟩ = some true := by kernel_rfl
theorem n4 : regletlaw04_none.f ⟨#[48, 120]⟩ = some true := by kernel_rfl
theorem n5 : regletlaw04_none.f ⟨#[49, 117, 117]⟩ = some true := by kernel_rfl
theorem n6 : regletlaw04_none.f ⟨#[49, 56, 52, 52, 54, 55, 52, 52, 48, 55, 51, 55, 48, 57, 53, 53, 49, 54, 49, 53]⟩ = some true := by kernel_rfl
theorem n7 : regletlaw04_none.f ⟨#[49, 56, 52, 52, 54, 55, 52, 52, 48, 55, 51, 55, 48, 57, 53, 53, 49, 54, 49, 54, 117]⟩ = some true := by kernel_rfl
theorem n8 : regletlaw04_none.f ⟨#[48, 120, 49, 48, 48, 48, 48, 48, 48, 48, 48, 48, 48, 48, 48, 48, 48, 48, 48]⟩ = some true := by kernel_rfl
theorem f0 : ctok_Float.f 40 ⟨#[49, 46]⟩ = some true := by kernel_rfl
theorem f1 : ctok_Float.f 40 ⟨#[46, 53, 101, 45, 51, 102]⟩ = some true := by kernel_rfl
theorem f2 : ctok_Float.f 40 ⟨#[49, 101, 53]⟩ = some true := by kernel_rfl
theorem f3 : ctok_Float.f 40 ⟨#[48, 120, 46, 56, 112, 48]⟩ = some true := by kernel_rfl
theorem f4 : ctok_Float.f 40 ⟨#[48, 120, 49, 46, 56]⟩ = some false := by kernel_rfl
theorem f5 : ctok_Float.f 40 ⟨#[49]⟩ = some false := by kernel_rfl
theorem f6 : ctok_Float.f 40 ⟨#[49, 101]⟩ = some false := by kernel_rfl
theorem f7 : ctok_Float.f 40 ⟨#[46]⟩ = some false := by kernel_rfl
theorem f8 : ctok_Float.f 40 ⟨#[49, 46, 102, 102]⟩ = some false := by kernel_rfl
theorem f9 : ctok_Float.f 40 ⟨#[48, 88, 49, 80, 43, 57, 76]⟩ = some true := by kernel_rfl
theorem f10 : ctok_Float.f 40 ⟨#[48, 120, 46, 112, 49]⟩ = some false := by kernel_rfl
theorem f11 : ctok_Float.f 40 ⟨#[48, 56, 46, 53]⟩ = some true := by kernel_rfl
theorem c0 : regletlaw04_char.f 40 ⟨#[39, 97, 39]⟩ (97) = some true := by kernel_rfl
theorem c1 : regletlaw04_char.f 40 ⟨#[39, 92, 120, 102, 102, 39]⟩ (-1) = some true := by kernel_rfl
theorem c2 : regletlaw04_char.f 40 ⟨#[39, 97, 98, 39]⟩ (24930) = some true := by kernel_rfl
theorem c3 : regletlaw04_char.f 40 ⟨#[76, 39, 92, 120, 102, 102, 39]⟩ (255) = some true := by kernel_rfl
theorem c4 : regletlaw04_char.f 40 ⟨#[39, 92, 48, 48, 48, 49, 39]⟩ (49) = some true := by kernel_rfl
theorem c5 : regletlaw04_char.f 40 ⟨#[85, 39, 92, 120, 102, 102, 102, 102, 102, 102, 102, 102, 39]⟩ (4294967295) = some true := by kernel_rfl
theorem c6 : regletlaw04_char.f 40 ⟨#[39, 92, 51, 55, 55, 92, 51, 55, 55, 92, 51, 55, 55, 92, 51, 55, 55, 39]⟩ (-1) = some true := by kernel_rfl
theorem b0 : regletlaw04_bad.f 40 ⟨#[39, 92, 52, 48, 48, 39]⟩ = some true := by kernel_rfl
theorem b1 : regletlaw04_bad.f 40 ⟨#[117, 39, 97, 98, 39]⟩ = some true := by kernel_rfl
theorem b2 : regletlaw04_bad.f 40 ⟨#[39, 97, 98, 99, 100, 101, 39]⟩ = some true := by kernel_rfl
theorem b3 : regletlaw04_bad.f 40 ⟨#[39, 92, 113, 39]⟩ = some true := by kernel_rfl
theorem b4 : regletlaw04_bad.f 40 ⟨#[34, 97, 34]⟩ = some true := by kernel_rfl
theorem s0 : ctok_Str.f 40 ⟨#[34, 97, 92, 48, 92, 49, 56, 34]⟩ = some ([97, 0, 1, 56], 0) := by kernel_rfl
theorem s1 : ctok_Str.f 40 ⟨#[117, 56, 34, 34]⟩ = some ([], 0) := by kernel_rfl
theorem s2 : ctok_Str.f 40 ⟨#[39, 97, 39]⟩ = some ([], 40) := by kernel_rfl
theorem k0 : ctok_Class.f 40 1 ⟨#[105, 110, 116]⟩ = some (1, ⟨#[105, 110, 116]⟩, 0) := by kernel_rfl
theorem k1 : ctok_Class.f 40 1 ⟨#[73, 110, 116]⟩ = some (2, ⟨#[73, 110, 116]⟩, 0) := by kernel_rfl
theorem k2 : ctok_Class.f 40 2 ⟨#[49, 120]⟩ = some (0, ⟨#[]⟩, 40) := by kernel_rfl
theorem t0 : ctok_Tokens.f 40 [⟨1, ⟨#[97]⟩, 0, 0, false⟩, ⟨8, ⟨#[]⟩, 0, 0, false⟩, ⟨6, ⟨#[64]⟩, 0, 0, false⟩] = some ([], 1, 40) := by kernel_rfl
end Go.Proofs.YtcdleippdegibaaDoor.NamesV
set_option autoImplicit false
set_option relaxedAutoImplicit false
set_option linter.unusedVariables false
set_option linter.unusedSimpArgs false
namespace Go.Proofs.YtcdleippdegibaaDoor.NamesW
open Go.RowKit Go.Proofs.YtcdleippdegibaaDoorW.PrintWords Go.Proofs.YtcdleippdegibaaDoorW.PrintLast Go.Proofs.YtcdleippdegibaaDoorW.PrintMore
open Go Go.Proofs Go.Proofs.YtcdleippdegibaaDoor Go.Proofs.YtcdleippdegibaaDoor.PB Go.Proofs.YtcdleippdegibaaDoor.PC Go.Proofs.YtcdleippdegibaaDoor.PE Go.Proofs.YtcdleippdegibaaDoor.PF Go.Proofs.YtcdleippdegibaaDoor.PK Go.Proofs.YtcdleippdegibaaDoor.ClassH
open Go.Proofs.YtcdleippdegibaaDoor.LibG (SH SH.below SH.drewN SH.drew SH.alloc)
set_option maxHeartbeats 8000000 in
set_option maxRecDepth 100000 in
theorem names_calls (w : World) (hsh : SH w) : Calls Tryd.prog 8 #[] w fun e w' => e = .returned (.bool true) ∧ Below w.heap.size w w' := by
  have HSH := Aside0.mk hsh
  clear hsh
  have HB := Aside0.mk (Below.refl w.heap.size w)
  go_enter Tryd.func8, Tryd.ntmps8
  go_upto_region 2 with (first | (go_at_call 20; refine (regletlaw04_worth.calls _ _ _ true _ ?side1 (by first | (with_reducible exact NamesV.w0) | (with_reducible exact NamesV.w1) | (with_reducible exact NamesV.w2) | (with_reducible exact NamesV.w3) | (with_reducible exact NamesV.w4) | (with_reducible exact NamesV.w5) | (with_reducible exact NamesV.w6))).mono ?_; (case side1 => first | exact SH.below HSH.out (by repeat (first | (with_reducible first | exact HB.out | apply below_alloc | apply pw_below_drewN | apply below_drew1) | exact HB.out)) | (repeat (first | exact HSH.out | (with_reducible refine SH.drewN ?_ _) | (with_reducible refine SH.drew ?_) | (with_reducible refine SH.alloc ?_ _)))); rintro e w' ⟨rfl, hb⟩; have n0_ := Aside0.mk (below_step (by repeat (first | (with_reducible first | exact HB.out | apply below_alloc | apply pw_below_drewN | apply below_drew1) | exact HB.out)) hb); clear HB; have HB := n0_; clear n0_; clear hb) | (go_at_call 19; refine (regletlaw04_none.calls _ true _ ?side1 (by first | (with_reducible exact NamesV.n0) | (with_reducible exact NamesV.n1) | (with_reducible exact NamesV.n2) | (with_reducible exact NamesV.n3) | (with_reducible exact NamesV.n4) | (with_reducible exact NamesV.n5) | (with_reducible exact NamesV.n6) | (with_reducible exact NamesV.n7) | (with_reducible exact NamesV.n8))).mono ?_; (case side1 => first | exact SH.below HSH.out (by repeat (first | (with_reducible first | exact HB.out | apply below_alloc | apply pw_below_drewN | apply below_drew1) | exact HB.out)) | (repeat (first | exact HSH.out | (with_reducible refine SH.drewN ?_ _) | (with_reducible refine SH.drew ?_) | (with_reducible refine SH.alloc ?_ _)))); rintro e w' ⟨rfl, hb⟩; have n0_ := Aside0.mk (below_step (by repeat (first | (with_reducible first | exact HB.out | apply below_alloc | apply pw_below_drewN | apply below_drew1) | exact HB.out)) hb); clear HB; have HB := n0_; clear n0_; clear hb))
  go_upto_region 3 with (first | (go_at_call 20; refine (regletlaw04_worth.calls _ _ _ true _ ?side1 (by first | (with_reducible exact NamesV.w0) | (with_reducible exact NamesV.w1) | (with_reducible exact NamesV.w2) | (with_reducible exact NamesV.w3) | (with_reducible exact NamesV.w4) | (with_reducible exact NamesV.w5) | (with_reducible exact NamesV.w6))).mono ?_; (case side1 => first | exact SH.below HSH.out (by repeat (first | (with_reducible first | exact HB.out | apply below_alloc | apply pw_below_drewN | apply below_drew1) | exact HB.out)) | (repeat (first | exact HSH.out | (with_reducible refine SH.drewN ?_ _) | (with_reducible refine SH.drew ?_) | (with_reducible refine SH.alloc ?_ _)))); rintro e w' ⟨rfl, hb⟩; have n0_ := Aside0.mk (below_step (by repeat (first | (with_reducible first | exact HB.out | apply below_alloc | apply pw_below_drewN | apply below_drew1) | exact HB.out)) hb); clear HB; have HB := n0_; clear n0_; clear hb) | (go_at_call 19; refine (regletlaw04_none.calls _ true _ ?side1 (by first | (with_reducible exact NamesV.n0) | (with_reducible exact NamesV.n1) | (with_reducible exact NamesV.n2) | (with_reducible exact NamesV.n3) | (with_reducible exact NamesV.n4) | (with_reducible exact NamesV.n5) | (with_reducible exact NamesV.n6) | (with_reducible exact NamesV.n7) | (with_reducible exact NamesV.n8))).mono ?_; (case side1 => first | exact SH.below HSH.out (by repeat (first | (with_reducible first | exact HB.out | apply below_alloc | apply pw_below_drewN | apply below_drew1) | exact HB.out)) | (repeat (first | exact HSH.out | (with_reducible refine SH.drewN ?_ _) | (with_reducible refine SH.drew ?_) | (with_reducible refine SH.alloc ?_ _)))); rintro e w' ⟨rfl, hb⟩; have n0_ := Aside0.mk (below_step (by repeat (first | (with_reducible first | exact HB.out | apply below_alloc | apply pw_below_drewN | apply below_drew1) | exact HB.out)) hb); clear HB; have HB := n0_; clear n0_; clear hb))
  go_upto_region 4 with (first | (go_at_call 15; refine (ctok_Float.calls 40 _ true _ (by first | (with_reducible exact NamesV.f0) | (with_reducible exact NamesV.f1) | (with_reducible exact NamesV.f2) | (with_reducible exact NamesV.f3) | (with_reducible exact NamesV.f9) | (with_reducible exact NamesV.f11))).mono ?_; skip; rintro e w' ⟨rfl, hb⟩; have n0_ := Aside0.mk (below_step (by repeat (first | (with_reducible first | exact HB.out | apply below_alloc | apply pw_below_drewN | apply below_drew1) | exact HB.out)) hb); clear HB; have HB := n0_; clear n0_; clear hb) | (go_at_call 15; refine (ctok_Float.calls 40 _ false _ (by first | (with_reducible exact NamesV.f4) | (with_reducible exact NamesV.f5) | (with_reducible exact NamesV.f6) | (with_reducible exact NamesV.f7) | (with_reducible exact NamesV.f8) | (with_reducible exact NamesV.f10))).mono ?_; skip; rintro e w' ⟨rfl, hb⟩; have n0_ := Aside0.mk (below_step (by repeat (first | (with_reducible first | exact HB.out | apply below_alloc | apply pw_below_drewN | apply below_drew1) | exact HB.out)) hb); clear HB; have HB := n0_; clear n0_; clear hb))
  go_upto_region 5 with (first | (go_at_call 26; refine (regletlaw04_char.calls 40 _ _ true _ ?side1 (by first | (with_reducible exact NamesV.c0) | (with_reducible exact NamesV.c1) | (with_reducible exact NamesV.c2) | (with_reducible exact NamesV.c3) | (with_reducible exact NamesV.c4) | (with_reducible exact NamesV.c5) | (with_reducible exact NamesV.c6))).mono ?_; (case side1 => first | exact SH.below HSH.out (by repeat (first | (with_reducible first | exact HB.out | apply below_alloc | apply pw_below_drewN | apply below_drew1) | exact HB.out)) | (repeat (first | exact HSH.out | (with_reducible refine SH.drewN ?_ _) | (with_reducible refine SH.drew ?_) | (with_reducible refine SH.alloc ?_ _)))); rintro e w' ⟨rfl, hb⟩; have n0_ := Aside0.mk (below_step (by repeat (first | (with_reducible first | exact HB.out | apply below_alloc | apply pw_below_drewN | apply below_drew1) | exact HB.out)) hb); clear HB; have HB := n0_; clear n0_; clear hb) | (go_at_call 27; refine (regletlaw04_bad.calls 40 _ true _ ?side1 (by first | (with_reducible exact NamesV.b0) | (with_reducible exact NamesV.b1) | (with_reducible exact NamesV.b2) | (with_reducible exact NamesV.b3) | (with_reducible exact NamesV.b4))).mono ?_; (case side1 => first | exact SH.below HSH.out (by repeat (first | (with_reducible first | exact HB.out | apply below_alloc | apply pw_below_drewN | apply below_drew1) | exact HB.out)) | (repeat (first | exact HSH.out | (with_reducible refine SH.drewN ?_ _) | (with_reducible refine SH.drew ?_) | (with_reducible refine SH.alloc ?_ _)))); rintro e w' ⟨rfl, hb⟩; have n0_ := Aside0.mk (below_step (by repeat (first | (with_reducible first | exact HB.out | apply below_alloc | apply pw_below_drewN | apply below_drew1) | exact HB.out)) hb); clear HB; have HB := n0_; clear n0_; clear hb))
  go_upto_region 6 with (go_at_call 21; refine (ctok_Str.calls 40 _ _ _ _ ?side1 NamesV.s0).mono ?_; (case side1 => first | exact SH.below HSH.out (by repeat (first | (with_reducible first | exact HB.out | apply below_alloc | apply pw_below_drewN | apply below_drew1) | exact HB.out)) | (repeat (first | exact HSH.out | (with_reducible refine SH.drewN ?_ _) | (with_reducible refine SH.drew ?_) | (with_reducible refine SH.alloc ?_ _)))); rintro e w' ⟨v0, rfl, HO0_, hb⟩; have n0_ := Aside0.mk (below_step (by repeat (first | (with_reducible first | exact HB.out | apply below_alloc | apply pw_below_drewN | apply below_drew1) | exact HB.out)) hb); clear HB; have HB := n0_; clear n0_; clear hb; have HO0 := Aside0.mk HO0_; clear HO0_)
  go_upto_region 7 with (go_at_call 21; refine (ctok_Str.calls 40 _ _ _ _ ?side1 NamesV.s1).mono ?_; (case side1 => first | exact SH.below HSH.out (by repeat (first | (with_reducible first | exact HB.out | apply below_alloc | apply pw_below_drewN | apply below_drew1) | exact HB.out)) | (repeat (first | exact HSH.out | (with_reducible refine SH.drewN ?_ _) | (with_reducible refine SH.drew ?_) | (with_reducible refine SH.alloc ?_ _)))); rintro e w' ⟨v1, rfl, HO1_, hb⟩; have n0_ := Aside0.mk (below_step (by repeat (first | (with_reducible first | exact HB.out | apply below_alloc | apply pw_below_drewN | apply below_drew1) | exact HB.out)) hb); have m0_ := Aside0.mk (Kd.R_below (by (with_reducible repeat (first | apply Kd.R_alloc | apply Kd.R_drewN | apply Kd.R_drew)); exact HO0.out) hb); clear HB; have HB := n0_; clear n0_; clear HO0; have HO0 := m0_; clear m0_; clear hb; have HO1 := Aside0.mk HO1_; clear HO1_)
  go_upto_region 8 with (go_at_call 21; refine (ctok_Str.calls 40 _ _ _ _ ?side1 NamesV.s2).mono ?_; (case side1 => first | exact SH.below HSH.out (by repeat (first | (with_reducible first | exact HB.out | apply below_alloc | apply pw_below_drewN | apply below_drew1) | exact HB.out)) | (repeat (first | exact HSH.out | (with_reducible refine SH.drewN ?_ _) | (with_reducible refine SH.drew ?_) | (with_reducible refine SH.alloc ?_ _)))); rintro e w' ⟨v2, rfl, HO2_, hb⟩; have n0_ := Aside0.mk (below_step (by repeat (first | (with_reducible first | exact HB.out | apply below_alloc | apply pw_below_drewN | apply below_drew1) | exact HB.out)) hb); have m0_ := Aside0.mk (Kd.R_below (by (with_reducible repeat (first | apply Kd.R_alloc | apply Kd.R_drewN | apply Kd.R_drew)); exact HO0.out) hb); have m1_ := Aside0.mk (Kd.R_below (by (with_reducible repeat (first | apply Kd.R_alloc | apply Kd.R_drewN | apply Kd.R_drew)); exact HO1.out) hb); clear HB; have HB := n0_; clear n0_; clear HO0; have HO0 := m0_; clear m0_; clear HO1; have HO1 := m1_; clear m1_; clear hb; have HO2 := Aside0.mk HO2_; clear HO2_)
  obtain ⟨A0, c0, e0, hl0, hC0⟩ := Kd.R_reads HO0.out
  obtain ⟨A1, c1, e1, hl1, hC1⟩ := Kd.R_reads HO1.out
  replace e0 : v0 = .slice A0 4 c0 := e0
  replace e1 : v1 = .slice A1 0 c1 := e1
  subst e0
  subst e1
  obtain ⟨ad, e0, h0⟩ := Kd.at_int hC0 0 (by decide) (by decide)
  subst e0
  obtain ⟨ad1, e1, h1⟩ := Kd.at_int hC0 1 (by decide) (by decide)
  cases e1
  obtain ⟨ad2, e2, h2⟩ := Kd.at_int hC0 2 (by decide) (by decide)
  cases e2
  obtain ⟨ad3, e3, h3⟩ := Kd.at_int hC0 3 (by decide) (by decide)
  cases e3
  replace h0 : w'.cell? ad = some (.int .i64 97) := by have : w'.cell? (ad.add 0) = some (.int .i64 97) := h0; simpa [Addr.add] using this
  replace h1 : w'.cell? { block := ad.block, off := ad.off + 1 } = some (.int .i64 0) := by have : w'.cell? (ad.add 1) = some (.int .i64 0) := h1; simpa [Addr.add] using this
  replace h2 : w'.cell? { block := ad.block, off := ad.off + 2 } = some (.int .i64 1) := by have : w'.cell? (ad.add 2) = some (.int .i64 1) := h2; simpa [Addr.add] using this
  replace h3 : w'.cell? { block := ad.block, off := ad.off + 3 } = some (.int .i64 56) := by have : w'.cell? (ad.add 3) = some (.int .i64 56) := h3; simpa [Addr.add] using this
  clear HO0 HO1 HO2 hC0 hC1 hl0 hl1
  go_upto_region 9 with fail
  clear h0 h1 h2 h3
  go_upto_region 10 with (go_at_call 9; refine (ctok_Class.calls 40 _ _ _ _ _ _ ?side1 NamesV.k0).mono ?_; (case side1 => first | exact SH.below HSH.out (by repeat (first | (with_reducible first | exact HB.out | apply below_alloc | apply pw_below_drewN | apply below_drew1) | exact HB.out)) | (repeat (first | exact HSH.out | (with_reducible refine SH.drewN ?_ _) | (with_reducible refine SH.drew ?_) | (with_reducible refine SH.alloc ?_ _)))); rintro e w' ⟨rfl, hb⟩; have n0_ := Aside0.mk (below_step (by repeat (first | (with_reducible first | exact HB.out | apply below_alloc | apply pw_below_drewN | apply below_drew1) | exact HB.out)) hb); clear HB; have HB := n0_; clear n0_; clear hb)
  obtain ⟨W0, hW0⟩ : ∃ W0, w'.alloc (.cells #[.int .i64 1, .string ⟨#[105, 110, 116]⟩] 23) = W0 := ⟨_, rfl⟩
  have BK0 := Aside0.mk (show W0.heap[w'.heap.size]? = some (.cells #[.int .i64 1, .string ⟨#[105, 110, 116]⟩] 23) by rw [← hW0]; exact blk_new _ _)
  have HB' := Aside0.mk (show Below w.heap.size w W0 by rw [← hW0]; exact by repeat (first | (with_reducible first | exact HB.out | apply below_alloc | apply pw_below_drewN | apply below_drew1) | exact HB.out))
  clear HB
  have HB := HB'
  clear HB'
  obtain ⟨g0, hg0⟩ : ∃ g0, w'.heap.size = g0 := ⟨_, rfl⟩
  rw [hW0, hg0]
  rw [hg0] at BK0
  clear hW0 hg0
  go_upto_region 11 with (go_at_call 9; refine (ctok_Class.calls 40 _ _ _ _ _ _ ?side1 NamesV.k1).mono ?_; (case side1 => first | exact SH.below HSH.out (by repeat (first | (with_reducible first | exact HB.out | apply below_alloc | apply pw_below_drewN | apply below_drew1) | exact HB.out)) | (repeat (first | exact HSH.out | (with_reducible refine SH.drewN ?_ _) | (with_reducible refine SH.drew ?_) | (with_reducible refine SH.alloc ?_ _)))); rintro e w' ⟨rfl, hb⟩; have n0_ := Aside0.mk (below_step (by repeat (first | (with_reducible first | exact HB.out | apply below_alloc | apply pw_below_drewN | apply below_drew1) | exact HB.out)) hb); have m0_ := Aside0.mk (blk_below (by (with_reducible repeat (first | refine blk_drewN ?_ _ | refine blk_drew ?_ | refine blk_alloc ?_ _)); exact BK0.out) hb); clear HB; have HB := n0_; clear n0_; clear BK0; have BK0 := m0_; clear m0_; clear hb)
  obtain ⟨W1, hW1⟩ : ∃ W1, w'.alloc (.cells #[.int .i64 2, .string ⟨#[73, 110, 116]⟩] 23) = W1 := ⟨_, rfl⟩
  have BK1 := Aside0.mk (show W1.heap[w'.heap.size]? = some (.cells #[.int .i64 2, .string ⟨#[73, 110, 116]⟩] 23) by rw [← hW1]; exact blk_new _ _)
  have HB' := Aside0.mk (show Below w.heap.size w W1 by rw [← hW1]; exact by repeat (first | (with_reducible first | exact HB.out | apply below_alloc | apply pw_below_drewN | apply below_drew1) | exact HB.out))
  clear HB
  have HB := HB'
  clear HB'
  have b_ := Aside0.mk (show W1.heap[g0]? = some (.cells #[.int .i64 1, .string ⟨#[105, 110, 116]⟩] 23) by rw [← hW1]; exact blk_alloc BK0.out _)
  clear BK0
  have BK0 := b_
  clear b_
  obtain ⟨g1, hg1⟩ : ∃ g1, w'.heap.size = g1 := ⟨_, rfl⟩
  rw [hW1, hg1]
  rw [hg1] at BK1
  clear hW1 hg1
  go_upto_region 12 with (go_at_call 9; refine (ctok_Class.calls 40 _ _ _ _ _ _ ?side1 NamesV.k2).mono ?_; (case side1 => first | exact SH.below HSH.out (by repeat (first | (with_reducible first | exact HB.out | apply below_alloc | apply pw_below_drewN | apply below_drew1) | exact HB.out)) | (repeat (first | exact HSH.out | (with_reducible refine SH.drewN ?_ _) | (with_reducible refine SH.drew ?_) | (with_reducible refine SH.alloc ?_ _)))); rintro e w' ⟨rfl, hb⟩; have n0_ := Aside0.mk (below_step (by repeat (first | (with_reducible first | exact HB.out | apply below_alloc | apply pw_below_drewN | apply below_drew1) | exact HB.out)) hb); have m0_ := Aside0.mk (blk_below (by (with_reducible repeat (first | refine blk_drewN ?_ _ | refine blk_drew ?_ | refine blk_alloc ?_ _)); exact BK0.out) hb); have m1_ := Aside0.mk (blk_below (by (with_reducible repeat (first | refine blk_drewN ?_ _ | refine blk_drew ?_ | refine blk_alloc ?_ _)); exact BK1.out) hb); clear HB; have HB := n0_; clear n0_; clear BK0; have BK0 := m0_; clear m0_; clear BK1; have BK1 := m1_; clear m1_; clear hb)
  obtain ⟨W2, hW2⟩ : ∃ W2, w'.alloc (.cells #[.int .i64 0, .string ⟨#[]⟩] 23) = W2 := ⟨_, rfl⟩
  have BK2 := Aside0.mk (show W2.heap[w'.heap.size]? = some (.cells #[.int .i64 0, .string ⟨#[]⟩] 23) by rw [← hW2]; exact blk_new _ _)
  have HB' := Aside0.mk (show Below w.heap.size w W2 by rw [← hW2]; exact by repeat (first | (with_reducible first | exact HB.out | apply below_alloc | apply pw_below_drewN | apply below_drew1) | exact HB.out))
  clear HB
  have HB := HB'
  clear HB'
  have b_ := Aside0.mk (show W2.heap[g0]? = some (.cells #[.int .i64 1, .string ⟨#[105, 110, 116]⟩] 23) by rw [← hW2]; exact blk_alloc BK0.out _)
  clear BK0
  have BK0 := b_
  clear b_
  have b_ := Aside0.mk (show W2.heap[g1]? = some (.cells #[.int .i64 2, .string ⟨#[73, 110, 116]⟩] 23) by rw [← hW2]; exact blk_alloc BK1.out _)
  clear BK1
  have BK1 := b_
  clear b_
  obtain ⟨g2, hg2⟩ : ∃ g2, w'.heap.size = g2 := ⟨_, rfl⟩
  rw [hW2, hg2]
  rw [hg2] at BK2
  clear hW2 hg2
  go_upto_region 13 with (first | ((with_reducible refine gate_dst (N := 212) rfl ?_); refine Kd.R_lit k44 _ 44 ?hg (N := 212) ?hd (xs := ([(⟨1, (⟨#[97]⟩ : ByteArray), 0, 0, false⟩ : S44), (⟨8, (⟨#[]⟩ : ByteArray), 0, 0, false⟩ : S44), (⟨6, (⟨#[64]⟩ : ByteArray), 0, 0, false⟩ : S44)] : List (S44))) (inner := [.int .i64 1, .string (⟨#[97]⟩ : ByteArray), .int .i64 0, .int .i64 0, .bool false, .int .i64 8, .string (⟨#[]⟩ : ByteArray), .int .i64 0, .int .i64 0, .bool false, .int .i64 6, .string (⟨#[64]⟩ : ByteArray), .int .i64 0, .int .i64 0, .bool false]) (ok := fun _ => True) (okp := fun _ => True) ?hr ?hp (fun _ hk => hk) trivial (Below.refl _ _) (Nat.le_refl _) (by simp) ?_; (case hd => rfl); (case hg => rfl); (case hr => first | (go_simp; done) | (go_simp; rfl)); (case hp => exact (Reps.c5 (show Kd.M k44 _ _ _ (⟨1, (⟨#[97]⟩ : ByteArray), 0, 0, false⟩ : S44) [.int .i64 1, .string (⟨#[97]⟩ : ByteArray), .int .i64 0, .int .i64 0, .bool false] from (k44_mkM _ _ _ (⟨1, (⟨#[97]⟩ : ByteArray), 0, 0, false⟩ : S44))) (Reps.c5 (show Kd.M k44 _ _ _ (⟨8, (⟨#[]⟩ : ByteArray), 0, 0, false⟩ : S44) [.int .i64 8, .string (⟨#[]⟩ : ByteArray), .int .i64 0, .int .i64 0, .bool false] from (k44_mkM _ _ _ (⟨8, (⟨#[]⟩ : ByteArray), 0, 0, false⟩ : S44))) (Reps.c5 (show Kd.M k44 _ _ _ (⟨6, (⟨#[64]⟩ : ByteArray), 0, 0, false⟩ : S44) [.int .i64 6, .string (⟨#[64]⟩ : ByteArray), .int .i64 0, .int .i64 0, .bool false] from (k44_mkM _ _ _ (⟨6, (⟨#[64]⟩ : ByteArray), 0, 0, false⟩ : S44))) (Reps.none _ _))))); intro v3 w3 ho hb hg_ hnew_; clear hg_ hnew_; have n0_ := Aside0.mk (below_step (by repeat (first | (with_reducible first | exact HB.out | apply below_alloc | apply pw_below_drewN | apply below_drew1) | exact HB.out)) hb); have m0_ := Aside0.mk (blk_below BK0.out hb); have m1_ := Aside0.mk (blk_below BK1.out hb); have m2_ := Aside0.mk (blk_below BK2.out hb); clear HB; have HB := n0_; clear n0_; clear BK0; have BK0 := m0_; clear m0_; clear BK1; have BK1 := m1_; clear m1_; clear BK2; have BK2 := m2_; clear m2_; clear hb; obtain ⟨Ao, co, eo, hlo, hCo⟩ := Kd.R_reads ho; clear ho; subst eo) | (go_at_call 22; refine (ctok_Tokens.calls 40 _ _ [(⟨1, (⟨#[97]⟩ : ByteArray), 0, 0, false⟩ : S44), (⟨8, (⟨#[]⟩ : ByteArray), 0, 0, false⟩ : S44), (⟨6, (⟨#[64]⟩ : ByteArray), 0, 0, false⟩ : S44)] [] 1 40 _ hCo hlo ?side1 NamesV.t0).mono ?_; (case side1 => first | exact SH.below HSH.out (by repeat (first | (with_reducible first | exact HB.out | apply below_alloc | apply pw_below_drewN | apply below_drew1) | exact HB.out)) | (repeat (first | exact HSH.out | (with_reducible refine SH.drewN ?_ _) | (with_reducible refine SH.drew ?_) | (with_reducible refine SH.alloc ?_ _)))); rintro e w' ⟨v4, rfl, ho4, hb⟩; have n0_ := Aside0.mk (below_step (by repeat (first | (with_reducible first | exact HB.out | apply below_alloc | apply pw_below_drewN | apply below_drew1) | exact HB.out)) hb); have m0_ := Aside0.mk (blk_below (by (with_reducible repeat (first | refine blk_drewN ?_ _ | refine blk_drew ?_ | refine blk_alloc ?_ _)); exact BK0.out) hb); have m1_ := Aside0.mk (blk_below (by (with_reducible repeat (first | refine blk_drewN ?_ _ | refine blk_drew ?_ | refine blk_alloc ?_ _)); exact BK1.out) hb); have m2_ := Aside0.mk (blk_below (by (with_reducible repeat (first | refine blk_drewN ?_ _ | refine blk_drew ?_ | refine blk_alloc ?_ _)); exact BK2.out) hb); clear HB; have HB := n0_; clear n0_; clear BK0; have BK0 := m0_; clear m0_; clear BK1; have BK1 := m1_; clear m1_; clear BK2; have BK2 := m2_; clear m2_; clear hb))
  have q0 : w'.cell? ⟨g0, 0, none⟩ = some (.int .i64 1) := (blk_cell BK0.out 0).trans rfl
  have q1 : w'.cell? ⟨g1, 0, none⟩ = some (.int .i64 2) := (blk_cell BK1.out 0).trans rfl
  go_upto_region 14 with fail
  clear q0 q1 BK0 BK1 BK2
  go_wp2_with (go_at_call 17; refine (Alive.regletlaw04_alive.calls true _ ?side1 rfl).mono ?_; (case side1 => first | exact SH.below HSH.out (by repeat (first | (with_reducible first | exact HB.out | apply below_alloc | apply pw_below_drewN | apply below_drew1) | exact HB.out)) | (repeat (first | exact HSH.out | (with_reducible refine SH.drewN ?_ _) | (with_reducible refine SH.drew ?_) | (with_reducible refine SH.alloc ?_ _)))); rintro e w' ⟨rfl, hb⟩; have n0_ := Aside0.mk (below_step (by repeat (first | (with_reducible first | exact HB.out | apply below_alloc | apply pw_below_drewN | apply below_drew1) | exact HB.out)) hb); clear HB; have HB := n0_; clear n0_; clear hb)
  go_ret
  exact ⟨rfl, HB.out⟩
end Go.Proofs.YtcdleippdegibaaDoor.NamesW
namespace Go.Proofs.YtcdleippdegibaaDoor.ctokNames
open Go.ChangeShapes Go.WideShapes Go.ChangeAt Go.RowKit Go.Proofs.YtcdleippdegibaaDoor.PC Go.Proofs.YtcdleippdegibaaDoor.LibG
open Go.ChangeMaps (open_string shut_string)
theorem own : ownKnob Tryd.prog.godebug = none := by kernel_rfl
theorem sh_of {W : World} (h : W.ShapedOpen Tryd.prog) : SH W :=
  cell_of_shapedOpen_int (zero := #[.int .i64 0]) (t := 3) h (of_decide_eq_true (by kernel_rfl)) (by kernel_rfl) rfl (by kernel_rfl) (by kernel_rfl) Tryd.underlying3
set_option maxRecDepth 100000 in
theorem contract (H : Type) (enc : TypeId × Value → H) (W : World) (base : Nat) (args : Array Value) (ds gs : List (DataW H)) (before : List MemPlace)
    (hval : ∀ (j : Nat) t v, Tryd.f8.params[j]? = some t → args[j]? = some v → Value.okWide Tryd.prog W .any base t v)
    (hW : DataW.Whole enc Tryd.prog Tryd.f8.params.toList Rows.ctokNamesSpec.vars false W args.toList ds gs before) (sh : SH W) :
    Calls Tryd.prog 8 args W fun e W' => ∃ v, e = .returned v ∧ Rows.ctokNamesSpec.post enc Tryd.prog Tryd.f8 false true false false W args v W' := by
  have hW' := hW
  obtain ⟨p, q, hA0, hV, rfl, hfz, hnd⟩ := hW
  have hA : DataW.TrodAll enc Tryd.prog W 0 (fun _ => true) true Tryd.f8.params.toList args.toList ds p := hA0
  rw [Tryd.params8] at hA hval
  obtain ⟨rfl, rfl, rfl⟩ := trodAll_none hA
  obtain ⟨rfl, rfl⟩ := trodVars_none hV
  clear hA0
  refine (NamesW.names_calls W sh).mono fun e W' ⟨he, bel⟩ => ?_
  subst he
  exact ⟨_, rfl, _, _, _, [], _, [], hW', trodAll_mk1 (shut_bool Tryd.underlying4 _), trodAll_mk0, rfl, bel.frame _, fun h => by cases h⟩
def putObj (vs : Array Value) : Obj → Obj
  | .cells _ t frozen => .cells vs t frozen
  | o => o
noncomputable def laidWorld (os : Os) : World :=
  { World.holding Tryd.prog os ⟨#[], #[], []⟩ with heap := ((World.holding Tryd.prog os ⟨#[], #[], []⟩).heap.modify 1 (putObj (Pinned.utf8FirstZ.map fun n : Nat => Value.int .u8 (n : Int)).toArray)).modify 2 (putObj (([128, 191, 160, 191, 128, 159, 144, 191, 128, 143, 0, 0, 0, 0, 0, 0, 0, 0, 0, 0, 0, 0, 0, 0, 0, 0, 0, 0, 0, 0, 0, 0] : List Nat).map fun n : Nat => Value.int .u8 (n : Int)).toArray) }
theorem laid_met (os : Os) : laidMet Tryd.prog Rows.ctokNamesRow.laid ((laidWorld os).forCall (fun _ _ => 0) ⟨#[], #[], []⟩).memory :=
  laidMet_of_run' 8 (by kernel_rfl) (by kernel_rfl)
theorem reads (os : Os) {H : Type} (enc : TypeId × Value → H) : ∃ places, DataW.whole enc Tryd.prog ((laidWorld os).forCall (fun _ _ => 0) ⟨#[], #[], []⟩).memory Tryd.f8.params.toList Rows.ctokNamesSpec.vars false (#[] : Array Value).toList 8 = some ([], [], places) :=
  ⟨[], by kernel_rfl⟩
set_option maxRecDepth 100000 in
theorem lifted (os : Os) (started : os.Started) (H : Type) (enc : TypeId × Value → H) (F : Stop.Interp) :
    ReturnsInHanded {} Tryd.checked os 8 .any ((OpenSpec.ofChange Rows.ctokNamesSpec).preRow enc Tryd.prog Tryd.f8 Rows.ctokNamesRow.domain false Rows.ctokNamesRow.laid) (((OpenSpec.ofChange Rows.ctokNamesSpec).at F).post enc Tryd.prog Tryd.f8 false true false false) := by
  obtain ⟨places, hx⟩ := reads os enc
  refine returnsInHanded_of_row (C := Tryd.checked) (s := OpenSpec.ofChange Rows.ctokNamesSpec) own started (by kernel_rfl) Tryd.func8
    (witness_row_at (enc := enc) (C := Tryd.checked) false (laidWorld os) #[] rfl (by kernel_rfl) (by kernel_rfl) (by kernel_rfl)
      (OpenSpec.preRow_of_cond 8 hx (by kernel_rfl) (fun k hk => by cases hk) (by kernel_rfl) (laid_met os))) ?_
  intro W base args ds gs before hval hW _ hcond _ hL hso _
  exact contract H enc W base args ds gs before hval hW (sh_of hso)
theorem said : Rows.CtokNamesSaid :=
  OpenClaim.holds_of_cond 8 Tryd.f8 rfl rfl rfl rfl rfl rfl rfl ⟨rfl, rfl, rfl, rfl, rfl⟩ rfl rfl rfl rfl rfl (by kernel_rfl) Tryd.func8 (by kernel_rfl)
    (of_decide_eq_true (by kernel_rfl)) (by unfold Func.isWrapper; first | (rw [if_pos (by decide +kernel)]; kernel_rfl) | (rw [if_neg (by decide +kernel)]; exact ⟨rfl, rfl⟩))
    (fun os started H enc _ F => by rw [OpenClaim.pre_eq_preRow]; exact lifted os started H enc F)
theorem plain (f : FuncId) (fn : Func) (hf : Tryd.pinned.checked.prog.funcNamed "reglet/regletlaw04.CtokNames" = some f) (hfn : Tryd.pinned.checked.prog.funcs[f]? = some fn) :
    false = Tryd.pinned.checked.prog.looks [] ∧ ∀ (j : Nat) t, fn.params[j]? = some t → Tryd.pinned.checked.prog.wantsStandIn t = false := by
  obtain rfl : f = 8 := Option.some.inj ((show Tryd.prog.funcNamed "reglet/regletlaw04.CtokNames" = some 8 by kernel_rfl).symm.trans hf) |>.symm
  obtain rfl : fn = Tryd.f8 := (Option.some.inj (Tryd.func8.symm.trans hfn)).symm
  refine ⟨by kernel_rfl, fun j t ht => ?_⟩
  rw [Tryd.params8] at ht
  simp at ht
end Go.Proofs.YtcdleippdegibaaDoor.ctokNames
namespace Go.Proofs.YtcdleippdegibaaDoor
theorem ctokNames_holds : Rows.CtokNamesCardSaid :=
  Claim7.holds_tied_plain_at .later [] _ _ _ _ ctokNames.said (fun _ h => by cases h) (by kernel_rfl) (fun _ h => by cases h) ctokNames_row_tie rfl ⟨rfl, rfl⟩ (by kernel_rfl) rfl ctokNames.plain (by kernel_rfl)
#print axioms ctokNames_holds
end Go.Proofs.YtcdleippdegibaaDoor
