/-
  NARROWER THAN 'FOR EVERY INPUT', by the rows' own cells (each row's printed sentence says how): CtokClasses: laid · CtokBack: laid · CtokOne: laid · CtokBytes: laid · CtokTokens: laid · CtokNames: laid.
  DERIVED. THE GIVEN ROWS OF THIS SEAT. 6 by the template 'for every input the law returns true; each argument reads behind the call as it read before'; 0 by the template 'total and deterministic' (their statements: YtcdleippdegibaaDoorTotals.lean).
  GIVEN WITH THE SEED: the statements are not yours to turn. If you find one false, say at which input.
  Laid BY PROGRAM, IN A SANDBOX (cutbox-rows.mjs): the forced cells as the released guide's own fill.sh prints them over the translation 24ec87dd66595565… (all of the seat's roots in one cut). By AI agents, Wed Nov 11 2026. No macro, syntax, notation, axiom, sorry.
-/
import Derived.Test.YtcdleippdegibaaDoorChecked
import GoSem.PinnedTables
import GoSem.Claim
import GoSem.ClaimJoined
import GoSem.ClaimMapViews
import Derived.JoinedTies
import Derived.KernelRfl
namespace Go.Proofs.YtcdleippdegibaaDoor
/- THE CELL 'sum', in the pinned program and in every row, IS THE sha256 OF THE DUMP (.gsa) THAT YtcdleippdegibaaDoorProg.lean LOADS. Nothing in Lean hashes anything: it is a label: what it is worth is what the hold of that sum in a sandbox is worth. -/
noncomputable def Tryd.pinned : Pinned := { name := "ytcdleippdegibaadoor", sum := "24ec87dd665955658fc2c5ad6349bf5521b54edf613beb2fd7c33daefc35f150", checked := Tryd.checked }
namespace Rows
def none {H : Type} : Left H := { results := [], args := [] }

/- WHAT THE LISTED PACKAGE-LEVEL VARIABLES READ AS WHEN THE CALL BEGINS. Each datum BY PROGRAM (the guide's laid-datum.mjs) off the statement by which the dump's own 'gosem.cut.vars' lays the variable. In a bare row this is a premise. The card (YtcdleippdegibaaDoorCards.lean) ties it to the program's text. -/
def laid_unicode_utf8_acceptRanges {H : Type} : DataW H := .agg [.agg [.lit (.int .u8 128), .lit (.int .u8 191)], .agg [.lit (.int .u8 160), .lit (.int .u8 191)], .agg [.lit (.int .u8 128), .lit (.int .u8 159)], .agg [.lit (.int .u8 144), .lit (.int .u8 191)], .agg [.lit (.int .u8 128), .lit (.int .u8 143)], .agg [.lit (.int .u8 0), .lit (.int .u8 0)], .agg [.lit (.int .u8 0), .lit (.int .u8 0)], .agg [.lit (.int .u8 0), .lit (.int .u8 0)], .agg [.lit (.int .u8 0), .lit (.int .u8 0)], .agg [.lit (.int .u8 0), .lit (.int .u8 0)], .agg [.lit (.int .u8 0), .lit (.int .u8 0)], .agg [.lit (.int .u8 0), .lit (.int .u8 0)], .agg [.lit (.int .u8 0), .lit (.int .u8 0)], .agg [.lit (.int .u8 0), .lit (.int .u8 0)], .agg [.lit (.int .u8 0), .lit (.int .u8 0)], .agg [.lit (.int .u8 0), .lit (.int .u8 0)]]
/-- One of Go's own tables, pinned by name: the form's constant. -/
def laid_unicode_utf8_first : DataW Unit := Go.Pinned.utf8First

/-- 'regletlaw04.CtokClasses': WHATEVER THE INPUT: true; the input reads as it did. -/
def ctokClassesSpec : ChangeSpec := { name := "ctokClasses", fn := fun _ => fun
  | [d1, d2] => { results := [.lit (.bool true)], args := [d1, d2] }
  | _ => none }
def ctokClassesRow : OpenClaim := { program := "ytcdleippdegibaadoor", sum := "24ec87dd665955658fc2c5ad6349bf5521b54edf613beb2fd7c33daefc35f150", func := "reglet/regletlaw04.CtokClasses", spec := "ctokClasses", inPlace := ["internal/bytealg.IndexByteString", "internal/bytealg.CountString", "internal/bytealg.IndexString", "internal/abi.NoEscape", "internal/bytealg.MakeNoZero"], unfollowed := true, recurses := true, named := ["internal/bytealg.MaxLen", "unicode/utf8.first", "unicode/utf8.acceptRanges"], apart := false, laid := [("unicode/utf8.acceptRanges", laid_unicode_utf8_acceptRanges), ("unicode/utf8.first", laid_unicode_utf8_first)] }
def CtokClassesSaid : Prop := ctokClassesRow.holds Tryd.pinned (OpenSpec.ofChange ctokClassesSpec)

/-- ITS FALSE NEIGHBOUR: 'it returns false'. Refute it at one input. -/
def ctokClassesWrong : ChangeSpec := { name := "ctokClasses", fn := fun _ => fun
  | [d1, d2] => { results := [.lit (.bool false)], args := [d1, d2] }
  | _ => none }
def CtokClassesWrongFalsely : Prop := ctokClassesRow.holds Tryd.pinned (OpenSpec.ofChange ctokClassesWrong)

/-- 'regletlaw04.CtokBack': WHATEVER THE INPUT: true; the input reads as it did. -/
def ctokBackSpec : ChangeSpec := { name := "ctokBack", fn := fun _ => fun
  | [d] => { results := [.lit (.bool true)], args := [d] }
  | _ => none }
def ctokBackRow : OpenClaim := { program := "ytcdleippdegibaadoor", sum := "24ec87dd665955658fc2c5ad6349bf5521b54edf613beb2fd7c33daefc35f150", func := "reglet/regletlaw04.CtokBack", spec := "ctokBack", inPlace := ["internal/bytealg.IndexByteString", "internal/bytealg.CountString", "internal/bytealg.IndexString", "internal/abi.NoEscape", "internal/bytealg.MakeNoZero"], unfollowed := true, recurses := true, named := ["internal/bytealg.MaxLen", "unicode/utf8.first", "unicode/utf8.acceptRanges"], apart := false, laid := [("unicode/utf8.acceptRanges", laid_unicode_utf8_acceptRanges), ("unicode/utf8.first", laid_unicode_utf8_first)] }
def CtokBackSaid : Prop := ctokBackRow.holds Tryd.pinned (OpenSpec.ofChange ctokBackSpec)

/-- ITS FALSE NEIGHBOUR: 'it returns false'. Refute it at one input. -/
def ctokBackWrong : ChangeSpec := { name := "ctokBack", fn := fun _ => fun
  | [d] => { results := [.lit (.bool false)], args := [d] }
  | _ => none }
def CtokBackWrongFalsely : Prop := ctokBackRow.holds Tryd.pinned (OpenSpec.ofChange ctokBackWrong)

/-- 'regletlaw04.CtokOne': WHATEVER THE INPUT: true; the input reads as it did. -/
def ctokOneSpec : ChangeSpec := { name := "ctokOne", fn := fun _ => fun
  | [d] => { results := [.lit (.bool true)], args := [d] }
  | _ => none }
def ctokOneRow : OpenClaim := { program := "ytcdleippdegibaadoor", sum := "24ec87dd665955658fc2c5ad6349bf5521b54edf613beb2fd7c33daefc35f150", func := "reglet/regletlaw04.CtokOne", spec := "ctokOne", inPlace := ["internal/bytealg.IndexByteString", "internal/bytealg.CountString", "internal/bytealg.IndexString", "internal/abi.NoEscape", "internal/bytealg.MakeNoZero"], unfollowed := true, recurses := true, named := ["internal/bytealg.MaxLen", "unicode/utf8.first", "unicode/utf8.acceptRanges"], apart := false, laid := [("unicode/utf8.acceptRanges", laid_unicode_utf8_acceptRanges), ("unicode/utf8.first", laid_unicode_utf8_first)] }
def CtokOneSaid : Prop := ctokOneRow.holds Tryd.pinned (OpenSpec.ofChange ctokOneSpec)

/-- ITS FALSE NEIGHBOUR: 'it returns false'. Refute it at one input. -/
def ctokOneWrong : ChangeSpec := { name := "ctokOne", fn := fun _ => fun
  | [d] => { results := [.lit (.bool false)], args := [d] }
  | _ => none }
def CtokOneWrongFalsely : Prop := ctokOneRow.holds Tryd.pinned (OpenSpec.ofChange ctokOneWrong)

/-- 'regletlaw04.CtokBytes': WHATEVER THE INPUT: true; the input reads as it did. -/
def ctokBytesSpec : ChangeSpec := { name := "ctokBytes", fn := fun _ => fun
  | [d] => { results := [.lit (.bool true)], args := [d] }
  | _ => none }
def ctokBytesRow : OpenClaim := { program := "ytcdleippdegibaadoor", sum := "24ec87dd665955658fc2c5ad6349bf5521b54edf613beb2fd7c33daefc35f150", func := "reglet/regletlaw04.CtokBytes", spec := "ctokBytes", inPlace := ["internal/bytealg.IndexByteString", "internal/bytealg.CountString", "internal/bytealg.IndexString", "internal/abi.NoEscape", "internal/bytealg.MakeNoZero"], unfollowed := true, recurses := true, named := ["internal/bytealg.MaxLen", "unicode/utf8.first", "unicode/utf8.acceptRanges"], apart := false, laid := [("unicode/utf8.acceptRanges", laid_unicode_utf8_acceptRanges), ("unicode/utf8.first", laid_unicode_utf8_first)] }
def CtokBytesSaid : Prop := ctokBytesRow.holds Tryd.pinned (OpenSpec.ofChange ctokBytesSpec)

/-- ITS FALSE NEIGHBOUR: 'it returns false'. Refute it at one input. -/
def ctokBytesWrong : ChangeSpec := { name := "ctokBytes", fn := fun _ => fun
  | [d] => { results := [.lit (.bool false)], args := [d] }
  | _ => none }
def CtokBytesWrongFalsely : Prop := ctokBytesRow.holds Tryd.pinned (OpenSpec.ofChange ctokBytesWrong)

/-- 'regletlaw04.CtokTokens': WHATEVER THE INPUT: true; the input reads as it did. -/
def ctokTokensSpec : ChangeSpec := { name := "ctokTokens", fn := fun _ => fun
  | [d] => { results := [.lit (.bool true)], args := [d] }
  | _ => none }
def ctokTokensRow : OpenClaim := { program := "ytcdleippdegibaadoor", sum := "24ec87dd665955658fc2c5ad6349bf5521b54edf613beb2fd7c33daefc35f150", func := "reglet/regletlaw04.CtokTokens", spec := "ctokTokens", inPlace := ["internal/bytealg.IndexByteString", "internal/bytealg.CountString", "internal/bytealg.IndexString", "internal/abi.NoEscape", "internal/bytealg.MakeNoZero"], unfollowed := true, recurses := true, named := ["internal/bytealg.MaxLen", "unicode/utf8.first", "unicode/utf8.acceptRanges"], apart := false, laid := [("unicode/utf8.acceptRanges", laid_unicode_utf8_acceptRanges), ("unicode/utf8.first", laid_unicode_utf8_first)] }
def CtokTokensSaid : Prop := ctokTokensRow.holds Tryd.pinned (OpenSpec.ofChange ctokTokensSpec)

/-- ITS FALSE NEIGHBOUR: 'it returns false'. Refute it at one input. -/
def ctokTokensWrong : ChangeSpec := { name := "ctokTokens", fn := fun _ => fun
  | [d] => { results := [.lit (.bool false)], args := [d] }
  | _ => none }
def CtokTokensWrongFalsely : Prop := ctokTokensRow.holds Tryd.pinned (OpenSpec.ofChange ctokTokensWrong)

/-- 'regletlaw04.CtokNames': WHATEVER THE INPUT: true; the input reads as it did. -/
def ctokNamesSpec : ChangeSpec := { name := "ctokNames", fn := fun _ => fun
  | [] => { results := [.lit (.bool true)], args := [] }
  | _ => none }
def ctokNamesRow : OpenClaim := { program := "ytcdleippdegibaadoor", sum := "24ec87dd665955658fc2c5ad6349bf5521b54edf613beb2fd7c33daefc35f150", func := "reglet/regletlaw04.CtokNames", spec := "ctokNames", inPlace := ["internal/bytealg.IndexByteString", "internal/bytealg.CountString", "internal/bytealg.IndexString", "internal/abi.NoEscape", "internal/bytealg.MakeNoZero"], unfollowed := true, recurses := true, named := ["internal/bytealg.MaxLen", "unicode/utf8.first", "unicode/utf8.acceptRanges"], apart := false, laid := [("unicode/utf8.acceptRanges", laid_unicode_utf8_acceptRanges), ("unicode/utf8.first", laid_unicode_utf8_first)] }
def CtokNamesSaid : Prop := ctokNamesRow.holds Tryd.pinned (OpenSpec.ofChange ctokNamesSpec)

/-- ITS FALSE NEIGHBOUR: 'it returns false'. Refute it at one input. -/
def ctokNamesWrong : ChangeSpec := { name := "ctokNames", fn := fun _ => fun
  | [] => { results := [.lit (.bool false)], args := [] }
  | _ => none }
def CtokNamesWrongFalsely : Prop := ctokNamesRow.holds Tryd.pinned (OpenSpec.ofChange ctokNamesWrong)

/- THE SECOND FORM. 'bulk': how many values and letters a reading holds, each counted each time it is reached (what is shared counts as often as it is met; a slice's spare places count too). A statement '..UptoSaid' is the law's where the arguments, and the package variables that the reading takes, are together of bulk at most 1048576: NARROWER than '..Said'. Prove '..Said' where nothing that the law and all that it calls make is longer than what came in: it says more and counts as full. Else prove '..UptoSaid'. A law counts once. -/
mutual
def uptoBulk {H : Type} : DataW H → Nat
  | .lit (.string bytes) => bytes.length + 1
  | .lit _ => 1
  | .nil => 1
  | .ptr d => uptoBulk d + 1
  | .slice elems spare => uptoBulkAll elems + uptoBulkAll spare + 1
  | .agg parts => uptoBulkAll parts + 1
  | .iface _ d => uptoBulk d + 1
  | .map entries => uptoBulkEntries entries + 1
  | .held _ => 1
def uptoBulkAll {H : Type} : List (DataW H) → Nat
  | [] => 0
  | d :: r => uptoBulk d + uptoBulkAll r
def uptoBulkEntries {H : Type} : List (Lit × DataW H) → Nat
  | [] => 0
  | x :: r => uptoBulkEntry x + uptoBulkEntries r
def uptoBulkEntry {H : Type} : Lit × DataW H → Nat
  | (.string bytes, d) => bytes.length + uptoBulk d + 1
  | (_, d) => uptoBulk d + 1
 end
def uptoSmall : (H : Type) → List (DataW H) → Bool := fun _ ds => decide (uptoBulkAll ds ≤ 1048576)
def OpenSpec.upto (s : _root_.Go.ChangeSpec) : _root_.Go.OpenSpec := { _root_.Go.OpenSpec.ofChange s with cond := some uptoSmall }

/-- 'regletlaw04.CtokClasses', WHERE WHAT IT READS IS OF BULK AT MOST 1048576: true; the input reads as it did. -/
def ctokClassesUptoRow : OpenClaim := { program := "ytcdleippdegibaadoor", sum := "24ec87dd665955658fc2c5ad6349bf5521b54edf613beb2fd7c33daefc35f150", func := "reglet/regletlaw04.CtokClasses", spec := "ctokClasses", inPlace := ["internal/bytealg.IndexByteString", "internal/bytealg.CountString", "internal/bytealg.IndexString", "internal/abi.NoEscape", "internal/bytealg.MakeNoZero"], unfollowed := true, recurses := true, named := ["internal/bytealg.MaxLen", "unicode/utf8.first", "unicode/utf8.acceptRanges"], apart := false, laid := [("unicode/utf8.acceptRanges", laid_unicode_utf8_acceptRanges), ("unicode/utf8.first", laid_unicode_utf8_first)], narrowed := true }
def CtokClassesUptoSaid : Prop := ctokClassesUptoRow.holds Tryd.pinned (OpenSpec.upto ctokClassesSpec)

/-- 'regletlaw04.CtokBack', WHERE WHAT IT READS IS OF BULK AT MOST 1048576: true; the input reads as it did. -/
def ctokBackUptoRow : OpenClaim := { program := "ytcdleippdegibaadoor", sum := "24ec87dd665955658fc2c5ad6349bf5521b54edf613beb2fd7c33daefc35f150", func := "reglet/regletlaw04.CtokBack", spec := "ctokBack", inPlace := ["internal/bytealg.IndexByteString", "internal/bytealg.CountString", "internal/bytealg.IndexString", "internal/abi.NoEscape", "internal/bytealg.MakeNoZero"], unfollowed := true, recurses := true, named := ["internal/bytealg.MaxLen", "unicode/utf8.first", "unicode/utf8.acceptRanges"], apart := false, laid := [("unicode/utf8.acceptRanges", laid_unicode_utf8_acceptRanges), ("unicode/utf8.first", laid_unicode_utf8_first)], narrowed := true }
def CtokBackUptoSaid : Prop := ctokBackUptoRow.holds Tryd.pinned (OpenSpec.upto ctokBackSpec)

/-- 'regletlaw04.CtokOne', WHERE WHAT IT READS IS OF BULK AT MOST 1048576: true; the input reads as it did. -/
def ctokOneUptoRow : OpenClaim := { program := "ytcdleippdegibaadoor", sum := "24ec87dd665955658fc2c5ad6349bf5521b54edf613beb2fd7c33daefc35f150", func := "reglet/regletlaw04.CtokOne", spec := "ctokOne", inPlace := ["internal/bytealg.IndexByteString", "internal/bytealg.CountString", "internal/bytealg.IndexString", "internal/abi.NoEscape", "internal/bytealg.MakeNoZero"], unfollowed := true, recurses := true, named := ["internal/bytealg.MaxLen", "unicode/utf8.first", "unicode/utf8.acceptRanges"], apart := false, laid := [("unicode/utf8.acceptRanges", laid_unicode_utf8_acceptRanges), ("unicode/utf8.first", laid_unicode_utf8_first)], narrowed := true }
def CtokOneUptoSaid : Prop := ctokOneUptoRow.holds Tryd.pinned (OpenSpec.upto ctokOneSpec)

/-- 'regletlaw04.CtokBytes', WHERE WHAT IT READS IS OF BULK AT MOST 1048576: true; the input reads as it did. -/
def ctokBytesUptoRow : OpenClaim := { program := "ytcdleippdegibaadoor", sum := "24ec87dd665955658fc2c5ad6349bf5521b54edf613beb2fd7c33daefc35f150", func := "reglet/regletlaw04.CtokBytes", spec := "ctokBytes", inPlace := ["internal/bytealg.IndexByteString", "internal/bytealg.CountString", "internal/bytealg.IndexString", "internal/abi.NoEscape", "internal/bytealg.MakeNoZero"], unfollowed := true, recurses := true, named := ["internal/bytealg.MaxLen", "unicode/utf8.first", "unicode/utf8.acceptRanges"], apart := false, laid := [("unicode/utf8.acceptRanges", laid_unicode_utf8_acceptRanges), ("unicode/utf8.first", laid_unicode_utf8_first)], narrowed := true }
def CtokBytesUptoSaid : Prop := ctokBytesUptoRow.holds Tryd.pinned (OpenSpec.upto ctokBytesSpec)

/-- 'regletlaw04.CtokTokens', WHERE WHAT IT READS IS OF BULK AT MOST 1048576: true; the input reads as it did. -/
def ctokTokensUptoRow : OpenClaim := { program := "ytcdleippdegibaadoor", sum := "24ec87dd665955658fc2c5ad6349bf5521b54edf613beb2fd7c33daefc35f150", func := "reglet/regletlaw04.CtokTokens", spec := "ctokTokens", inPlace := ["internal/bytealg.IndexByteString", "internal/bytealg.CountString", "internal/bytealg.IndexString", "internal/abi.NoEscape", "internal/bytealg.MakeNoZero"], unfollowed := true, recurses := true, named := ["internal/bytealg.MaxLen", "unicode/utf8.first", "unicode/utf8.acceptRanges"], apart := false, laid := [("unicode/utf8.acceptRanges", laid_unicode_utf8_acceptRanges), ("unicode/utf8.first", laid_unicode_utf8_first)], narrowed := true }
def CtokTokensUptoSaid : Prop := ctokTokensUptoRow.holds Tryd.pinned (OpenSpec.upto ctokTokensSpec)

/-- 'regletlaw04.CtokNames', WHERE WHAT IT READS IS OF BULK AT MOST 1048576: true; the input reads as it did. -/
def ctokNamesUptoRow : OpenClaim := { program := "ytcdleippdegibaadoor", sum := "24ec87dd665955658fc2c5ad6349bf5521b54edf613beb2fd7c33daefc35f150", func := "reglet/regletlaw04.CtokNames", spec := "ctokNames", inPlace := ["internal/bytealg.IndexByteString", "internal/bytealg.CountString", "internal/bytealg.IndexString", "internal/abi.NoEscape", "internal/bytealg.MakeNoZero"], unfollowed := true, recurses := true, named := ["internal/bytealg.MaxLen", "unicode/utf8.first", "unicode/utf8.acceptRanges"], apart := false, laid := [("unicode/utf8.acceptRanges", laid_unicode_utf8_acceptRanges), ("unicode/utf8.first", laid_unicode_utf8_first)], narrowed := true }
def CtokNamesUptoSaid : Prop := ctokNamesUptoRow.holds Tryd.pinned (OpenSpec.upto ctokNamesSpec)

end Rows
end Go.Proofs.YtcdleippdegibaaDoor
