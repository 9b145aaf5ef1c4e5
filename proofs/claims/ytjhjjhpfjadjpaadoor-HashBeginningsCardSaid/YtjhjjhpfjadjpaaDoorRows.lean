/-
  NARROWER THAN 'FOR EVERY INPUT', by the rows' own cells (each row's printed sentence says how): CurveAgrees: laid · CurveMeets: laid · CurvePoints: laid · HashPieces: laid · HashSums: laid · HashKeyed: laid · HashBeginnings: laid · HashExpands: laid.
  DERIVED. THE GIVEN ROWS OF THIS SEAT. 8 by the template 'for every input the law returns true; each argument reads behind the call as it read before'; 0 by the template 'total and deterministic' (their statements: YtjhjjhpfjadjpaaDoorTotals.lean).
  GIVEN WITH THE SEED: the statements are not yours to turn. If you find one false, say at which input.
  Laid BY PROGRAM, IN A SANDBOX (cutbox-rows.mjs): the forced cells as the released guide's own fill.sh prints them over the translation a5ef5b001219c27f… (all of the seat's roots in one cut). By AI agents, Wed Nov 11 2026. No macro, syntax, notation, axiom, sorry.
-/
import Derived.Test.YtjhjjhpfjadjpaaDoorChecked
import GoSem.Claim
import GoSem.ClaimJoined
import GoSem.ClaimMapViews
import Derived.JoinedTies
import Derived.KernelRfl
namespace Go.Proofs.YtjhjjhpfjadjpaaDoor
/- THE CELL 'sum', in the pinned program and in every row, IS THE sha256 OF THE DUMP (.gsa) THAT YtjhjjhpfjadjpaaDoorProg.lean LOADS. Nothing in Lean hashes anything: it is a label: what it is worth is what the hold of that sum in a sandbox is worth. -/
noncomputable def Tryd.pinned : Pinned := { name := "ytjhjjhpfjadjpaadoor", sum := "a5ef5b001219c27f408006eb956fe114c7c31e230fc758d65749384ab626d22a", checked := Tryd.checked }
namespace Rows
def none {H : Type} : Left H := { results := [], args := [] }

/- WHAT THE LISTED PACKAGE-LEVEL VARIABLES READ AS WHEN THE CALL BEGINS. Each datum BY PROGRAM (the guide's laid-datum.mjs) off the statement by which the dump's own 'gosem.cut.vars' lays the variable. In a bare row this is a premise. The card (YtjhjjhpfjadjpaaDoorCards.lean) ties it to the program's text. -/
def laid_securelink_mont_moduli {H : Type} : DataW H := .agg [.agg [.agg [.lit (.int .u64 18446744073709551597), .lit (.int .u64 18446744073709551615), .lit (.int .u64 18446744073709551615), .lit (.int .u64 9223372036854775807)], .lit (.int .u64 9708812670373448219), .agg [.lit (.int .u64 38), .lit (.int .u64 0), .lit (.int .u64 0), .lit (.int .u64 0)], .agg [.lit (.int .u64 1444), .lit (.int .u64 0), .lit (.int .u64 0), .lit (.int .u64 0)]], .agg [.agg [.lit (.int .u64 6346243789798364141), .lit (.int .u64 1503914060200516822), .lit (.int .u64 0), .lit (.int .u64 1152921504606846976)], .lit (.int .u64 15183074304973897243), .agg [.lit (.int .u64 15486807595281847581), .lit (.int .u64 14334777244411350896), .lit (.int .u64 18446744073709551614), .lit (.int .u64 1152921504606846975)], .agg [.lit (.int .u64 11819153939886771969), .lit (.int .u64 14991950615390032711), .lit (.int .u64 14910419812499177061), .lit (.int .u64 259310039853996605)]], .agg [.agg [.lit (.int .u64 18446744073709551615), .lit (.int .u64 4294967295), .lit (.int .u64 0), .lit (.int .u64 18446744069414584321)], .lit (.int .u64 1), .agg [.lit (.int .u64 1), .lit (.int .u64 18446744069414584320), .lit (.int .u64 18446744073709551615), .lit (.int .u64 4294967294)], .agg [.lit (.int .u64 3), .lit (.int .u64 18446744056529682431), .lit (.int .u64 18446744073709551614), .lit (.int .u64 21474836477)]], .agg [.agg [.lit (.int .u64 17562291160714782033), .lit (.int .u64 13611842547513532036), .lit (.int .u64 18446744073709551615), .lit (.int .u64 18446744069414584320)], .lit (.int .u64 14758798090332847183), .agg [.lit (.int .u64 884452912994769583), .lit (.int .u64 4834901526196019579), .lit (.int .u64 0), .lit (.int .u64 4294967295)], .agg [.lit (.int .u64 9449762124159643298), .lit (.int .u64 5087230966250696614), .lit (.int .u64 2901921493521525849), .lit (.int .u64 7413256579398063648)]]]
def laid_securelink_hash_first256 {H : Type} : DataW H := .agg [.lit (.int .u32 1779033703), .lit (.int .u32 3144134277), .lit (.int .u32 1013904242), .lit (.int .u32 2773480762), .lit (.int .u32 1359893119), .lit (.int .u32 2600822924), .lit (.int .u32 528734635), .lit (.int .u32 1541459225)]
def laid_securelink_hash_first384 {H : Type} : DataW H := .agg [.lit (.int .u64 14680500436340154072), .lit (.int .u64 7105036623409894663), .lit (.int .u64 10473403895298186519), .lit (.int .u64 1526699215303891257), .lit (.int .u64 7436329637833083697), .lit (.int .u64 10282925794625328401), .lit (.int .u64 15784041429090275239), .lit (.int .u64 5167115440072839076)]
def laid_securelink_hash_first512 {H : Type} : DataW H := .agg [.lit (.int .u64 7640891576956012808), .lit (.int .u64 13503953896175478587), .lit (.int .u64 4354685564936845355), .lit (.int .u64 11912009170470909681), .lit (.int .u64 5840696475078001361), .lit (.int .u64 11170449401992604703), .lit (.int .u64 2270897969802886507), .lit (.int .u64 6620516959819538809)]
def laid_securelink_hash_sizes {H : Type} : DataW H := .agg [.lit (.int .i64 32), .lit (.int .i64 48), .lit (.int .i64 64)]

/-- 'securelinklaw5.CurveAgrees': WHATEVER THE INPUT: true; the input reads as it did. -/
def curveAgreesSpec : ChangeSpec := { name := "curveAgrees", fn := fun _ => fun
  | [d1, d2] => { results := [.lit (.bool true)], args := [d1, d2] }
  | _ => none }
def curveAgreesRow : OpenClaim := { program := "ytjhjjhpfjadjpaadoor", sum := "a5ef5b001219c27f408006eb956fe114c7c31e230fc758d65749384ab626d22a", func := "securelink/securelinklaw5.CurveAgrees", spec := "curveAgrees", inPlace := ["math/bits.Add64", "math/bits.Sub64"], named := ["securelink/mont.moduli"], apart := false, laid := [("securelink/mont.moduli", laid_securelink_mont_moduli)] }
def CurveAgreesSaid : Prop := curveAgreesRow.holds Tryd.pinned (OpenSpec.ofChange curveAgreesSpec)

/-- ITS FALSE NEIGHBOUR: 'it returns false'. Refute it at one input. -/
def curveAgreesWrong : ChangeSpec := { name := "curveAgrees", fn := fun _ => fun
  | [d1, d2] => { results := [.lit (.bool false)], args := [d1, d2] }
  | _ => none }
def CurveAgreesWrongFalsely : Prop := curveAgreesRow.holds Tryd.pinned (OpenSpec.ofChange curveAgreesWrong)

/-- 'securelinklaw5.CurveMeets': WHATEVER THE INPUT: true; the input reads as it did. -/
def curveMeetsSpec : ChangeSpec := { name := "curveMeets", fn := fun _ => fun
  | [d1, d2] => { results := [.lit (.bool true)], args := [d1, d2] }
  | _ => none }
def curveMeetsRow : OpenClaim := { program := "ytjhjjhpfjadjpaadoor", sum := "a5ef5b001219c27f408006eb956fe114c7c31e230fc758d65749384ab626d22a", func := "securelink/securelinklaw5.CurveMeets", spec := "curveMeets", inPlace := ["math/bits.Add64", "math/bits.Sub64"], named := ["securelink/mont.moduli"], apart := false, laid := [("securelink/mont.moduli", laid_securelink_mont_moduli)] }
def CurveMeetsSaid : Prop := curveMeetsRow.holds Tryd.pinned (OpenSpec.ofChange curveMeetsSpec)

/-- ITS FALSE NEIGHBOUR: 'it returns false'. Refute it at one input. -/
def curveMeetsWrong : ChangeSpec := { name := "curveMeets", fn := fun _ => fun
  | [d1, d2] => { results := [.lit (.bool false)], args := [d1, d2] }
  | _ => none }
def CurveMeetsWrongFalsely : Prop := curveMeetsRow.holds Tryd.pinned (OpenSpec.ofChange curveMeetsWrong)

/-- 'securelinklaw5.CurvePoints': WHATEVER THE INPUT: true; the input reads as it did. -/
def curvePointsSpec : ChangeSpec := { name := "curvePoints", fn := fun _ => fun
  | [d1, d2, d3] => { results := [.lit (.bool true)], args := [d1, d2, d3] }
  | _ => none }
def curvePointsRow : OpenClaim := { program := "ytjhjjhpfjadjpaadoor", sum := "a5ef5b001219c27f408006eb956fe114c7c31e230fc758d65749384ab626d22a", func := "securelink/securelinklaw5.CurvePoints", spec := "curvePoints", inPlace := ["math/bits.Add64", "math/bits.Sub64"], named := ["securelink/mont.moduli"], apart := false, laid := [("securelink/mont.moduli", laid_securelink_mont_moduli)] }
def CurvePointsSaid : Prop := curvePointsRow.holds Tryd.pinned (OpenSpec.ofChange curvePointsSpec)

/-- ITS FALSE NEIGHBOUR: 'it returns false'. Refute it at one input. -/
def curvePointsWrong : ChangeSpec := { name := "curvePoints", fn := fun _ => fun
  | [d1, d2, d3] => { results := [.lit (.bool false)], args := [d1, d2, d3] }
  | _ => none }
def CurvePointsWrongFalsely : Prop := curvePointsRow.holds Tryd.pinned (OpenSpec.ofChange curvePointsWrong)

/-- 'securelinklaw1.HashPieces': WHATEVER THE INPUT: true; the input reads as it did. -/
def hashPiecesSpec : ChangeSpec := { name := "hashPieces", fn := fun _ => fun
  | [d1, d2, d3, d4] => { results := [.lit (.bool true)], args := [d1, d2, d3, d4] }
  | _ => none }
def hashPiecesRow : OpenClaim := { program := "ytjhjjhpfjadjpaadoor", sum := "a5ef5b001219c27f408006eb956fe114c7c31e230fc758d65749384ab626d22a", func := "securelink/securelinklaw1.HashPieces", spec := "hashPieces", unfollowed := true, recurses := true, named := ["securelink/hash.first256", "securelink/hash.first384", "securelink/hash.first512", "securelink/hash.sizes"], apart := false, laid := [("securelink/hash.first256", laid_securelink_hash_first256), ("securelink/hash.first384", laid_securelink_hash_first384), ("securelink/hash.first512", laid_securelink_hash_first512), ("securelink/hash.sizes", laid_securelink_hash_sizes)] }
def HashPiecesSaid : Prop := hashPiecesRow.holds Tryd.pinned (OpenSpec.ofChange hashPiecesSpec)

/-- ITS FALSE NEIGHBOUR: 'it returns false'. Refute it at one input. -/
def hashPiecesWrong : ChangeSpec := { name := "hashPieces", fn := fun _ => fun
  | [d1, d2, d3, d4] => { results := [.lit (.bool false)], args := [d1, d2, d3, d4] }
  | _ => none }
def HashPiecesWrongFalsely : Prop := hashPiecesRow.holds Tryd.pinned (OpenSpec.ofChange hashPiecesWrong)

/-- 'securelinklaw1.HashSums': WHATEVER THE INPUT: true; the input reads as it did. -/
def hashSumsSpec : ChangeSpec := { name := "hashSums", fn := fun _ => fun
  | [d1, d2] => { results := [.lit (.bool true)], args := [d1, d2] }
  | _ => none }
def hashSumsRow : OpenClaim := { program := "ytjhjjhpfjadjpaadoor", sum := "a5ef5b001219c27f408006eb956fe114c7c31e230fc758d65749384ab626d22a", func := "securelink/securelinklaw1.HashSums", spec := "hashSums", unfollowed := true, recurses := true, named := ["securelink/hash.first256", "securelink/hash.first384", "securelink/hash.first512", "securelink/hash.sizes"], apart := false, laid := [("securelink/hash.first256", laid_securelink_hash_first256), ("securelink/hash.first384", laid_securelink_hash_first384), ("securelink/hash.first512", laid_securelink_hash_first512), ("securelink/hash.sizes", laid_securelink_hash_sizes)] }
def HashSumsSaid : Prop := hashSumsRow.holds Tryd.pinned (OpenSpec.ofChange hashSumsSpec)

/-- ITS FALSE NEIGHBOUR: 'it returns false'. Refute it at one input. -/
def hashSumsWrong : ChangeSpec := { name := "hashSums", fn := fun _ => fun
  | [d1, d2] => { results := [.lit (.bool false)], args := [d1, d2] }
  | _ => none }
def HashSumsWrongFalsely : Prop := hashSumsRow.holds Tryd.pinned (OpenSpec.ofChange hashSumsWrong)

/-- 'securelinklaw1.HashKeyed': WHATEVER THE INPUT: true; the input reads as it did. -/
def hashKeyedSpec : ChangeSpec := { name := "hashKeyed", fn := fun _ => fun
  | [d1, d2, d3] => { results := [.lit (.bool true)], args := [d1, d2, d3] }
  | _ => none }
def hashKeyedRow : OpenClaim := { program := "ytjhjjhpfjadjpaadoor", sum := "a5ef5b001219c27f408006eb956fe114c7c31e230fc758d65749384ab626d22a", func := "securelink/securelinklaw1.HashKeyed", spec := "hashKeyed", unfollowed := true, recurses := true, named := ["securelink/hash.first256", "securelink/hash.first384", "securelink/hash.first512", "securelink/hash.sizes"], apart := false, laid := [("securelink/hash.first256", laid_securelink_hash_first256), ("securelink/hash.first384", laid_securelink_hash_first384), ("securelink/hash.first512", laid_securelink_hash_first512), ("securelink/hash.sizes", laid_securelink_hash_sizes)] }
def HashKeyedSaid : Prop := hashKeyedRow.holds Tryd.pinned (OpenSpec.ofChange hashKeyedSpec)

/-- ITS FALSE NEIGHBOUR: 'it returns false'. Refute it at one input. -/
def hashKeyedWrong : ChangeSpec := { name := "hashKeyed", fn := fun _ => fun
  | [d1, d2, d3] => { results := [.lit (.bool false)], args := [d1, d2, d3] }
  | _ => none }
def HashKeyedWrongFalsely : Prop := hashKeyedRow.holds Tryd.pinned (OpenSpec.ofChange hashKeyedWrong)

/-- 'securelinklaw1.HashBeginnings': WHATEVER THE INPUT: true; the input reads as it did. -/
def hashBeginningsSpec : ChangeSpec := { name := "hashBeginnings", fn := fun _ => fun
  | [d1, d2, d3, d4, d5] => { results := [.lit (.bool true)], args := [d1, d2, d3, d4, d5] }
  | _ => none }
def hashBeginningsRow : OpenClaim := { program := "ytjhjjhpfjadjpaadoor", sum := "a5ef5b001219c27f408006eb956fe114c7c31e230fc758d65749384ab626d22a", func := "securelink/securelinklaw1.HashBeginnings", spec := "hashBeginnings", unfollowed := true, recurses := true, named := ["securelink/hash.first256", "securelink/hash.first384", "securelink/hash.first512", "securelink/hash.sizes"], apart := false, laid := [("securelink/hash.first256", laid_securelink_hash_first256), ("securelink/hash.first384", laid_securelink_hash_first384), ("securelink/hash.first512", laid_securelink_hash_first512), ("securelink/hash.sizes", laid_securelink_hash_sizes)] }
def HashBeginningsSaid : Prop := hashBeginningsRow.holds Tryd.pinned (OpenSpec.ofChange hashBeginningsSpec)

/-- ITS FALSE NEIGHBOUR: 'it returns false'. Refute it at one input. -/
def hashBeginningsWrong : ChangeSpec := { name := "hashBeginnings", fn := fun _ => fun
  | [d1, d2, d3, d4, d5] => { results := [.lit (.bool false)], args := [d1, d2, d3, d4, d5] }
  | _ => none }
def HashBeginningsWrongFalsely : Prop := hashBeginningsRow.holds Tryd.pinned (OpenSpec.ofChange hashBeginningsWrong)

/-- 'securelinklaw1.HashExpands': WHATEVER THE INPUT: true; the input reads as it did. -/
def hashExpandsSpec : ChangeSpec := { name := "hashExpands", fn := fun _ => fun
  | [d1, d2, d3, d4, d5] => { results := [.lit (.bool true)], args := [d1, d2, d3, d4, d5] }
  | _ => none }
def hashExpandsRow : OpenClaim := { program := "ytjhjjhpfjadjpaadoor", sum := "a5ef5b001219c27f408006eb956fe114c7c31e230fc758d65749384ab626d22a", func := "securelink/securelinklaw1.HashExpands", spec := "hashExpands", unfollowed := true, recurses := true, named := ["securelink/hash.sizes", "securelink/hash.first256", "securelink/hash.first384", "securelink/hash.first512"], apart := false, laid := [("securelink/hash.first256", laid_securelink_hash_first256), ("securelink/hash.first384", laid_securelink_hash_first384), ("securelink/hash.first512", laid_securelink_hash_first512), ("securelink/hash.sizes", laid_securelink_hash_sizes)] }
def HashExpandsSaid : Prop := hashExpandsRow.holds Tryd.pinned (OpenSpec.ofChange hashExpandsSpec)

/-- ITS FALSE NEIGHBOUR: 'it returns false'. Refute it at one input. -/
def hashExpandsWrong : ChangeSpec := { name := "hashExpands", fn := fun _ => fun
  | [d1, d2, d3, d4, d5] => { results := [.lit (.bool false)], args := [d1, d2, d3, d4, d5] }
  | _ => none }
def HashExpandsWrongFalsely : Prop := hashExpandsRow.holds Tryd.pinned (OpenSpec.ofChange hashExpandsWrong)

/- THE SECOND FORM. 'bulk': how many values and letters a reading holds, each counted each time it is reached (what is shared counts as often as it is met; a slice's spare places count too). A statement '..UptoSaid' is the law's where the arguments, and the package variables that the reading takes, are together of bulk at most 1048576: NARROWER than '..Said'. Prove '..Said' where nothing that the law and all that it calls make is longer than what came in: it says more and counts as full. Else prove '..UptoSaid'. A law counts once. -/
mutual
def uptoBulk {H : Type} : DataW H → Nat
  | .lit (.string bytes) => bytes.length + 1
  | .lit _ => 1
  | .nil => 1
  | .ptr d => uptoBulk d + 1
  | .slice elems spare => uptoBulkAll elems + uptoBulkAll spare + 1
  | .agg parts => uptoBulkAll parts + 1
  | .iface _ d => uptoBulk d + 1
  | .map entries => uptoBulkEntries entries + 1
  | .held _ => 1
def uptoBulkAll {H : Type} : List (DataW H) → Nat
  | [] => 0
  | d :: r => uptoBulk d + uptoBulkAll r
def uptoBulkEntries {H : Type} : List (Lit × DataW H) → Nat
  | [] => 0
  | x :: r => uptoBulkEntry x + uptoBulkEntries r
def uptoBulkEntry {H : Type} : Lit × DataW H → Nat
  | (.string bytes, d) => bytes.length + uptoBulk d + 1
  | (_, d) => uptoBulk d + 1
 end
def uptoSmall : (H : Type) → List (DataW H) → Bool := fun _ ds => decide (uptoBulkAll ds ≤ 1048576)
def OpenSpec.upto (s : _root_.Go.ChangeSpec) : _root_.Go.OpenSpec := { _root_.Go.OpenSpec.ofChange s with cond := some uptoSmall }

/-- 'securelinklaw5.CurveAgrees', WHERE WHAT IT READS IS OF BULK AT MOST 1048576: true; the input reads as it did. -/
def curveAgreesUptoRow : OpenClaim := { program := "ytjhjjhpfjadjpaadoor", sum := "a5ef5b001219c27f408006eb956fe114c7c31e230fc758d65749384ab626d22a", func := "securelink/securelinklaw5.CurveAgrees", spec := "curveAgrees", inPlace := ["math/bits.Add64", "math/bits.Sub64"], named := ["securelink/mont.moduli"], apart := false, laid := [("securelink/mont.moduli", laid_securelink_mont_moduli)], narrowed := true }
def CurveAgreesUptoSaid : Prop := curveAgreesUptoRow.holds Tryd.pinned (OpenSpec.upto curveAgreesSpec)

/-- 'securelinklaw5.CurveMeets', WHERE WHAT IT READS IS OF BULK AT MOST 1048576: true; the input reads as it did. -/
def curveMeetsUptoRow : OpenClaim := { program := "ytjhjjhpfjadjpaadoor", sum := "a5ef5b001219c27f408006eb956fe114c7c31e230fc758d65749384ab626d22a", func := "securelink/securelinklaw5.CurveMeets", spec := "curveMeets", inPlace := ["math/bits.Add64", "math/bits.Sub64"], named := ["securelink/mont.moduli"], apart := false, laid := [("securelink/mont.moduli", laid_securelink_mont_moduli)], narrowed := true }
def CurveMeetsUptoSaid : Prop := curveMeetsUptoRow.holds Tryd.pinned (OpenSpec.upto curveMeetsSpec)

/-- 'securelinklaw5.CurvePoints', WHERE WHAT IT READS IS OF BULK AT MOST 1048576: true; the input reads as it did. -/
def curvePointsUptoRow : OpenClaim := { program := "ytjhjjhpfjadjpaadoor", sum := "a5ef5b001219c27f408006eb956fe114c7c31e230fc758d65749384ab626d22a", func := "securelink/securelinklaw5.CurvePoints", spec := "curvePoints", inPlace := ["math/bits.Add64", "math/bits.Sub64"], named := ["securelink/mont.moduli"], apart := false, laid := [("securelink/mont.moduli", laid_securelink_mont_moduli)], narrowed := true }
def CurvePointsUptoSaid : Prop := curvePointsUptoRow.holds Tryd.pinned (OpenSpec.upto curvePointsSpec)

/-- 'securelinklaw1.HashPieces', WHERE WHAT IT READS IS OF BULK AT MOST 1048576: true; the input reads as it did. -/
def hashPiecesUptoRow : OpenClaim := { program := "ytjhjjhpfjadjpaadoor", sum := "a5ef5b001219c27f408006eb956fe114c7c31e230fc758d65749384ab626d22a", func := "securelink/securelinklaw1.HashPieces", spec := "hashPieces", unfollowed := true, recurses := true, named := ["securelink/hash.first256", "securelink/hash.first384", "securelink/hash.first512", "securelink/hash.sizes"], apart := false, laid := [("securelink/hash.first256", laid_securelink_hash_first256), ("securelink/hash.first384", laid_securelink_hash_first384), ("securelink/hash.first512", laid_securelink_hash_first512), ("securelink/hash.sizes", laid_securelink_hash_sizes)], narrowed := true }
def HashPiecesUptoSaid : Prop := hashPiecesUptoRow.holds Tryd.pinned (OpenSpec.upto hashPiecesSpec)

/-- 'securelinklaw1.HashSums', WHERE WHAT IT READS IS OF BULK AT MOST 1048576: true; the input reads as it did. -/
def hashSumsUptoRow : OpenClaim := { program := "ytjhjjhpfjadjpaadoor", sum := "a5ef5b001219c27f408006eb956fe114c7c31e230fc758d65749384ab626d22a", func := "securelink/securelinklaw1.HashSums", spec := "hashSums", unfollowed := true, recurses := true, named := ["securelink/hash.first256", "securelink/hash.first384", "securelink/hash.first512", "securelink/hash.sizes"], apart := false, laid := [("securelink/hash.first256", laid_securelink_hash_first256), ("securelink/hash.first384", laid_securelink_hash_first384), ("securelink/hash.first512", laid_securelink_hash_first512), ("securelink/hash.sizes", laid_securelink_hash_sizes)], narrowed := true }
def HashSumsUptoSaid : Prop := hashSumsUptoRow.holds Tryd.pinned (OpenSpec.upto hashSumsSpec)

/-- 'securelinklaw1.HashKeyed', WHERE WHAT IT READS IS OF BULK AT MOST 1048576: true; the input reads as it did. -/
def hashKeyedUptoRow : OpenClaim := { program := "ytjhjjhpfjadjpaadoor", sum := "a5ef5b001219c27f408006eb956fe114c7c31e230fc758d65749384ab626d22a", func := "securelink/securelinklaw1.HashKeyed", spec := "hashKeyed", unfollowed := true, recurses := true, named := ["securelink/hash.first256", "securelink/hash.first384", "securelink/hash.first512", "securelink/hash.sizes"], apart := false, laid := [("securelink/hash.first256", laid_securelink_hash_first256), ("securelink/hash.first384", laid_securelink_hash_first384), ("securelink/hash.first512", laid_securelink_hash_first512), ("securelink/hash.sizes", laid_securelink_hash_sizes)], narrowed := true }
def HashKeyedUptoSaid : Prop := hashKeyedUptoRow.holds Tryd.pinned (OpenSpec.upto hashKeyedSpec)

/-- 'securelinklaw1.HashBeginnings', WHERE WHAT IT READS IS OF BULK AT MOST 1048576: true; the input reads as it did. -/
def hashBeginningsUptoRow : OpenClaim := { program := "ytjhjjhpfjadjpaadoor", sum := "a5ef5b001219c27f408006eb956fe114c7c31e230fc758d65749384ab626d22a", func := "securelink/securelinklaw1.HashBeginnings", spec := "hashBeginnings", unfollowed := true, recurses := true, named := ["securelink/hash.first256", "securelink/hash.first384", "securelink/hash.first512", "securelink/hash.sizes"], apart := false, laid := [("securelink/hash.first256", laid_securelink_hash_first256), ("securelink/hash.first384", laid_securelink_hash_first384), ("securelink/hash.first512", laid_securelink_hash_first512), ("securelink/hash.sizes", laid_securelink_hash_sizes)], narrowed := true }
def HashBeginningsUptoSaid : Prop := hashBeginningsUptoRow.holds Tryd.pinned (OpenSpec.upto hashBeginningsSpec)

/-- 'securelinklaw1.HashExpands', WHERE WHAT IT READS IS OF BULK AT MOST 1048576: true; the input reads as it did. -/
def hashExpandsUptoRow : OpenClaim := { program := "ytjhjjhpfjadjpaadoor", sum := "a5ef5b001219c27f408006eb956fe114c7c31e230fc758d65749384ab626d22a", func := "securelink/securelinklaw1.HashExpands", spec := "hashExpands", unfollowed := true, recurses := true, named := ["securelink/hash.sizes", "securelink/hash.first256", "securelink/hash.first384", "securelink/hash.first512"], apart := false, laid := [("securelink/hash.first256", laid_securelink_hash_first256), ("securelink/hash.first384", laid_securelink_hash_first384), ("securelink/hash.first512", laid_securelink_hash_first512), ("securelink/hash.sizes", laid_securelink_hash_sizes)], narrowed := true }
def HashExpandsUptoSaid : Prop := hashExpandsUptoRow.holds Tryd.pinned (OpenSpec.upto hashExpandsSpec)

end Rows
end Go.Proofs.YtjhjjhpfjadjpaaDoor
