/-
  No cell of these rows narrows 'for every input' (looked for: loops, veiled, ifaces, maps, wideKeys, modest, calm, conditions, laid).
  DERIVED. THE GIVEN ROWS OF THIS SEAT. 26 by the template 'for every input the law returns true; each argument reads behind the call as it read before'; 0 by the template 'total and deterministic' (their statements: YtjobicffdcnnlaaTotals.lean).
  GIVEN WITH THE SEED: the statements are not yours to turn. If you find one false, say at which input.
  Laid BY PROGRAM, IN A SANDBOX (cutbox-rows.mjs): the forced cells as the released guide's own fill.sh prints them over the translation 4f810bd7f5face53… (all of the seat's roots in one cut). By AI agents, Wed Nov 11 2026. No macro, syntax, notation, axiom, sorry.
-/
import Derived.Test.YtjobicffdcnnlaaChecked
import GoSem.Claim
import GoSem.ClaimJoined
import GoSem.ClaimMapViews
import Derived.JoinedTies
import Derived.KernelRfl
namespace Go.Proofs.Ytjobicffdcnnlaa
/- THE CELL 'sum', in the pinned program and in every row, IS THE sha256 OF THE DUMP (.gsa) THAT YtjobicffdcnnlaaProg.lean LOADS. Nothing in Lean hashes anything: it is a label: what it is worth is what the hold of that sum in a sandbox is worth. -/
noncomputable def Try.pinned : Pinned := { name := "ytjobicffdcnnlaa", sum := "4f810bd7f5face5364239fa6a2add961b02ee908396eabb9468d5ab70ef22803", checked := Try.checked }
namespace Rows
def none {H : Type} : Left H := { results := [], args := [] }

/-- 'quorumitelaw13.RatioAsks': WHATEVER THE INPUT: true; the input reads as it did. -/
def ratioAsksSpec : ChangeSpec := { name := "ratioAsks", fn := fun _ => fun
  | [d1, d2, d3, d4, d5, d6] => { results := [.lit (.bool true)], args := [d1, d2, d3, d4, d5, d6] }
  | _ => none }
def ratioAsksRow : OpenClaim := { program := "ytjobicffdcnnlaa", sum := "4f810bd7f5face5364239fa6a2add961b02ee908396eabb9468d5ab70ef22803", func := "quorumite/quorumitelaw13.RatioAsks", spec := "ratioAsks", apart := false }
def RatioAsksSaid : Prop := ratioAsksRow.holds Try.pinned (OpenSpec.ofChange ratioAsksSpec)

/-- ITS FALSE NEIGHBOUR: 'it returns false'. Refute it at one input. -/
def ratioAsksWrong : ChangeSpec := { name := "ratioAsks", fn := fun _ => fun
  | [d1, d2, d3, d4, d5, d6] => { results := [.lit (.bool false)], args := [d1, d2, d3, d4, d5, d6] }
  | _ => none }
def RatioAsksWrongFalsely : Prop := ratioAsksRow.holds Try.pinned (OpenSpec.ofChange ratioAsksWrong)

/-- 'quorumitelaw13.RatioRises': WHATEVER THE INPUT: true; the input reads as it did. -/
def ratioRisesSpec : ChangeSpec := { name := "ratioRises", fn := fun _ => fun
  | [d1, d2, d3, d4, d5, d6] => { results := [.lit (.bool true)], args := [d1, d2, d3, d4, d5, d6] }
  | _ => none }
def ratioRisesRow : OpenClaim := { program := "ytjobicffdcnnlaa", sum := "4f810bd7f5face5364239fa6a2add961b02ee908396eabb9468d5ab70ef22803", func := "quorumite/quorumitelaw13.RatioRises", spec := "ratioRises", apart := false }
def RatioRisesSaid : Prop := ratioRisesRow.holds Try.pinned (OpenSpec.ofChange ratioRisesSpec)

/-- ITS FALSE NEIGHBOUR: 'it returns false'. Refute it at one input. -/
def ratioRisesWrong : ChangeSpec := { name := "ratioRises", fn := fun _ => fun
  | [d1, d2, d3, d4, d5, d6] => { results := [.lit (.bool false)], args := [d1, d2, d3, d4, d5, d6] }
  | _ => none }
def RatioRisesWrongFalsely : Prop := ratioRisesRow.holds Try.pinned (OpenSpec.ofChange ratioRisesWrong)

/-- 'quorumitelaw13.RatioBand': WHATEVER THE INPUT: true; the input reads as it did. -/
def ratioBandSpec : ChangeSpec := { name := "ratioBand", fn := fun _ => fun
  | [d1, d2, d3, d4] => { results := [.lit (.bool true)], args := [d1, d2, d3, d4] }
  | _ => none }
def ratioBandRow : OpenClaim := { program := "ytjobicffdcnnlaa", sum := "4f810bd7f5face5364239fa6a2add961b02ee908396eabb9468d5ab70ef22803", func := "quorumite/quorumitelaw13.RatioBand", spec := "ratioBand", apart := false }
def RatioBandSaid : Prop := ratioBandRow.holds Try.pinned (OpenSpec.ofChange ratioBandSpec)

/-- ITS FALSE NEIGHBOUR: 'it returns false'. Refute it at one input. -/
def ratioBandWrong : ChangeSpec := { name := "ratioBand", fn := fun _ => fun
  | [d1, d2, d3, d4] => { results := [.lit (.bool false)], args := [d1, d2, d3, d4] }
  | _ => none }
def RatioBandWrongFalsely : Prop := ratioBandRow.holds Try.pinned (OpenSpec.ofChange ratioBandWrong)

/-- 'quorumitelaw13.RatioMost': WHATEVER THE INPUT: true; the input reads as it did. -/
def ratioMostSpec : ChangeSpec := { name := "ratioMost", fn := fun _ => fun
  | [d1, d2, d3, d4] => { results := [.lit (.bool true)], args := [d1, d2, d3, d4] }
  | _ => none }
def ratioMostRow : OpenClaim := { program := "ytjobicffdcnnlaa", sum := "4f810bd7f5face5364239fa6a2add961b02ee908396eabb9468d5ab70ef22803", func := "quorumite/quorumitelaw13.RatioMost", spec := "ratioMost", apart := false }
def RatioMostSaid : Prop := ratioMostRow.holds Try.pinned (OpenSpec.ofChange ratioMostSpec)

/-- ITS FALSE NEIGHBOUR: 'it returns false'. Refute it at one input. -/
def ratioMostWrong : ChangeSpec := { name := "ratioMost", fn := fun _ => fun
  | [d1, d2, d3, d4] => { results := [.lit (.bool false)], args := [d1, d2, d3, d4] }
  | _ => none }
def RatioMostWrongFalsely : Prop := ratioMostRow.holds Try.pinned (OpenSpec.ofChange ratioMostWrong)

/-- 'quorumitelaw13.RatioCeil': WHATEVER THE INPUT: true; the input reads as it did. -/
def ratioCeilSpec : ChangeSpec := { name := "ratioCeil", fn := fun _ => fun
  | [d1, d2, d3] => { results := [.lit (.bool true)], args := [d1, d2, d3] }
  | _ => none }
def ratioCeilRow : OpenClaim := { program := "ytjobicffdcnnlaa", sum := "4f810bd7f5face5364239fa6a2add961b02ee908396eabb9468d5ab70ef22803", func := "quorumite/quorumitelaw13.RatioCeil", spec := "ratioCeil", apart := false }
def RatioCeilSaid : Prop := ratioCeilRow.holds Try.pinned (OpenSpec.ofChange ratioCeilSpec)

/-- ITS FALSE NEIGHBOUR: 'it returns false'. Refute it at one input. -/
def ratioCeilWrong : ChangeSpec := { name := "ratioCeil", fn := fun _ => fun
  | [d1, d2, d3] => { results := [.lit (.bool false)], args := [d1, d2, d3] }
  | _ => none }
def RatioCeilWrongFalsely : Prop := ratioCeilRow.holds Try.pinned (OpenSpec.ofChange ratioCeilWrong)

/-- 'quorumitelaw13.RatioRaw': WHATEVER THE INPUT: true; the input reads as it did. -/
def ratioRawSpec : ChangeSpec := { name := "ratioRaw", fn := fun _ => fun
  | [d1, d2] => { results := [.lit (.bool true)], args := [d1, d2] }
  | _ => none }
def ratioRawRow : OpenClaim := { program := "ytjobicffdcnnlaa", sum := "4f810bd7f5face5364239fa6a2add961b02ee908396eabb9468d5ab70ef22803", func := "quorumite/quorumitelaw13.RatioRaw", spec := "ratioRaw", apart := false }
def RatioRawSaid : Prop := ratioRawRow.holds Try.pinned (OpenSpec.ofChange ratioRawSpec)

/-- ITS FALSE NEIGHBOUR: 'it returns false'. Refute it at one input. -/
def ratioRawWrong : ChangeSpec := { name := "ratioRaw", fn := fun _ => fun
  | [d1, d2] => { results := [.lit (.bool false)], args := [d1, d2] }
  | _ => none }
def RatioRawWrongFalsely : Prop := ratioRawRow.holds Try.pinned (OpenSpec.ofChange ratioRawWrong)

/-- 'quorumitelaw3.ConfEdges': WHATEVER THE INPUT: true; the input reads as it did. -/
def confEdgesSpec : ChangeSpec := { name := "confEdges", fn := fun _ => fun
  | [d1, d2] => { results := [.lit (.bool true)], args := [d1, d2] }
  | _ => none }
def confEdgesRow : OpenClaim := { program := "ytjobicffdcnnlaa", sum := "4f810bd7f5face5364239fa6a2add961b02ee908396eabb9468d5ab70ef22803", func := "quorumite/quorumitelaw3.ConfEdges", spec := "confEdges", unfollowed := true, recurses := true, apart := false }
def ConfEdgesSaid : Prop := confEdgesRow.holds Try.pinned (OpenSpec.ofChange confEdgesSpec)

/-- ITS FALSE NEIGHBOUR: 'it returns false'. Refute it at one input. -/
def confEdgesWrong : ChangeSpec := { name := "confEdges", fn := fun _ => fun
  | [d1, d2] => { results := [.lit (.bool false)], args := [d1, d2] }
  | _ => none }
def ConfEdgesWrongFalsely : Prop := confEdgesRow.holds Try.pinned (OpenSpec.ofChange confEdgesWrong)

/-- 'quorumitelaw3.ConfAsks': WHATEVER THE INPUT: true; the input reads as it did. -/
def confAsksSpec : ChangeSpec := { name := "confAsks", fn := fun _ => fun
  | [d] => { results := [.lit (.bool true)], args := [d] }
  | _ => none }
def confAsksRow : OpenClaim := { program := "ytjobicffdcnnlaa", sum := "4f810bd7f5face5364239fa6a2add961b02ee908396eabb9468d5ab70ef22803", func := "quorumite/quorumitelaw3.ConfAsks", spec := "confAsks", unfollowed := true, recurses := true, apart := false }
def ConfAsksSaid : Prop := confAsksRow.holds Try.pinned (OpenSpec.ofChange confAsksSpec)

/-- ITS FALSE NEIGHBOUR: 'it returns false'. Refute it at one input. -/
def confAsksWrong : ChangeSpec := { name := "confAsks", fn := fun _ => fun
  | [d] => { results := [.lit (.bool false)], args := [d] }
  | _ => none }
def ConfAsksWrongFalsely : Prop := confAsksRow.holds Try.pinned (OpenSpec.ofChange confAsksWrong)

/-- 'quorumitelaw3.ConfOne': WHATEVER THE INPUT: true; the input reads as it did. -/
def confOneSpec : ChangeSpec := { name := "confOne", fn := fun _ => fun
  | [d1, d2, d3] => { results := [.lit (.bool true)], args := [d1, d2, d3] }
  | _ => none }
def confOneRow : OpenClaim := { program := "ytjobicffdcnnlaa", sum := "4f810bd7f5face5364239fa6a2add961b02ee908396eabb9468d5ab70ef22803", func := "quorumite/quorumitelaw3.ConfOne", spec := "confOne", unfollowed := true, recurses := true, apart := false }
def ConfOneSaid : Prop := confOneRow.holds Try.pinned (OpenSpec.ofChange confOneSpec)

/-- ITS FALSE NEIGHBOUR: 'it returns false'. Refute it at one input. -/
def confOneWrong : ChangeSpec := { name := "confOne", fn := fun _ => fun
  | [d1, d2, d3] => { results := [.lit (.bool false)], args := [d1, d2, d3] }
  | _ => none }
def ConfOneWrongFalsely : Prop := confOneRow.holds Try.pinned (OpenSpec.ofChange confOneWrong)

/-- 'quorumitelaw3.ConfQuorums': WHATEVER THE INPUT: true; the input reads as it did. -/
def confQuorumsSpec : ChangeSpec := { name := "confQuorums", fn := fun _ => fun
  | [d1, d2, d3] => { results := [.lit (.bool true)], args := [d1, d2, d3] }
  | _ => none }
def confQuorumsRow : OpenClaim := { program := "ytjobicffdcnnlaa", sum := "4f810bd7f5face5364239fa6a2add961b02ee908396eabb9468d5ab70ef22803", func := "quorumite/quorumitelaw3.ConfQuorums", spec := "confQuorums", unfollowed := true, recurses := true, apart := false }
def ConfQuorumsSaid : Prop := confQuorumsRow.holds Try.pinned (OpenSpec.ofChange confQuorumsSpec)

/-- ITS FALSE NEIGHBOUR: 'it returns false'. Refute it at one input. -/
def confQuorumsWrong : ChangeSpec := { name := "confQuorums", fn := fun _ => fun
  | [d1, d2, d3] => { results := [.lit (.bool false)], args := [d1, d2, d3] }
  | _ => none }
def ConfQuorumsWrongFalsely : Prop := confQuorumsRow.holds Try.pinned (OpenSpec.ofChange confQuorumsWrong)

/-- 'quorumitelaw3.ConfTargets': WHATEVER THE INPUT: true; the input reads as it did. -/
def confTargetsSpec : ChangeSpec := { name := "confTargets", fn := fun _ => fun
  | [d1, d2, d3] => { results := [.lit (.bool true)], args := [d1, d2, d3] }
  | _ => none }
def confTargetsRow : OpenClaim := { program := "ytjobicffdcnnlaa", sum := "4f810bd7f5face5364239fa6a2add961b02ee908396eabb9468d5ab70ef22803", func := "quorumite/quorumitelaw3.ConfTargets", spec := "confTargets", unfollowed := true, recurses := true, apart := false }
def ConfTargetsSaid : Prop := confTargetsRow.holds Try.pinned (OpenSpec.ofChange confTargetsSpec)

/-- ITS FALSE NEIGHBOUR: 'it returns false'. Refute it at one input. -/
def confTargetsWrong : ChangeSpec := { name := "confTargets", fn := fun _ => fun
  | [d1, d2, d3] => { results := [.lit (.bool false)], args := [d1, d2, d3] }
  | _ => none }
def ConfTargetsWrongFalsely : Prop := confTargetsRow.holds Try.pinned (OpenSpec.ofChange confTargetsWrong)

/-- 'quorumitelaw15.PolicySets': WHATEVER THE INPUT: true; the input reads as it did. -/
def policySetsSpec : ChangeSpec := { name := "policySets", fn := fun _ => fun
  | [d1, d2, d3] => { results := [.lit (.bool true)], args := [d1, d2, d3] }
  | _ => none }
def policySetsRow : OpenClaim := { program := "ytjobicffdcnnlaa", sum := "4f810bd7f5face5364239fa6a2add961b02ee908396eabb9468d5ab70ef22803", func := "quorumite/quorumitelaw15.PolicySets", spec := "policySets", inPlace := ["sync/atomic.AddInt64"], unfollowed := true, recurses := true, apart := false }
def PolicySetsSaid : Prop := policySetsRow.holds Try.pinned (OpenSpec.ofChange policySetsSpec)

/-- ITS FALSE NEIGHBOUR: 'it returns false'. Refute it at one input. -/
def policySetsWrong : ChangeSpec := { name := "policySets", fn := fun _ => fun
  | [d1, d2, d3] => { results := [.lit (.bool false)], args := [d1, d2, d3] }
  | _ => none }
def PolicySetsWrongFalsely : Prop := policySetsRow.holds Try.pinned (OpenSpec.ofChange policySetsWrong)

/-- 'quorumitelaw15.PolicyPlays': WHATEVER THE INPUT: true; the input reads as it did. -/
def policyPlaysSpec : ChangeSpec := { name := "policyPlays", fn := fun _ => fun
  | [d1, d2, d3, d4, d5] => { results := [.lit (.bool true)], args := [d1, d2, d3, d4, d5] }
  | _ => none }
def policyPlaysRow : OpenClaim := { program := "ytjobicffdcnnlaa", sum := "4f810bd7f5face5364239fa6a2add961b02ee908396eabb9468d5ab70ef22803", func := "quorumite/quorumitelaw15.PolicyPlays", spec := "policyPlays", inPlace := ["sync/atomic.AddInt64"], unfollowed := true, recurses := true, apart := false }
def PolicyPlaysSaid : Prop := policyPlaysRow.holds Try.pinned (OpenSpec.ofChange policyPlaysSpec)

/-- ITS FALSE NEIGHBOUR: 'it returns false'. Refute it at one input. -/
def policyPlaysWrong : ChangeSpec := { name := "policyPlays", fn := fun _ => fun
  | [d1, d2, d3, d4, d5] => { results := [.lit (.bool false)], args := [d1, d2, d3, d4, d5] }
  | _ => none }
def PolicyPlaysWrongFalsely : Prop := policyPlaysRow.holds Try.pinned (OpenSpec.ofChange policyPlaysWrong)

/-- 'quorumitelaw15.PolicyRaw': WHATEVER THE INPUT: true; the input reads as it did. -/
def policyRawSpec : ChangeSpec := { name := "policyRaw", fn := fun _ => fun
  | [d1, d2, d3] => { results := [.lit (.bool true)], args := [d1, d2, d3] }
  | _ => none }
def policyRawRow : OpenClaim := { program := "ytjobicffdcnnlaa", sum := "4f810bd7f5face5364239fa6a2add961b02ee908396eabb9468d5ab70ef22803", func := "quorumite/quorumitelaw15.PolicyRaw", spec := "policyRaw", inPlace := ["sync/atomic.AddInt64"], unfollowed := true, recurses := true, apart := false }
def PolicyRawSaid : Prop := policyRawRow.holds Try.pinned (OpenSpec.ofChange policyRawSpec)

/-- ITS FALSE NEIGHBOUR: 'it returns false'. Refute it at one input. -/
def policyRawWrong : ChangeSpec := { name := "policyRaw", fn := fun _ => fun
  | [d1, d2, d3] => { results := [.lit (.bool false)], args := [d1, d2, d3] }
  | _ => none }
def PolicyRawWrongFalsely : Prop := policyRawRow.holds Try.pinned (OpenSpec.ofChange policyRawWrong)

/-- 'quorumitelaw15.PolicyRises': WHATEVER THE INPUT: true; the input reads as it did. -/
def policyRisesSpec : ChangeSpec := { name := "policyRises", fn := fun _ => fun
  | [d1, d2, d3, d4, d5] => { results := [.lit (.bool true)], args := [d1, d2, d3, d4, d5] }
  | _ => none }
def policyRisesRow : OpenClaim := { program := "ytjobicffdcnnlaa", sum := "4f810bd7f5face5364239fa6a2add961b02ee908396eabb9468d5ab70ef22803", func := "quorumite/quorumitelaw15.PolicyRises", spec := "policyRises", inPlace := ["sync/atomic.AddInt64"], unfollowed := true, recurses := true, apart := false }
def PolicyRisesSaid : Prop := policyRisesRow.holds Try.pinned (OpenSpec.ofChange policyRisesSpec)

/-- ITS FALSE NEIGHBOUR: 'it returns false'. Refute it at one input. -/
def policyRisesWrong : ChangeSpec := { name := "policyRises", fn := fun _ => fun
  | [d1, d2, d3, d4, d5] => { results := [.lit (.bool false)], args := [d1, d2, d3, d4, d5] }
  | _ => none }
def PolicyRisesWrongFalsely : Prop := policyRisesRow.holds Try.pinned (OpenSpec.ofChange policyRisesWrong)

/-- 'quorumitelaw15.PolicyBase': WHATEVER THE INPUT: true; the input reads as it did. -/
def policyBaseSpec : ChangeSpec := { name := "policyBase", fn := fun _ => fun
  | [d1, d2] => { results := [.lit (.bool true)], args := [d1, d2] }
  | _ => none }
def policyBaseRow : OpenClaim := { program := "ytjobicffdcnnlaa", sum := "4f810bd7f5face5364239fa6a2add961b02ee908396eabb9468d5ab70ef22803", func := "quorumite/quorumitelaw15.PolicyBase", spec := "policyBase", inPlace := ["sync/atomic.AddInt64"], unfollowed := true, recurses := true, apart := false }
def PolicyBaseSaid : Prop := policyBaseRow.holds Try.pinned (OpenSpec.ofChange policyBaseSpec)

/-- ITS FALSE NEIGHBOUR: 'it returns false'. Refute it at one input. -/
def policyBaseWrong : ChangeSpec := { name := "policyBase", fn := fun _ => fun
  | [d1, d2] => { results := [.lit (.bool false)], args := [d1, d2] }
  | _ => none }
def PolicyBaseWrongFalsely : Prop := policyBaseRow.holds Try.pinned (OpenSpec.ofChange policyBaseWrong)

/-- 'quorumitelaw15.PolicyWithin': WHATEVER THE INPUT: true; the input reads as it did. -/
def policyWithinSpec : ChangeSpec := { name := "policyWithin", fn := fun _ => fun
  | [d1, d2, d3] => { results := [.lit (.bool true)], args := [d1, d2, d3] }
  | _ => none }
def policyWithinRow : OpenClaim := { program := "ytjobicffdcnnlaa", sum := "4f810bd7f5face5364239fa6a2add961b02ee908396eabb9468d5ab70ef22803", func := "quorumite/quorumitelaw15.PolicyWithin", spec := "policyWithin", inPlace := ["sync/atomic.AddInt64"], unfollowed := true, recurses := true, apart := false }
def PolicyWithinSaid : Prop := policyWithinRow.holds Try.pinned (OpenSpec.ofChange policyWithinSpec)

/-- ITS FALSE NEIGHBOUR: 'it returns false'. Refute it at one input. -/
def policyWithinWrong : ChangeSpec := { name := "policyWithin", fn := fun _ => fun
  | [d1, d2, d3] => { results := [.lit (.bool false)], args := [d1, d2, d3] }
  | _ => none }
def PolicyWithinWrongFalsely : Prop := policyWithinRow.holds Try.pinned (OpenSpec.ofChange policyWithinWrong)

/-- 'quorumitelaw16.LawBounds': WHATEVER THE INPUT: true; the input reads as it did. -/
def lawBoundsSpec : ChangeSpec := { name := "lawBounds", fn := fun _ => fun
  | [d1, d2, d3] => { results := [.lit (.bool true)], args := [d1, d2, d3] }
  | _ => none }
def lawBoundsRow : OpenClaim := { program := "ytjobicffdcnnlaa", sum := "4f810bd7f5face5364239fa6a2add961b02ee908396eabb9468d5ab70ef22803", func := "quorumite/quorumitelaw16.LawBounds", spec := "lawBounds", inPlace := ["sync/atomic.AddInt64"], unfollowed := true, recurses := true, apart := false }
def LawBoundsSaid : Prop := lawBoundsRow.holds Try.pinned (OpenSpec.ofChange lawBoundsSpec)

/-- ITS FALSE NEIGHBOUR: 'it returns false'. Refute it at one input. -/
def lawBoundsWrong : ChangeSpec := { name := "lawBounds", fn := fun _ => fun
  | [d1, d2, d3] => { results := [.lit (.bool false)], args := [d1, d2, d3] }
  | _ => none }
def LawBoundsWrongFalsely : Prop := lawBoundsRow.holds Try.pinned (OpenSpec.ofChange lawBoundsWrong)

/-- 'quorumitelaw16.LawRises': WHATEVER THE INPUT: true; the input reads as it did. -/
def lawRisesSpec : ChangeSpec := { name := "lawRises", fn := fun _ => fun
  | [d1, d2, d3, d4, d5, d6] => { results := [.lit (.bool true)], args := [d1, d2, d3, d4, d5, d6] }
  | _ => none }
def lawRisesRow : OpenClaim := { program := "ytjobicffdcnnlaa", sum := "4f810bd7f5face5364239fa6a2add961b02ee908396eabb9468d5ab70ef22803", func := "quorumite/quorumitelaw16.LawRises", spec := "lawRises", inPlace := ["sync/atomic.AddInt64"], unfollowed := true, recurses := true, apart := false }
def LawRisesSaid : Prop := lawRisesRow.holds Try.pinned (OpenSpec.ofChange lawRisesSpec)

/-- ITS FALSE NEIGHBOUR: 'it returns false'. Refute it at one input. -/
def lawRisesWrong : ChangeSpec := { name := "lawRises", fn := fun _ => fun
  | [d1, d2, d3, d4, d5, d6] => { results := [.lit (.bool false)], args := [d1, d2, d3, d4, d5, d6] }
  | _ => none }
def LawRisesWrongFalsely : Prop := lawRisesRow.holds Try.pinned (OpenSpec.ofChange lawRisesWrong)

/-- 'quorumitelaw16.LawBand': WHATEVER THE INPUT: true; the input reads as it did. -/
def lawBandSpec : ChangeSpec := { name := "lawBand", fn := fun _ => fun
  | [d1, d2, d3, d4] => { results := [.lit (.bool true)], args := [d1, d2, d3, d4] }
  | _ => none }
def lawBandRow : OpenClaim := { program := "ytjobicffdcnnlaa", sum := "4f810bd7f5face5364239fa6a2add961b02ee908396eabb9468d5ab70ef22803", func := "quorumite/quorumitelaw16.LawBand", spec := "lawBand", inPlace := ["sync/atomic.AddInt64"], unfollowed := true, recurses := true, apart := false }
def LawBandSaid : Prop := lawBandRow.holds Try.pinned (OpenSpec.ofChange lawBandSpec)

/-- ITS FALSE NEIGHBOUR: 'it returns false'. Refute it at one input. -/
def lawBandWrong : ChangeSpec := { name := "lawBand", fn := fun _ => fun
  | [d1, d2, d3, d4] => { results := [.lit (.bool false)], args := [d1, d2, d3, d4] }
  | _ => none }
def LawBandWrongFalsely : Prop := lawBandRow.holds Try.pinned (OpenSpec.ofChange lawBandWrong)

/-- 'quorumitelaw16.LawStill': WHATEVER THE INPUT: true; the input reads as it did. -/
def lawStillSpec : ChangeSpec := { name := "lawStill", fn := fun _ => fun
  | [d1, d2, d3] => { results := [.lit (.bool true)], args := [d1, d2, d3] }
  | _ => none }
def lawStillRow : OpenClaim := { program := "ytjobicffdcnnlaa", sum := "4f810bd7f5face5364239fa6a2add961b02ee908396eabb9468d5ab70ef22803", func := "quorumite/quorumitelaw16.LawStill", spec := "lawStill", inPlace := ["sync/atomic.AddInt64"], unfollowed := true, recurses := true, apart := false }
def LawStillSaid : Prop := lawStillRow.holds Try.pinned (OpenSpec.ofChange lawStillSpec)

/-- ITS FALSE NEIGHBOUR: 'it returns false'. Refute it at one input. -/
def lawStillWrong : ChangeSpec := { name := "lawStill", fn := fun _ => fun
  | [d1, d2, d3] => { results := [.lit (.bool false)], args := [d1, d2, d3] }
  | _ => none }
def LawStillWrongFalsely : Prop := lawStillRow.holds Try.pinned (OpenSpec.ofChange lawStillWrong)

/-- 'quorumitelaw16.LawPlays': WHATEVER THE INPUT: true; the input reads as it did. -/
def lawPlaysSpec : ChangeSpec := { name := "lawPlays", fn := fun _ => fun
  | [d1, d2, d3, d4] => { results := [.lit (.bool true)], args := [d1, d2, d3, d4] }
  | _ => none }
def lawPlaysRow : OpenClaim := { program := "ytjobicffdcnnlaa", sum := "4f810bd7f5face5364239fa6a2add961b02ee908396eabb9468d5ab70ef22803", func := "quorumite/quorumitelaw16.LawPlays", spec := "lawPlays", inPlace := ["sync/atomic.AddInt64"], unfollowed := true, recurses := true, apart := false }
def LawPlaysSaid : Prop := lawPlaysRow.holds Try.pinned (OpenSpec.ofChange lawPlaysSpec)

/-- ITS FALSE NEIGHBOUR: 'it returns false'. Refute it at one input. -/
def lawPlaysWrong : ChangeSpec := { name := "lawPlays", fn := fun _ => fun
  | [d1, d2, d3, d4] => { results := [.lit (.bool false)], args := [d1, d2, d3, d4] }
  | _ => none }
def LawPlaysWrongFalsely : Prop := lawPlaysRow.holds Try.pinned (OpenSpec.ofChange lawPlaysWrong)

/-- 'quorumitelaw26.JudgeHolds': WHATEVER THE INPUT: true; the input reads as it did. -/
def judgeHoldsSpec : ChangeSpec := { name := "judgeHolds", fn := fun _ => fun
  | [d1, d2] => { results := [.lit (.bool true)], args := [d1, d2] }
  | _ => none }
def judgeHoldsRow : OpenClaim := { program := "ytjobicffdcnnlaa", sum := "4f810bd7f5face5364239fa6a2add961b02ee908396eabb9468d5ab70ef22803", func := "quorumite/quorumitelaw26.JudgeHolds", spec := "judgeHolds", inPlace := ["sync/atomic.AddInt64"], unfollowed := true, recurses := true, apart := false }
def JudgeHoldsSaid : Prop := judgeHoldsRow.holds Try.pinned (OpenSpec.ofChange judgeHoldsSpec)

/-- ITS FALSE NEIGHBOUR: 'it returns false'. Refute it at one input. -/
def judgeHoldsWrong : ChangeSpec := { name := "judgeHolds", fn := fun _ => fun
  | [d1, d2] => { results := [.lit (.bool false)], args := [d1, d2] }
  | _ => none }
def JudgeHoldsWrongFalsely : Prop := judgeHoldsRow.holds Try.pinned (OpenSpec.ofChange judgeHoldsWrong)

/-- 'quorumitelaw26.JudgeAsks': WHATEVER THE INPUT: true; the input reads as it did. -/
def judgeAsksSpec : ChangeSpec := { name := "judgeAsks", fn := fun _ => fun
  | [d1, d2, d3, d4, d5, d6] => { results := [.lit (.bool true)], args := [d1, d2, d3, d4, d5, d6] }
  | _ => none }
def judgeAsksRow : OpenClaim := { program := "ytjobicffdcnnlaa", sum := "4f810bd7f5face5364239fa6a2add961b02ee908396eabb9468d5ab70ef22803", func := "quorumite/quorumitelaw26.JudgeAsks", spec := "judgeAsks", inPlace := ["sync/atomic.AddInt64"], unfollowed := true, recurses := true, apart := false }
def JudgeAsksSaid : Prop := judgeAsksRow.holds Try.pinned (OpenSpec.ofChange judgeAsksSpec)

/-- ITS FALSE NEIGHBOUR: 'it returns false'. Refute it at one input. -/
def judgeAsksWrong : ChangeSpec := { name := "judgeAsks", fn := fun _ => fun
  | [d1, d2, d3, d4, d5, d6] => { results := [.lit (.bool false)], args := [d1, d2, d3, d4, d5, d6] }
  | _ => none }
def JudgeAsksWrongFalsely : Prop := judgeAsksRow.holds Try.pinned (OpenSpec.ofChange judgeAsksWrong)

/-- 'quorumitelaw26.JudgeBounds': WHATEVER THE INPUT: true; the input reads as it did. -/
def judgeBoundsSpec : ChangeSpec := { name := "judgeBounds", fn := fun _ => fun
  | [d1, d2, d3, d4] => { results := [.lit (.bool true)], args := [d1, d2, d3, d4] }
  | _ => none }
def judgeBoundsRow : OpenClaim := { program := "ytjobicffdcnnlaa", sum := "4f810bd7f5face5364239fa6a2add961b02ee908396eabb9468d5ab70ef22803", func := "quorumite/quorumitelaw26.JudgeBounds", spec := "judgeBounds", inPlace := ["sync/atomic.AddInt64"], unfollowed := true, recurses := true, apart := false }
def JudgeBoundsSaid : Prop := judgeBoundsRow.holds Try.pinned (OpenSpec.ofChange judgeBoundsSpec)

/-- ITS FALSE NEIGHBOUR: 'it returns false'. Refute it at one input. -/
def judgeBoundsWrong : ChangeSpec := { name := "judgeBounds", fn := fun _ => fun
  | [d1, d2, d3, d4] => { results := [.lit (.bool false)], args := [d1, d2, d3, d4] }
  | _ => none }
def JudgeBoundsWrongFalsely : Prop := judgeBoundsRow.holds Try.pinned (OpenSpec.ofChange judgeBoundsWrong)

/-- 'quorumitelaw26.JudgeSteady': WHATEVER THE INPUT: true; the input reads as it did. -/
def judgeSteadySpec : ChangeSpec := { name := "judgeSteady", fn := fun _ => fun
  | [d1, d2, d3] => { results := [.lit (.bool true)], args := [d1, d2, d3] }
  | _ => none }
def judgeSteadyRow : OpenClaim := { program := "ytjobicffdcnnlaa", sum := "4f810bd7f5face5364239fa6a2add961b02ee908396eabb9468d5ab70ef22803", func := "quorumite/quorumitelaw26.JudgeSteady", spec := "judgeSteady", inPlace := ["sync/atomic.AddInt64"], unfollowed := true, recurses := true, apart := false }
def JudgeSteadySaid : Prop := judgeSteadyRow.holds Try.pinned (OpenSpec.ofChange judgeSteadySpec)

/-- ITS FALSE NEIGHBOUR: 'it returns false'. Refute it at one input. -/
def judgeSteadyWrong : ChangeSpec := { name := "judgeSteady", fn := fun _ => fun
  | [d1, d2, d3] => { results := [.lit (.bool false)], args := [d1, d2, d3] }
  | _ => none }
def JudgeSteadyWrongFalsely : Prop := judgeSteadyRow.holds Try.pinned (OpenSpec.ofChange judgeSteadyWrong)

/- THE SECOND FORM. 'bulk': how many values and letters a reading holds, each counted each time it is reached (what is shared counts as often as it is met; a slice's spare places count too). A statement '..UptoSaid' is the law's where the arguments, and the package variables that the reading takes, are together of bulk at most 1048576: NARROWER than '..Said'. Prove '..Said' where nothing that the law and all that it calls make is longer than what came in: it says more and counts as full. Else prove '..UptoSaid'. A law counts once. -/
mutual
def uptoBulk {H : Type} : DataW H → Nat
  | .lit (.string bytes) => bytes.length + 1
  | .lit _ => 1
  | .nil => 1
  | .ptr d => uptoBulk d + 1
  | .slice elems spare => uptoBulkAll elems + uptoBulkAll spare + 1
  | .agg parts => uptoBulkAll parts + 1
  | .iface _ d => uptoBulk d + 1
  | .map entries => uptoBulkEntries entries + 1
  | .held _ => 1
def uptoBulkAll {H : Type} : List (DataW H) → Nat
  | [] => 0
  | d :: r => uptoBulk d + uptoBulkAll r
def uptoBulkEntries {H : Type} : List (Lit × DataW H) → Nat
  | [] => 0
  | x :: r => uptoBulkEntry x + uptoBulkEntries r
def uptoBulkEntry {H : Type} : Lit × DataW H → Nat
  | (.string bytes, d) => bytes.length + uptoBulk d + 1
  | (_, d) => uptoBulk d + 1
 end
def uptoSmall : (H : Type) → List (DataW H) → Bool := fun _ ds => decide (uptoBulkAll ds ≤ 1048576)
def OpenSpec.upto (s : _root_.Go.ChangeSpec) : _root_.Go.OpenSpec := { _root_.Go.OpenSpec.ofChange s with cond := some uptoSmall }

/-- 'quorumitelaw13.RatioAsks', WHERE WHAT IT READS IS OF BULK AT MOST 1048576: true; the input reads as it did. -/
def ratioAsksUptoRow : OpenClaim := { program := "ytjobicffdcnnlaa", sum := "4f810bd7f5face5364239fa6a2add961b02ee908396eabb9468d5ab70ef22803", func := "quorumite/quorumitelaw13.RatioAsks", spec := "ratioAsks", apart := false, narrowed := true }
def RatioAsksUptoSaid : Prop := ratioAsksUptoRow.holds Try.pinned (OpenSpec.upto ratioAsksSpec)

/-- 'quorumitelaw13.RatioRises', WHERE WHAT IT READS IS OF BULK AT MOST 1048576: true; the input reads as it did. -/
def ratioRisesUptoRow : OpenClaim := { program := "ytjobicffdcnnlaa", sum := "4f810bd7f5face5364239fa6a2add961b02ee908396eabb9468d5ab70ef22803", func := "quorumite/quorumitelaw13.RatioRises", spec := "ratioRises", apart := false, narrowed := true }
def RatioRisesUptoSaid : Prop := ratioRisesUptoRow.holds Try.pinned (OpenSpec.upto ratioRisesSpec)

/-- 'quorumitelaw13.RatioBand', WHERE WHAT IT READS IS OF BULK AT MOST 1048576: true; the input reads as it did. -/
def ratioBandUptoRow : OpenClaim := { program := "ytjobicffdcnnlaa", sum := "4f810bd7f5face5364239fa6a2add961b02ee908396eabb9468d5ab70ef22803", func := "quorumite/quorumitelaw13.RatioBand", spec := "ratioBand", apart := false, narrowed := true }
def RatioBandUptoSaid : Prop := ratioBandUptoRow.holds Try.pinned (OpenSpec.upto ratioBandSpec)

/-- 'quorumitelaw13.RatioMost', WHERE WHAT IT READS IS OF BULK AT MOST 1048576: true; the input reads as it did. -/
def ratioMostUptoRow : OpenClaim := { program := "ytjobicffdcnnlaa", sum := "4f810bd7f5face5364239fa6a2add961b02ee908396eabb9468d5ab70ef22803", func := "quorumite/quorumitelaw13.RatioMost", spec := "ratioMost", apart := false, narrowed := true }
def RatioMostUptoSaid : Prop := ratioMostUptoRow.holds Try.pinned (OpenSpec.upto ratioMostSpec)

/-- 'quorumitelaw13.RatioCeil', WHERE WHAT IT READS IS OF BULK AT MOST 1048576: true; the input reads as it did. -/
def ratioCeilUptoRow : OpenClaim := { program := "ytjobicffdcnnlaa", sum := "4f810bd7f5face5364239fa6a2add961b02ee908396eabb9468d5ab70ef22803", func := "quorumite/quorumitelaw13.RatioCeil", spec := "ratioCeil", apart := false, narrowed := true }
def RatioCeilUptoSaid : Prop := ratioCeilUptoRow.holds Try.pinned (OpenSpec.upto ratioCeilSpec)

/-- 'quorumitelaw13.RatioRaw', WHERE WHAT IT READS IS OF BULK AT MOST 1048576: true; the input reads as it did. -/
def ratioRawUptoRow : OpenClaim := { program := "ytjobicffdcnnlaa", sum := "4f810bd7f5face5364239fa6a2add961b02ee908396eabb9468d5ab70ef22803", func := "quorumite/quorumitelaw13.RatioRaw", spec := "ratioRaw", apart := false, narrowed := true }
def RatioRawUptoSaid : Prop := ratioRawUptoRow.holds Try.pinned (OpenSpec.upto ratioRawSpec)

/-- 'quorumitelaw3.ConfEdges', WHERE WHAT IT READS IS OF BULK AT MOST 1048576: true; the input reads as it did. -/
def confEdgesUptoRow : OpenClaim := { program := "ytjobicffdcnnlaa", sum := "4f810bd7f5face5364239fa6a2add961b02ee908396eabb9468d5ab70ef22803", func := "quorumite/quorumitelaw3.ConfEdges", spec := "confEdges", unfollowed := true, recurses := true, apart := false, narrowed := true }
def ConfEdgesUptoSaid : Prop := confEdgesUptoRow.holds Try.pinned (OpenSpec.upto confEdgesSpec)

/-- 'quorumitelaw3.ConfAsks', WHERE WHAT IT READS IS OF BULK AT MOST 1048576: true; the input reads as it did. -/
def confAsksUptoRow : OpenClaim := { program := "ytjobicffdcnnlaa", sum := "4f810bd7f5face5364239fa6a2add961b02ee908396eabb9468d5ab70ef22803", func := "quorumite/quorumitelaw3.ConfAsks", spec := "confAsks", unfollowed := true, recurses := true, apart := false, narrowed := true }
def ConfAsksUptoSaid : Prop := confAsksUptoRow.holds Try.pinned (OpenSpec.upto confAsksSpec)

/-- 'quorumitelaw3.ConfOne', WHERE WHAT IT READS IS OF BULK AT MOST 1048576: true; the input reads as it did. -/
def confOneUptoRow : OpenClaim := { program := "ytjobicffdcnnlaa", sum := "4f810bd7f5face5364239fa6a2add961b02ee908396eabb9468d5ab70ef22803", func := "quorumite/quorumitelaw3.ConfOne", spec := "confOne", unfollowed := true, recurses := true, apart := false, narrowed := true }
def ConfOneUptoSaid : Prop := confOneUptoRow.holds Try.pinned (OpenSpec.upto confOneSpec)

/-- 'quorumitelaw3.ConfQuorums', WHERE WHAT IT READS IS OF BULK AT MOST 1048576: true; the input reads as it did. -/
def confQuorumsUptoRow : OpenClaim := { program := "ytjobicffdcnnlaa", sum := "4f810bd7f5face5364239fa6a2add961b02ee908396eabb9468d5ab70ef22803", func := "quorumite/quorumitelaw3.ConfQuorums", spec := "confQuorums", unfollowed := true, recurses := true, apart := false, narrowed := true }
def ConfQuorumsUptoSaid : Prop := confQuorumsUptoRow.holds Try.pinned (OpenSpec.upto confQuorumsSpec)

/-- 'quorumitelaw3.ConfTargets', WHERE WHAT IT READS IS OF BULK AT MOST 1048576: true; the input reads as it did. -/
def confTargetsUptoRow : OpenClaim := { program := "ytjobicffdcnnlaa", sum := "4f810bd7f5face5364239fa6a2add961b02ee908396eabb9468d5ab70ef22803", func := "quorumite/quorumitelaw3.ConfTargets", spec := "confTargets", unfollowed := true, recurses := true, apart := false, narrowed := true }
def ConfTargetsUptoSaid : Prop := confTargetsUptoRow.holds Try.pinned (OpenSpec.upto confTargetsSpec)

/-- 'quorumitelaw15.PolicySets', WHERE WHAT IT READS IS OF BULK AT MOST 1048576: true; the input reads as it did. -/
def policySetsUptoRow : OpenClaim := { program := "ytjobicffdcnnlaa", sum := "4f810bd7f5face5364239fa6a2add961b02ee908396eabb9468d5ab70ef22803", func := "quorumite/quorumitelaw15.PolicySets", spec := "policySets", inPlace := ["sync/atomic.AddInt64"], unfollowed := true, recurses := true, apart := false, narrowed := true }
def PolicySetsUptoSaid : Prop := policySetsUptoRow.holds Try.pinned (OpenSpec.upto policySetsSpec)

/-- 'quorumitelaw15.PolicyPlays', WHERE WHAT IT READS IS OF BULK AT MOST 1048576: true; the input reads as it did. -/
def policyPlaysUptoRow : OpenClaim := { program := "ytjobicffdcnnlaa", sum := "4f810bd7f5face5364239fa6a2add961b02ee908396eabb9468d5ab70ef22803", func := "quorumite/quorumitelaw15.PolicyPlays", spec := "policyPlays", inPlace := ["sync/atomic.AddInt64"], unfollowed := true, recurses := true, apart := false, narrowed := true }
def PolicyPlaysUptoSaid : Prop := policyPlaysUptoRow.holds Try.pinned (OpenSpec.upto policyPlaysSpec)

/-- 'quorumitelaw15.PolicyRaw', WHERE WHAT IT READS IS OF BULK AT MOST 1048576: true; the input reads as it did. -/
def policyRawUptoRow : OpenClaim := { program := "ytjobicffdcnnlaa", sum := "4f810bd7f5face5364239fa6a2add961b02ee908396eabb9468d5ab70ef22803", func := "quorumite/quorumitelaw15.PolicyRaw", spec := "policyRaw", inPlace := ["sync/atomic.AddInt64"], unfollowed := true, recurses := true, apart := false, narrowed := true }
def PolicyRawUptoSaid : Prop := policyRawUptoRow.holds Try.pinned (OpenSpec.upto policyRawSpec)

/-- 'quorumitelaw15.PolicyRises', WHERE WHAT IT READS IS OF BULK AT MOST 1048576: true; the input reads as it did. -/
def policyRisesUptoRow : OpenClaim := { program := "ytjobicffdcnnlaa", sum := "4f810bd7f5face5364239fa6a2add961b02ee908396eabb9468d5ab70ef22803", func := "quorumite/quorumitelaw15.PolicyRises", spec := "policyRises", inPlace := ["sync/atomic.AddInt64"], unfollowed := true, recurses := true, apart := false, narrowed := true }
def PolicyRisesUptoSaid : Prop := policyRisesUptoRow.holds Try.pinned (OpenSpec.upto policyRisesSpec)

/-- 'quorumitelaw15.PolicyBase', WHERE WHAT IT READS IS OF BULK AT MOST 1048576: true; the input reads as it did. -/
def policyBaseUptoRow : OpenClaim := { program := "ytjobicffdcnnlaa", sum := "4f810bd7f5face5364239fa6a2add961b02ee908396eabb9468d5ab70ef22803", func := "quorumite/quorumitelaw15.PolicyBase", spec := "policyBase", inPlace := ["sync/atomic.AddInt64"], unfollowed := true, recurses := true, apart := false, narrowed := true }
def PolicyBaseUptoSaid : Prop := policyBaseUptoRow.holds Try.pinned (OpenSpec.upto policyBaseSpec)

/-- 'quorumitelaw15.PolicyWithin', WHERE WHAT IT READS IS OF BULK AT MOST 1048576: true; the input reads as it did. -/
def policyWithinUptoRow : OpenClaim := { program := "ytjobicffdcnnlaa", sum := "4f810bd7f5face5364239fa6a2add961b02ee908396eabb9468d5ab70ef22803", func := "quorumite/quorumitelaw15.PolicyWithin", spec := "policyWithin", inPlace := ["sync/atomic.AddInt64"], unfollowed := true, recurses := true, apart := false, narrowed := true }
def PolicyWithinUptoSaid : Prop := policyWithinUptoRow.holds Try.pinned (OpenSpec.upto policyWithinSpec)

/-- 'quorumitelaw16.LawBounds', WHERE WHAT IT READS IS OF BULK AT MOST 1048576: true; the input reads as it did. -/
def lawBoundsUptoRow : OpenClaim := { program := "ytjobicffdcnnlaa", sum := "4f810bd7f5face5364239fa6a2add961b02ee908396eabb9468d5ab70ef22803", func := "quorumite/quorumitelaw16.LawBounds", spec := "lawBounds", inPlace := ["sync/atomic.AddInt64"], unfollowed := true, recurses := true, apart := false, narrowed := true }
def LawBoundsUptoSaid : Prop := lawBoundsUptoRow.holds Try.pinned (OpenSpec.upto lawBoundsSpec)

/-- 'quorumitelaw16.LawRises', WHERE WHAT IT READS IS OF BULK AT MOST 1048576: true; the input reads as it did. -/
def lawRisesUptoRow : OpenClaim := { program := "ytjobicffdcnnlaa", sum := "4f810bd7f5face5364239fa6a2add961b02ee908396eabb9468d5ab70ef22803", func := "quorumite/quorumitelaw16.LawRises", spec := "lawRises", inPlace := ["sync/atomic.AddInt64"], unfollowed := true, recurses := true, apart := false, narrowed := true }
def LawRisesUptoSaid : Prop := lawRisesUptoRow.holds Try.pinned (OpenSpec.upto lawRisesSpec)

/-- 'quorumitelaw16.LawBand', WHERE WHAT IT READS IS OF BULK AT MOST 1048576: true; the input reads as it did. -/
def lawBandUptoRow : OpenClaim := { program := "ytjobicffdcnnlaa", sum := "4f810bd7f5face5364239fa6a2add961b02ee908396eabb9468d5ab70ef22803", func := "quorumite/quorumitelaw16.LawBand", spec := "lawBand", inPlace := ["sync/atomic.AddInt64"], unfollowed := true, recurses := true, apart := false, narrowed := true }
def LawBandUptoSaid : Prop := lawBandUptoRow.holds Try.pinned (OpenSpec.upto lawBandSpec)

/-- 'quorumitelaw16.LawStill', WHERE WHAT IT READS IS OF BULK AT MOST 1048576: true; the input reads as it did. -/
def lawStillUptoRow : OpenClaim := { program := "ytjobicffdcnnlaa", sum := "4f810bd7f5face5364239fa6a2add961b02ee908396eabb9468d5ab70ef22803", func := "quorumite/quorumitelaw16.LawStill", spec := "lawStill", inPlace := ["sync/atomic.AddInt64"], unfollowed := true, recurses := true, apart := false, narrowed := true }
def LawStillUptoSaid : Prop := lawStillUptoRow.holds Try.pinned (OpenSpec.upto lawStillSpec)

/-- 'quorumitelaw16.LawPlays', WHERE WHAT IT READS IS OF BULK AT MOST 1048576: true; the input reads as it did. -/
def lawPlaysUptoRow : OpenClaim := { program := "ytjobicffdcnnlaa", sum := "4f810bd7f5face5364239fa6a2add961b02ee908396eabb9468d5ab70ef22803", func := "quorumite/quorumitelaw16.LawPlays", spec := "lawPlays", inPlace := ["sync/atomic.AddInt64"], unfollowed := true, recurses := true, apart := false, narrowed := true }
def LawPlaysUptoSaid : Prop := lawPlaysUptoRow.holds Try.pinned (OpenSpec.upto lawPlaysSpec)

/-- 'quorumitelaw26.JudgeHolds', WHERE WHAT IT READS IS OF BULK AT MOST 1048576: true; the input reads as it did. -/
def judgeHoldsUptoRow : OpenClaim := { program := "ytjobicffdcnnlaa", sum := "4f810bd7f5face5364239fa6a2add961b02ee908396eabb9468d5ab70ef22803", func := "quorumite/quorumitelaw26.JudgeHolds", spec := "judgeHolds", inPlace := ["sync/atomic.AddInt64"], unfollowed := true, recurses := true, apart := false, narrowed := true }
def JudgeHoldsUptoSaid : Prop := judgeHoldsUptoRow.holds Try.pinned (OpenSpec.upto judgeHoldsSpec)

/-- 'quorumitelaw26.JudgeAsks', WHERE WHAT IT READS IS OF BULK AT MOST 1048576: true; the input reads as it did. -/
def judgeAsksUptoRow : OpenClaim := { program := "ytjobicffdcnnlaa", sum := "4f810bd7f5face5364239fa6a2add961b02ee908396eabb9468d5ab70ef22803", func := "quorumite/quorumitelaw26.JudgeAsks", spec := "judgeAsks", inPlace := ["sync/atomic.AddInt64"], unfollowed := true, recurses := true, apart := false, narrowed := true }
def JudgeAsksUptoSaid : Prop := judgeAsksUptoRow.holds Try.pinned (OpenSpec.upto judgeAsksSpec)

/-- 'quorumitelaw26.JudgeBounds', WHERE WHAT IT READS IS OF BULK AT MOST 1048576: true; the input reads as it did. -/
def judgeBoundsUptoRow : OpenClaim := { program := "ytjobicffdcnnlaa", sum := "4f810bd7f5face5364239fa6a2add961b02ee908396eabb9468d5ab70ef22803", func := "quorumite/quorumitelaw26.JudgeBounds", spec := "judgeBounds", inPlace := ["sync/atomic.AddInt64"], unfollowed := true, recurses := true, apart := false, narrowed := true }
def JudgeBoundsUptoSaid : Prop := judgeBoundsUptoRow.holds Try.pinned (OpenSpec.upto judgeBoundsSpec)

/-- 'quorumitelaw26.JudgeSteady', WHERE WHAT IT READS IS OF BULK AT MOST 1048576: true; the input reads as it did. -/
def judgeSteadyUptoRow : OpenClaim := { program := "ytjobicffdcnnlaa", sum := "4f810bd7f5face5364239fa6a2add961b02ee908396eabb9468d5ab70ef22803", func := "quorumite/quorumitelaw26.JudgeSteady", spec := "judgeSteady", inPlace := ["sync/atomic.AddInt64"], unfollowed := true, recurses := true, apart := false, narrowed := true }
def JudgeSteadyUptoSaid : Prop := judgeSteadyUptoRow.holds Try.pinned (OpenSpec.upto judgeSteadySpec)

end Rows
end Go.Proofs.Ytjobicffdcnnlaa
