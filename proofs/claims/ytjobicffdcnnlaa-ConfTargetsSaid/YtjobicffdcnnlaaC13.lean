import Derived.Test.YtjobicffdcnnlaaC12
namespace Go.Proofs.Ytjobicffdcnnlaa
open Go.RowKit
set_option linter.unusedVariables false
theorem confTargets_walk (a b1 d : Int) (W : World) (h : (Lit.int .i64 a).wf = true) (h1 : (Lit.int .i64 b1).wf = true) (h2 : (Lit.int .i64 d).wf = true) :
    Calls Try.prog 13 #[.int .i64 a, .int .i64 b1, .int .i64 d] W fun e w' => e = .returned (.bool true) ∧ Below W.heap.size W w' := (confTargets_any a b1 d W).mono fun _ _ h => ⟨h.1, h.2.out⟩
end Go.Proofs.Ytjobicffdcnnlaa
