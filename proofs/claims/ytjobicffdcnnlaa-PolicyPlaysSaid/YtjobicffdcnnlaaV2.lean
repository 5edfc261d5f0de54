import Derived.Test.YtjobicffdcnnlaaV1
import Derived.Deep.AppendLies
/- The document's policy: last, Put. -/
namespace Go.Proofs.Ytjobicffdcnnlaa
open Go.RowKit
set_option linter.unusedSimpArgs false
set_option linter.unusedVariables false
set_option maxRecDepth 100000

/-- The last of a row's counts: the same row, from further on. -/
theorem last_any (g n cap : Nat) (P : Nat) (w : World) (hn : 1 ≤ n) (hn2 : n ≤ 2000) (hP : 1 ≤ P) (hP2 : P ≤ 2000) (hc : n ≤ cap) (hcm : cap ≤ maxLen) :
    Calls Try.prog 91 #[.slice (some ⟨g, 0, none⟩) n cap, .int .i64 (P : Int)] w fun e w' => e = .returned (.slice (some ⟨g, n - P, none⟩) (n - (n - P)) (cap - (n - P))) ∧ w = w' := by
  have eD : (max ((n : Int) - (P : Int)) 0).toNat = n - P := by omega
  unfold maxLen at hcm
  go_enter Try.func91, Try.ntmps91
  go_wp2
  all_goals
    go_ret
    refine ⟨?_, rfl⟩
    try rw [eD]
    try rfl
end Go.Proofs.Ytjobicffdcnnlaa
