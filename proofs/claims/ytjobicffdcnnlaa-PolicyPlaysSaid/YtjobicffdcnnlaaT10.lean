import Derived.Test.YtjobicffdcnnlaaT9
namespace Go.Proofs.Ytjobicffdcnnlaa
open Go.RowKit
theorem policyPlays_walk (A0 : Option Addr) (n0 cap0 : Nat) (z0 : List Int) (a1 : Int) (A2 : Option Addr) (n2 cap2 : Nat) (z2 : List Int) (a3 : Int) (A4 : Option Addr) (n4 cap4 : Nat) (z4 : List Int) (W : World) (h0 : RI W A0 n0 z0) (_ : ∀ x ∈ z0, (Lit.int .i64 x).wf = true) (_ : (Lit.int .i64 a1).wf = true) (h2 : RI W A2 n2 z2) (_ : ∀ x ∈ z2, (Lit.int .i64 x).wf = true) (_ : (Lit.int .i64 a3).wf = true) (h4 : RI W A4 n4 z4) (_ : ∀ x ∈ z4, (Lit.int .i64 x).wf = true) :
    Calls Try.prog 15 #[.slice A0 n0 cap0, .int .i64 a1, .slice A2 n2 cap2, .int .i64 a3, .slice A4 n4 cap4] W fun e w' => e = .returned (.bool true) ∧ Below W.heap.size W w' := (policyPlays_any A0 n0 cap0 z0 a1 A2 n2 cap2 z2 a3 A4 n4 cap4 z4 W h0 h2 h4).mono fun _ _ h => ⟨h.1, h.2.out⟩
end Go.Proofs.Ytjobicffdcnnlaa
