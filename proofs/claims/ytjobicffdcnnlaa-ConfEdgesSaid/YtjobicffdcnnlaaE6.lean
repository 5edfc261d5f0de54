import Derived.Test.YtjobicffdcnnlaaE0
import Derived.Test.YtjobicffdcnnlaaE1
import Derived.Test.YtjobicffdcnnlaaE2
import Derived.Test.YtjobicffdcnnlaaE3
import Derived.Test.YtjobicffdcnnlaaE4
import Derived.Test.YtjobicffdcnnlaaE5
namespace Go.Proofs.Ytjobicffdcnnlaa
open Go.RowKit
set_option linter.unusedVariables false
theorem confEdges_walk (a b1 : Int) (W : World) (_h : (Lit.int .i64 a).wf = true) (_h1 : (Lit.int .i64 b1).wf = true) :
    Calls Try.prog 9 #[.int .i64 a, .int .i64 b1] W fun e w' => e = .returned (.bool true) ∧ Below W.heap.size W w' := by
  obtain ⟨k, hk, k0, k1⟩ := u64_mod a 22 (by omega)
  obtain ⟨j, hj, j0, j1⟩ := u64_mod b1 4 (by omega)
  have ek : k = 0 ∨ k = 1 ∨ k = 2 ∨ k = 3 ∨ k = 4 ∨ k = 5 ∨ k = 6 ∨ k = 7 ∨ k = 8 ∨ k = 9 ∨ k = 10 ∨ k = 11 ∨ k = 12 ∨ k = 13 ∨ k = 14 ∨ k = 15 ∨ k = 16 ∨ k = 17 ∨ k = 18 ∨ k = 19 ∨ k = 20 ∨ k = 21 := by omega
  have ej : j = 0 ∨ j = 1 ∨ j = 2 ∨ j = 3 := by omega
  have main : Calls Try.prog 9 #[.int .i64 a, .int .i64 b1] W fun e w' => e = .returned (.bool true) ∧ Gr W w' := by
   skip
   rcases ek with rfl | rfl | rfl | rfl | rfl | rfl | rfl | rfl | rfl | rfl | rfl | rfl | rfl | rfl | rfl | rfl | rfl | rfl | rfl | rfl | rfl | rfl
   · rcases ej with rfl | rfl | rfl | rfl
     · exact edges_0_0 a b1 hk hj W
     · exact edges_0_1 a b1 hk hj W
     · exact edges_0_2 a b1 hk hj W
     · exact edges_0_3 a b1 hk hj W
   · rcases ej with rfl | rfl | rfl | rfl
     · exact edges_1_0 a b1 hk hj W
     · exact edges_1_1 a b1 hk hj W
     · exact edges_1_2 a b1 hk hj W
     · exact edges_1_3 a b1 hk hj W
   · rcases ej with rfl | rfl | rfl | rfl
     · exact edges_2_0 a b1 hk hj W
     · exact edges_2_1 a b1 hk hj W
     · exact edges_2_2 a b1 hk hj W
     · exact edges_2_3 a b1 hk hj W
   · rcases ej with rfl | rfl | rfl | rfl
     · exact edges_3_0 a b1 hk hj W
     · exact edges_3_1 a b1 hk hj W
     · exact edges_3_2 a b1 hk hj W
     · exact edges_3_3 a b1 hk hj W
   · rcases ej with rfl | rfl | rfl | rfl
     · exact edges_4_0 a b1 hk hj W
     · exact edges_4_1 a b1 hk hj W
     · exact edges_4_2 a b1 hk hj W
     · exact edges_4_3 a b1 hk hj W
   · rcases ej with rfl | rfl | rfl | rfl
     · exact edges_5_0 a b1 hk hj W
     · exact edges_5_1 a b1 hk hj W
     · exact edges_5_2 a b1 hk hj W
     · exact edges_5_3 a b1 hk hj W
   · rcases ej with rfl | rfl | rfl | rfl
     · exact edges_6_0 a b1 hk hj W
     · exact edges_6_1 a b1 hk hj W
     · exact edges_6_2 a b1 hk hj W
     · exact edges_6_3 a b1 hk hj W
   · rcases ej with rfl | rfl | rfl | rfl
     · exact edges_7_0 a b1 hk hj W
     · exact edges_7_1 a b1 hk hj W
     · exact edges_7_2 a b1 hk hj W
     · exact edges_7_3 a b1 hk hj W
   · rcases ej with rfl | rfl | rfl | rfl
     · exact edges_8_0 a b1 hk hj W
     · exact edges_8_1 a b1 hk hj W
     · exact edges_8_2 a b1 hk hj W
     · exact edges_8_3 a b1 hk hj W
   · rcases ej with rfl | rfl | rfl | rfl
     · exact edges_9_0 a b1 hk hj W
     · exact edges_9_1 a b1 hk hj W
     · exact edges_9_2 a b1 hk hj W
     · exact edges_9_3 a b1 hk hj W
   · rcases ej with rfl | rfl | rfl | rfl
     · exact edges_10_0 a b1 hk hj W
     · exact edges_10_1 a b1 hk hj W
     · exact edges_10_2 a b1 hk hj W
     · exact edges_10_3 a b1 hk hj W
   · rcases ej with rfl | rfl | rfl | rfl
     · exact edges_11_0 a b1 hk hj W
     · exact edges_11_1 a b1 hk hj W
     · exact edges_11_2 a b1 hk hj W
     · exact edges_11_3 a b1 hk hj W
   · rcases ej with rfl | rfl | rfl | rfl
     · exact edges_12_0 a b1 hk hj W
     · exact edges_12_1 a b1 hk hj W
     · exact edges_12_2 a b1 hk hj W
     · exact edges_12_3 a b1 hk hj W
   · rcases ej with rfl | rfl | rfl | rfl
     · exact edges_13_0 a b1 hk hj W
     · exact edges_13_1 a b1 hk hj W
     · exact edges_13_2 a b1 hk hj W
     · exact edges_13_3 a b1 hk hj W
   · rcases ej with rfl | rfl | rfl | rfl
     · exact edges_14_0 a b1 hk hj W
     · exact edges_14_1 a b1 hk hj W
     · exact edges_14_2 a b1 hk hj W
     · exact edges_14_3 a b1 hk hj W
   · rcases ej with rfl | rfl | rfl | rfl
     · exact edges_15_0 a b1 hk hj W
     · exact edges_15_1 a b1 hk hj W
     · exact edges_15_2 a b1 hk hj W
     · exact edges_15_3 a b1 hk hj W
   · rcases ej with rfl | rfl | rfl | rfl
     · exact edges_16_0 a b1 hk hj W
     · exact edges_16_1 a b1 hk hj W
     · exact edges_16_2 a b1 hk hj W
     · exact edges_16_3 a b1 hk hj W
   · rcases ej with rfl | rfl | rfl | rfl
     · exact edges_17_0 a b1 hk hj W
     · exact edges_17_1 a b1 hk hj W
     · exact edges_17_2 a b1 hk hj W
     · exact edges_17_3 a b1 hk hj W
   · rcases ej with rfl | rfl | rfl | rfl
     · exact edges_18_0 a b1 hk hj W
     · exact edges_18_1 a b1 hk hj W
     · exact edges_18_2 a b1 hk hj W
     · exact edges_18_3 a b1 hk hj W
   · rcases ej with rfl | rfl | rfl | rfl
     · exact edges_19_0 a b1 hk hj W
     · exact edges_19_1 a b1 hk hj W
     · exact edges_19_2 a b1 hk hj W
     · exact edges_19_3 a b1 hk hj W
   · rcases ej with rfl | rfl | rfl | rfl
     · exact edges_20_0 a b1 hk hj W
     · exact edges_20_1 a b1 hk hj W
     · exact edges_20_2 a b1 hk hj W
     · exact edges_20_3 a b1 hk hj W
   · rcases ej with rfl | rfl | rfl | rfl
     · exact edges_21_0 a b1 hk hj W
     · exact edges_21_1 a b1 hk hj W
     · exact edges_21_2 a b1 hk hj W
     · exact edges_21_3 a b1 hk hj W
  exact main.mono fun _ _ h => ⟨h.1, h.2.out⟩
end Go.Proofs.Ytjobicffdcnnlaa
