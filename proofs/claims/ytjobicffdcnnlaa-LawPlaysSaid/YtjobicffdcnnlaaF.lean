import Derived.Test.YtjobicffdcnnlaaRows
import Derived.JoinedOf
import Derived.KernelRfl
namespace Go.Proofs.Ytjobicffdcnnlaa
open Go
theorem and_mk {a b : Bool} (h : a = true) (k : b = true) : (a && b) = true := by rw [h, k]; rfl

theorem wordsSigns_word : ∀ (u r : List Char), (∀ c ∈ u, c ≠ Char.ofNat 32) → wordsSigns (u ++ Char.ofNat 32 :: r) = u :: wordsSigns r
  | [], r, _ => rfl
  | c :: u, r, h => by
    have hc : c ≠ Char.ofNat 32 := h c (by simp)
    have ih := wordsSigns_word u r (fun d hd => h d (by simp [hd]))
    show wordsSigns (c :: (u ++ Char.ofNat 32 :: r)) = _
    rw [wordsSigns]
    · rw [ih]
    · exact hc

def ch (l : List Nat) : List Char := l.map Char.ofNat
noncomputable def restSigns : List Char := ch [97, 116, 32, 113, 117, 111, 114, 117, 109, 105, 116, 101, 47, 113, 117, 111, 114, 117, 109, 105, 116, 101, 108, 97, 119, 49, 51, 46, 82, 97, 116, 105, 111, 65, 115, 107, 115, 32, 113, 117, 111, 114, 117, 109, 105, 116, 101, 47, 113, 117, 111, 114, 117, 109, 105, 116, 101, 108, 97, 119, 49, 51, 46, 82, 97, 116, 105, 111, 82, 105, 115, 101, 115, 32, 113, 117, 111, 114, 117, 109, 105, 116, 101, 47, 113, 117, 111, 114, 117, 109, 105, 116, 101, 108, 97, 119, 49, 51, 46, 82, 97, 116, 105, 111, 66, 97, 110, 100, 32, 113, 117, 111, 114, 117, 109, 105, 116, 101, 47, 113, 117, 111, 114, 117, 109, 105, 116, 101, 108, 97, 119, 49, 51, 46, 82, 97, 116, 105, 111, 77, 111, 115, 116, 32, 113, 117, 111, 114, 117, 109, 105, 116, 101, 47, 113, 117, 111, 114, 117, 109, 105, 116, 101, 108, 97, 119, 49, 51, 46, 82, 97, 116, 105, 111, 67, 101, 105, 108, 32, 113, 117, 111, 114, 117, 109, 105, 116, 101, 47, 113, 117, 111, 114, 117, 109, 105, 116, 101, 108, 97, 119, 49, 51, 46, 82, 97, 116, 105, 111, 82, 97, 119, 32, 113, 117, 111, 114, 117, 109, 105, 116, 101, 47, 113, 117, 111, 114, 117, 109, 105, 116, 101, 108, 97, 119, 51, 46, 67, 111, 110, 102, 69, 100, 103, 101, 115, 32, 113, 117, 111, 114, 117, 109, 105, 116, 101, 47, 113, 117, 111, 114, 117, 109, 105, 116, 101, 108, 97, 119, 51, 46, 67, 111, 110, 102, 65, 115, 107, 115, 32, 113, 117, 111, 114, 117, 109, 105, 116, 101, 47, 113, 117, 111, 114, 117, 109, 105, 116, 101, 108, 97, 119, 51, 46, 67, 111, 110, 102, 79, 110, 101, 32, 113, 117, 111, 114, 117, 109, 105, 116, 101, 47, 113, 117, 111, 114, 117, 109, 105, 116, 101, 108, 97, 119, 51, 46, 67, 111, 110, 102, 81, 117, 111, 114, 117, 109, 115, 32, 113, 117, 111, 114, 117, 109, 105, 116, 101, 47, 113, 117, 111, 114, 117, 109, 105, 116, 101, 108, 97, 119, 51, 46, 67, 111, 110, 102, 84, 97, 114, 103, 101, 116, 115, 32, 113, 117, 111, 114, 117, 109, 105, 116, 101, 47, 113, 117, 111, 114, 117, 109, 105, 116, 101, 108, 97, 119, 49, 53, 46, 80, 111, 108, 105, 99, 121, 83, 101, 116, 115, 32, 113, 117, 111, 114, 117, 109, 105, 116, 101, 47, 113, 117, 111, 114, 117, 109, 105, 116, 101, 108, 97, 119, 49, 53, 46, 80, 111, 108, 105, 99, 121, 80, 108, 97, 121, 115, 32, 113, 117, 111, 114, 117, 109, 105, 116, 101, 47, 113, 117, 111, 114, 117, 109, 105, 116, 101, 108, 97, 119, 49, 53, 46, 80, 111, 108, 105, 99, 121, 82, 97, 119, 32, 113, 117, 111, 114, 117, 109, 105, 116, 101, 47, 113, 117, 111, 114, 117, 109, 105, 116, 101, 108, 97, 119, 49, 53, 46, 80, 111, 108, 105, 99, 121, 82, 105, 115, 101, 115, 32, 113, 117, 111, 114, 117, 109, 105, 116, 101, 47, 113, 117, 111, 114, 117, 109, 105, 116, 101, 108, 97, 119, 49, 53, 46, 80, 111, 108, 105, 99, 121, 66, 97, 115, 101, 32, 113, 117, 111, 114, 117, 109, 105, 116, 101, 47, 113, 117, 111, 114, 117, 109, 105, 116, 101, 108, 97, 119, 49, 53, 46, 80, 111, 108, 105, 99, 121, 87, 105, 116, 104, 105, 110, 32, 113, 117, 111, 114, 117, 109, 105, 116, 101, 47, 113, 117, 111, 114, 117, 109, 105, 116, 101, 108, 97, 119, 49, 54, 46, 76, 97, 119, 66, 111, 117, 110, 100, 115, 32, 113, 117, 111, 114, 117, 109, 105, 116, 101, 47, 113, 117, 111, 114, 117, 109, 105, 116, 101, 108, 97, 119, 49, 54, 46, 76, 97, 119, 82, 105, 115, 101, 115, 32, 113, 117, 111, 114, 117, 109, 105, 116, 101, 47, 113, 117, 111, 114, 117, 109, 105, 116, 101, 108, 97, 119, 49, 54, 46, 76, 97, 119, 66, 97, 110, 100, 32, 113, 117, 111, 114, 117, 109, 105, 116, 101, 47, 113, 117, 111, 114, 117, 109, 105, 116, 101, 108, 97, 119, 49, 54, 46, 76, 97, 119, 83, 116, 105, 108, 108, 32, 113, 117, 111, 114, 117, 109, 105, 116, 101, 47, 113, 117, 111, 114, 117, 109, 105, 116, 101, 108, 97, 119, 49, 54, 46, 76, 97, 119, 80, 108, 97, 121, 115, 32, 113, 117, 111, 114, 117, 109, 105, 116, 101, 47, 113, 117, 111, 114, 117, 109, 105, 116, 101, 108, 97, 119, 50, 54, 46, 74, 117, 100, 103, 101, 72, 111, 108, 100, 115, 32, 113, 117, 111, 114, 117, 109, 105, 116, 101, 47, 113, 117, 111, 114, 117, 109, 105, 116, 101, 108, 97, 119, 50, 54, 46, 74, 117, 100, 103, 101, 65, 115, 107, 115, 32, 113, 117, 111, 114, 117, 109, 105, 116, 101, 47, 113, 117, 111, 114, 117, 109, 105, 116, 101, 108, 97, 119, 50, 54, 46, 74, 117, 100, 103, 101, 66, 111, 117, 110, 100, 115, 32, 113, 117, 111, 114, 117, 109, 105, 116, 101, 47, 113, 117, 111, 114, 117, 109, 105, 116, 101, 108, 97, 119, 50, 54, 46, 74, 117, 100, 103, 101, 83, 116, 101, 97, 100, 121]
def sumSigns : List Char := ch [97, 99, 54, 99, 102, 98, 57, 100, 50, 100, 102, 56, 97, 98, 102, 54, 102, 101, 48, 102, 100, 48, 56, 102, 97, 51, 99, 48, 100, 50, 48, 99, 98, 51, 49, 100, 49, 99, 54, 55, 97, 49, 50, 98, 57, 55, 51, 97, 53, 100, 102, 48, 52, 54, 101, 56, 54, 102, 49, 56, 48, 102, 52, 100]
theorem order_is : Try.prog.initOrder = String.ofList (ch [104, 97, 114, 110, 101, 115, 115] ++ (Char.ofNat 32 :: (sumSigns ++ (Char.ofNat 32 :: (ch [99, 117, 116] ++ (Char.ofNat 32 :: restSigns)))))) := by kernel_rfl
theorem order_words : wordsSigns Try.prog.initOrder.toList = ch [104, 97, 114, 110, 101, 115, 115] :: sumSigns :: ch [99, 117, 116] :: wordsSigns restSigns := by
  rw [order_is, String.toList_ofList, wordsSigns_word _ _ (by decide), wordsSigns_word _ _ (by decide), wordsSigns_word _ _ (by decide)]
theorem sum_is : isSumSigns sumSigns = true := by decide
theorem w_harness : "harness".toList = ch [104, 97, 114, 110, 101, 115, 115] := by decide
theorem w_cut : "cut".toList = ch [99, 117, 116] := by decide
theorem order_behind : behindMainWord (wordsSigns Try.prog.initOrder.toList) = "cut".toList :: wordsSigns restSigns := by
  rw [order_words, ← w_harness, ← w_cut]
  unfold behindMainWord
  dsimp only
  rw [sum_is, if_pos (by decide)]
theorem strip_cut (ws : List (List Char)) : ∀ os : List String, (∀ o ∈ os, ("cut".toList == o.toList) = false) → stripLifts os ("cut".toList :: ws) = ([], "cut".toList :: ws)
  | [], _ => rfl
  | o :: os, h => by
    rw [stripLifts, if_neg (by rw [h o (by simp)]; decide)]
    exact strip_cut ws os (fun d hd => h d (by simp [hd]))
theorem strip_lifts (ws : List (List Char)) : stripLifts liftWords ("cut".toList :: ws) = ([], "cut".toList :: ws) := strip_cut ws _ (by decide)
section
variable {P : Program} {ws : List (List Char)}
theorem lifts_of (h : behindMainWord (wordsSigns P.initOrder.toList) = "cut".toList :: ws) : P.headLifts = [] := by
  unfold Program.headLifts
  rw [h, strip_lifts]
  rfl
theorem make_of (h : behindMainWord (wordsSigns P.initOrder.toList) = "cut".toList :: ws) : P.make = some .cut := by
  unfold Program.make
  rw [h]
  dsimp only
  rw [if_neg (by decide), if_pos (by simp)]
theorem final_of (h : behindMainWord (wordsSigns P.initOrder.toList) = "cut".toList :: ws) : P.liftsFinal = false := by
  unfold Program.liftsFinal
  rw [h, lifts_of h]
  dsimp only
  rw [show (List.head? ("cut".toList :: ws) == some "carried".toList) = false by (rw [List.head?_cons]; decide)]
  rfl
theorem may_of (h : behindMainWord (wordsSigns P.initOrder.toList) = "cut".toList :: ws) (h1 : P.doorFits [] = true) (h2 : P.laysLater = false) (h3 : P.bearsReflect = false) : P.mayEnter = true := by
  unfold Program.mayEnter
  rw [h]
  dsimp only
  rw [strip_lifts, h1, h2, h3]
  simp
end
theorem fact_make : (Try.prog.make == some .cut) = true := by rw [make_of order_behind]; rfl
theorem fact_lifts : (false == Try.prog.liftsFinal) = true := by rw [final_of order_behind]; rfl
theorem fact_door : Try.prog.doorFits [] = true := by kernel_rfl
theorem fact_later : Try.prog.laysLater = false := by kernel_rfl
theorem fact_refl : Try.prog.bearsReflect = false := by kernel_rfl
theorem fact_may : Try.prog.mayEnter = true := may_of order_behind fact_door fact_later fact_refl
end Go.Proofs.Ytjobicffdcnnlaa
