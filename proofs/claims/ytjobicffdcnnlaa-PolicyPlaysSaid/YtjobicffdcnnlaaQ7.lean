/- Schedules one behind the other, each with a class of its own. General: no program in sight. -/
import Derived.Test.YtjobicffdcnnlaaQ6
namespace Go.Proofs.Ytjobicffdcnnlaa
open Go

section
variable {P : Program} {ops : Array Oper} {md : Region.Mode} {C : World → Prop} {Q : Exit → Act → World → Prop}

theorem held_of_any : ∀ (fuel : Nat) (listed : Array Bool) (a : Act) (w : World), wpAny P md ops Q fuel listed a w → wpAnyH P md ops Q (fun _ => True) fuel listed a w
  | 0, _, _, _, h => h
  | fuel + 1, _, _, _, h => ⟨h.1, fun i hi => wpOp_mono (fun a' w' h' => ⟨trivial, held_of_any fuel _ a' w' h'⟩) (h.2 i hi)⟩
def schG (md : Region.Mode) (ops : Array Oper) : List (List Nat × List Nat) → Array Bool → Bool
  | [], _ => true
  | (R, A) :: σ, l => schR md ops R l && schA md ops A (setAll R l) && schG md ops σ (setAll A (setAll R l))
def setGs : List (List Nat × List Nat) → Array Bool → Array Bool
  | [], l => l
  | (R, A) :: σ, l => setGs σ (setAll A (setAll R l))
def wpGrpK (P : Program) (ops : Array Oper) (C : World → Prop) (Q : Exit → Act → World → Prop) (K : Act → World → Prop) : List (List Nat × List Nat) → Act → World → Prop
  | [], a, w => K a w
  | (R, A) :: σ, a, w => wpQuiet P ops C (fun a' => wpSeqC P ops C Q (wpGrpK P ops C Q K σ) A a' w) (R.filterMap fun i => ops[i]?) a
theorem grp_then (hsel : Region.noSelect ops = true) (hQ : ∀ d v c a w, Q (.panic c) (Act.put a d v) w → Q (.panic c) a w) {K : Act → World → Prop} {fuel : Nat} :
    ∀ (σ : List (List Nat × List Nat)) (listed : Array Bool) (a : Act) (w : World), C w → schG md ops σ listed = true → wpGrpK P ops C Q K σ a w →
    (∀ a' w', C w' → K a' w' → wpAnyH P md ops Q C fuel (setGs σ listed) a' w') → wpAnyH P md ops Q C (fuel + count σ) listed a w
  | [], listed, a, w, hC, _, h, k => k a w hC h
  | (R, A) :: σ, listed, a, w, hC, hB, h, k => by
    simp only [schG, Bool.and_eq_true] at hB
    rw [show fuel + count ((R, A) :: σ) = fuel + count σ + A.length + R.length by simp only [count]; omega]
    refine reads_sound hsel hQ hC R listed a hB.1.1 h fun a' h' => ?_
    exact seq_sound A _ a' w hC hB.1.2 h' fun a2 w2 hC2 h2 => grp_then hsel hQ σ _ a2 w2 hC2 hB.2 h2 k

/-- First a schedule whose reads look at no memory; behind it one over a class that is chosen there. -/
theorem wp_region_two {id : Nat} {a : Act} {w : World} {l : List Oper} (σ τ : List (List Nat × List Nat)) (hm : P.follows .mixedOrders = true) (hsel : Region.noSelect l.toArray = true)
    (hB : schG .any l.toArray σ (Array.replicate l.toArray.size false) = true) (hB2 : schB .any l.toArray τ (setGs σ (Array.replicate l.toArray.size false)) = true) (hn : count τ + count σ = l.toArray.size)
    (hQ : ∀ d v c a w, Q (.panic c) (Act.put a d v) w → Q (.panic c) a w)
    (h : wpGrpK P l.toArray (fun _ => True) Q (fun a' w' => ∃ D : World → Prop, D w' ∧ wpGrp P l.toArray D Q τ a' w') σ a { w with drawn := w.drawn + 1 }) : (Code.region id l.toArray true).wp P Q a w := by
  refine wp_region_held (S := fun _ => True) hm ?_
  have := grp_then (md := .any) (C := fun _ => True) (fuel := count τ) hsel hQ σ (Array.replicate l.toArray.size false) a { w with drawn := w.drawn + 1 } trivial hB h
    (fun a' w' _ ⟨D, hD, hg⟩ => held_of_any _ _ _ _ (wpAny_of_held _ _ _ _ (grp_sound (md := .any) (C := D) hsel hQ τ _ a' w' hD hB2 hg)))
  rwa [hn] at this
end
end Go.Proofs.Ytjobicffdcnnlaa
