import Derived.Test.YtjobicffdcnnlaaV6
/- PolicyPlays. -/
namespace Go.Proofs.Ytjobicffdcnnlaa
open Go.RowKit
set_option linter.unusedSimpArgs false
set_option linter.unusedVariables false
set_option maxRecDepth 100000

/-- The program's policy and the document's, apart. -/
structure PX (W w : World) (c : CF) (p g cp : Nat) (l : List Int) (k : Int) (q h o cq : Nat) (m : List Int) : Prop where
  P : Pol w p g cp c l k
  X : RX w q h o cq c m
  G : Gr W w
  np : W.heap.size ≤ p
  ng : W.heap.size ≤ g
  nq : W.heap.size ≤ q
  nh : W.heap.size ≤ h
  pq : p ≠ q
  ph : p ≠ h
  gq : g ≠ q
  gh : g ≠ h
theorem PX.on {W w w' : World} {c : CF} {p g cp : Nat} {l : List Int} {k : Int} {q h o cq : Nat} {m : List Int} (x : PX W w c p g cp l k q h o cq m) (r : Gr w w') : PX W w' c p g cp l k q h o cq m :=
  ⟨x.P.on r, x.X.on r, x.G.trans r, x.np, x.ng, x.nq, x.nh, x.pq, x.ph, x.gq, x.gh⟩
theorem PX.left {W w w' : World} {c : CF} {p g cp : Nat} {l : List Int} {k : Int} {q h o cq : Nat} {m : List Int} (x : PX W w c p g cp l k q h o cq m) {g' cp' : Nat} {l' : List Int} {k' : Int}
    (H : Pol w' p g' cp' c l' k') (T : Tc p g w w') (hg : g' = g ∨ w.heap.size ≤ g') : PX W w' c p g' cp' l' k' q h o cq m := by
  have h1 := x.X.lt
  have h2 := x.X.glt
  have h3 := x.G.size
  have := x.ng; have := x.gq; have := x.gh
  exact ⟨H, x.X.other T x.pq.symm x.gq.symm x.ph.symm x.gh.symm, T.gr x.G x.np x.ng, x.np, by omega, x.nq, x.nh, x.pq, x.ph, by omega, by omega⟩
theorem PX.right {W w w' : World} {c : CF} {p g cp : Nat} {l : List Int} {k : Int} {q h o cq : Nat} {m : List Int} (x : PX W w c p g cp l k q h o cq m) {h' o' cq' : Nat} {m' : List Int}
    (H : RX w' q h' o' cq' c m') (T : Tc q q w w') (hg : w.heap.size ≤ h') : PX W w' c p g cp l k q h' o' cq' m' := by
  have h1 := x.P.lt
  have h2 := x.P.glt
  have h3 := x.G.size
  exact ⟨x.P.other T x.pq x.pq x.gq x.gq, H, T.gr x.G x.nq x.nq, x.np, x.ng, x.nq, by omega, x.pq, by omega, x.gq, by omega⟩

end Go.Proofs.Ytjobicffdcnnlaa
