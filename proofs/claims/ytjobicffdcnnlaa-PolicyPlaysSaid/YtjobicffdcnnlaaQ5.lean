/- The schedule of Q4 over the worlds that have grown. -/
import Derived.Test.YtjobicffdcnnlaaQ4
import Derived.Test.YtjobicffdcnnlaaC9
namespace Go.Proofs.Ytjobicffdcnnlaa
open Go.RowKit

section
variable {P : Program} {ops : Array Oper} {Q : Exit → Act → World → Prop}
theorem Gr.in_ {W w : World} (h : Gr W w) : ∃ s : Gw W, w = s.val := ⟨⟨w, h.out⟩, rfl⟩
theorem Gr.fresh (W : World) : Gr W { W with drawn := W.drawn + 1 } := ⟨(Below.refl _ _).drew⟩
theorem wpOp_gr {W w : World} {i : Nat} {o : Oper} {a : Act} {K : Act → World → Prop} (t : Nat) (f : FuncId) (args : Array Value) (v : Value) (hi : ops[i]? = some o) (hd : o.dst = some t) (hw : Region.wanted o (yielded ops a.tmps) = true)
    (h : (execOp a.eval o).run P w = .ok (.enter f args) w) (hG : Gr W w) (hc : Calls P f args w fun e w' => e = .returned v ∧ Gr w w') (k : ∀ w', Gr W w' → Gr w w' → K (a.put (some t) v) w') :
    wpOp P ops Q i (fun a' w' => (∃ s : Gw W, w' = s.val) ∧ K a' w') a w :=
  wpOp_enter (R := fun u w' => u = v ∧ Gr w w') f args hi hw h (hc.mono fun e w' ⟨h1, h2⟩ => ⟨_, h1, rfl, h2⟩) fun u w' ⟨e, g⟩ => by subst e; rw [hd]; exact ⟨(hG.trans g).in_, k w' (hG.trans g) g⟩
/-- A call that hands back what it has made. -/
theorem wpOp_new {W w : World} {i : Nat} {o : Oper} {a : Act} {K : Act → World → Prop} {R : Value → World → Prop} (t : Nat) (f : FuncId) (args : Array Value) (hi : ops[i]? = some o) (hd : o.dst = some t) (hw : Region.wanted o (yielded ops a.tmps) = true)
    (h : (execOp a.eval o).run P w = .ok (.enter f args) w) (hG : Gr W w) (hc : Calls P f args w fun e w' => ∃ v, e = .returned v ∧ R v w' ∧ Gr w w') (k : ∀ v w', R v w' → Gr W w' → Gr w w' → K (a.put (some t) v) w') :
    wpOp P ops Q i (fun a' w' => (∃ s : Gw W, w' = s.val) ∧ K a' w') a w :=
  wpOp_enter (R := fun u w' => R u w' ∧ Gr w w') f args hi hw h hc fun u w' ⟨r, g⟩ => by rw [hd]; exact ⟨(hG.trans g).in_, k u w' r (hG.trans g) g⟩
theorem wpOp_made {W w : World} {i : Nat} {o : Oper} {a : Act} {K : Act → World → Prop} (t : Nat) (v : Value) (w1 : World) (hi : ops[i]? = some o) (hd : o.dst = some t) (hw : Region.wanted o (yielded ops a.tmps) = true)
    (h : (execOp a.eval o).run P w = .ok (.value v) w1) (hG : Gr W w1) (k : K (a.put (some t) v) w1) : wpOp P ops Q i (fun a' w' => (∃ s : Gw W, w' = s.val) ∧ K a' w') a w :=
  wpOp_value v w1 hi hw h (by rw [hd]; exact ⟨hG.in_, k⟩)
end
end Go.Proofs.Ytjobicffdcnnlaa
