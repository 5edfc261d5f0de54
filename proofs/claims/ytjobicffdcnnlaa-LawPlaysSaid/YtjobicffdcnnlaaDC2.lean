import Derived.Test.YtjobicffdcnnlaaDC1
import Derived.Test.YtjobicffdcnnlaaLX1
/- The document's calm: Next. -/
namespace Go.Proofs.Ytjobicffdcnnlaa
open Go.RowKit
set_option linter.unusedSimpArgs false
set_option linter.unusedVariables false
set_option maxRecDepth 100000

theorem run_load45 {a : Act} {x : Operand} {o : Oper} {w : World} {p off : Nat} {v : Value} (ho : o.op = .load 45 x) (hp : a.eval x = .pointer (some ⟨p, off, none⟩)) (hc : w.cell? ⟨p, off, none⟩ = some v) : (execOp a.eval o).run Try.prog w = .ok (.value v) w := by
  unfold execOp
  rw [ho]
  show (do let y ← Instr.loadAt 45 (a.eval x); pure (Next.value y) : Sem Next).run Try.prog w = _
  rw [hp]
  simp [Instr.loadAt, go_sem, hc]
/-- What a slice that is read may be: nil, or some numbers. -/
def Rd (w : World) (v : Value) (l : List Int) : Prop := (v = .slice none 0 0 ∧ l = []) ∨ ∃ A c, v = .slice (some A) l.length c ∧ RI w (some A) l.length l ∧ 1 ≤ l.length ∧ l.length ≤ 1000
theorem RK.rd {w : World} {p g : Nat} {v : Value} {up dn : Int} {l : List Int} (h : RK w p g v up dn l) (hl : l.length ≤ 1000) : Rd w v l := by
  rcases h.row with ⟨h1, h2, _⟩ | ⟨o, cap, h1, h2, _, h3, _⟩
  · exact .inl ⟨h1, h2⟩
  · exact .inr ⟨_, cap, h1, ⟨rfl, by omega, fun _ => ⟨_, rfl, fun j hj => by rw [Addr.add_lit]; exact h3 j hj⟩⟩, h2.1, hl⟩
theorem Rd.on {w w' : World} {v : Value} {l : List Int} (h : Rd w v l) (r : Gr w w') : Rd w' v l := h.imp id fun ⟨A, c, h1, h2, h3⟩ => ⟨A, c, h1, h2.gr r, h3⟩
/-- A copy: all of a slice behind nothing. -/
theorem list_copy45 {ops : Array Oper} {rest : List Oper} {Q : Exit → Act → World → Prop} {o : Oper} {a : Act} {w : World} {l : List Int} {v : Value} {s0 : Nat} (hgd : o.guard = none) (t : Nat) (hd : o.dst = some t)
    (s x : Operand) (ho : o.op = .call { callee := .builtin .append, args := #[s, x], argTypes := #[45, 45] }) (hs : a.eval s = .slice (some ⟨s0, 0, none⟩) 0 0) (hx : a.eval x = v) (hr : Rd w v l)
    (hown : w.ownsRow s0 3 1 (.slice (some ⟨s0, 0, none⟩) 0 0) 0 []) (hB : s0 ≤ w.heap.size)
    (k : ∀ g cap w', w'.ownsRow s0 3 1 (.slice (some ⟨g, 0, none⟩) l.length cap) l.length (l.map (.int .i64)) → w.grownBy w' (some s0) → (g = s0 ∨ g = w.heap.size) → g < w'.heap.size →
      wpList Try.prog ops Q rest (a.put (some t) (.slice (some ⟨g, 0, none⟩) l.length cap)) w') : wpList Try.prog ops Q (o :: rest) a w := by
  rcases hr with ⟨rfl, rfl⟩ | ⟨A, c, rfl, hR, h1, h2⟩
  · refine wpList_val (.slice (some ⟨s0, 0, none⟩) 0 0) w hgd ?_ ?_
    · have happ : (Builtin.append_ #[45, 45] o.type #[.slice (some ⟨s0, 0, none⟩) 0 0, .slice none 0 0]).run Try.prog w = .ok (.slice (some ⟨s0, 0, none⟩) 0 0) w := by kernel_rfl
      unfold execOp
      simp only [ho, resolve, invoke, builtin, Sem.run_bind, Sem.run_pure, Result.andThen_ok, List.map_toArray, List.map_cons, List.map_nil, hs, hx, happ]
    · rw [hd]
      refine k s0 0 w hown ⟨rfl, rfl, rfl, Nat.le_refl _, fun _ _ _ => rfl⟩ (.inl rfl) ?_
      have := hown.lt s0 rfl
      exact this.2
  · refine list_app45 (l := []) (ys := l) hgd t hd s x ho hs A l.length c hx hR h1 hown (by simp; omega) hB l.length (by simp) fun g cap w' h1 h2 h3 h4 => ?_
    exact k g cap w' h1 h2 (h3.imp (fun e => (Option.some.inj e).symm) id) h4
end Go.Proofs.Ytjobicffdcnnlaa
