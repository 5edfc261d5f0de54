import Derived.Test.YtjobicffdcnnlaaLW9
/- Rows of counts that grow in plain regions. -/
namespace Go.Proofs.Ytjobicffdcnnlaa
open Go.RowKit
set_option linter.unusedSimpArgs false
set_option linter.unusedVariables false
set_option maxRecDepth 100000

/-- Some numbers more on a row, in a plain region, once more. -/
theorem list_app45 {ops : Array Oper} {rest : List Oper} {Q : Exit → Act → World → Prop} {o : Oper} {a : Act} {w : World} {l ys : List Int} {v : Value} {B : Nat} (hgd : o.guard = none) (t : Nat) (hd : o.dst = some t)
    (s x : Operand) (ho : o.op = .call { callee := .builtin .append, args := #[s, x], argTypes := #[45, 45] }) (hs : a.eval s = v) (A : Addr) (m c : Nat) (hx : a.eval x = .slice (some A) m c) (hr : RI w (some A) m ys) (hm1 : 1 ≤ m)
    (hown : w.ownsRow B 3 1 v l.length (l.map (.int .i64))) (hl : l.length + m ≤ 2000) (hB : B ≤ w.heap.size) (n' : Nat) (hn' : l.length + m = n')
    (k : ∀ g cap w', w'.ownsRow B 3 1 (.slice (some ⟨g, 0, none⟩) n' cap) (l ++ ys).length ((l ++ ys).map (.int .i64)) → w.grownBy w' v.ownBlock → (v.ownBlock = some g ∨ g = w.heap.size) → g < w'.heap.size →
      wpList Try.prog ops Q rest (a.put (some t) (.slice (some ⟨g, 0, none⟩) n' cap)) w') : wpList Try.prog ops Q (o :: rest) a w := by
  obtain ⟨i0, hi0, hz0, hz1, hz2⟩ := info_parts info3
  have hym : ys.length = m := hr.1
  subst hn'
  refine wpList_append_lies w hgd s x 45 ho B 3 i0 (.int .i64 0) 1 8 Try.underlying45 hi0 hz0 hz1 hz2 rfl (by decide) v l.length (l.map (.int .i64)) hs hown A m c (ys.map (.int .i64)) hx (by simp [hym]) (fun j u hj => ?_) (fun u hu => ?_) (by omega) (by unfold maxLen; omega) (by omega) hB _ rfl fun g cap w' h1 h2 h3 h4 => ?_
  · have hjl : j < ys.length := by
      have := (List.getElem?_eq_some_iff.1 hj).1
      simpa using this
    obtain ⟨A', e, hc⟩ := hr.at_ (k := j) (by omega)
    cases e
    rw [hc, ← hj]
    simp [List.getD_eq_getElem?_getD, List.getElem?_eq_getElem hjl]
  · obtain ⟨y, _, rfl⟩ := List.mem_map.1 hu
    rfl
  · rw [hd]
    refine k g cap w' ?_ h2 h3 h4
    have e : (l ++ ys).length = l.length + m := by simp [hym]
    rw [e]
    simpa using h1
/-- A row of numbers is read. -/
theorem own_RIt {w : World} {B g n cap : Nat} {l : List Int} (h : w.ownsRow B 3 1 (.slice (some ⟨g, 0, none⟩) n cap) l.length (l.map (.int .i64))) (hn : l.length = n) (hm : n ≤ 2000) : RI w (some ⟨g, 0, none⟩) n l := by
  refine ⟨hn, by omega, fun _ => ⟨_, rfl, fun j hj => ?_⟩⟩
  rw [hn] at h
  have := h.cellAt j (by omega)
  rw [Addr.add_lit, Nat.zero_add, this]
  simp [List.getD_eq_getElem?_getD, List.getElem?_eq_getElem (show j < l.length by omega)]
end Go.Proofs.Ytjobicffdcnnlaa
