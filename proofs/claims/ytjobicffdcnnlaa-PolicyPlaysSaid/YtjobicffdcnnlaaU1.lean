import Derived.Test.YtjobicffdcnnlaaT3
import Derived.Deep.AppendLies
/- RatioMost: the plain law, and how two rows grow. -/
namespace Go.Proofs.Ytjobicffdcnnlaa
open Go.RowKit
set_option linter.unusedSimpArgs false
set_option linter.unusedVariables false
set_option maxRecDepth 100000

theorem mostL_spec (n tol : Int) : ∀ (l : List (Int × Int)) (acc : Int), (∀ p ∈ l, mayB p.1 p.2 tol = true) →
    ∃ M, mostL n tol l acc = some M ∧ acc ≤ M ∧ (∀ p ∈ l, wantV n p.1 p.2 tol ≤ M) ∧ (M = acc ∨ ∃ p ∈ l, wantV n p.1 p.2 tol = M)
  | [], acc, _ => ⟨acc, rfl, Int.le_refl _, (fun p hp => by cases hp), Or.inl rfl⟩
  | (v, t) :: r, acc, h => by
    obtain ⟨M, h1, h2, h3, h4⟩ := mostL_spec n tol r (max acc (wantV n v t tol)) (fun p hp => h p (by simp [hp]))
    refine ⟨M, ?_, by omega, fun p hp => ?_, ?_⟩
    · unfold mostL
      rw [if_pos (h (v, t) (by simp))]
      exact h1
    · rcases List.mem_cons.1 hp with rfl | hp
      · show wantV n v t tol ≤ M
        omega
      · exact h3 p hp
    · rcases h4 with h4 | ⟨p, hp, h4⟩
      · by_cases hc : wantV n v t tol ≤ acc
        · left; omega
        · right; exact ⟨(v, t), by simp, by show wantV n v t tol = M; omega⟩
      · right; exact ⟨p, by simp [hp], h4⟩
/-- The values and targets that may be. -/
def MayP (p : Int × Int) : Prop := 0 ≤ p.1 ∧ p.1 < 5000 ∧ 1 ≤ p.2 ∧ p.2 ≤ 2000
theorem most_spec {n tol : Int} {xs ts : List Int} (hl : xs.length = ts.length) (h0 : 0 < xs.length) (n0 : 0 ≤ n) (n1 : n ≤ 10000) (l0 : 0 ≤ tol) (l1 : tol ≤ 1000) (hm : ∀ p ∈ xs.zip ts, MayP p) :
    ∃ M, mostV n tol xs ts = some M ∧ (∀ p ∈ xs.zip ts, wantV n p.1 p.2 tol ≤ M) ∧ ∃ p ∈ xs.zip ts, wantV n p.1 p.2 tol = M := by
  obtain ⟨M, h1, h2, h3, h4⟩ := mostL_spec n tol (xs.zip ts) 0 (fun p hp => mayB_of (by have := hm p hp; unfold MayP at this; omega))
  refine ⟨M, ?_, h3, ?_⟩
  · unfold mostV
    rw [if_neg (by omega)]
    exact h1
  · rcases h4 with h4 | h4
    · match hx : xs, ht : ts, hl with
      | x :: xr, t :: tr, _ =>
        have h5 := h3 (x, t) (by simp)
        have h6 := (wantV_range n x t tol).1
        exact ⟨(x, t), by simp, by show wantV n x t tol = M; have : wantV n x t tol ≤ M := h5; omega⟩
      | [], _, _ => simp at h0
    · exact h4

theorem info2 : (Try.prog.info? 2).map (fun i => (i.zero, i.size, i.bytes)) = some (some (.int .i64 0), 1, 8) := by kernel_rfl
theorem wpOp_wp {P : Program} {ops : Array Oper} {Q : Exit → Act → World → Prop} {i : Nat} {o : Oper} {a : Act} {w : World} {K : Act → World → Prop} (hi : ops[i]? = some o) (hw : Region.wanted o (yielded ops a.tmps) = true)
    (h : o.wp P a w K Q) : wpOp P ops Q i K a w := by
  unfold wpOp
  simp only [hi, hw, if_true]
  exact .inl h
/-- One number more on a row. -/
theorem step_app {ops : Array Oper} {Q : Exit → Act → World → Prop} {i : Nat} {o : Oper} {a : Act} {w : World} {K : Act → World → Prop} {l : List Int} {v : Value} {B : Nat} (t : Nat) (hi : ops[i]? = some o) (hd : o.dst = some t) (hw : Region.wanted o (yielded ops a.tmps) = true)
    (s x : Operand) (ho : o.op = .call { callee := .builtin .append, args := #[s, x], argTypes := #[22, 22] }) (hs : a.eval s = v) (sb : Nat) (y : Int) (hx : a.eval x = .slice (some ⟨sb, 0, none⟩) 1 1) (hc : w.cell? ⟨sb, 0, none⟩ = some (.int .i64 y))
    (hown : w.ownsRow B 2 1 v l.length (l.map (.int .i64))) (hl : l.length ≤ 1000) (hB : B ≤ w.heap.size)
    (k : ∀ g cap w', w'.ownsRow B 2 1 (.slice (some ⟨g, 0, none⟩) (l ++ [y]).length cap) (l ++ [y]).length ((l ++ [y]).map (.int .i64)) → w.grownBy w' v.ownBlock → (v.ownBlock = some g ∨ g = w.heap.size) → g < w'.heap.size →
      K (a.put (some t) (.slice (some ⟨g, 0, none⟩) (l ++ [y]).length cap)) w') : wpOp Try.prog ops Q i K a w := by
  obtain ⟨i0, hi0, hz0, hz1, hz2⟩ := info_parts info2
  refine wpOp_wp hi hw (wp_append_lies w s x 22 ho B 2 i0 (.int .i64 0) 1 8 Try.underlying22 hi0 hz0 hz1 hz2 rfl (by decide) v l.length (l.map (.int .i64)) hs hown ⟨sb, 0, none⟩ 1 1 [.int .i64 y] hx (by simp) (fun j u hj => ?_) (fun u hu => ?_) (by omega) (by unfold maxLen; omega) (by omega) hB _ rfl fun g cap w' h1 h2 h3 h4 => ?_)
  · have hj0 : j = 0 := by
      have := (List.getElem?_eq_some_iff.1 hj).1
      simp at this; exact this
    subst hj0
    rw [Addr.add_lit, ← hj]
    exact hc
  · simp at hu; subst hu; rfl
  · rw [hd]
    have := k g cap w' (by simpa using h1) h2 h3 h4
    simpa using this

/-- The region's reads first; then by hand. -/
theorem wp_region_reads {P : Program} {Q : Exit → Act → World → Prop} {id : Nat} {a : Act} {w : World} {l : List Oper} (C : World → Prop) (R : List Nat) (fuel : Nat) (hm : P.follows .mixedOrders = true) (hsel : Region.noSelect l.toArray = true)
    (hB : schR .any l.toArray R (Array.replicate l.toArray.size false) = true) (hn : fuel + R.length = l.toArray.size)
    (hQ : ∀ d v c a w, Q (.panic c) (Act.put a d v) w → Q (.panic c) a w) (hC : C { w with drawn := w.drawn + 1 })
    (h : wpQuiet P l.toArray C (fun a' => wpAnyH P .any l.toArray Q C fuel (setAll R (Array.replicate l.toArray.size false)) a' { w with drawn := w.drawn + 1 }) (R.filterMap fun i => l.toArray[i]?) a) : (Code.region id l.toArray true).wp P Q a w := by
  refine wp_region_held (S := C) hm ?_
  have := reads_sound (md := .any) hsel hQ hC R _ a hB h (fun a' h' => h')
  rwa [hn] at this
/-- More reads on the way. -/
theorem wpAnyH_reads {P : Program} {ops : Array Oper} {md : Region.Mode} {Q : Exit → Act → World → Prop} {C : World → Prop} {a : Act} {w : World} {listed : Array Bool} (R : List Nat) (fuel : Nat) (n : Nat) (hn : fuel + R.length = n) (hsel : Region.noSelect ops = true) (hB : schR md ops R listed = true)
    (hQ : ∀ d v c a w, Q (.panic c) (Act.put a d v) w → Q (.panic c) a w) (hC : C w)
    (h : wpQuiet P ops C (fun a' => wpAnyH P md ops Q C fuel (setAll R listed) a' w) (R.filterMap fun i => ops[i]?) a) : wpAnyH P md ops Q C n listed a w := by
  have := reads_sound hsel hQ hC R listed a hB h (fun a' h' => h')
  rwa [hn] at this

/-- Two rows of numbers, apart. -/
structure Two (W w : World) (xs ts : List Int) (v u : Value) : Prop where
  V : w.ownsRow W.heap.size 2 1 v xs.length (xs.map (.int .i64))
  T : w.ownsRow W.heap.size 2 1 u ts.length (ts.map (.int .i64))
  df : ∀ g, v.ownBlock = some g → u.ownBlock ≠ some g
  G : Gr W w
theorem own_RI2 {w : World} {B : Nat} {l : List Int} {v : Value} (h : w.ownsRow B 2 1 v l.length (l.map (.int .i64))) (hm : l.length ≤ 1000) : ∃ A n c, v = .slice A n c ∧ RI w A n l := by
  rcases h.2 with ⟨rfl, h0⟩ | ⟨g, cap, cur, rfl, h1, h2, h3, h4, h5, h6⟩
  · have : l = [] := List.eq_nil_of_length_eq_zero h0
    subst this
    exact ⟨none, 0, 0, rfl, RI.nil_ _⟩
  · refine ⟨_, _, _, rfl, rfl, by omega, fun _ => ⟨_, rfl, fun j hj => ?_⟩⟩
    have e : (cur.toList.take l.length)[j]? = some (.int .i64 (l.getD j 0)) := by
      have h6' : cur.toList.take l.length = l.map (.int .i64) := by simpa using h6
      rw [h6']; simp [List.getD, hj]
    rw [List.getElem?_take_of_lt hj] at e
    rw [Addr.add_lit, Nat.zero_add]
    simp [World.cell?, h2]
    simpa using e
end Go.Proofs.Ytjobicffdcnnlaa
