import Derived.Test.YtjobicffdcnnlaaT3
import Derived.Deep.AppendLies
import Derived.Test.YtjobicffdcnnlaaW2
import Derived.Deep.CutBlock
import Derived.Deep.DeepCutAuto
/- RatioMost: the plain law, and how two rows grow. -/
namespace Go.Proofs.Ytjobicffdcnnlaa
open Go.RowKit
set_option linter.unusedSimpArgs false
set_option linter.unusedVariables false
set_option maxRecDepth 100000

theorem mostL_spec (n tol : Int) : ∀ (l : List (Int × Int)) (acc : Int), (∀ p ∈ l, mayB p.1 p.2 tol = true) →
    ∃ M, mostL n tol l acc = some M ∧ acc ≤ M ∧ (∀ p ∈ l, wantV n p.1 p.2 tol ≤ M) ∧ (M = acc ∨ ∃ p ∈ l, wantV n p.1 p.2 tol = M)
  | [], acc, _ => ⟨acc, rfl, Int.le_refl _, (fun p hp => by cases hp), Or.inl rfl⟩
  | (v, t) :: r, acc, h => by
    obtain ⟨M, h1, h2, h3, h4⟩ := mostL_spec n tol r (max acc (wantV n v t tol)) (fun p hp => h p (by simp [hp]))
    refine ⟨M, ?_, by omega, fun p hp => ?_, ?_⟩
    · unfold mostL
      rw [if_pos (h (v, t) (by simp))]
      exact h1
    · rcases List.mem_cons.1 hp with rfl | hp
      · show wantV n v t tol ≤ M
        omega
      · exact h3 p hp
    · rcases h4 with h4 | ⟨p, hp, h4⟩
      · by_cases hc : wantV n v t tol ≤ acc
        · left; omega
        · right; exact ⟨(v, t), by simp, by show wantV n v t tol = M; omega⟩
      · right; exact ⟨p, by simp [hp], h4⟩
/-- The values and targets that may be. -/
def MayP (p : Int × Int) : Prop := 0 ≤ p.1 ∧ p.1 < 5000 ∧ 1 ≤ p.2 ∧ p.2 ≤ 2000
theorem most_spec {n tol : Int} {xs ts : List Int} (hl : xs.length = ts.length) (h0 : 0 < xs.length) (n0 : 0 ≤ n) (n1 : n ≤ 10000) (l0 : 0 ≤ tol) (l1 : tol ≤ 1000) (hm : ∀ p ∈ xs.zip ts, MayP p) :
    ∃ M, mostV n tol xs ts = some M ∧ (∀ p ∈ xs.zip ts, wantV n p.1 p.2 tol ≤ M) ∧ ∃ p ∈ xs.zip ts, wantV n p.1 p.2 tol = M := by
  obtain ⟨M, h1, h2, h3, h4⟩ := mostL_spec n tol (xs.zip ts) 0 (fun p hp => mayB_of (by have := hm p hp; unfold MayP at this; omega))
  refine ⟨M, ?_, h3, ?_⟩
  · unfold mostV
    rw [if_neg (by omega)]
    exact h1
  · rcases h4 with h4 | h4
    · match hx : xs, ht : ts, hl with
      | x :: xr, t :: tr, _ =>
        have h5 := h3 (x, t) (by simp)
        have h6 := (wantV_range n x t tol).1
        exact ⟨(x, t), by simp, by show wantV n x t tol = M; have : wantV n x t tol ≤ M := h5; omega⟩
      | [], _, _ => simp at h0
    · exact h4

theorem info2 : (Try.prog.info? 2).map (fun i => (i.zero, i.size, i.bytes)) = some (some (.int .i64 0), 1, 8) := by kernel_rfl
theorem wpOp_wp {P : Program} {ops : Array Oper} {Q : Exit → Act → World → Prop} {i : Nat} {o : Oper} {a : Act} {w : World} {K : Act → World → Prop} (hi : ops[i]? = some o) (hw : Region.wanted o (yielded ops a.tmps) = true)
    (h : o.wp P a w K Q) : wpOp P ops Q i K a w := by
  unfold wpOp
  simp only [hi, hw, if_true]
  exact .inl h
/-- One number more on a row. -/
theorem step_app {ops : Array Oper} {Q : Exit → Act → World → Prop} {i : Nat} {o : Oper} {a : Act} {w : World} {K : Act → World → Prop} {l : List Int} {v : Value} {B : Nat} (t : Nat) (hi : ops[i]? = some o) (hd : o.dst = some t) (hw : Region.wanted o (yielded ops a.tmps) = true)
    (s x : Operand) (ho : o.op = .call { callee := .builtin .append, args := #[s, x], argTypes := #[22, 22] }) (hs : a.eval s = v) (sb : Nat) (y : Int) (hx : a.eval x = .slice (some ⟨sb, 0, none⟩) 1 1) (hc : w.cell? ⟨sb, 0, none⟩ = some (.int .i64 y))
    (hown : w.ownsRow B 2 1 v l.length (l.map (.int .i64))) (hl : l.length ≤ 1000) (hB : B ≤ w.heap.size)
    (k : ∀ g cap w', w'.ownsRow B 2 1 (.slice (some ⟨g, 0, none⟩) (l ++ [y]).length cap) (l ++ [y]).length ((l ++ [y]).map (.int .i64)) → w.grownBy w' v.ownBlock → (v.ownBlock = some g ∨ g = w.heap.size) → g < w'.heap.size →
      K (a.put (some t) (.slice (some ⟨g, 0, none⟩) (l ++ [y]).length cap)) w') : wpOp Try.prog ops Q i K a w := by
  obtain ⟨i0, hi0, hz0, hz1, hz2⟩ := info_parts info2
  refine wpOp_wp hi hw (wp_append_lies w s x 22 ho B 2 i0 (.int .i64 0) 1 8 Try.underlying22 hi0 hz0 hz1 hz2 rfl (by decide) v l.length (l.map (.int .i64)) hs hown ⟨sb, 0, none⟩ 1 1 [.int .i64 y] hx (by simp) (fun j u hj => ?_) (fun u hu => ?_) (by omega) (by unfold maxLen; omega) (by omega) hB _ rfl fun g cap w' h1 h2 h3 h4 => ?_)
  · have hj0 : j = 0 := by
      have := (List.getElem?_eq_some_iff.1 hj).1
      simp at this; exact this
    subst hj0
    rw [Addr.add_lit, ← hj]
    exact hc
  · simp at hu; subst hu; rfl
  · rw [hd]
    have := k g cap w' (by simpa using h1) h2 h3 h4
    simpa using this

/-- The region's reads first; then by hand. -/
theorem wp_region_reads {P : Program} {Q : Exit → Act → World → Prop} {id : Nat} {a : Act} {w : World} {l : List Oper} (C : World → Prop) (R : List Nat) (fuel : Nat) (hm : P.follows .mixedOrders = true) (hsel : Region.noSelect l.toArray = true)
    (hB : schR .any l.toArray R (Array.replicate l.toArray.size false) = true) (hn : fuel + R.length = l.toArray.size)
    (hQ : ∀ d v c a w, Q (.panic c) (Act.put a d v) w → Q (.panic c) a w) (hC : C { w with drawn := w.drawn + 1 })
    (h : wpQuiet P l.toArray C (fun a' => wpAnyH P .any l.toArray Q C fuel (setAll R (Array.replicate l.toArray.size false)) a' { w with drawn := w.drawn + 1 }) (R.filterMap fun i => l.toArray[i]?) a) : (Code.region id l.toArray true).wp P Q a w := by
  refine wp_region_held (S := C) hm ?_
  have := reads_sound (md := .any) hsel hQ hC R _ a hB h (fun a' h' => h')
  rwa [hn] at this
/-- More reads on the way. -/
theorem wpAnyH_reads {P : Program} {ops : Array Oper} {md : Region.Mode} {Q : Exit → Act → World → Prop} {C : World → Prop} {a : Act} {w : World} {listed : Array Bool} (R : List Nat) (fuel : Nat) (n : Nat) (hn : fuel + R.length = n) (hsel : Region.noSelect ops = true) (hB : schR md ops R listed = true)
    (hQ : ∀ d v c a w, Q (.panic c) (Act.put a d v) w → Q (.panic c) a w) (hC : C w)
    (h : wpQuiet P ops C (fun a' => wpAnyH P md ops Q C fuel (setAll R listed) a' w) (R.filterMap fun i => ops[i]?) a) : wpAnyH P md ops Q C n listed a w := by
  have := reads_sound hsel hQ hC R listed a hB h (fun a' h' => h')
  rwa [hn] at this

/-- Two rows of numbers, apart. -/
structure Two (W w : World) (xs ts : List Int) (v u : Value) : Prop where
  V : w.ownsRow W.heap.size 2 1 v xs.length (xs.map (.int .i64))
  T : w.ownsRow W.heap.size 2 1 u ts.length (ts.map (.int .i64))
  df : ∀ g, v.ownBlock = some g → u.ownBlock ≠ some g
  G : Gr W w
theorem own_RI2 {w : World} {B : Nat} {l : List Int} {v : Value} (h : w.ownsRow B 2 1 v l.length (l.map (.int .i64))) (hm : l.length ≤ 1000) : ∃ A n c, v = .slice A n c ∧ RI w A n l := by
  rcases h.2 with ⟨rfl, h0⟩ | ⟨g, cap, cur, rfl, h1, h2, h3, h4, h5, h6⟩
  · have : l = [] := List.eq_nil_of_length_eq_zero h0
    subst this
    exact ⟨none, 0, 0, rfl, RI.nil_ _⟩
  · refine ⟨_, _, _, rfl, rfl, by omega, fun _ => ⟨_, rfl, fun j hj => ?_⟩⟩
    have e : (cur.toList.take l.length)[j]? = some (.int .i64 (l.getD j 0)) := by
      have h6' : cur.toList.take l.length = l.map (.int .i64) := by simpa using h6
      rw [h6']; simp [List.getD, hj]
    rw [List.getElem?_take_of_lt hj] at e
    rw [Addr.add_lit, Nat.zero_add]
    simp [World.cell?, h2]
    simpa using e
end Go.Proofs.Ytjobicffdcnnlaa
/- RatioMost. -/
namespace Go.Proofs.Ytjobicffdcnnlaa
open Go.RowKit
set_option linter.unusedSimpArgs false
set_option linter.unusedVariables false
set_option maxRecDepth 100000

theorem Gr.grown {w w' : World} (g : Gr w w') : w.grownBy w' none := ⟨g.out.os, g.out.tape, g.out.output, g.out.size, fun k hk _ => g.out.block k hk⟩
theorem none_or (x : Option Nat) : x = none ∨ x ≠ none := by cases x <;> simp
theorem Two.on {W w w' : World} {xs ts : List Int} {v u : Value} (X : Two W w xs ts v u) (g : Gr w w') : Two W w' xs ts v u :=
  ⟨X.V.kept g.grown (none_or _), X.T.kept g.grown (none_or _), X.df, X.G.trans g⟩
theorem Two.ap {W w : World} {xs ts : List Int} {v u : Value} (X : Two W w xs ts v u) : u.ownBlock = none ∨ u.ownBlock ≠ v.ownBlock := by
  cases hu : u.ownBlock with
  | none => exact .inl rfl
  | some g => exact .inr (fun e => X.df g e.symm hu)
theorem Two.far {W w : World} {xs ts : List Int} {v u : Value} (X : Two W w xs ts v u) {g H : Nat} (h : v.ownBlock = some g ∨ g = H) (hs : w.heap.size ≤ H) : u.ownBlock ≠ some g := fun e => h.elim (fun h => X.df g h e) (fun h => by have := (X.T.lt g e).2; omega)
theorem mayConf_b (c : CF) {b : Bool} (h : mayC c = b) (w : World) : Calls Try.prog 36 #[.agg #[.int .i64 c.n, .int .i64 c.f, .int .i64 c.m, .int .i64 c.q, .int .i64 c.fresh, .int .i64 c.grace, .int .i64 c.window, .int .i64 c.t0, .int .i64 c.t1, .int .i64 c.t2, .int .i64 c.t3, .int .i64 c.tol, .int .i64 c.lo, .int .i64 c.hi, .int .i64 c.cup, .int .i64 c.cdn, .int .i64 c.pup, .int .i64 c.tup, .int .i64 c.pdn, .int .i64 c.tdn, .int .i64 c.per, .int .i64 c.far, .int .i64 c.str, .int .i64 c.pro, .int .i64 c.sec, .int .u64 c.seed]] w fun e w' => e = .returned (.bool b) ∧ Gr w w' := h ▸ mayConf_any c w
theorem own_gr {W w w' : World} {v : Value} {n : Nat} {l : List Value} (G : Gr W w) (h : w.ownsRow W.heap.size 2 1 v n l) (hg : w.grownBy w' v.ownBlock) : Gr W w' :=
  ⟨G.out.grown hg G.size (fun k hk => (h.lt k hk).1)⟩


set_option maxHeartbeats 8000000 in
theorem ratioMost_any (a0 : Int) (A1 : Option Addr) (n1 cap1 : Nat) (z1 : List Int) (A2 : Option Addr) (n2 cap2 : Nat) (z2 : List Int) (a3 : Int) (w : World) (h1 : RI w A1 n1 z1) (h2 : RI w A2 n2 z2) :
    Calls Try.prog 6 #[.int .i64 a0, .slice A1 n1 cap1, .slice A2 n2 cap2, .int .i64 a3] w fun e w' => e = .returned (.bool true) ∧ Gr w w' := by
  have b1 := h1.2.1
  have b2 := h2.2.1
  have H1 := Lib.hid h1
  have H2 := Lib.hid h2
  clear h1 h2
  have u0 := u64_nonneg a0
  have u3 := u64_nonneg a3
  obtain ⟨n, hn, n0, nn1⟩ := u64_mod a0 10001 (by omega)
  obtain ⟨l, hl, l0, l1⟩ := u64_mod a3 1001 (by omega)
  go_enter Try.func6, Try.ntmps6
  go_upto_block 0 with (fail)
  go_cut [11, 12] (fun v u wc => ∃ xs ts : List Int, xs.length = ts.length ∧ xs.length ≤ 4 ∧ Two w wc xs ts v u ∧ ∀ q ∈ xs.zip ts, MayP q)
  case first =>
    go_wp2_with fail
    go_loopw [11, 12, 13] (fun v u i wr => ∃ (kk : Nat) (xs ts : List Int), kk ≤ n1 ∧ kk ≤ n2 ∧ kk ≤ 4 ∧ i = .int .i64 kk ∧ xs.length = kk ∧ ts.length = kk ∧ Two w wr xs ts v u ∧ ∀ q ∈ xs.zip ts, MayP q) (fun _ _ i _ => 4 - (intOf i).toNat)
    case atStart => exact ⟨0, [], [], by omega, by omega, by omega, rfl, rfl, rfl, ⟨World.ownsRow_nil _ _ _ _, World.ownsRow_nil _ _ _ _, (fun g h => by cases h), Gr.refl w⟩, (fun q hq => by simp at hq)⟩
    case round =>
      obtain ⟨kk, xs, ts, hk1, hk2, hk3, rfl, hx, ht, X, hM⟩ := hrel
      by_cases q1 : kk < n1
      · by_cases q2 : kk < n2
        · by_cases q3 : kk < 4
          · as_aux_lemma =>
            obtain ⟨ad1, rfl, hc1⟩ := H1.out.at_ q1
            obtain ⟨ad2, rfl, hc2⟩ := H2.out.at_ q2
            generalize z1.getD kk 0 = e1 at hc1
            generalize z2.getD kk 0 = e2 at hc2
            have v1 := u64_nonneg e1
            have v2 := u64_nonneg e2
            obtain ⟨y1, hy1, y10, y11⟩ := u64_mod e1 5000 (by omega)
            obtain ⟨y2, hy2, y20, y21⟩ := u64_mod e2 2000 (by omega)
            have hcl1 : ∀ s : Gw w, s.val.cell? (ad1.add kk) = some (.int .i64 e1) := fun s => s.gr.cell_some hc1
            have hcl2 : ∀ s : Gw w, s.val.cell? (ad2.add kk) = some (.int .i64 e2) := fun s => s.gr.cell_some hc2
            go_upto_region 6 with (fail)
            replace X := X.on (Gr.fresh wr)
            refine wp_region_reads (fun w' => ∃ s : Gw w, w' = s.val) [0, 1, 2, 3, 4, 5, 6, 7, 10, 11, 12, 13, 14, 15, 16, 17, 18] 6 (by kernel_rfl) (by as_aux_lemma => kernel_rfl) (by as_aux_lemma => kernel_rfl) (by kernel_rfl) (fun d v c a w h => by cases d <;> exact h) X.G.in_ ?_
            simp only [List.filterMap_cons, List.filterMap_nil, List.getElem?_toArray, List.getElem?_cons_succ, List.getElem?_cons_zero]
            show wpQuiet _ _ _ _ [_, _, _, _, _, _, _, _, _, _, _, _, _, _, _, _, _] _
            repeat (go_big_quiet_step (fail))
            refine wpQuiet_nil ?_
            clear hcl1 hcl2 hc1 hc2 hy1 hy2 v1 v2
            generalize hw1 : ({ wr with drawn := wr.drawn + 1 } : World) = x1 at *
            clear hw1
            obtain ⟨y3, hy3⟩ : ∃ y3, 1 + y2 = y3 := ⟨_, rfl⟩
            have hMn : ∀ q ∈ (xs ++ [y1]).zip (ts ++ [y3]), MayP q := by
              intro q hq
              rw [List.zip_append (by omega)] at hq
              rcases List.mem_append.1 hq with h | h
              · exact hM q h
              · simp at h
                subst h
                unfold MayP
                omega
            rw [hy3]
            clear hy3

            have V := X.V
            have T := X.T
            have G := X.G
            obtain ⟨S, eS⟩ : ∃ S, S = x1.heap.size := ⟨_, rfl⟩
            refine wpAnyH_all (fuel := 5) (rs := [8, 19]) (by kernel_rfl) (by simp) ?_
            intro i hi
            rcases (show i = 8 ∨ i = 19 by simpa using hi) with rfl | rfl
            · as_aux_lemma =>
                refine wpOp_made 51 (.slice (some ⟨x1.heap.size, 0, none⟩) 1 1) (x1.alloc (.cells #[.int .i64 y1] 2)) rfl rfl rfl (by kernel_rfl) (G.alloc _) ?_
                have gr8 : Gr x1 (x1.alloc (.cells #[.int .i64 y1] 2)) := (Gr.refl _).alloc _
                have c8 : (x1.alloc (.cells #[.int .i64 y1] 2)).cell? ⟨x1.heap.size, 0, none⟩ = some (.int .i64 y1) := cell_in (heap_new rfl) rfl
                have z8 : x1.heap.size < (x1.alloc (.cells #[.int .i64 y1] 2)).heap.size := by simp
                replace V := V.kept gr8.grown (none_or _)
                replace T := T.kept gr8.grown (none_or _)
                replace G := G.trans gr8
                generalize x1.alloc (.cells #[.int .i64 y1] 2) = x2 at *
                obtain ⟨s8, es8⟩ : ∃ s, s = x1.heap.size := ⟨_, rfl⟩
                rw [← es8] at c8 ⊢
                simp only [Act.put, List.setIfInBounds_toArray, List.set_cons_succ, List.set_cons_zero]
                refine wpAnyH_all (fuel := 4) (rs := [9, 19]) (by kernel_rfl) (by simp) ?_
                intro i hi
                rcases (show i = 9 ∨ i = 19 by simpa using hi) with rfl | rfl
                · as_aux_lemma =>
                    refine step_app 52 rfl rfl rfl (.tmp 43) (.tmp 51) rfl rfl s8 y1 rfl c8 V (by omega) G.size fun gV cV x3 hown hgrow hat hlt => ⟨(own_gr G V hgrow).in_, ?_⟩
                    have sz9 := hgrow.size
                    have vlt9 := fun g h => (V.lt g h).2
                    replace T := T.kept hgrow X.ap
                    replace G := own_gr G V hgrow
                    replace V := hown
                    have vT := X.far hat (by omega)
                    clear hown hgrow
                    simp only [Act.put, List.setIfInBounds_toArray, List.set_cons_succ, List.set_cons_zero]
                    refine wpAnyH_all (fuel := 3) (rs := [19]) (by kernel_rfl) (by simp) ?_
                    intro i hi
                    obtain rfl : i = 19 := by simpa using hi
                    refine wpOp_made 62 (.slice (some ⟨x3.heap.size, 0, none⟩) 1 1) (x3.alloc (.cells #[.int .i64 y3] 2)) rfl rfl rfl (by kernel_rfl) (G.alloc _) ?_
                    have gr19 : Gr x3 (x3.alloc (.cells #[.int .i64 y3] 2)) := (Gr.refl _).alloc _
                    have c19 : (x3.alloc (.cells #[.int .i64 y3] 2)).cell? ⟨x3.heap.size, 0, none⟩ = some (.int .i64 y3) := cell_in (heap_new rfl) rfl
                    have z19 : x3.heap.size < (x3.alloc (.cells #[.int .i64 y3] 2)).heap.size := by simp
                    replace V := V.kept gr19.grown (none_or _)
                    replace T := T.kept gr19.grown (none_or _)
                    replace G := G.trans gr19
                    generalize x3.alloc (.cells #[.int .i64 y3] 2) = x4 at *
                    obtain ⟨s19, es19⟩ : ∃ s, s = x3.heap.size := ⟨_, rfl⟩
                    rw [← es19] at c19 ⊢
                    simp only [Act.put, List.setIfInBounds_toArray, List.set_cons_succ, List.set_cons_zero]
                    refine wpAnyH_all (fuel := 2) (rs := [20]) (by kernel_rfl) (by simp) ?_
                    intro i hi
                    obtain rfl : i = 20 := by simpa using hi
                    refine step_app 63 rfl rfl rfl (.tmp 53) (.tmp 62) rfl rfl s19 y3 rfl c19 T (by omega) G.size fun gT cT x5 hown hgrow hatT hltT => ⟨(own_gr G T hgrow).in_, ?_⟩
                    have dF : gV ≠ gT := fun e => hatT.elim (fun h => vT (e ▸ h)) (fun h => by omega)
                    replace V := V.kept hgrow (Or.inr (fun e => vT e.symm))
                    replace G := own_gr G T hgrow
                    replace T := hown
                    clear hown hgrow
                    simp only [Act.put, List.setIfInBounds_toArray, List.set_cons_succ, List.set_cons_zero]
                    have XF : Two w x5 (xs ++ [y1]) (ts ++ [y3]) (.slice (some ⟨gV, 0, none⟩) (xs ++ [y1]).length cV) (.slice (some ⟨gT, 0, none⟩) (ts ++ [y3]).length cT) := ⟨V, T, (fun g h1 h2 => by cases h1; cases h2; exact dF rfl), G⟩
                    clear V T G X
                    refine wpAnyH_reads [21, 22] 0 2 rfl (by as_aux_lemma => kernel_rfl) (by kernel_rfl) (fun d v c a w h => by cases d <;> exact h) XF.G.in_ ?_
                    simp only [List.filterMap_cons, List.filterMap_nil, List.getElem?_toArray, List.getElem?_cons_succ, List.getElem?_cons_zero]
                    show wpQuiet _ _ _ _ [_, _] _
                    repeat (go_big_quiet_step (fail))
                    refine wpQuiet_nil ?_
                    refine wpAnyH_done (by kernel_rfl) ?_ 0
                    go_wp2
                    go_roundw
                    case rel => exact ⟨kk + 1, xs ++ [y1], ts ++ [y3], by omega, by omega, by omega, by first | rfl | go_num, by simp [hx], by simp [ht], XF, hMn⟩
                    case measure => simp [intOf]; omega
                · as_aux_lemma =>
                    refine wpOp_made 62 (.slice (some ⟨x2.heap.size, 0, none⟩) 1 1) (x2.alloc (.cells #[.int .i64 y3] 2)) rfl rfl rfl (by kernel_rfl) (G.alloc _) ?_
                    have gr19 : Gr x2 (x2.alloc (.cells #[.int .i64 y3] 2)) := (Gr.refl _).alloc _
                    have c19 : (x2.alloc (.cells #[.int .i64 y3] 2)).cell? ⟨x2.heap.size, 0, none⟩ = some (.int .i64 y3) := cell_in (heap_new rfl) rfl
                    have z19 : x2.heap.size < (x2.alloc (.cells #[.int .i64 y3] 2)).heap.size := by simp
                    replace V := V.kept gr19.grown (none_or _)
                    replace T := T.kept gr19.grown (none_or _)
                    replace G := G.trans gr19
                    replace c8 := gr19.cell_some c8
                    generalize x2.alloc (.cells #[.int .i64 y3] 2) = x3 at *
                    obtain ⟨s19, es19⟩ : ∃ s, s = x2.heap.size := ⟨_, rfl⟩
                    rw [← es19] at c19 ⊢
                    simp only [Act.put, List.setIfInBounds_toArray, List.set_cons_succ, List.set_cons_zero]
                    refine wpAnyH_all (fuel := 3) (rs := [9]) (by kernel_rfl) (by simp) ?_
                    intro i hi
                    obtain rfl : i = 9 := by simpa using hi
                    refine step_app 52 rfl rfl rfl (.tmp 43) (.tmp 51) rfl rfl s8 y1 rfl c8 V (by omega) G.size fun gV cV x4 hown hgrow hat hlt => ⟨(own_gr G V hgrow).in_, ?_⟩
                    have sz9 := hgrow.size
                    have vlt9 := fun g h => (V.lt g h).2
                    replace c19 := hgrow.cell c19 (fun e => by have h6 : s19 < x1.heap.size := (X.V.lt _ e.symm).2; omega)
                    replace T := T.kept hgrow X.ap
                    replace G := own_gr G V hgrow
                    replace V := hown
                    have vT := X.far hat (by omega)
                    clear hown hgrow
                    simp only [Act.put, List.setIfInBounds_toArray, List.set_cons_succ, List.set_cons_zero]
                    refine wpAnyH_all (fuel := 2) (rs := [20]) (by kernel_rfl) (by simp) ?_
                    intro i hi
                    obtain rfl : i = 20 := by simpa using hi
                    refine step_app 63 rfl rfl rfl (.tmp 53) (.tmp 62) rfl rfl s19 y3 rfl c19 T (by omega) G.size fun gT cT x5 hown hgrow hatT hltT => ⟨(own_gr G T hgrow).in_, ?_⟩
                    have dF : gV ≠ gT := fun e => hatT.elim (fun h => vT (e ▸ h)) (fun h => by omega)
                    replace V := V.kept hgrow (Or.inr (fun e => vT e.symm))
                    replace G := own_gr G T hgrow
                    replace T := hown
                    clear hown hgrow
                    simp only [Act.put, List.setIfInBounds_toArray, List.set_cons_succ, List.set_cons_zero]
                    have XF : Two w x5 (xs ++ [y1]) (ts ++ [y3]) (.slice (some ⟨gV, 0, none⟩) (xs ++ [y1]).length cV) (.slice (some ⟨gT, 0, none⟩) (ts ++ [y3]).length cT) := ⟨V, T, (fun g h1 h2 => by cases h1; cases h2; exact dF rfl), G⟩
                    clear V T G X
                    refine wpAnyH_reads [21, 22] 0 2 rfl (by as_aux_lemma => kernel_rfl) (by kernel_rfl) (fun d v c a w h => by cases d <;> exact h) XF.G.in_ ?_
                    simp only [List.filterMap_cons, List.filterMap_nil, List.getElem?_toArray, List.getElem?_cons_succ, List.getElem?_cons_zero]
                    show wpQuiet _ _ _ _ [_, _] _
                    repeat (go_big_quiet_step (fail))
                    refine wpQuiet_nil ?_
                    refine wpAnyH_done (by kernel_rfl) ?_ 0
                    go_wp2
                    go_roundw
                    case rel => exact ⟨kk + 1, xs ++ [y1], ts ++ [y3], by omega, by omega, by omega, by first | rfl | go_num, by simp [hx], by simp [ht], XF, hMn⟩
                    case measure => simp [intOf]; omega
            · as_aux_lemma =>
                refine wpOp_made 62 (.slice (some ⟨x1.heap.size, 0, none⟩) 1 1) (x1.alloc (.cells #[.int .i64 y3] 2)) rfl rfl rfl (by kernel_rfl) (G.alloc _) ?_
                have gr19 : Gr x1 (x1.alloc (.cells #[.int .i64 y3] 2)) := (Gr.refl _).alloc _
                have c19 : (x1.alloc (.cells #[.int .i64 y3] 2)).cell? ⟨x1.heap.size, 0, none⟩ = some (.int .i64 y3) := cell_in (heap_new rfl) rfl
                have z19 : x1.heap.size < (x1.alloc (.cells #[.int .i64 y3] 2)).heap.size := by simp
                replace V := V.kept gr19.grown (none_or _)
                replace T := T.kept gr19.grown (none_or _)
                replace G := G.trans gr19
                generalize x1.alloc (.cells #[.int .i64 y3] 2) = x2 at *
                obtain ⟨s19, es19⟩ : ∃ s, s = x1.heap.size := ⟨_, rfl⟩
                rw [← es19] at c19 ⊢
                simp only [Act.put, List.setIfInBounds_toArray, List.set_cons_succ, List.set_cons_zero]
                refine wpAnyH_all (fuel := 4) (rs := [8]) (by kernel_rfl) (by simp) ?_
                intro i hi
                obtain rfl : i = 8 := by simpa using hi
                refine wpOp_made 51 (.slice (some ⟨x2.heap.size, 0, none⟩) 1 1) (x2.alloc (.cells #[.int .i64 y1] 2)) rfl rfl rfl (by kernel_rfl) (G.alloc _) ?_
                have gr8 : Gr x2 (x2.alloc (.cells #[.int .i64 y1] 2)) := (Gr.refl _).alloc _
                have c8 : (x2.alloc (.cells #[.int .i64 y1] 2)).cell? ⟨x2.heap.size, 0, none⟩ = some (.int .i64 y1) := cell_in (heap_new rfl) rfl
                have z8 : x2.heap.size < (x2.alloc (.cells #[.int .i64 y1] 2)).heap.size := by simp
                replace V := V.kept gr8.grown (none_or _)
                replace T := T.kept gr8.grown (none_or _)
                replace G := G.trans gr8
                replace c19 := gr8.cell_some c19
                generalize x2.alloc (.cells #[.int .i64 y1] 2) = x3 at *
                obtain ⟨s8, es8⟩ : ∃ s, s = x2.heap.size := ⟨_, rfl⟩
                rw [← es8] at c8 ⊢
                simp only [Act.put, List.setIfInBounds_toArray, List.set_cons_succ, List.set_cons_zero]
                refine wpAnyH_all (fuel := 3) (rs := [9]) (by kernel_rfl) (by simp) ?_
                intro i hi
                obtain rfl : i = 9 := by simpa using hi
                refine step_app 52 rfl rfl rfl (.tmp 43) (.tmp 51) rfl rfl s8 y1 rfl c8 V (by omega) G.size fun gV cV x4 hown hgrow hat hlt => ⟨(own_gr G V hgrow).in_, ?_⟩
                have sz9 := hgrow.size
                have vlt9 := fun g h => (V.lt g h).2
                replace c19 := hgrow.cell c19 (fun e => by have h6 : s19 < x1.heap.size := (X.V.lt _ e.symm).2; omega)
                replace T := T.kept hgrow X.ap
                replace G := own_gr G V hgrow
                replace V := hown
                have vT := X.far hat (by omega)
                clear hown hgrow
                simp only [Act.put, List.setIfInBounds_toArray, List.set_cons_succ, List.set_cons_zero]
                refine wpAnyH_all (fuel := 2) (rs := [20]) (by kernel_rfl) (by simp) ?_
                intro i hi
                obtain rfl : i = 20 := by simpa using hi
                refine step_app 63 rfl rfl rfl (.tmp 53) (.tmp 62) rfl rfl s19 y3 rfl c19 T (by omega) G.size fun gT cT x5 hown hgrow hatT hltT => ⟨(own_gr G T hgrow).in_, ?_⟩
                have dF : gV ≠ gT := fun e => hatT.elim (fun h => vT (e ▸ h)) (fun h => by omega)
                replace V := V.kept hgrow (Or.inr (fun e => vT e.symm))
                replace G := own_gr G T hgrow
                replace T := hown
                clear hown hgrow
                simp only [Act.put, List.setIfInBounds_toArray, List.set_cons_succ, List.set_cons_zero]
                have XF : Two w x5 (xs ++ [y1]) (ts ++ [y3]) (.slice (some ⟨gV, 0, none⟩) (xs ++ [y1]).length cV) (.slice (some ⟨gT, 0, none⟩) (ts ++ [y3]).length cT) := ⟨V, T, (fun g h1 h2 => by cases h1; cases h2; exact dF rfl), G⟩
                clear V T G X
                refine wpAnyH_reads [21, 22] 0 2 rfl (by as_aux_lemma => kernel_rfl) (by kernel_rfl) (fun d v c a w h => by cases d <;> exact h) XF.G.in_ ?_
                simp only [List.filterMap_cons, List.filterMap_nil, List.getElem?_toArray, List.getElem?_cons_succ, List.getElem?_cons_zero]
                show wpQuiet _ _ _ _ [_, _] _
                repeat (go_big_quiet_step (fail))
                refine wpQuiet_nil ?_
                refine wpAnyH_done (by kernel_rfl) ?_ 0
                go_wp2
                go_roundw
                case rel => exact ⟨kk + 1, xs ++ [y1], ts ++ [y3], by omega, by omega, by omega, by first | rfl | go_num, by simp [hx], by simp [ht], XF, hMn⟩
                case measure => simp [intOf]; omega
          · go_wp2
            go_meet
            case rel => exact ⟨xs, ts, by omega, by omega, X, hM⟩
        · go_wp2
          go_meet
          case rel => exact ⟨xs, ts, by omega, by omega, X, hM⟩
      · go_wp2
        go_meet
        case rel => exact ⟨xs, ts, by omega, by omega, X, hM⟩
  case rest =>
    obtain ⟨xs, ts, hxt, hx4, X, hM⟩ := hcut
    as_aux_lemma =>
      obtain ⟨B1, m1, c1, rfl, R1⟩ := own_RI2 X.V (by omega)
      obtain ⟨B2, m2, c2, rfl, R2⟩ := own_RI2 X.T (by omega)
      have e1 := R1.1
      have e2 := R2.1
      obtain rfl : m1 = m2 := by omega
      have hmost := most_any n l B1 B2 c1 c2 m1 m1 xs ts wc R1 R2
      have G := X.G
      have HR1 := Lib.hid R1
      have HR2 := Lib.hid R2
      clear R1 R2 X
      by_cases h0 : m1 = 0
      · have hm : mostV n l xs ts = none := by unfold mostV; rw [if_pos (by omega)]
        rw [hm] at hmost
        subst h0
        clear hm HR1 HR2
        go_wp2_with fail
        refine hmost.mono ?_
        rintro e w2 ⟨rfl, rfl⟩
        clear hmost
        go_wp2_with fail
        refine (told13_any _).mono ?_
        rintro e w3 ⟨rfl, hg⟩
        go_wp2
        go_ret
        exact ⟨rfl, G.trans ⟨hg⟩⟩
      · obtain ⟨M, hm, hle, hex⟩ := most_spec hxt (by omega) n0 (by omega) l0 (by omega) hM
        rw [hm] at hmost
        have hmost' : Calls Try.prog 30 #[.int .i64 n, .slice B1 m1 c1, .slice B2 m1 c2, .int .i64 l] wc fun e w' => e = .returned (.tuple #[.int .i64 M, .bool true]) ∧ wc = w' := hmost
        have hpos : 0 < m1 := by omega
        have hne : ((m1 : Int) == 0) = false := by simp; omega
        have HL := Lib.hid hle
        have HE := Lib.hid hex
        have HMM := Lib.hid hM
        clear hmost hm hle hex hM
        go_wp2_with fail
        refine hmost'.mono ?_
        rintro e w2 ⟨rfl, rfl⟩
        clear hmost'
        go_upto_block 2 with (fail)
        go_cut [16] (fun s16 wx => s16 = .bool true ∧ Gr w wx)
        case first =>
          go_wp2_with fail
          go_loopw [16, 17] (fun is i wr => ∃ kk : Nat, kk ≤ m1 ∧ i = .int .i64 kk ∧ is = .bool (((xs.zip ts).take kk).any fun q => wantV n q.1 q.2 l == M) ∧ Gr wc wr) (fun _ i _ => m1 - (intOf i).toNat)
          case atStart => exact ⟨0, by omega, rfl, by simp, Gr.refl _⟩
          case round =>
            obtain ⟨kk, hk, rfl, rfl, GG⟩ := hrel
            by_cases q : kk < m1
            · as_aux_lemma =>
              obtain ⟨d1, rfl, hc1⟩ := HR1.out.at_ q
              obtain ⟨d2, rfl, hc2⟩ := HR2.out.at_ q
              have hz := zip_drop_cons (vs := xs) (ts := ts) e1 e2 q
              have hin : (xs.getD kk 0, ts.getD kk 0) ∈ xs.zip ts := List.mem_of_mem_drop (hz ▸ List.mem_cons_self ..)
              have htk : (xs.zip ts).take (kk + 1) = (xs.zip ts).take kk ++ [(xs.getD kk 0, ts.getD kk 0)] := by
                have hlt : kk < (xs.zip ts).length := by simp; omega
                rw [List.take_succ_eq_append_getElem hlt]
                congr 2
                have := List.drop_eq_getElem_cons hlt
                rw [hz] at this
                exact ((List.cons.inj this).1).symm
              have hw1 := HL.out _ hin
              have hnx : ((xs.zip ts).take (kk + 1)).any (fun q => wantV n q.1 q.2 l == M) = (((xs.zip ts).take kk).any (fun q => wantV n q.1 q.2 l == M) || (wantV n (xs.getD kk 0) (ts.getD kk 0) l == M)) := by rw [htk, List.any_append]; simp
              have hwant := want_any n (xs.getD kk 0) (ts.getD kk 0) l
              have hw1' : wantV n (xs.getD kk 0) (ts.getD kk 0) l ≤ M := hw1
              clear hz hin htk hw1
              generalize wantV n (xs.getD kk 0) (ts.getD kk 0) l = W1 at *
              generalize xs.getD kk 0 = x1 at *
              generalize ts.getD kk 0 = t1 at *
              have HN := Lib.hid hnx
              clear hnx
              generalize ((xs.zip ts).take kk).any (fun q => wantV n q.1 q.2 l == M) = IS at *
              have hcl1 : ∀ s : Gw wr, s.val.cell? (d1.add kk) = some (.int .i64 x1) := fun s => (GG.trans s.gr).cell_some hc1
              have hcl2 : ∀ s : Gw wr, s.val.cell? (d2.add kk) = some (.int .i64 t1) := fun s => (GG.trans s.gr).cell_some hc2
              clear hc1 hc2
              go_upto_region 14 with (fail)
              refine wp_region_quiet_gw (by kernel_rfl) (by kernel_rfl) ?_
              repeat (go_big_quiet_step (first | (go_at_call 34; exact q_gr ((hwant _).mono fun _ _ ⟨r1, r2⟩ => ⟨r1, r2 ▸ Gr.refl _⟩))))
              refine wpQuiet_nil fun s => ?_
              replace GG := GG.trans s.gr
              clear hcl1 hcl2 hwant
              cases IS
              · by_cases hq : W1 = M
                · subst hq
                  go_wp2
                  go_roundw
                  case rel => exact ⟨kk + 1, by omega, by first | rfl | go_num, by rw [HN.out]; simp, GG⟩
                  case measure => simp [intOf]; omega
                · have hq' : (W1 == M) = false := by simp [hq]
                  go_wp2
                  go_roundw
                  case rel => exact ⟨kk + 1, by omega, by first | rfl | go_num, by rw [HN.out]; simp [hq], GG⟩
                  case measure => simp [intOf]; omega
              · go_wp2
                go_roundw
                case rel => exact ⟨kk + 1, by omega, by first | rfl | go_num, by rw [HN.out]; simp, GG⟩
                case measure => simp [intOf]; omega
            · go_wp2
              go_meet
              case rel =>
                refine ⟨?_, G.trans GG⟩
                obtain ⟨q0, hq0, hq1⟩ := HE.out
                rw [List.take_of_length_le (by simp; omega)]
                congr 1
                rw [List.any_eq_true]
                exact ⟨q0, hq0, by simp [hq1]⟩
        case rest =>
          obtain ⟨rfl, GX⟩ := hcut
          clear HL HE HMM HR1 HR2 G
          go_wp2_with fail
          refine (told13_any _).mono ?_
          rintro e w3 ⟨rfl, hg⟩
          have GY := GX.trans ⟨hg⟩
          clear hg GX
          go_wp2_with fail
          refine (r_default_any _).mono ?_
          rintro e w4 ⟨rfl, hg⟩
          have GZ := GY.trans hg
          clear hg GY
          go_wp2_with fail
          refine (mayConf_b dflt may_dflt _).mono ?_
          rintro e w5 ⟨rfl, hg⟩
          have GE := GZ.trans hg
          clear hg GZ
          go_wp2
          go_ret
          exact ⟨rfl, GE⟩
theorem ratioMost_walk (a0 : Int) (A1 : Option Addr) (n1 cap1 : Nat) (z1 : List Int) (A2 : Option Addr) (n2 cap2 : Nat) (z2 : List Int) (a3 : Int) (W : World) (_ : (Lit.int .i64 a0).wf = true) (h1 : RI W A1 n1 z1) (_ : ∀ x ∈ z1, (Lit.int .i64 x).wf = true) (h2 : RI W A2 n2 z2) (_ : ∀ x ∈ z2, (Lit.int .i64 x).wf = true) (_ : (Lit.int .i64 a3).wf = true) :
    Calls Try.prog 6 #[.int .i64 a0, .slice A1 n1 cap1, .slice A2 n2 cap2, .int .i64 a3] W fun e w' => e = .returned (.bool true) ∧ Below W.heap.size W w' := (ratioMost_any a0 A1 n1 cap1 z1 A2 n2 cap2 z2 a3 W h1 h2).mono fun _ _ h => ⟨h.1, h.2.out⟩
end Go.Proofs.Ytjobicffdcnnlaa
