import Derived.Test.YtjobicffdcnnlaaDC3
/- The document's law: its state, New, Hold. -/
namespace Go.Proofs.Ytjobicffdcnnlaa
open Go.RowKit
set_option linter.unusedSimpArgs false
set_option linter.unusedVariables false
set_option maxRecDepth 100000

def dawAt (c : CF) (n : Int) (q p : Nat) (i : Nat) : Option Value := (#[.int .i64 c.n, .int .i64 c.f, .int .i64 c.m, .int .i64 c.q, .int .i64 c.fresh, .int .i64 c.grace, .int .i64 c.window, .int .i64 c.t0, .int .i64 c.t1, .int .i64 c.t2, .int .i64 c.t3, .int .i64 c.tol, .int .i64 c.lo, .int .i64 c.hi, .int .i64 c.cup, .int .i64 c.cdn, .int .i64 c.pup, .int .i64 c.tup, .int .i64 c.pdn, .int .i64 c.tdn, .int .i64 c.per, .int .i64 c.far, .int .i64 c.str, .int .i64 c.pro, .int .i64 c.sec, .int .u64 c.seed, .pointer (some ⟨q, 0, none⟩), .pointer (some ⟨p, 0, none⟩), .int .i64 n] : Array Value)[i]?
@[go_sem] theorem dawAt_2 (c : CF) (n : Int) (q p : Nat) : dawAt c n q p 2 = some (.int .i64 c.m) := rfl
@[go_sem] theorem dawAt_11 (c : CF) (n : Int) (q p : Nat) : dawAt c n q p 11 = some (.int .i64 c.tol) := rfl
@[go_sem] theorem dawAt_26 (c : CF) (n : Int) (q p : Nat) : dawAt c n q p 26 = some (.pointer (some ⟨q, 0, none⟩)) := rfl
@[go_sem] theorem dawAt_27 (c : CF) (n : Int) (q p : Nat) : dawAt c n q p 27 = some (.pointer (some ⟨p, 0, none⟩)) := rfl
@[go_sem] theorem dawAt_28 (c : CF) (n : Int) (q p : Nat) : dawAt c n q p 28 = some (.int .i64 n) := rfl
theorem dawAt_7 (c : CF) (n : Int) (q p : Nat) : dawAt c n q p 7 = some (.int .i64 c.t0) := rfl
theorem dawAt_8 (c : CF) (n : Int) (q p : Nat) : dawAt c n q p 8 = some (.int .i64 c.t1) := rfl
/-- The document's law's own block. -/
structure Db (w : World) (b : Nat) (c : CF) (n : Int) (q p : Nat) : Prop where mk ::
  box : w.heap[b]? = some (.cells #[.int .i64 c.n, .int .i64 c.f, .int .i64 c.m, .int .i64 c.q, .int .i64 c.fresh, .int .i64 c.grace, .int .i64 c.window, .int .i64 c.t0, .int .i64 c.t1, .int .i64 c.t2, .int .i64 c.t3, .int .i64 c.tol, .int .i64 c.lo, .int .i64 c.hi, .int .i64 c.cup, .int .i64 c.cdn, .int .i64 c.pup, .int .i64 c.tup, .int .i64 c.pdn, .int .i64 c.tdn, .int .i64 c.per, .int .i64 c.far, .int .i64 c.str, .int .i64 c.pro, .int .i64 c.sec, .int .u64 c.seed, .pointer (some ⟨q, 0, none⟩), .pointer (some ⟨p, 0, none⟩), .int .i64 n] 81)
section
variable {w w' : World} {b q p : Nat} {c : CF} {n : Int}
theorem Db.cell (h : Db w b c n q p) (off : Nat) : w.cell? ⟨b, off, none⟩ = dawAt c n q p off := by
  simp [World.cell?, h.box, dawAt]
theorem Db.froz (h : Db w b c n q p) (off : Nat) : w.frozen? ⟨b, off, none⟩ = false := frozen_in h.box
theorem Db.lt (h : Db w b c n q p) : b < w.heap.size := (Array.getElem?_eq_some_iff.1 h.box).1
theorem Db.on (h : Db w b c n q p) (r : Gr w w') : Db w' b c n q p := ⟨r.block h.box⟩
theorem Db.tw {F : List Nat} (h : Db w b c n q p) (t : Tw F w w') (h1 : b ∉ F) : Db w' b c n q p := ⟨(t.block b h.lt h1).trans h.box⟩
theorem Db.setN (h : Db w b c n q p) (n' : Int) : Db (w.setCell ⟨b, 28, none⟩ (.int .i64 n')) b c n' q p := ⟨set_block h.box⟩
theorem Db.in_ (h : Db w b c n q p) (h' : Db w' b c n q p) : ∃ s : Gk w b, w' = s.val := ⟨⟨w', h'.box.trans h.box.symm⟩, rfl⟩
theorem Db.at_ (h : Db w b c n q p) (s : Gk w b) : Db s.val b c n q p := ⟨s.ok.trans h.box⟩
theorem Db.tgt (h : Db w b c n q p) (f : Fits c) : RI w (some ⟨b, 7, none⟩) c.m.toNat (Ytjobicffdcnnlaa.tgt c) := by
  have := f.m0; have := f.m1
  refine ⟨tgt_length f, by omega, fun _ => ⟨_, rfl, fun j hj => ?_⟩⟩
  rw [Addr.add_lit, h.cell]
  unfold Ytjobicffdcnnlaa.tgt
  rcases (show (j = 0 ∧ c.m.toNat = 1) ∨ (j = 0 ∧ c.m.toNat = 2) ∨ (j = 1 ∧ c.m.toNat = 2) by omega) with ⟨rfl, e⟩ | ⟨rfl, e⟩ | ⟨rfl, e⟩ <;> rw [e] <;> rfl
end
theorem RX.tw {w w' : World} {p g o cap : Nat} {c : CF} {l : List Int} {F : List Nat} (h : RX w p g o cap c l) (t : Tw F w w') (h1 : p ∉ F) (h2 : g ∉ F) : RX w' p g o cap c l :=
  ⟨(t.block p h.lt h1).trans h.box, fun j hj => (World.cell?_of_block (a := ⟨g, o + j, none⟩) (t.block g h.glt h2)).trans (h.row j hj), Nat.lt_of_lt_of_le h.glt t.size, h.ne⟩

/-- The document's law's blocks. -/
structure Dx (w : World) (b q gq : Nat) (v : Value) (p gp o cap : Nat) (c : CF) (n : Int) (L P : List Int) : Prop where mk ::
  B : Db w b c n q p
  Q : RK w q gq v c.cup c.cdn L
  R : RX w p gp o cap c P
  bq : b ≠ q
  bgq : b ≠ gq
  bp : b ≠ p
  bgp : b ≠ gp
  qp : q ≠ p
  qgp : q ≠ gp
  gqp : gq ≠ p
  gqgp : gq ≠ gp
theorem Tc.tw {p g : Nat} {w w' : World} (h : Tc p g w w') : Tw [p, g] w w' := Tw.of_tc h (by simp) (by simp)
section
variable {w w' : World} {b q gq : Nat} {v : Value} {p gp o cap : Nat} {c : CF} {n : Int} {L P : List Int}
theorem Dx.on (x : Dx w b q gq v p gp o cap c n L P) (r : Gr w w') : Dx w' b q gq v p gp o cap c n L P := ⟨x.B.on r, x.Q.on r, x.R.on r, x.bq, x.bgq, x.bp, x.bgp, x.qp, x.qgp, x.gqp, x.gqgp⟩
theorem Dx.setN (x : Dx w b q gq v p gp o cap c n L P) (n' : Int) : Dx (w.setCell ⟨b, 28, none⟩ (.int .i64 n')) b q gq v p gp o cap c n' L P :=
  ⟨x.B.setN n', x.Q.tw (Tc.one b 28 _).tw (by have := x.bq; simp; omega) (by have := x.bgq; simp; omega), x.R.tw (Tc.one b 28 _).tw (by have := x.bp; simp; omega) (by have := x.bgp; simp; omega), x.bq, x.bgq, x.bp, x.bgp, x.qp, x.qgp, x.gqp, x.gqgp⟩
theorem Dx.cal (x : Dx w b q gq v p gp o cap c n L P) {gq' : Nat} {v' : Value} {L' : List Int} (H : RK w' q gq' v' c.cup c.cdn L') (T : Tc q q w w') (hg : w.heap.size ≤ gq') : Dx w' b q gq' v' p gp o cap c n L' P := by
  have h1 := x.B.lt
  have h2 := x.R.lt
  have h3 := x.R.glt
  exact ⟨x.B.tw T.tw (by have := x.bq; simp; omega), H, x.R.tw T.tw (by have := x.qp; simp; omega) (by have := x.qgp; simp; omega), x.bq, by omega, x.bp, x.bgp, x.qp, x.qgp, by omega, by omega⟩
theorem Dx.pol (x : Dx w b q gq v p gp o cap c n L P) {gp' o' cap' : Nat} {P' : List Int} (H : RX w' p gp' o' cap' c P') (T : Tc p p w w') (hg : w.heap.size ≤ gp') : Dx w' b q gq v p gp' o' cap' c n L P' := by
  have h1 := x.B.lt
  have h2 := x.Q.lt
  have h3 := x.Q.glt
  exact ⟨x.B.tw T.tw (by have := x.bp; simp; omega), x.Q.tw T.tw (by have := x.qp; simp; omega) (by have := x.gqp; simp; omega), H, x.bq, x.bgq, x.bp, by omega, x.qp, by omega, x.gqp, by omega⟩
end
def Dw (w : World) (F : List Nat) (b : Nat) (c : CF) (s : Ls) : Prop := ∃ q gq v p gp o cap, F = [b, q, gq, p, gp] ∧ Dx w b q gq v p gp o cap c s.n s.L s.P
theorem Dw.on {w w' : World} {F : List Nat} {b : Nat} {c : CF} {s : Ls} (h : Dw w F b c s) (r : Gr w w') : Dw w' F b c s := by
  obtain ⟨q, gq, v, p, gp, o, cap, hF, x⟩ := h
  exact ⟨q, gq, v, p, gp, o, cap, hF, x.on r⟩
theorem Dw.lt {w : World} {F : List Nat} {b : Nat} {c : CF} {s : Ls} (h : Dw w F b c s) : ∀ x ∈ F, x < w.heap.size := by
  obtain ⟨q, gq, v, p, gp, o, cap, rfl, x⟩ := h
  have h1 := x.B.lt; have h2 := x.Q.lt; have h3 := x.Q.glt; have h4 := x.R.lt; have h5 := x.R.glt
  intro y hy
  simp at hy
  omega
theorem Dw.other {w w' : World} {F F' : List Nat} {b : Nat} {c : CF} {s : Ls} (h : Dw w F b c s) (t : Tw F' w w') (hd : ∀ x ∈ F, x ∉ F') : Dw w' F b c s := by
  obtain ⟨q, gq, v, p, gp, o, cap, rfl, x⟩ := h
  have h1 := hd b (by simp); have h2 := hd q (by simp); have h3 := hd gq (by simp); have h4 := hd p (by simp); have h5 := hd gp (by simp)
  exact ⟨q, gq, v, p, gp, o, cap, rfl, x.B.tw t h1, x.Q.tw t h2 h3, x.R.tw t h4 h5, x.bq, x.bgq, x.bp, x.bgp, x.qp, x.qgp, x.gqp, x.gqgp⟩

theorem mayConf_t (c : CF) (h : mayC c = true) (w : World) : Calls Try.prog 36 #[.agg #[.int .i64 c.n, .int .i64 c.f, .int .i64 c.m, .int .i64 c.q, .int .i64 c.fresh, .int .i64 c.grace, .int .i64 c.window, .int .i64 c.t0, .int .i64 c.t1, .int .i64 c.t2, .int .i64 c.t3, .int .i64 c.tol, .int .i64 c.lo, .int .i64 c.hi, .int .i64 c.cup, .int .i64 c.cdn, .int .i64 c.pup, .int .i64 c.tup, .int .i64 c.pdn, .int .i64 c.tdn, .int .i64 c.per, .int .i64 c.far, .int .i64 c.str, .int .i64 c.pro, .int .i64 c.sec, .int .u64 c.seed]] w fun e w' => e = .returned (.bool true) ∧ Gr w w' := h ▸ mayConf_any c w
set_option maxHeartbeats 4000000 in
theorem daw_new_ok (c : CF) (hc : Fits c) (n : Int) (n0 : c.lo ≤ n) (n1 : n ≤ c.hi) (w : World) : Calls Try.prog 64 #[.agg #[.int .i64 c.n, .int .i64 c.f, .int .i64 c.m, .int .i64 c.q, .int .i64 c.fresh, .int .i64 c.grace, .int .i64 c.window, .int .i64 c.t0, .int .i64 c.t1, .int .i64 c.t2, .int .i64 c.t3, .int .i64 c.tol, .int .i64 c.lo, .int .i64 c.hi, .int .i64 c.cup, .int .i64 c.cdn, .int .i64 c.pup, .int .i64 c.tup, .int .i64 c.pdn, .int .i64 c.tdn, .int .i64 c.per, .int .i64 c.far, .int .i64 c.str, .int .i64 c.pro, .int .i64 c.sec, .int .u64 c.seed], .int .i64 n] w fun e w' =>
    ∃ b F, e = .returned (.pointer (some ⟨b, 0, none⟩)) ∧ Dw w' F b c (Ls.one n) ∧ (∀ x ∈ F, w.heap.size ≤ x) ∧ Gr w w' := by
  have A0 := start_at (Gr.refl w) c
  have HM := Lib.hid (fun w => mayConf_t c hc.may w)
  have hnb : newB c n = true := by unfold newB; simp [hc.rates, n0, n1]
  go_enter Try.func64, Try.ntmps64
  go_upto_region 1 with (fail)
  generalize w.alloc (.cells #[.int .i64 c.n, .int .i64 c.f, .int .i64 c.m, .int .i64 c.q, .int .i64 c.fresh, .int .i64 c.grace, .int .i64 c.window, .int .i64 c.t0, .int .i64 c.t1, .int .i64 c.t2, .int .i64 c.t3, .int .i64 c.tol, .int .i64 c.lo, .int .i64 c.hi, .int .i64 c.cup, .int .i64 c.cdn, .int .i64 c.pup, .int .i64 c.tup, .int .i64 c.pdn, .int .i64 c.tdn, .int .i64 c.per, .int .i64 c.far, .int .i64 c.str, .int .i64 c.pro, .int .i64 c.sec, .int .u64 c.seed] 36) = w1 at *
  generalize w.heap.size = b0 at *
  have hk := A0.conf
  go_upto_region 3 with ((go_at_call 36; refine (HM.out _).mono ?_; rintro e w2 ⟨rfl, hg⟩; replace A0 := A0.on hg; clear hg hk; have hcl := A0.cell))
  rename World => w2
  clear HM
  have hks : ∀ s : Gw w2, conf36? s.val ⟨b0, 0, none⟩ = some #[.int .i64 c.n, .int .i64 c.f, .int .i64 c.m, .int .i64 c.q, .int .i64 c.fresh, .int .i64 c.grace, .int .i64 c.window, .int .i64 c.t0, .int .i64 c.t1, .int .i64 c.t2, .int .i64 c.t3, .int .i64 c.tol, .int .i64 c.lo, .int .i64 c.hi, .int .i64 c.cup, .int .i64 c.cdn, .int .i64 c.pup, .int .i64 c.tup, .int .i64 c.pdn, .int .i64 c.tdn, .int .i64 c.per, .int .i64 c.far, .int .i64 c.str, .int .i64 c.pro, .int .i64 c.sec, .int .u64 c.seed] := fun s => A0.confG s
  have hcs : ∀ s : Gw w2, ∀ off, s.val.cell? ⟨b0, off, none⟩ = cellAt c off := fun s => A0.cellG s
  refine wp_region_grp (fun w' => ∃ s : Gw w2, w' = s.val) [([0, 1, 2, 3, 4, 6, 7, 9], [5, 8, 10, 11]), ([12], [])] (by kernel_rfl) (by as_aux_lemma => kernel_rfl) (by as_aux_lemma => kernel_rfl) (by kernel_rfl) (fun d v c a w h => by cases d <;> exact h) (Gr.fresh w2).in_ ?_
  simp only [wpGrp, wpSeqC, List.filterMap_cons, List.filterMap_nil, List.getElem?_toArray, List.getElem?_cons_succ, List.getElem?_cons_zero]
  show wpQuiet _ _ _ _ [_, _, _, _, _, _, _, _] _
  repeat (go_big_quiet_step (fail))
  refine wpQuiet_nil ?_
  clear hks hcs hcl
  refine wpOp_new (R := fun v w' => ∃ q, v = .pointer (some ⟨q, 0, none⟩) ∧ RK w' q q (.slice none 0 0) c.cup c.cdn [] ∧ w2.heap.size ≤ q) 25 94 #[.int .i64 c.cup, .int .i64 c.cdn] rfl rfl rfl (by kernel_rfl) (Gr.fresh w2) ((rc_new_any c.cup c.cdn hc.cup0 (by have := hc.cup1; omega) hc.cdn0 (by have := hc.cdn1; omega) _).mono fun e w' ⟨q, r1, r2, r3, r4⟩ => ⟨_, r1, ⟨q, rfl, r2, r3⟩, r4⟩) fun v5 w5 hv5 G5 _ => ?_
  obtain ⟨q, rfl, HQ, hq⟩ := hv5
  simp only [Act.put, List.setIfInBounds_toArray, List.set_cons_succ, List.set_cons_zero]
  refine wpOp_new (R := fun v w' => ∃ p g, v = .pointer (some ⟨p, 0, none⟩) ∧ Rol w' p g 1 c [n] ∧ w5.heap.size ≤ p ∧ w5.heap.size ≤ g) 28 52 #[.agg #[.int .i64 c.n, .int .i64 c.f, .int .i64 c.m, .int .i64 c.q, .int .i64 c.fresh, .int .i64 c.grace, .int .i64 c.window, .int .i64 c.t0, .int .i64 c.t1, .int .i64 c.t2, .int .i64 c.t3, .int .i64 c.tol, .int .i64 c.lo, .int .i64 c.hi, .int .i64 c.cup, .int .i64 c.cdn, .int .i64 c.pup, .int .i64 c.tup, .int .i64 c.pdn, .int .i64 c.tdn, .int .i64 c.per, .int .i64 c.far, .int .i64 c.str, .int .i64 c.pro, .int .i64 c.sec, .int .u64 c.seed], .int .i64 n] rfl rfl rfl (by kernel_rfl) G5 ((r_new_ok c n hnb _).mono fun e w' ⟨p, g, r1, r2, r3, r4, r5⟩ => ⟨_, r1, ⟨p, g, rfl, r2, r3, r4⟩, r5⟩) fun v6 w6 hv6 G6 G56 => ?_
  obtain ⟨p, g, rfl, HP, hp, hg⟩ := hv6
  simp only [Act.put, List.setIfInBounds_toArray, List.set_cons_succ, List.set_cons_zero]
  refine wpOp_made 30 (.agg #[.int .i64 c.n, .int .i64 c.f, .int .i64 c.m, .int .i64 c.q, .int .i64 c.fresh, .int .i64 c.grace, .int .i64 c.window, .int .i64 c.t0, .int .i64 c.t1, .int .i64 c.t2, .int .i64 c.t3, .int .i64 c.tol, .int .i64 c.lo, .int .i64 c.hi, .int .i64 c.cup, .int .i64 c.cdn, .int .i64 c.pup, .int .i64 c.tup, .int .i64 c.pdn, .int .i64 c.tdn, .int .i64 c.per, .int .i64 c.far, .int .i64 c.str, .int .i64 c.pro, .int .i64 c.sec, .int .u64 c.seed, .pointer (some ⟨q, 0, none⟩), .pointer (some ⟨p, 0, none⟩), .int .i64 n]) w6 rfl rfl rfl (by kernel_rfl) G6 ?_
  simp only [Act.put, List.setIfInBounds_toArray, List.set_cons_succ, List.set_cons_zero]
  refine wpOp_made 31 (.pointer (some ⟨w6.heap.size, 0, none⟩)) (w6.alloc (.cells #[.int .i64 c.n, .int .i64 c.f, .int .i64 c.m, .int .i64 c.q, .int .i64 c.fresh, .int .i64 c.grace, .int .i64 c.window, .int .i64 c.t0, .int .i64 c.t1, .int .i64 c.t2, .int .i64 c.t3, .int .i64 c.tol, .int .i64 c.lo, .int .i64 c.hi, .int .i64 c.cup, .int .i64 c.cdn, .int .i64 c.pup, .int .i64 c.tup, .int .i64 c.pdn, .int .i64 c.tdn, .int .i64 c.per, .int .i64 c.far, .int .i64 c.str, .int .i64 c.pro, .int .i64 c.sec, .int .u64 c.seed, .pointer (some ⟨q, 0, none⟩), .pointer (some ⟨p, 0, none⟩), .int .i64 n] 81)) rfl rfl rfl (by kernel_rfl) (G6.alloc _) ?_
  simp only [Act.put, List.setIfInBounds_toArray, List.set_cons_succ, List.set_cons_zero]
  show wpQuiet _ _ _ _ [_] _
  repeat (go_big_quiet_step (fail))
  refine wpQuiet_nil ?_
  have g0 := A0.gr
  have s0 := g0.size
  have s5 := HQ.lt
  have s6 := HP.lt
  have s7 := HP.glt
  have gq : Gr w5 (w6.alloc (.cells #[.int .i64 c.n, .int .i64 c.f, .int .i64 c.m, .int .i64 c.q, .int .i64 c.fresh, .int .i64 c.grace, .int .i64 c.window, .int .i64 c.t0, .int .i64 c.t1, .int .i64 c.t2, .int .i64 c.t3, .int .i64 c.tol, .int .i64 c.lo, .int .i64 c.hi, .int .i64 c.cup, .int .i64 c.cdn, .int .i64 c.pup, .int .i64 c.tup, .int .i64 c.pdn, .int .i64 c.tdn, .int .i64 c.per, .int .i64 c.far, .int .i64 c.str, .int .i64 c.pro, .int .i64 c.sec, .int .u64 c.seed, .pointer (some ⟨q, 0, none⟩), .pointer (some ⟨p, 0, none⟩), .int .i64 n] 81)) := G56.alloc _
  have gp : Gr w6 (w6.alloc (.cells #[.int .i64 c.n, .int .i64 c.f, .int .i64 c.m, .int .i64 c.q, .int .i64 c.fresh, .int .i64 c.grace, .int .i64 c.window, .int .i64 c.t0, .int .i64 c.t1, .int .i64 c.t2, .int .i64 c.t3, .int .i64 c.tol, .int .i64 c.lo, .int .i64 c.hi, .int .i64 c.cup, .int .i64 c.cdn, .int .i64 c.pup, .int .i64 c.tup, .int .i64 c.pdn, .int .i64 c.tdn, .int .i64 c.per, .int .i64 c.far, .int .i64 c.str, .int .i64 c.pro, .int .i64 c.sec, .int .u64 c.seed, .pointer (some ⟨q, 0, none⟩), .pointer (some ⟨p, 0, none⟩), .int .i64 n] 81)) := (Gr.refl w6).alloc _
  have s56 := G56.size
  have s26 := G6.size
  have GF := (g0.trans G6).alloc (.cells #[.int .i64 c.n, .int .i64 c.f, .int .i64 c.m, .int .i64 c.q, .int .i64 c.fresh, .int .i64 c.grace, .int .i64 c.window, .int .i64 c.t0, .int .i64 c.t1, .int .i64 c.t2, .int .i64 c.t3, .int .i64 c.tol, .int .i64 c.lo, .int .i64 c.hi, .int .i64 c.cup, .int .i64 c.cdn, .int .i64 c.pup, .int .i64 c.tup, .int .i64 c.pdn, .int .i64 c.tdn, .int .i64 c.per, .int .i64 c.far, .int .i64 c.str, .int .i64 c.pro, .int .i64 c.sec, .int .u64 c.seed, .pointer (some ⟨q, 0, none⟩), .pointer (some ⟨p, 0, none⟩), .int .i64 n] 81)
  have hb0 := A0.new
  go_wp2
  go_ret
  refine ⟨_, _, rfl, ⟨q, q, _, p, g, 0, 1, rfl, ⟨⟨heap_new rfl⟩, HQ.on gq, RX.of (HP.on gp), by omega, by omega, by omega, by omega, by omega, by omega, by omega, by omega⟩⟩, fun y hy => ?_, GF⟩
  simp at hy
  omega

set_option maxHeartbeats 4000000 in
theorem dawHold_x {w : World} {b q gq : Nat} {v : Value} {p gp o cap : Nat} {c : CF} {n : Int} {L P : List Int} (x : Dx w b q gq v p gp o cap c n L P)
    (hc : Fits c) (n0 : c.lo ≤ n) (n1 : n ≤ c.hi) (K : Kept c P) : Calls Try.prog 65 #[.pointer (some ⟨b, 0, none⟩)] w fun r w' =>
      ∃ gp' o' cap', r = .returned (.int .i64 n) ∧ Dx w' b q gq v p gp' o' cap' c n L (putP c P n) ∧ Tw [b, q, gq, p, gp] w w' ∧ Near [b, q, gq, p, gp] [b, q, gq, p, gp'] w := by
  have hPl : P.length ≤ 1000 := by have := K.len; have := hc.per1; omega
  have hput : putB c n = true := by unfold putB; simp [n0, n1]
  go_enter Try.func65, Try.ntmps65
  go_upto_region 1 with (fail)
  have hcs : ∀ s : Gw w, ∀ off, s.val.cell? ⟨b, off, none⟩ = dawAt c n q p off := fun s => (x.B.on s.gr).cell
  refine wp_region_quiet_tail (C := fun w' => ∃ s : Gw w, w' = s.val) 8 (by kernel_rfl) (by as_aux_lemma => kernel_rfl) (by decide) (by as_aux_lemma => kernel_rfl) (by as_aux_lemma => kernel_rfl) (by as_aux_lemma => kernel_rfl) (by as_aux_lemma => kernel_rfl) (Gr.fresh w).in_ ?_
  simp only [List.take_succ_cons, List.take_zero, List.drop_succ_cons, List.drop_zero]
  repeat (go_big_quiet_step (fail))
  refine wpQuiet_nil ?_
  rintro _ ⟨s, rfl⟩
  have X := x.on s.gr
  have T : Tw [b, q, gq, p, gp] w s.val := Tw.of_gr s.gr
  clear hcs
  generalize s.val = w2 at *
  clear x
  go_wp2_with fail
  refine (x_put_ok X.R K.pos hPl hc.rts n hput).mono ?_
  rintro e1 w3 ⟨gp', o', cap', rfl, H, T3, hg⟩
  have X3 := X.pol H T3 hg
  have hs2 := T.size
  have T4 := T.trans (Tw.of_tc (F := [b, q, gq, p, gp]) T3 (by simp) (by simp)) (Near.refl _ _)
  have hc3 := X3.B.cell
  clear X H T3 T
  go_wp2
  go_ret
  refine ⟨gp', o', cap', rfl, X3, T4, fun y hy => ?_⟩
  simp at hy ⊢
  omega
end Go.Proofs.Ytjobicffdcnnlaa
