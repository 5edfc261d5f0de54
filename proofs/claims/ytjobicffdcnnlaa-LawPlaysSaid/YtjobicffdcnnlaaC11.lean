import Derived.Test.YtjobicffdcnnlaaC10
import Derived.Test.YtjobicffdcnnlaaW2
namespace Go.Proofs.Ytjobicffdcnnlaa
open Go.RowKit
set_option linter.unusedSimpArgs false
set_option linter.unusedVariables false

def cellAt (c : CF) (i : Nat) : Option Value := (#[.int .i64 c.n, .int .i64 c.f, .int .i64 c.m, .int .i64 c.q, .int .i64 c.fresh, .int .i64 c.grace, .int .i64 c.window, .int .i64 c.t0, .int .i64 c.t1, .int .i64 c.t2, .int .i64 c.t3, .int .i64 c.tol, .int .i64 c.lo, .int .i64 c.hi, .int .i64 c.cup, .int .i64 c.cdn, .int .i64 c.pup, .int .i64 c.tup, .int .i64 c.pdn, .int .i64 c.tdn, .int .i64 c.per, .int .i64 c.far, .int .i64 c.str, .int .i64 c.pro, .int .i64 c.sec, .int .u64 c.seed] : Array Value)[i]?
@[go_sem] theorem cellAt_0 (c : CF) : cellAt c 0 = some (.int .i64 c.n) := rfl
@[go_sem] theorem cellAt_1 (c : CF) : cellAt c 1 = some (.int .i64 c.f) := rfl
@[go_sem] theorem cellAt_2 (c : CF) : cellAt c 2 = some (.int .i64 c.m) := rfl
@[go_sem] theorem cellAt_3 (c : CF) : cellAt c 3 = some (.int .i64 c.q) := rfl
@[go_sem] theorem cellAt_4 (c : CF) : cellAt c 4 = some (.int .i64 c.fresh) := rfl
@[go_sem] theorem cellAt_5 (c : CF) : cellAt c 5 = some (.int .i64 c.grace) := rfl
@[go_sem] theorem cellAt_6 (c : CF) : cellAt c 6 = some (.int .i64 c.window) := rfl
@[go_sem] theorem cellAt_7 (c : CF) : cellAt c 7 = some (.int .i64 c.t0) := rfl
@[go_sem] theorem cellAt_8 (c : CF) : cellAt c 8 = some (.int .i64 c.t1) := rfl
@[go_sem] theorem cellAt_9 (c : CF) : cellAt c 9 = some (.int .i64 c.t2) := rfl
@[go_sem] theorem cellAt_10 (c : CF) : cellAt c 10 = some (.int .i64 c.t3) := rfl
@[go_sem] theorem cellAt_11 (c : CF) : cellAt c 11 = some (.int .i64 c.tol) := rfl
@[go_sem] theorem cellAt_12 (c : CF) : cellAt c 12 = some (.int .i64 c.lo) := rfl
@[go_sem] theorem cellAt_13 (c : CF) : cellAt c 13 = some (.int .i64 c.hi) := rfl
@[go_sem] theorem cellAt_14 (c : CF) : cellAt c 14 = some (.int .i64 c.cup) := rfl
@[go_sem] theorem cellAt_15 (c : CF) : cellAt c 15 = some (.int .i64 c.cdn) := rfl
@[go_sem] theorem cellAt_16 (c : CF) : cellAt c 16 = some (.int .i64 c.pup) := rfl
@[go_sem] theorem cellAt_17 (c : CF) : cellAt c 17 = some (.int .i64 c.tup) := rfl
@[go_sem] theorem cellAt_18 (c : CF) : cellAt c 18 = some (.int .i64 c.pdn) := rfl
@[go_sem] theorem cellAt_19 (c : CF) : cellAt c 19 = some (.int .i64 c.tdn) := rfl
@[go_sem] theorem cellAt_20 (c : CF) : cellAt c 20 = some (.int .i64 c.per) := rfl
@[go_sem] theorem cellAt_21 (c : CF) : cellAt c 21 = some (.int .i64 c.far) := rfl
@[go_sem] theorem cellAt_22 (c : CF) : cellAt c 22 = some (.int .i64 c.str) := rfl
@[go_sem] theorem cellAt_23 (c : CF) : cellAt c 23 = some (.int .i64 c.pro) := rfl
@[go_sem] theorem cellAt_24 (c : CF) : cellAt c 24 = some (.int .i64 c.sec) := rfl
@[go_sem] theorem cellAt_25 (c : CF) : cellAt c 25 = some (.int .u64 c.seed) := rfl
/-- The configuration that is being made stands in a block of its own. -/
structure At (W w : World) (b : Nat) (c : CF) : Prop where
  new : W.heap.size ≤ b
  gr : Gr W w
  box : w.heap[b]? = some (.cells #[.int .i64 c.n, .int .i64 c.f, .int .i64 c.m, .int .i64 c.q, .int .i64 c.fresh, .int .i64 c.grace, .int .i64 c.window, .int .i64 c.t0, .int .i64 c.t1, .int .i64 c.t2, .int .i64 c.t3, .int .i64 c.tol, .int .i64 c.lo, .int .i64 c.hi, .int .i64 c.cup, .int .i64 c.cdn, .int .i64 c.pup, .int .i64 c.tup, .int .i64 c.pdn, .int .i64 c.tdn, .int .i64 c.per, .int .i64 c.far, .int .i64 c.str, .int .i64 c.pro, .int .i64 c.sec, .int .u64 c.seed] 36)
theorem At.cell {W w : World} {b : Nat} {c : CF} (h : At W w b c) (off : Nat) : w.cell? ⟨b, off, none⟩ = cellAt c off := by
  simp [World.cell?, h.box, cellAt]
theorem At.froz {W w : World} {b : Nat} {c : CF} (h : At W w b c) (off : Nat) : w.frozen? ⟨b, off, none⟩ = false := frozen_in h.box
theorem At.conf {W w : World} {b : Nat} {c : CF} (h : At W w b c) : conf36? w ⟨b, 0, none⟩ = some #[.int .i64 c.n, .int .i64 c.f, .int .i64 c.m, .int .i64 c.q, .int .i64 c.fresh, .int .i64 c.grace, .int .i64 c.window, .int .i64 c.t0, .int .i64 c.t1, .int .i64 c.t2, .int .i64 c.t3, .int .i64 c.tol, .int .i64 c.lo, .int .i64 c.hi, .int .i64 c.cup, .int .i64 c.cdn, .int .i64 c.pup, .int .i64 c.tup, .int .i64 c.pdn, .int .i64 c.tdn, .int .i64 c.per, .int .i64 c.far, .int .i64 c.str, .int .i64 c.pro, .int .i64 c.sec, .int .u64 c.seed] := conf36_of h.box rfl
theorem At.set {W w : World} {b : Nat} {c : CF} (h : At W w b c) (off : Nat) (v : Value) (c' : CF) (e : (#[.int .i64 c.n, .int .i64 c.f, .int .i64 c.m, .int .i64 c.q, .int .i64 c.fresh, .int .i64 c.grace, .int .i64 c.window, .int .i64 c.t0, .int .i64 c.t1, .int .i64 c.t2, .int .i64 c.t3, .int .i64 c.tol, .int .i64 c.lo, .int .i64 c.hi, .int .i64 c.cup, .int .i64 c.cdn, .int .i64 c.pup, .int .i64 c.tup, .int .i64 c.pdn, .int .i64 c.tdn, .int .i64 c.per, .int .i64 c.far, .int .i64 c.str, .int .i64 c.pro, .int .i64 c.sec, .int .u64 c.seed] : Array Value).setIfInBounds off v = #[.int .i64 c'.n, .int .i64 c'.f, .int .i64 c'.m, .int .i64 c'.q, .int .i64 c'.fresh, .int .i64 c'.grace, .int .i64 c'.window, .int .i64 c'.t0, .int .i64 c'.t1, .int .i64 c'.t2, .int .i64 c'.t3, .int .i64 c'.tol, .int .i64 c'.lo, .int .i64 c'.hi, .int .i64 c'.cup, .int .i64 c'.cdn, .int .i64 c'.pup, .int .i64 c'.tup, .int .i64 c'.pdn, .int .i64 c'.tdn, .int .i64 c'.per, .int .i64 c'.far, .int .i64 c'.str, .int .i64 c'.pro, .int .i64 c'.sec, .int .u64 c'.seed]) : At W (w.setCell ⟨b, off, none⟩ v) b c' :=
  ⟨h.new, ⟨h.gr.out.setCell h.new v⟩, e ▸ set_block h.box⟩
theorem At.drew {W w : World} {b : Nat} {c : CF} (h : At W w b c) : At W w.drew b c := ⟨h.new, h.gr.drew, h.box⟩
theorem At.on {W w w' : World} {b : Nat} {c : CF} (h : At W w b c) (g : Gr w w') : At W w' b c := ⟨h.new, h.gr.trans g, g.block h.box⟩

theorem At.cellG {W w : World} {b : Nat} {c : CF} (h : At W w b c) (s : Gw w) (off : Nat) : s.val.cell? ⟨b, off, none⟩ = cellAt c off := (h.on s.gr).cell off
theorem At.confG {W w : World} {b : Nat} {c : CF} (h : At W w b c) (s : Gw w) : conf36? s.val ⟨b, 0, none⟩ = some #[.int .i64 c.n, .int .i64 c.f, .int .i64 c.m, .int .i64 c.q, .int .i64 c.fresh, .int .i64 c.grace, .int .i64 c.window, .int .i64 c.t0, .int .i64 c.t1, .int .i64 c.t2, .int .i64 c.t3, .int .i64 c.tol, .int .i64 c.lo, .int .i64 c.hi, .int .i64 c.cup, .int .i64 c.cdn, .int .i64 c.pup, .int .i64 c.tup, .int .i64 c.pdn, .int .i64 c.tdn, .int .i64 c.per, .int .i64 c.far, .int .i64 c.str, .int .i64 c.pro, .int .i64 c.sec, .int .u64 c.seed] := (h.on s.gr).conf
theorem start_at {W w1 : World} (hg : Gr W w1) (c : CF) : At W (w1.alloc (.cells #[.int .i64 c.n, .int .i64 c.f, .int .i64 c.m, .int .i64 c.q, .int .i64 c.fresh, .int .i64 c.grace, .int .i64 c.window, .int .i64 c.t0, .int .i64 c.t1, .int .i64 c.t2, .int .i64 c.t3, .int .i64 c.tol, .int .i64 c.lo, .int .i64 c.hi, .int .i64 c.cup, .int .i64 c.cdn, .int .i64 c.pup, .int .i64 c.tup, .int .i64 c.pdn, .int .i64 c.tdn, .int .i64 c.per, .int .i64 c.far, .int .i64 c.str, .int .i64 c.pro, .int .i64 c.sec, .int .u64 c.seed] 36)) w1.heap.size c := ⟨hg.size, hg.alloc _, heap_new rfl⟩

def cQ (N F Q : Int) : CF := { dflt with n := N, f := F, q := Q }
@[go_sem] theorem cQ_n (N F Q : Int) : (cQ N F Q).n = N := rfl
@[go_sem] theorem cQ_f (N F Q : Int) : (cQ N F Q).f = F := rfl
@[go_sem] theorem cQ_q (N F Q : Int) : (cQ N F Q).q = Q := rfl
def mayQ (N F Q : Int) : Bool := decide (1 ≤ N) && decide (N ≤ 16) && decide (3 * F + 1 ≤ N) && decide (2 * F + 1 ≤ Q) && decide (Q ≤ N)
theorem mayQ_all : ∀ F, F < 6 → ∀ N, N < 18 → ∀ Q, Q < 20 → mayC (cQ (N : Nat) (F : Nat) (Q : Nat)) = mayQ (N : Nat) (F : Nat) (Q : Nat) := by decide +kernel

set_option maxHeartbeats 2000000 in
set_option maxRecDepth 100000 in
theorem confQuorums_any (a b1 d : Int) (w : World) : Calls Try.prog 12 #[.int .i64 a, .int .i64 b1, .int .i64 d] w fun e w' => e = .returned (.bool true) ∧ Gr w w' := by
  obtain ⟨N, hN, N0, N1⟩ := u64_mod a 18 (by omega)
  obtain ⟨F, hF, F0, F1⟩ := u64_mod b1 6 (by omega)
  obtain ⟨Q, hQ, Q0, Q1⟩ := u64_mod d 20 (by omega)
  have n0 := u64_nonneg a
  have f0 := u64_nonneg b1
  have q0 := u64_nonneg d
  go_enter Try.func12, Try.ntmps12
  go_upto_region 1 with (fail)
  refine wp_region_lit ?_
  refine wpList_enter 38 #[] _ rfl (by kernel_rfl) (default_any w) fun w1 hg => ?_
  refine wpList_val (.pointer (some ⟨w1.heap.size, 0, none⟩)) (w1.alloc (.cells zero36 36)) rfl (xalloc36 ..) ?_
  refine wpList_skip' (w1.alloc (.cells #[.int .i64 dflt.n, .int .i64 dflt.f, .int .i64 dflt.m, .int .i64 dflt.q, .int .i64 dflt.fresh, .int .i64 dflt.grace, .int .i64 dflt.window, .int .i64 dflt.t0, .int .i64 dflt.t1, .int .i64 dflt.t2, .int .i64 dflt.t3, .int .i64 dflt.tol, .int .i64 dflt.lo, .int .i64 dflt.hi, .int .i64 dflt.cup, .int .i64 dflt.cdn, .int .i64 dflt.pup, .int .i64 dflt.tup, .int .i64 dflt.pdn, .int .i64 dflt.tdn, .int .i64 dflt.per, .int .i64 dflt.far, .int .i64 dflt.str, .int .i64 dflt.pro, .int .i64 dflt.sec, .int .u64 dflt.seed] 36)) rfl (xstore36_at rfl (by kernel_rfl) (by kernel_rfl) rfl rfl (by kernel_rfl)) ?_
  have A := start_at hg dflt
  generalize w1.alloc (.cells #[.int .i64 dflt.n, .int .i64 dflt.f, .int .i64 dflt.m, .int .i64 dflt.q, .int .i64 dflt.fresh, .int .i64 dflt.grace, .int .i64 dflt.window, .int .i64 dflt.t0, .int .i64 dflt.t1, .int .i64 dflt.t2, .int .i64 dflt.t3, .int .i64 dflt.tol, .int .i64 dflt.lo, .int .i64 dflt.hi, .int .i64 dflt.cup, .int .i64 dflt.cdn, .int .i64 dflt.pup, .int .i64 dflt.tup, .int .i64 dflt.pdn, .int .i64 dflt.tdn, .int .i64 dflt.per, .int .i64 dflt.far, .int .i64 dflt.str, .int .i64 dflt.pro, .int .i64 dflt.sec, .int .u64 dflt.seed] 36) = w2 at *
  generalize w1.heap.size = b at *
  clear hg
  have hc := A.cell
  have hz := A.froz
  go_upto_region 3 with (fail)
  replace A := A.set 1 (.int .i64 F) { dflt with f := F } rfl
  clear hc hz
  generalize w2.setCell ⟨b, 1, none⟩ (.int .i64 F) = w3 at *
  have hc := A.cell
  have hz := A.froz
  go_upto_region 4 with (fail)
  replace A := A.set 0 (.int .i64 N) { dflt with f := F, n := N } rfl
  clear hc hz
  generalize w3.setCell ⟨b, 0, none⟩ (.int .i64 N) = w4 at *
  have hc := A.cell
  have hz := A.froz
  go_upto_region 5 with (fail)
  replace A := A.set 3 (.int .i64 Q) (cQ N F Q) rfl
  clear hc hz
  generalize w4.setCell ⟨b, 3, none⟩ (.int .i64 Q) = w5 at *
  have hm : mayC (cQ N F Q) = mayQ N F Q := by
    have := mayQ_all F.toNat (by omega) N.toNat (by omega) Q.toNat (by omega)
    rwa [Int.toNat_of_nonneg F0, Int.toNat_of_nonneg N0, Int.toNat_of_nonneg Q0] at this
  unfold mayQ at hm
  have hh := fun w => honest_any (cQ N F Q) w
  rw [show wrap64 ((cQ N F Q).n - (cQ N F Q).f) = N - F from by show wrap64 (N - F) = _; unfold wrap64; omega] at hh
  have hh := Lib.hid hh
  have hc := A.cell
  have hk := A.conf
  clear hN hF hQ n0 f0 q0
  by_cases h1 : 1 ≤ N
  · skip
    by_cases h2 : N ≤ 16
    · skip
      by_cases h3 : 3 * F + 1 ≤ N
      · skip
        by_cases h4 : 2 * F + 1 ≤ Q
        · skip
          by_cases h5 : Q ≤ N
          · skip
            have e1 : Q < 2 * (Q - F) := by omega
            have e2 : 2 * F < N - F := by omega
            have hm : Hid (mayC (cQ N F Q) = true) := Lib.hid (by simp [hm, h1, h2, h3, h4, h5])
            go_upto_region 6 with (fail)
            clear hc hk
            refine wp_region_quiet_gw (by kernel_rfl) (by kernel_rfl) ?_
            have hc := A.cellG
            have hk := A.confG
            repeat (go_big_quiet_step (first | (go_at_call 39; exact q_gr (told3_any _)) | (go_at_call 41; exact q_gr (may_true_any _ hm.out _)) | (go_at_call 43; exact q_gr (hh.out _))))
            refine wpQuiet_nil fun s => ?_
            go_wp2
            go_ret
            exact ⟨rfl, A.gr.trans s.gr⟩
          · skip
            have hm : Hid (mayC (cQ N F Q) = false) := Lib.hid (by simp [hm, h1, h2, h3, h4, h5])
            go_upto_region 6 with (fail)
            clear hc hk
            refine wp_region_quiet_gw (by kernel_rfl) (by kernel_rfl) ?_
            have hc := A.cellG
            have hk := A.confG
            repeat (go_big_quiet_step (first | (go_at_call 39; exact q_gr (told3_any _)) | (go_at_call 41; exact q_gr (may_true_any _ hm.out _)) | (go_at_call 43; exact q_gr (hh.out _))))
            refine wpQuiet_nil fun s => ?_
            go_wp2
            go_ret
            exact ⟨rfl, A.gr.trans s.gr⟩
        · skip
          have hm : Hid (mayC (cQ N F Q) = false) := Lib.hid (by simp [hm, h1, h2, h3, h4])
          go_upto_region 6 with (fail)
          clear hc hk
          refine wp_region_quiet_gw (by kernel_rfl) (by kernel_rfl) ?_
          have hc := A.cellG
          have hk := A.confG
          repeat (go_big_quiet_step (first | (go_at_call 39; exact q_gr (told3_any _)) | (go_at_call 41; exact q_gr (may_true_any _ hm.out _)) | (go_at_call 43; exact q_gr (hh.out _))))
          refine wpQuiet_nil fun s => ?_
          go_wp2
          go_ret
          exact ⟨rfl, A.gr.trans s.gr⟩
      · skip
        have hm : Hid (mayC (cQ N F Q) = false) := Lib.hid (by simp [hm, h1, h2, h3])
        go_upto_region 6 with (fail)
        clear hc hk
        refine wp_region_quiet_gw (by kernel_rfl) (by kernel_rfl) ?_
        have hc := A.cellG
        have hk := A.confG
        repeat (go_big_quiet_step (first | (go_at_call 39; exact q_gr (told3_any _)) | (go_at_call 41; exact q_gr (may_true_any _ hm.out _)) | (go_at_call 43; exact q_gr (hh.out _))))
        refine wpQuiet_nil fun s => ?_
        go_wp2
        go_ret
        exact ⟨rfl, A.gr.trans s.gr⟩
    · skip
      have hm : Hid (mayC (cQ N F Q) = false) := Lib.hid (by simp [hm, h1, h2])
      go_upto_region 6 with (fail)
      clear hc hk
      refine wp_region_quiet_gw (by kernel_rfl) (by kernel_rfl) ?_
      have hc := A.cellG
      have hk := A.confG
      repeat (go_big_quiet_step (first | (go_at_call 39; exact q_gr (told3_any _)) | (go_at_call 41; exact q_gr (may_true_any _ hm.out _)) | (go_at_call 43; exact q_gr (hh.out _))))
      refine wpQuiet_nil fun s => ?_
      go_wp2
      go_ret
      exact ⟨rfl, A.gr.trans s.gr⟩
  · skip
    have hm : Hid (mayC (cQ N F Q) = false) := Lib.hid (by simp [hm, h1])
    go_upto_region 6 with (fail)
    clear hc hk
    refine wp_region_quiet_gw (by kernel_rfl) (by kernel_rfl) ?_
    have hc := A.cellG
    have hk := A.confG
    repeat (go_big_quiet_step (first | (go_at_call 39; exact q_gr (told3_any _)) | (go_at_call 41; exact q_gr (may_true_any _ hm.out _)) | (go_at_call 43; exact q_gr (hh.out _))))
    refine wpQuiet_nil fun s => ?_
    go_wp2
    go_ret
    exact ⟨rfl, A.gr.trans s.gr⟩
theorem confQuorums_walk (a b1 d : Int) (W : World) (h : (Lit.int .i64 a).wf = true) (h1 : (Lit.int .i64 b1).wf = true) (h2 : (Lit.int .i64 d).wf = true) :
    Calls Try.prog 12 #[.int .i64 a, .int .i64 b1, .int .i64 d] W fun e w' => e = .returned (.bool true) ∧ Below W.heap.size W w' := (confQuorums_any a b1 d W).mono fun _ _ h => ⟨h.1, h.2.out⟩
end Go.Proofs.Ytjobicffdcnnlaa
