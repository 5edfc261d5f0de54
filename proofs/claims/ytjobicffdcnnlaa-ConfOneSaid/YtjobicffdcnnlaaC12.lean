import Derived.Test.YtjobicffdcnnlaaC11
namespace Go.Proofs.Ytjobicffdcnnlaa
open Go.RowKit
set_option linter.unusedSimpArgs false
set_option linter.unusedVariables false
set_option maxRecDepth 100000

def pickT (b : Bool) (v : Int) : Int := if b = true then v else 0
/-- The configuration behind k rounds. -/
def cT (m v : Int) (B : Nat → Bool) (k : Nat) : CF :=
  { dflt with m := m, t0 := if 0 < k then pickT (B 0) v else 1000, t1 := if 1 < k then pickT (B 1) v else 0, t2 := if 2 < k then pickT (B 2) v else 0, t3 := if 3 < k then pickT (B 3) v else 0 }
def mayT (m : Int) (B : Nat → Bool) : Nat → Bool
  | 0 => decide (1 ≤ m) && decide (m ≤ 4)
  | k + 1 => mayT m B k && (B k == decide ((k : Int) < m))
@[go_sem] theorem cT_m (m v : Int) (B : Nat → Bool) (k : Nat) : (cT m v B k).m = m := rfl
def bitT (U : Int) : Nat → Bool
  | 0 => bits BinOp.and IntKind.u64 U 1 == 1
  | 1 => bits BinOp.and IntKind.u64 (U / 2) 1 == 1
  | 2 => bits BinOp.and IntKind.u64 (U / 4) 1 == 1
  | _ => bits BinOp.and IntKind.u64 (U / 8) 1 == 1
theorem mayT_step (m : Int) (B : Nat → Bool) (k : Nat) : mayT m B (k + 1) = (mayT m B k && (B k == decide ((k : Int) < m))) := rfl
theorem mayT_out {m : Int} {B : Nat → Bool} (h : (decide (1 ≤ m) && decide (m ≤ 4)) = false) : ∀ k, mayT m B k = false
  | 0 => h
  | k + 1 => by simp [mayT, mayT_out h k]
theorem okT_pick {c : CF} {k v : Int} (b : Bool) (v0 : 1 ≤ v) (v1 : v ≤ 1099511627776) : okT c k (pickT b v) = (b == decide (k < c.m)) := by
  by_cases h : k < c.m
  · rw [okT_in h]; cases b <;> simp [pickT, h] <;> omega
  · rw [okT_out h]; cases b <;> simp [pickT, h] <;> omega
theorem wrong_skip (q : Part) (r : List Part) (h : badP q = false) : wrongL (q :: r) = wrongL r := by rw [wrong_cons, h]; rfl
theorem wrong_stop (q : Part) (r : List Part) (h : badP q = true) : wrongL (q :: r) = q.name := by rw [wrong_cons, h]; rfl
theorem bad_m (nm : ByteArray) (m : Int) : badP ⟨nm, m, 1, 4⟩ = !(decide (1 ≤ m) && decide (m ≤ 4)) := bad_in nm m 1 4
theorem wrongT (m v : Int) (B : Nat → Bool) (v0 : 1 ≤ v) (v1 : v ≤ 1099511627776) :
    wrongV (cT m v B 4) = (if (decide (1 ≤ m) && decide (m ≤ 4)) = true then (if targetsB (cT m v B 4) = true then ⟨#[]⟩ else ⟨#[116, 97, 114, 103, 101, 116]⟩) else ⟨#[109]⟩) := by
  unfold wrongV partsL
  rw [wrong_skip _ _ (by kernel_rfl), wrong_skip _ _ (by kernel_rfl)]
  cases h : (decide (1 ≤ m) && decide (m ≤ 4)) with
  | false => rw [wrong_stop _ _ (by rw [cT_m, bad_m, h]; rfl)]; rfl
  | true =>
    rw [wrong_skip _ _ (by rw [cT_m, bad_m, h]; rfl)]
    rw [wrong_skip _ _ (by kernel_rfl), wrong_skip _ _ (by kernel_rfl), wrong_skip _ _ (by kernel_rfl), wrong_skip _ _ (by kernel_rfl)]
    cases ht : targetsB (cT m v B 4) with
    | false => rw [wrong_stop _ _ (by rw [bad_t, ht]; rfl)]; rfl
    | true =>
      rw [wrong_skip _ _ (by rw [bad_t, ht]; rfl)]
      rw [wrong_skip _ _ (by kernel_rfl), wrong_skip _ _ (by kernel_rfl), wrong_skip _ _ (by kernel_rfl), wrong_skip _ _ (by kernel_rfl), wrong_skip _ _ (by kernel_rfl), wrong_skip _ _ (by kernel_rfl), wrong_skip _ _ (by kernel_rfl), wrong_skip _ _ (by kernel_rfl), wrong_skip _ _ (by kernel_rfl), wrong_skip _ _ (by kernel_rfl), wrong_skip _ _ (by kernel_rfl), wrong_skip _ _ (by kernel_rfl), wrong_skip _ _ (by kernel_rfl), wrong_skip _ _ (by kernel_rfl)]
      rfl
theorem targetsT (m v : Int) (B : Nat → Bool) (v0 : 1 ≤ v) (v1 : v ≤ 1099511627776) : (decide (1 ≤ m) && decide (m ≤ 4) && targetsB (cT m v B 4)) = mayT m B 4 := by
  have e0 : okT (cT m v B 4) 0 (cT m v B 4).t0 = _ := okT_pick (B 0) v0 v1
  have e1 : okT (cT m v B 4) 1 (cT m v B 4).t1 = _ := okT_pick (B 1) v0 v1
  have e2 : okT (cT m v B 4) 2 (cT m v B 4).t2 = _ := okT_pick (B 2) v0 v1
  have e3 : okT (cT m v B 4) 3 (cT m v B 4).t3 = _ := okT_pick (B 3) v0 v1
  unfold targetsB
  rw [e0, e1, e2, e3]
  simp only [mayT, cT_m, Bool.and_assoc]
  rfl

theorem rnd {m v : Int} {B : Nat → Bool} {W w : World} {b : Nat} {k : Nat} {c : CF} (h : At W w b c) (e : c = cT m v B k) : At W w b (cT m v B k) := e ▸ h
theorem w_str (c : CF) {r : ByteArray} (h : wrongV c = r) (w : World) : Calls Try.prog 40 #[.agg #[.int .i64 c.n, .int .i64 c.f, .int .i64 c.m, .int .i64 c.q, .int .i64 c.fresh, .int .i64 c.grace, .int .i64 c.window, .int .i64 c.t0, .int .i64 c.t1, .int .i64 c.t2, .int .i64 c.t3, .int .i64 c.tol, .int .i64 c.lo, .int .i64 c.hi, .int .i64 c.cup, .int .i64 c.cdn, .int .i64 c.pup, .int .i64 c.tup, .int .i64 c.pdn, .int .i64 c.tdn, .int .i64 c.per, .int .i64 c.far, .int .i64 c.str, .int .i64 c.pro, .int .i64 c.sec, .int .u64 c.seed]] w fun e w' => e = .returned (.string r) ∧ Gr w w' := h ▸ wrong_any c w
set_option maxHeartbeats 4000000 in
theorem confTargets_any (a b1 d : Int) (w : World) : Calls Try.prog 13 #[.int .i64 a, .int .i64 b1, .int .i64 d] w fun e w' => e = .returned (.bool true) ∧ Gr w w' := by
  obtain ⟨m, hm, m0, m1⟩ := u64_mod a 6 (by omega)
  obtain ⟨v, hv, v0, v1⟩ := u64_mod d 1099511627776 (by omega)
  have a0 := u64_nonneg a
  have d0 := u64_nonneg d
  have b0 := u64_nonneg b1
  have KT := Lib.hid (targetsT m (1 + v) (bitT (IntKind.u64.wrap b1)) (by omega) (by omega))
  have KW := Lib.hid (wrongT m (1 + v) (bitT (IntKind.u64.wrap b1)) (by omega) (by omega))
  have KM := Lib.hid (wrongL_may (partsL (cT m (1 + v) (bitT (IntKind.u64.wrap b1)) 4)) (names_ne _))
  go_enter Try.func13, Try.ntmps13
  go_upto_region 1 with (fail)
  refine wp_region_lit ?_
  refine wpList_enter 38 #[] _ rfl (by kernel_rfl) (default_any w) fun w1 hg => ?_
  refine wpList_val (.pointer (some ⟨w1.heap.size, 0, none⟩)) (w1.alloc (.cells zero36 36)) rfl (xalloc36 ..) ?_
  refine wpList_skip' (w1.alloc (.cells #[.int .i64 dflt.n, .int .i64 dflt.f, .int .i64 dflt.m, .int .i64 dflt.q, .int .i64 dflt.fresh, .int .i64 dflt.grace, .int .i64 dflt.window, .int .i64 dflt.t0, .int .i64 dflt.t1, .int .i64 dflt.t2, .int .i64 dflt.t3, .int .i64 dflt.tol, .int .i64 dflt.lo, .int .i64 dflt.hi, .int .i64 dflt.cup, .int .i64 dflt.cdn, .int .i64 dflt.pup, .int .i64 dflt.tup, .int .i64 dflt.pdn, .int .i64 dflt.tdn, .int .i64 dflt.per, .int .i64 dflt.far, .int .i64 dflt.str, .int .i64 dflt.pro, .int .i64 dflt.sec, .int .u64 dflt.seed] 36)) rfl (xstore36_at rfl (by kernel_rfl) (by kernel_rfl) rfl rfl (by kernel_rfl)) ?_
  have A := start_at hg dflt
  generalize w1.alloc (.cells #[.int .i64 dflt.n, .int .i64 dflt.f, .int .i64 dflt.m, .int .i64 dflt.q, .int .i64 dflt.fresh, .int .i64 dflt.grace, .int .i64 dflt.window, .int .i64 dflt.t0, .int .i64 dflt.t1, .int .i64 dflt.t2, .int .i64 dflt.t3, .int .i64 dflt.tol, .int .i64 dflt.lo, .int .i64 dflt.hi, .int .i64 dflt.cup, .int .i64 dflt.cdn, .int .i64 dflt.pup, .int .i64 dflt.tup, .int .i64 dflt.pdn, .int .i64 dflt.tdn, .int .i64 dflt.per, .int .i64 dflt.far, .int .i64 dflt.str, .int .i64 dflt.pro, .int .i64 dflt.sec, .int .u64 dflt.seed] 36) = w2 at *
  generalize w1.heap.size = b at *
  clear hg
  have hc := A.cell
  have hz := A.froz
  go_upto_region 3 with (fail)
  replace A := A.set 2 (.int .i64 m) { dflt with m := m } rfl
  clear hc hz
  generalize w2.setCell ⟨b, 2, none⟩ (.int .i64 m) = w3 at *
  have hc := A.cell
  by_cases h1 : 1 ≤ m
  · by_cases h2 : m ≤ 4
    · skip
      go_wp2_with fail
      clear hc
      go_loopw [9, 10] (fun y i wr => ∃ k : Nat, k ≤ 4 ∧ i = .int .i64 k ∧ y = .bool (mayT m (bitT (IntKind.u64.wrap b1)) k) ∧ At w wr b (cT m (1 + v) (bitT (IntKind.u64.wrap b1)) k)) (fun _ i _ => 4 - (intOf i).toNat)
      case atStart => exact ⟨0, by omega, rfl, by simp [mayT, h1, h2], rnd A rfl⟩
      case round =>
        obtain ⟨k, hk, rfl, rfl, A'⟩ := hrel
        clear A
        rcases (show k = 0 ∨ k = 1 ∨ k = 2 ∨ k = 3 ∨ k = 4 by omega) with h | h | h | h | h <;> subst h
        · have hc := A'.cell
          have hz := A'.froz
          cases hB : bitT (IntKind.u64.wrap b1) 0 with
          | true =>
            have hq : (bits BinOp.and IntKind.u64 (IntKind.u64.wrap b1) 1 == 1) = true := hB
            go_upto_region 11 with (fail)
            replace A' := A'.set 7 (.int .i64 0) { cT m (1 + v) (bitT (IntKind.u64.wrap b1)) 0 with t0 := 0 } rfl
            replace A' := A'.set 7 (.int .i64 (1 + v)) { cT m (1 + v) (bitT (IntKind.u64.wrap b1)) 0 with t0 := 1 + v } rfl
            replace A' := rnd (m := m) (v := 1 + v) (B := (bitT (IntKind.u64.wrap b1))) (k := 1) A' (by simp [cT, pickT, hB])
            clear hc hz hq
            generalize World.setCell _ _ _ = w5 at *
            have hc := A'.cellG
            have ht : (cT m (1 + v) (bitT (IntKind.u64.wrap b1)) 1).t0 = (1 + v) := by simp [cT, pickT, hB]
            cases hy : mayT m (bitT (IntKind.u64.wrap b1)) 0 with
            | false =>
              refine wp_region_quiet_gw (by kernel_rfl) (by kernel_rfl) ?_
              repeat (go_big_quiet_step (fail))
              refine wpQuiet_nil fun s => ?_
              replace A' := A'.on s.gr
              clear hc ht
              go_wp2
              go_roundw
              case rel => exact ⟨1, by omega, by first | rfl | go_num, by rw [mayT_step, hy]; rfl, A'⟩
              case measure => simp [intOf]
            | true =>
              have hlt : (0 : Int) < m := by omega
              have hlt2 : ¬ m ≤ 0 := by omega
              refine wp_region_quiet_gw (by kernel_rfl) (by kernel_rfl) ?_
              repeat (go_big_quiet_step (fail))
              refine wpQuiet_nil fun s => ?_
              replace A' := A'.on s.gr
              clear hc ht
              go_wp2
              go_roundw
              case rel => exact ⟨1, by omega, by first | rfl | go_num, by rw [mayT_step, hy, hB]; simp [hlt] <;> omega, A'⟩
              case measure => simp [intOf]
          | false =>
            have hq : (bits BinOp.and IntKind.u64 (IntKind.u64.wrap b1) 1 == 1) = false := hB
            go_upto_region 11 with (fail)
            replace A' := A'.set 7 (.int .i64 0) { cT m (1 + v) (bitT (IntKind.u64.wrap b1)) 0 with t0 := 0 } rfl
            replace A' := rnd (m := m) (v := 1 + v) (B := (bitT (IntKind.u64.wrap b1))) (k := 1) A' (by simp [cT, pickT, hB])
            clear hc hz hq
            generalize World.setCell _ _ _ = w5 at *
            have hc := A'.cellG
            have ht : (cT m (1 + v) (bitT (IntKind.u64.wrap b1)) 1).t0 = 0 := by simp [cT, pickT, hB]
            cases hy : mayT m (bitT (IntKind.u64.wrap b1)) 0 with
            | false =>
              refine wp_region_quiet_gw (by kernel_rfl) (by kernel_rfl) ?_
              repeat (go_big_quiet_step (fail))
              refine wpQuiet_nil fun s => ?_
              replace A' := A'.on s.gr
              clear hc ht
              go_wp2
              go_roundw
              case rel => exact ⟨1, by omega, by first | rfl | go_num, by rw [mayT_step, hy]; rfl, A'⟩
              case measure => simp [intOf]
            | true =>
              have hlt : (0 : Int) < m := by omega
              have hlt2 : ¬ m ≤ 0 := by omega
              refine wp_region_quiet_gw (by kernel_rfl) (by kernel_rfl) ?_
              repeat (go_big_quiet_step (fail))
              refine wpQuiet_nil fun s => ?_
              replace A' := A'.on s.gr
              clear hc ht
              go_wp2
              go_roundw
              case rel => exact ⟨1, by omega, by first | rfl | go_num, by rw [mayT_step, hy, hB]; simp [hlt] <;> omega, A'⟩
              case measure => simp [intOf]
        · have hc := A'.cell
          have hz := A'.froz
          cases hB : bitT (IntKind.u64.wrap b1) 1 with
          | true =>
            have hq : (bits BinOp.and IntKind.u64 (IntKind.u64.wrap b1 / 2) 1 == 1) = true := hB
            go_upto_region 11 with (fail)
            replace A' := A'.set 8 (.int .i64 0) { cT m (1 + v) (bitT (IntKind.u64.wrap b1)) 1 with t1 := 0 } rfl
            replace A' := A'.set 8 (.int .i64 (1 + v)) { cT m (1 + v) (bitT (IntKind.u64.wrap b1)) 1 with t1 := 1 + v } rfl
            replace A' := rnd (m := m) (v := 1 + v) (B := (bitT (IntKind.u64.wrap b1))) (k := 2) A' (by simp [cT, pickT, hB])
            clear hc hz hq
            generalize World.setCell _ _ _ = w5 at *
            have hc := A'.cellG
            have ht : (cT m (1 + v) (bitT (IntKind.u64.wrap b1)) 2).t1 = (1 + v) := by simp [cT, pickT, hB]
            cases hy : mayT m (bitT (IntKind.u64.wrap b1)) 1 with
            | false =>
              refine wp_region_quiet_gw (by kernel_rfl) (by kernel_rfl) ?_
              repeat (go_big_quiet_step (fail))
              refine wpQuiet_nil fun s => ?_
              replace A' := A'.on s.gr
              clear hc ht
              go_wp2
              go_roundw
              case rel => exact ⟨2, by omega, by first | rfl | go_num, by rw [mayT_step, hy]; rfl, A'⟩
              case measure => simp [intOf]
            | true =>
              by_cases hlt : (1 : Int) < m
              · skip
                refine wp_region_quiet_gw (by kernel_rfl) (by kernel_rfl) ?_
                repeat (go_big_quiet_step (fail))
                refine wpQuiet_nil fun s => ?_
                replace A' := A'.on s.gr
                clear hc ht
                go_wp2
                go_roundw
                case rel => exact ⟨2, by omega, by first | rfl | go_num, by rw [mayT_step, hy, hB]; simp [hlt] <;> omega, A'⟩
                case measure => simp [intOf]
              · skip
                refine wp_region_quiet_gw (by kernel_rfl) (by kernel_rfl) ?_
                repeat (go_big_quiet_step (fail))
                refine wpQuiet_nil fun s => ?_
                replace A' := A'.on s.gr
                clear hc ht
                go_wp2
                go_roundw
                case rel => exact ⟨2, by omega, by first | rfl | go_num, by rw [mayT_step, hy, hB]; simp [hlt] <;> omega, A'⟩
                case measure => simp [intOf]
          | false =>
            have hq : (bits BinOp.and IntKind.u64 (IntKind.u64.wrap b1 / 2) 1 == 1) = false := hB
            go_upto_region 11 with (fail)
            replace A' := A'.set 8 (.int .i64 0) { cT m (1 + v) (bitT (IntKind.u64.wrap b1)) 1 with t1 := 0 } rfl
            replace A' := rnd (m := m) (v := 1 + v) (B := (bitT (IntKind.u64.wrap b1))) (k := 2) A' (by simp [cT, pickT, hB])
            clear hc hz hq
            generalize World.setCell _ _ _ = w5 at *
            have hc := A'.cellG
            have ht : (cT m (1 + v) (bitT (IntKind.u64.wrap b1)) 2).t1 = 0 := by simp [cT, pickT, hB]
            cases hy : mayT m (bitT (IntKind.u64.wrap b1)) 1 with
            | false =>
              refine wp_region_quiet_gw (by kernel_rfl) (by kernel_rfl) ?_
              repeat (go_big_quiet_step (fail))
              refine wpQuiet_nil fun s => ?_
              replace A' := A'.on s.gr
              clear hc ht
              go_wp2
              go_roundw
              case rel => exact ⟨2, by omega, by first | rfl | go_num, by rw [mayT_step, hy]; rfl, A'⟩
              case measure => simp [intOf]
            | true =>
              by_cases hlt : (1 : Int) < m
              · skip
                refine wp_region_quiet_gw (by kernel_rfl) (by kernel_rfl) ?_
                repeat (go_big_quiet_step (fail))
                refine wpQuiet_nil fun s => ?_
                replace A' := A'.on s.gr
                clear hc ht
                go_wp2
                go_roundw
                case rel => exact ⟨2, by omega, by first | rfl | go_num, by rw [mayT_step, hy, hB]; simp [hlt] <;> omega, A'⟩
                case measure => simp [intOf]
              · skip
                refine wp_region_quiet_gw (by kernel_rfl) (by kernel_rfl) ?_
                repeat (go_big_quiet_step (fail))
                refine wpQuiet_nil fun s => ?_
                replace A' := A'.on s.gr
                clear hc ht
                go_wp2
                go_roundw
                case rel => exact ⟨2, by omega, by first | rfl | go_num, by rw [mayT_step, hy, hB]; simp [hlt] <;> omega, A'⟩
                case measure => simp [intOf]
        · have hc := A'.cell
          have hz := A'.froz
          cases hB : bitT (IntKind.u64.wrap b1) 2 with
          | true =>
            have hq : (bits BinOp.and IntKind.u64 (IntKind.u64.wrap b1 / 4) 1 == 1) = true := hB
            go_upto_region 11 with (fail)
            replace A' := A'.set 9 (.int .i64 0) { cT m (1 + v) (bitT (IntKind.u64.wrap b1)) 2 with t2 := 0 } rfl
            replace A' := A'.set 9 (.int .i64 (1 + v)) { cT m (1 + v) (bitT (IntKind.u64.wrap b1)) 2 with t2 := 1 + v } rfl
            replace A' := rnd (m := m) (v := 1 + v) (B := (bitT (IntKind.u64.wrap b1))) (k := 3) A' (by simp [cT, pickT, hB])
            clear hc hz hq
            generalize World.setCell _ _ _ = w5 at *
            have hc := A'.cellG
            have ht : (cT m (1 + v) (bitT (IntKind.u64.wrap b1)) 3).t2 = (1 + v) := by simp [cT, pickT, hB]
            cases hy : mayT m (bitT (IntKind.u64.wrap b1)) 2 with
            | false =>
              refine wp_region_quiet_gw (by kernel_rfl) (by kernel_rfl) ?_
              repeat (go_big_quiet_step (fail))
              refine wpQuiet_nil fun s => ?_
              replace A' := A'.on s.gr
              clear hc ht
              go_wp2
              go_roundw
              case rel => exact ⟨3, by omega, by first | rfl | go_num, by rw [mayT_step, hy]; rfl, A'⟩
              case measure => simp [intOf]
            | true =>
              by_cases hlt : (2 : Int) < m
              · skip
                refine wp_region_quiet_gw (by kernel_rfl) (by kernel_rfl) ?_
                repeat (go_big_quiet_step (fail))
                refine wpQuiet_nil fun s => ?_
                replace A' := A'.on s.gr
                clear hc ht
                go_wp2
                go_roundw
                case rel => exact ⟨3, by omega, by first | rfl | go_num, by rw [mayT_step, hy, hB]; simp [hlt] <;> omega, A'⟩
                case measure => simp [intOf]
              · skip
                refine wp_region_quiet_gw (by kernel_rfl) (by kernel_rfl) ?_
                repeat (go_big_quiet_step (fail))
                refine wpQuiet_nil fun s => ?_
                replace A' := A'.on s.gr
                clear hc ht
                go_wp2
                go_roundw
                case rel => exact ⟨3, by omega, by first | rfl | go_num, by rw [mayT_step, hy, hB]; simp [hlt] <;> omega, A'⟩
                case measure => simp [intOf]
          | false =>
            have hq : (bits BinOp.and IntKind.u64 (IntKind.u64.wrap b1 / 4) 1 == 1) = false := hB
            go_upto_region 11 with (fail)
            replace A' := A'.set 9 (.int .i64 0) { cT m (1 + v) (bitT (IntKind.u64.wrap b1)) 2 with t2 := 0 } rfl
            replace A' := rnd (m := m) (v := 1 + v) (B := (bitT (IntKind.u64.wrap b1))) (k := 3) A' (by simp [cT, pickT, hB])
            clear hc hz hq
            generalize World.setCell _ _ _ = w5 at *
            have hc := A'.cellG
            have ht : (cT m (1 + v) (bitT (IntKind.u64.wrap b1)) 3).t2 = 0 := by simp [cT, pickT, hB]
            cases hy : mayT m (bitT (IntKind.u64.wrap b1)) 2 with
            | false =>
              refine wp_region_quiet_gw (by kernel_rfl) (by kernel_rfl) ?_
              repeat (go_big_quiet_step (fail))
              refine wpQuiet_nil fun s => ?_
              replace A' := A'.on s.gr
              clear hc ht
              go_wp2
              go_roundw
              case rel => exact ⟨3, by omega, by first | rfl | go_num, by rw [mayT_step, hy]; rfl, A'⟩
              case measure => simp [intOf]
            | true =>
              by_cases hlt : (2 : Int) < m
              · skip
                refine wp_region_quiet_gw (by kernel_rfl) (by kernel_rfl) ?_
                repeat (go_big_quiet_step (fail))
                refine wpQuiet_nil fun s => ?_
                replace A' := A'.on s.gr
                clear hc ht
                go_wp2
                go_roundw
                case rel => exact ⟨3, by omega, by first | rfl | go_num, by rw [mayT_step, hy, hB]; simp [hlt] <;> omega, A'⟩
                case measure => simp [intOf]
              · skip
                refine wp_region_quiet_gw (by kernel_rfl) (by kernel_rfl) ?_
                repeat (go_big_quiet_step (fail))
                refine wpQuiet_nil fun s => ?_
                replace A' := A'.on s.gr
                clear hc ht
                go_wp2
                go_roundw
                case rel => exact ⟨3, by omega, by first | rfl | go_num, by rw [mayT_step, hy, hB]; simp [hlt] <;> omega, A'⟩
                case measure => simp [intOf]
        · have hc := A'.cell
          have hz := A'.froz
          cases hB : bitT (IntKind.u64.wrap b1) 3 with
          | true =>
            have hq : (bits BinOp.and IntKind.u64 (IntKind.u64.wrap b1 / 8) 1 == 1) = true := hB
            go_upto_region 11 with (fail)
            replace A' := A'.set 10 (.int .i64 0) { cT m (1 + v) (bitT (IntKind.u64.wrap b1)) 3 with t3 := 0 } rfl
            replace A' := A'.set 10 (.int .i64 (1 + v)) { cT m (1 + v) (bitT (IntKind.u64.wrap b1)) 3 with t3 := 1 + v } rfl
            replace A' := rnd (m := m) (v := 1 + v) (B := (bitT (IntKind.u64.wrap b1))) (k := 4) A' (by simp [cT, pickT, hB])
            clear hc hz hq
            generalize World.setCell _ _ _ = w5 at *
            have hc := A'.cellG
            have ht : (cT m (1 + v) (bitT (IntKind.u64.wrap b1)) 4).t3 = (1 + v) := by simp [cT, pickT, hB]
            cases hy : mayT m (bitT (IntKind.u64.wrap b1)) 3 with
            | false =>
              refine wp_region_quiet_gw (by kernel_rfl) (by kernel_rfl) ?_
              repeat (go_big_quiet_step (fail))
              refine wpQuiet_nil fun s => ?_
              replace A' := A'.on s.gr
              clear hc ht
              go_wp2
              go_roundw
              case rel => exact ⟨4, by omega, by first | rfl | go_num, by rw [mayT_step, hy]; rfl, A'⟩
              case measure => simp [intOf]
            | true =>
              by_cases hlt : (3 : Int) < m
              · skip
                refine wp_region_quiet_gw (by kernel_rfl) (by kernel_rfl) ?_
                repeat (go_big_quiet_step (fail))
                refine wpQuiet_nil fun s => ?_
                replace A' := A'.on s.gr
                clear hc ht
                go_wp2
                go_roundw
                case rel => exact ⟨4, by omega, by first | rfl | go_num, by rw [mayT_step, hy, hB]; simp [hlt] <;> omega, A'⟩
                case measure => simp [intOf]
              · skip
                refine wp_region_quiet_gw (by kernel_rfl) (by kernel_rfl) ?_
                repeat (go_big_quiet_step (fail))
                refine wpQuiet_nil fun s => ?_
                replace A' := A'.on s.gr
                clear hc ht
                go_wp2
                go_roundw
                case rel => exact ⟨4, by omega, by first | rfl | go_num, by rw [mayT_step, hy, hB]; simp [hlt] <;> omega, A'⟩
                case measure => simp [intOf]
          | false =>
            have hq : (bits BinOp.and IntKind.u64 (IntKind.u64.wrap b1 / 8) 1 == 1) = false := hB
            go_upto_region 11 with (fail)
            replace A' := A'.set 10 (.int .i64 0) { cT m (1 + v) (bitT (IntKind.u64.wrap b1)) 3 with t3 := 0 } rfl
            replace A' := rnd (m := m) (v := 1 + v) (B := (bitT (IntKind.u64.wrap b1))) (k := 4) A' (by simp [cT, pickT, hB])
            clear hc hz hq
            generalize World.setCell _ _ _ = w5 at *
            have hc := A'.cellG
            have ht : (cT m (1 + v) (bitT (IntKind.u64.wrap b1)) 4).t3 = 0 := by simp [cT, pickT, hB]
            cases hy : mayT m (bitT (IntKind.u64.wrap b1)) 3 with
            | false =>
              refine wp_region_quiet_gw (by kernel_rfl) (by kernel_rfl) ?_
              repeat (go_big_quiet_step (fail))
              refine wpQuiet_nil fun s => ?_
              replace A' := A'.on s.gr
              clear hc ht
              go_wp2
              go_roundw
              case rel => exact ⟨4, by omega, by first | rfl | go_num, by rw [mayT_step, hy]; rfl, A'⟩
              case measure => simp [intOf]
            | true =>
              by_cases hlt : (3 : Int) < m
              · skip
                refine wp_region_quiet_gw (by kernel_rfl) (by kernel_rfl) ?_
                repeat (go_big_quiet_step (fail))
                refine wpQuiet_nil fun s => ?_
                replace A' := A'.on s.gr
                clear hc ht
                go_wp2
                go_roundw
                case rel => exact ⟨4, by omega, by first | rfl | go_num, by rw [mayT_step, hy, hB]; simp [hlt] <;> omega, A'⟩
                case measure => simp [intOf]
              · skip
                refine wp_region_quiet_gw (by kernel_rfl) (by kernel_rfl) ?_
                repeat (go_big_quiet_step (fail))
                refine wpQuiet_nil fun s => ?_
                replace A' := A'.on s.gr
                clear hc ht
                go_wp2
                go_roundw
                case rel => exact ⟨4, by omega, by first | rfl | go_num, by rw [mayT_step, hy, hB]; simp [hlt] <;> omega, A'⟩
                case measure => simp [intOf]
        · have hk' := A'.conf
          have hc := A'.cell
          have q1 : ¬ m < 1 := by omega
          have q2 : ¬ m ≤ 0 := by omega
          have q3 : ¬ 4 < m := by omega
          have q4 : 0 < m := by omega
          cases hy : mayT m (bitT (IntKind.u64.wrap b1)) 4 with
          | true =>
            have ht : targetsB (cT m (1 + v) (bitT (IntKind.u64.wrap b1)) 4) = true := by have := KT.out; rw [hy] at this; simp at this; exact this.2
            have hw : wrongV (cT m (1 + v) (bitT (IntKind.u64.wrap b1)) 4) = ⟨#[]⟩ := by have := KW.out; rw [this]; simp [h1, h2, ht]
            have hmm : mayC (cT m (1 + v) (bitT (IntKind.u64.wrap b1)) 4) = true := by
              cases hx : mayC (cT m (1 + v) (bitT (IntKind.u64.wrap b1)) 4) with
              | true => rfl
              | false => exact absurd (show (wrongV (cT m (1 + v) (bitT (IntKind.u64.wrap b1)) 4)).data.toList = [] by rw [hw]) (KM.out.2 hx)
            go_wp2_with (first
              | (go_at_call 39; refine (told3_any _).mono ?_; rintro e w6 ⟨rfl, hg⟩; replace A' := A'.on hg; clear hg hk' hc; have hk' := A'.conf; have hc := A'.cell)
              | (go_at_call 40; refine (w_str _ hw _).mono ?_; rintro e w6 ⟨rfl, hg⟩; replace A' := A'.on hg; clear hg hk' hc; have hk' := A'.conf; have hc := A'.cell)
              | (go_at_call 41; refine (may_true_any _ hmm _).mono ?_; rintro e w6 ⟨rfl, hg⟩; replace A' := A'.on hg; clear hg hk' hc; have hk' := A'.conf; have hc := A'.cell))
            all_goals
              go_ret
              first | exact ⟨rfl, A'.gr⟩ | (refine ⟨ret_bool ?_, A'.gr⟩; simp [h1, h2])
          | false =>
            have ht : targetsB (cT m (1 + v) (bitT (IntKind.u64.wrap b1)) 4) = false := by have := KT.out; rw [hy] at this; simp [h1, h2] at this; exact this
            have hw : wrongV (cT m (1 + v) (bitT (IntKind.u64.wrap b1)) 4) = ⟨#[116, 97, 114, 103, 101, 116]⟩ := by have := KW.out; rw [this]; simp [h1, h2, ht]
            have hmm : mayC (cT m (1 + v) (bitT (IntKind.u64.wrap b1)) 4) = false := by
              cases hx : mayC (cT m (1 + v) (bitT (IntKind.u64.wrap b1)) 4) with
              | false => rfl
              | true => have h3 := KM.out.1 hx; have h4 : wrongV (cT m (1 + v) (bitT (IntKind.u64.wrap b1)) 4) = ⟨#[]⟩ := h3; rw [hw] at h4; cases h4
            go_wp2_with (first
              | (go_at_call 39; refine (told3_any _).mono ?_; rintro e w6 ⟨rfl, hg⟩; replace A' := A'.on hg; clear hg hk' hc; have hk' := A'.conf; have hc := A'.cell)
              | (go_at_call 40; refine (w_str _ hw _).mono ?_; rintro e w6 ⟨rfl, hg⟩; replace A' := A'.on hg; clear hg hk' hc; have hk' := A'.conf; have hc := A'.cell)
              | (go_at_call 41; refine (may_true_any _ hmm _).mono ?_; rintro e w6 ⟨rfl, hg⟩; replace A' := A'.on hg; clear hg hk' hc; have hk' := A'.conf; have hc := A'.cell))
            all_goals
              go_ret
              first | exact ⟨rfl, A'.gr⟩ | (refine ⟨ret_bool ?_, A'.gr⟩; simp [h1, h2])
    · skip
      go_wp2_with fail
      clear hc
      go_loopw [9, 10] (fun y i wr => ∃ k : Nat, k ≤ 4 ∧ i = .int .i64 k ∧ y = .bool false ∧ At w wr b (cT m (1 + v) (bitT (IntKind.u64.wrap b1)) k)) (fun _ i _ => 4 - (intOf i).toNat)
      case atStart => exact ⟨0, by omega, rfl, rfl, rnd A rfl⟩
      case round =>
        obtain ⟨k, hk, rfl, rfl, A'⟩ := hrel
        clear A
        rcases (show k = 0 ∨ k = 1 ∨ k = 2 ∨ k = 3 ∨ k = 4 by omega) with h | h | h | h | h <;> subst h
        · have hc := A'.cell
          have hz := A'.froz
          cases hB : bitT (IntKind.u64.wrap b1) 0 with
          | true =>
            have hq : (bits BinOp.and IntKind.u64 (IntKind.u64.wrap b1) 1 == 1) = true := hB
            go_upto_region 11 with (fail)
            replace A' := A'.set 7 (.int .i64 0) { cT m (1 + v) (bitT (IntKind.u64.wrap b1)) 0 with t0 := 0 } rfl
            replace A' := A'.set 7 (.int .i64 (1 + v)) { cT m (1 + v) (bitT (IntKind.u64.wrap b1)) 0 with t0 := 1 + v } rfl
            replace A' := rnd (m := m) (v := 1 + v) (B := (bitT (IntKind.u64.wrap b1))) (k := 1) A' (by simp [cT, pickT, hB])
            clear hc hz hq
            generalize World.setCell _ _ _ = w5 at *
            have hc := A'.cellG
            have ht : (cT m (1 + v) (bitT (IntKind.u64.wrap b1)) 1).t0 = (1 + v) := by simp [cT, pickT, hB]
            refine wp_region_quiet_gw (by kernel_rfl) (by kernel_rfl) ?_
            repeat (go_big_quiet_step (fail))
            refine wpQuiet_nil fun s => ?_
            replace A' := A'.on s.gr
            clear hc ht
            go_wp2
            go_roundw
            case rel => exact ⟨1, by omega, by first | rfl | go_num, rfl, A'⟩
            case measure => simp [intOf]
          | false =>
            have hq : (bits BinOp.and IntKind.u64 (IntKind.u64.wrap b1) 1 == 1) = false := hB
            go_upto_region 11 with (fail)
            replace A' := A'.set 7 (.int .i64 0) { cT m (1 + v) (bitT (IntKind.u64.wrap b1)) 0 with t0 := 0 } rfl
            replace A' := rnd (m := m) (v := 1 + v) (B := (bitT (IntKind.u64.wrap b1))) (k := 1) A' (by simp [cT, pickT, hB])
            clear hc hz hq
            generalize World.setCell _ _ _ = w5 at *
            have hc := A'.cellG
            have ht : (cT m (1 + v) (bitT (IntKind.u64.wrap b1)) 1).t0 = 0 := by simp [cT, pickT, hB]
            refine wp_region_quiet_gw (by kernel_rfl) (by kernel_rfl) ?_
            repeat (go_big_quiet_step (fail))
            refine wpQuiet_nil fun s => ?_
            replace A' := A'.on s.gr
            clear hc ht
            go_wp2
            go_roundw
            case rel => exact ⟨1, by omega, by first | rfl | go_num, rfl, A'⟩
            case measure => simp [intOf]
        · have hc := A'.cell
          have hz := A'.froz
          cases hB : bitT (IntKind.u64.wrap b1) 1 with
          | true =>
            have hq : (bits BinOp.and IntKind.u64 (IntKind.u64.wrap b1 / 2) 1 == 1) = true := hB
            go_upto_region 11 with (fail)
            replace A' := A'.set 8 (.int .i64 0) { cT m (1 + v) (bitT (IntKind.u64.wrap b1)) 1 with t1 := 0 } rfl
            replace A' := A'.set 8 (.int .i64 (1 + v)) { cT m (1 + v) (bitT (IntKind.u64.wrap b1)) 1 with t1 := 1 + v } rfl
            replace A' := rnd (m := m) (v := 1 + v) (B := (bitT (IntKind.u64.wrap b1))) (k := 2) A' (by simp [cT, pickT, hB])
            clear hc hz hq
            generalize World.setCell _ _ _ = w5 at *
            have hc := A'.cellG
            have ht : (cT m (1 + v) (bitT (IntKind.u64.wrap b1)) 2).t1 = (1 + v) := by simp [cT, pickT, hB]
            refine wp_region_quiet_gw (by kernel_rfl) (by kernel_rfl) ?_
            repeat (go_big_quiet_step (fail))
            refine wpQuiet_nil fun s => ?_
            replace A' := A'.on s.gr
            clear hc ht
            go_wp2
            go_roundw
            case rel => exact ⟨2, by omega, by first | rfl | go_num, rfl, A'⟩
            case measure => simp [intOf]
          | false =>
            have hq : (bits BinOp.and IntKind.u64 (IntKind.u64.wrap b1 / 2) 1 == 1) = false := hB
            go_upto_region 11 with (fail)
            replace A' := A'.set 8 (.int .i64 0) { cT m (1 + v) (bitT (IntKind.u64.wrap b1)) 1 with t1 := 0 } rfl
            replace A' := rnd (m := m) (v := 1 + v) (B := (bitT (IntKind.u64.wrap b1))) (k := 2) A' (by simp [cT, pickT, hB])
            clear hc hz hq
            generalize World.setCell _ _ _ = w5 at *
            have hc := A'.cellG
            have ht : (cT m (1 + v) (bitT (IntKind.u64.wrap b1)) 2).t1 = 0 := by simp [cT, pickT, hB]
            refine wp_region_quiet_gw (by kernel_rfl) (by kernel_rfl) ?_
            repeat (go_big_quiet_step (fail))
            refine wpQuiet_nil fun s => ?_
            replace A' := A'.on s.gr
            clear hc ht
            go_wp2
            go_roundw
            case rel => exact ⟨2, by omega, by first | rfl | go_num, rfl, A'⟩
            case measure => simp [intOf]
        · have hc := A'.cell
          have hz := A'.froz
          cases hB : bitT (IntKind.u64.wrap b1) 2 with
          | true =>
            have hq : (bits BinOp.and IntKind.u64 (IntKind.u64.wrap b1 / 4) 1 == 1) = true := hB
            go_upto_region 11 with (fail)
            replace A' := A'.set 9 (.int .i64 0) { cT m (1 + v) (bitT (IntKind.u64.wrap b1)) 2 with t2 := 0 } rfl
            replace A' := A'.set 9 (.int .i64 (1 + v)) { cT m (1 + v) (bitT (IntKind.u64.wrap b1)) 2 with t2 := 1 + v } rfl
            replace A' := rnd (m := m) (v := 1 + v) (B := (bitT (IntKind.u64.wrap b1))) (k := 3) A' (by simp [cT, pickT, hB])
            clear hc hz hq
            generalize World.setCell _ _ _ = w5 at *
            have hc := A'.cellG
            have ht : (cT m (1 + v) (bitT (IntKind.u64.wrap b1)) 3).t2 = (1 + v) := by simp [cT, pickT, hB]
            refine wp_region_quiet_gw (by kernel_rfl) (by kernel_rfl) ?_
            repeat (go_big_quiet_step (fail))
            refine wpQuiet_nil fun s => ?_
            replace A' := A'.on s.gr
            clear hc ht
            go_wp2
            go_roundw
            case rel => exact ⟨3, by omega, by first | rfl | go_num, rfl, A'⟩
            case measure => simp [intOf]
          | false =>
            have hq : (bits BinOp.and IntKind.u64 (IntKind.u64.wrap b1 / 4) 1 == 1) = false := hB
            go_upto_region 11 with (fail)
            replace A' := A'.set 9 (.int .i64 0) { cT m (1 + v) (bitT (IntKind.u64.wrap b1)) 2 with t2 := 0 } rfl
            replace A' := rnd (m := m) (v := 1 + v) (B := (bitT (IntKind.u64.wrap b1))) (k := 3) A' (by simp [cT, pickT, hB])
            clear hc hz hq
            generalize World.setCell _ _ _ = w5 at *
            have hc := A'.cellG
            have ht : (cT m (1 + v) (bitT (IntKind.u64.wrap b1)) 3).t2 = 0 := by simp [cT, pickT, hB]
            refine wp_region_quiet_gw (by kernel_rfl) (by kernel_rfl) ?_
            repeat (go_big_quiet_step (fail))
            refine wpQuiet_nil fun s => ?_
            replace A' := A'.on s.gr
            clear hc ht
            go_wp2
            go_roundw
            case rel => exact ⟨3, by omega, by first | rfl | go_num, rfl, A'⟩
            case measure => simp [intOf]
        · have hc := A'.cell
          have hz := A'.froz
          cases hB : bitT (IntKind.u64.wrap b1) 3 with
          | true =>
            have hq : (bits BinOp.and IntKind.u64 (IntKind.u64.wrap b1 / 8) 1 == 1) = true := hB
            go_upto_region 11 with (fail)
            replace A' := A'.set 10 (.int .i64 0) { cT m (1 + v) (bitT (IntKind.u64.wrap b1)) 3 with t3 := 0 } rfl
            replace A' := A'.set 10 (.int .i64 (1 + v)) { cT m (1 + v) (bitT (IntKind.u64.wrap b1)) 3 with t3 := 1 + v } rfl
            replace A' := rnd (m := m) (v := 1 + v) (B := (bitT (IntKind.u64.wrap b1))) (k := 4) A' (by simp [cT, pickT, hB])
            clear hc hz hq
            generalize World.setCell _ _ _ = w5 at *
            have hc := A'.cellG
            have ht : (cT m (1 + v) (bitT (IntKind.u64.wrap b1)) 4).t3 = (1 + v) := by simp [cT, pickT, hB]
            refine wp_region_quiet_gw (by kernel_rfl) (by kernel_rfl) ?_
            repeat (go_big_quiet_step (fail))
            refine wpQuiet_nil fun s => ?_
            replace A' := A'.on s.gr
            clear hc ht
            go_wp2
            go_roundw
            case rel => exact ⟨4, by omega, by first | rfl | go_num, rfl, A'⟩
            case measure => simp [intOf]
          | false =>
            have hq : (bits BinOp.and IntKind.u64 (IntKind.u64.wrap b1 / 8) 1 == 1) = false := hB
            go_upto_region 11 with (fail)
            replace A' := A'.set 10 (.int .i64 0) { cT m (1 + v) (bitT (IntKind.u64.wrap b1)) 3 with t3 := 0 } rfl
            replace A' := rnd (m := m) (v := 1 + v) (B := (bitT (IntKind.u64.wrap b1))) (k := 4) A' (by simp [cT, pickT, hB])
            clear hc hz hq
            generalize World.setCell _ _ _ = w5 at *
            have hc := A'.cellG
            have ht : (cT m (1 + v) (bitT (IntKind.u64.wrap b1)) 4).t3 = 0 := by simp [cT, pickT, hB]
            refine wp_region_quiet_gw (by kernel_rfl) (by kernel_rfl) ?_
            repeat (go_big_quiet_step (fail))
            refine wpQuiet_nil fun s => ?_
            replace A' := A'.on s.gr
            clear hc ht
            go_wp2
            go_roundw
            case rel => exact ⟨4, by omega, by first | rfl | go_num, rfl, A'⟩
            case measure => simp [intOf]
        · have hk' := A'.conf
          have hc := A'.cell
          have hr : (decide (1 ≤ m) && decide (m ≤ 4)) = false := by
            cases hx : (decide (1 ≤ m) && decide (m ≤ 4)) with
            | false => rfl
            | true => simp at hx; omega
          have hw : wrongV (cT m (1 + v) (bitT (IntKind.u64.wrap b1)) 4) = ⟨#[109]⟩ := by have := KW.out; rw [this, hr]; rfl
          have hmm : mayC (cT m (1 + v) (bitT (IntKind.u64.wrap b1)) 4) = false := by
            cases hx : mayC (cT m (1 + v) (bitT (IntKind.u64.wrap b1)) 4) with
            | false => rfl
            | true => have h3 := KM.out.1 hx; have h4 : wrongV (cT m (1 + v) (bitT (IntKind.u64.wrap b1)) 4) = ⟨#[]⟩ := h3; rw [hw] at h4; cases h4
          go_wp2_with (first
            | (go_at_call 39; refine (told3_any _).mono ?_; rintro e w6 ⟨rfl, hg⟩; replace A' := A'.on hg; clear hg hk' hc; have hk' := A'.conf; have hc := A'.cell)
            | (go_at_call 40; refine (w_str _ hw _).mono ?_; rintro e w6 ⟨rfl, hg⟩; replace A' := A'.on hg; clear hg hk' hc; have hk' := A'.conf; have hc := A'.cell)
            | (go_at_call 41; refine (may_true_any _ hmm _).mono ?_; rintro e w6 ⟨rfl, hg⟩; replace A' := A'.on hg; clear hg hk' hc; have hk' := A'.conf; have hc := A'.cell))
          all_goals
            go_ret
            first | exact ⟨rfl, A'.gr⟩ | (refine ⟨ret_bool ?_, A'.gr⟩; simp [h1, h2])
  · skip
    have h2 : True := trivial
    go_wp2_with fail
    clear hc
    go_loopw [9, 10] (fun y i wr => ∃ k : Nat, k ≤ 4 ∧ i = .int .i64 k ∧ y = .bool false ∧ At w wr b (cT m (1 + v) (bitT (IntKind.u64.wrap b1)) k)) (fun _ i _ => 4 - (intOf i).toNat)
    case atStart => exact ⟨0, by omega, rfl, rfl, rnd A rfl⟩
    case round =>
      obtain ⟨k, hk, rfl, rfl, A'⟩ := hrel
      clear A
      rcases (show k = 0 ∨ k = 1 ∨ k = 2 ∨ k = 3 ∨ k = 4 by omega) with h | h | h | h | h <;> subst h
      · have hc := A'.cell
        have hz := A'.froz
        cases hB : bitT (IntKind.u64.wrap b1) 0 with
        | true =>
          have hq : (bits BinOp.and IntKind.u64 (IntKind.u64.wrap b1) 1 == 1) = true := hB
          go_upto_region 11 with (fail)
          replace A' := A'.set 7 (.int .i64 0) { cT m (1 + v) (bitT (IntKind.u64.wrap b1)) 0 with t0 := 0 } rfl
          replace A' := A'.set 7 (.int .i64 (1 + v)) { cT m (1 + v) (bitT (IntKind.u64.wrap b1)) 0 with t0 := 1 + v } rfl
          replace A' := rnd (m := m) (v := 1 + v) (B := (bitT (IntKind.u64.wrap b1))) (k := 1) A' (by simp [cT, pickT, hB])
          clear hc hz hq
          generalize World.setCell _ _ _ = w5 at *
          have hc := A'.cellG
          have ht : (cT m (1 + v) (bitT (IntKind.u64.wrap b1)) 1).t0 = (1 + v) := by simp [cT, pickT, hB]
          refine wp_region_quiet_gw (by kernel_rfl) (by kernel_rfl) ?_
          repeat (go_big_quiet_step (fail))
          refine wpQuiet_nil fun s => ?_
          replace A' := A'.on s.gr
          clear hc ht
          go_wp2
          go_roundw
          case rel => exact ⟨1, by omega, by first | rfl | go_num, rfl, A'⟩
          case measure => simp [intOf]
        | false =>
          have hq : (bits BinOp.and IntKind.u64 (IntKind.u64.wrap b1) 1 == 1) = false := hB
          go_upto_region 11 with (fail)
          replace A' := A'.set 7 (.int .i64 0) { cT m (1 + v) (bitT (IntKind.u64.wrap b1)) 0 with t0 := 0 } rfl
          replace A' := rnd (m := m) (v := 1 + v) (B := (bitT (IntKind.u64.wrap b1))) (k := 1) A' (by simp [cT, pickT, hB])
          clear hc hz hq
          generalize World.setCell _ _ _ = w5 at *
          have hc := A'.cellG
          have ht : (cT m (1 + v) (bitT (IntKind.u64.wrap b1)) 1).t0 = 0 := by simp [cT, pickT, hB]
          refine wp_region_quiet_gw (by kernel_rfl) (by kernel_rfl) ?_
          repeat (go_big_quiet_step (fail))
          refine wpQuiet_nil fun s => ?_
          replace A' := A'.on s.gr
          clear hc ht
          go_wp2
          go_roundw
          case rel => exact ⟨1, by omega, by first | rfl | go_num, rfl, A'⟩
          case measure => simp [intOf]
      · have hc := A'.cell
        have hz := A'.froz
        cases hB : bitT (IntKind.u64.wrap b1) 1 with
        | true =>
          have hq : (bits BinOp.and IntKind.u64 (IntKind.u64.wrap b1 / 2) 1 == 1) = true := hB
          go_upto_region 11 with (fail)
          replace A' := A'.set 8 (.int .i64 0) { cT m (1 + v) (bitT (IntKind.u64.wrap b1)) 1 with t1 := 0 } rfl
          replace A' := A'.set 8 (.int .i64 (1 + v)) { cT m (1 + v) (bitT (IntKind.u64.wrap b1)) 1 with t1 := 1 + v } rfl
          replace A' := rnd (m := m) (v := 1 + v) (B := (bitT (IntKind.u64.wrap b1))) (k := 2) A' (by simp [cT, pickT, hB])
          clear hc hz hq
          generalize World.setCell _ _ _ = w5 at *
          have hc := A'.cellG
          have ht : (cT m (1 + v) (bitT (IntKind.u64.wrap b1)) 2).t1 = (1 + v) := by simp [cT, pickT, hB]
          refine wp_region_quiet_gw (by kernel_rfl) (by kernel_rfl) ?_
          repeat (go_big_quiet_step (fail))
          refine wpQuiet_nil fun s => ?_
          replace A' := A'.on s.gr
          clear hc ht
          go_wp2
          go_roundw
          case rel => exact ⟨2, by omega, by first | rfl | go_num, rfl, A'⟩
          case measure => simp [intOf]
        | false =>
          have hq : (bits BinOp.and IntKind.u64 (IntKind.u64.wrap b1 / 2) 1 == 1) = false := hB
          go_upto_region 11 with (fail)
          replace A' := A'.set 8 (.int .i64 0) { cT m (1 + v) (bitT (IntKind.u64.wrap b1)) 1 with t1 := 0 } rfl
          replace A' := rnd (m := m) (v := 1 + v) (B := (bitT (IntKind.u64.wrap b1))) (k := 2) A' (by simp [cT, pickT, hB])
          clear hc hz hq
          generalize World.setCell _ _ _ = w5 at *
          have hc := A'.cellG
          have ht : (cT m (1 + v) (bitT (IntKind.u64.wrap b1)) 2).t1 = 0 := by simp [cT, pickT, hB]
          refine wp_region_quiet_gw (by kernel_rfl) (by kernel_rfl) ?_
          repeat (go_big_quiet_step (fail))
          refine wpQuiet_nil fun s => ?_
          replace A' := A'.on s.gr
          clear hc ht
          go_wp2
          go_roundw
          case rel => exact ⟨2, by omega, by first | rfl | go_num, rfl, A'⟩
          case measure => simp [intOf]
      · have hc := A'.cell
        have hz := A'.froz
        cases hB : bitT (IntKind.u64.wrap b1) 2 with
        | true =>
          have hq : (bits BinOp.and IntKind.u64 (IntKind.u64.wrap b1 / 4) 1 == 1) = true := hB
          go_upto_region 11 with (fail)
          replace A' := A'.set 9 (.int .i64 0) { cT m (1 + v) (bitT (IntKind.u64.wrap b1)) 2 with t2 := 0 } rfl
          replace A' := A'.set 9 (.int .i64 (1 + v)) { cT m (1 + v) (bitT (IntKind.u64.wrap b1)) 2 with t2 := 1 + v } rfl
          replace A' := rnd (m := m) (v := 1 + v) (B := (bitT (IntKind.u64.wrap b1))) (k := 3) A' (by simp [cT, pickT, hB])
          clear hc hz hq
          generalize World.setCell _ _ _ = w5 at *
          have hc := A'.cellG
          have ht : (cT m (1 + v) (bitT (IntKind.u64.wrap b1)) 3).t2 = (1 + v) := by simp [cT, pickT, hB]
          refine wp_region_quiet_gw (by kernel_rfl) (by kernel_rfl) ?_
          repeat (go_big_quiet_step (fail))
          refine wpQuiet_nil fun s => ?_
          replace A' := A'.on s.gr
          clear hc ht
          go_wp2
          go_roundw
          case rel => exact ⟨3, by omega, by first | rfl | go_num, rfl, A'⟩
          case measure => simp [intOf]
        | false =>
          have hq : (bits BinOp.and IntKind.u64 (IntKind.u64.wrap b1 / 4) 1 == 1) = false := hB
          go_upto_region 11 with (fail)
          replace A' := A'.set 9 (.int .i64 0) { cT m (1 + v) (bitT (IntKind.u64.wrap b1)) 2 with t2 := 0 } rfl
          replace A' := rnd (m := m) (v := 1 + v) (B := (bitT (IntKind.u64.wrap b1))) (k := 3) A' (by simp [cT, pickT, hB])
          clear hc hz hq
          generalize World.setCell _ _ _ = w5 at *
          have hc := A'.cellG
          have ht : (cT m (1 + v) (bitT (IntKind.u64.wrap b1)) 3).t2 = 0 := by simp [cT, pickT, hB]
          refine wp_region_quiet_gw (by kernel_rfl) (by kernel_rfl) ?_
          repeat (go_big_quiet_step (fail))
          refine wpQuiet_nil fun s => ?_
          replace A' := A'.on s.gr
          clear hc ht
          go_wp2
          go_roundw
          case rel => exact ⟨3, by omega, by first | rfl | go_num, rfl, A'⟩
          case measure => simp [intOf]
      · have hc := A'.cell
        have hz := A'.froz
        cases hB : bitT (IntKind.u64.wrap b1) 3 with
        | true =>
          have hq : (bits BinOp.and IntKind.u64 (IntKind.u64.wrap b1 / 8) 1 == 1) = true := hB
          go_upto_region 11 with (fail)
          replace A' := A'.set 10 (.int .i64 0) { cT m (1 + v) (bitT (IntKind.u64.wrap b1)) 3 with t3 := 0 } rfl
          replace A' := A'.set 10 (.int .i64 (1 + v)) { cT m (1 + v) (bitT (IntKind.u64.wrap b1)) 3 with t3 := 1 + v } rfl
          replace A' := rnd (m := m) (v := 1 + v) (B := (bitT (IntKind.u64.wrap b1))) (k := 4) A' (by simp [cT, pickT, hB])
          clear hc hz hq
          generalize World.setCell _ _ _ = w5 at *
          have hc := A'.cellG
          have ht : (cT m (1 + v) (bitT (IntKind.u64.wrap b1)) 4).t3 = (1 + v) := by simp [cT, pickT, hB]
          refine wp_region_quiet_gw (by kernel_rfl) (by kernel_rfl) ?_
          repeat (go_big_quiet_step (fail))
          refine wpQuiet_nil fun s => ?_
          replace A' := A'.on s.gr
          clear hc ht
          go_wp2
          go_roundw
          case rel => exact ⟨4, by omega, by first | rfl | go_num, rfl, A'⟩
          case measure => simp [intOf]
        | false =>
          have hq : (bits BinOp.and IntKind.u64 (IntKind.u64.wrap b1 / 8) 1 == 1) = false := hB
          go_upto_region 11 with (fail)
          replace A' := A'.set 10 (.int .i64 0) { cT m (1 + v) (bitT (IntKind.u64.wrap b1)) 3 with t3 := 0 } rfl
          replace A' := rnd (m := m) (v := 1 + v) (B := (bitT (IntKind.u64.wrap b1))) (k := 4) A' (by simp [cT, pickT, hB])
          clear hc hz hq
          generalize World.setCell _ _ _ = w5 at *
          have hc := A'.cellG
          have ht : (cT m (1 + v) (bitT (IntKind.u64.wrap b1)) 4).t3 = 0 := by simp [cT, pickT, hB]
          refine wp_region_quiet_gw (by kernel_rfl) (by kernel_rfl) ?_
          repeat (go_big_quiet_step (fail))
          refine wpQuiet_nil fun s => ?_
          replace A' := A'.on s.gr
          clear hc ht
          go_wp2
          go_roundw
          case rel => exact ⟨4, by omega, by first | rfl | go_num, rfl, A'⟩
          case measure => simp [intOf]
      · have hk' := A'.conf
        have hc := A'.cell
        have hr : (decide (1 ≤ m) && decide (m ≤ 4)) = false := by
          cases hx : (decide (1 ≤ m) && decide (m ≤ 4)) with
          | false => rfl
          | true => simp at hx; omega
        have hw : wrongV (cT m (1 + v) (bitT (IntKind.u64.wrap b1)) 4) = ⟨#[109]⟩ := by have := KW.out; rw [this, hr]; rfl
        have hmm : mayC (cT m (1 + v) (bitT (IntKind.u64.wrap b1)) 4) = false := by
          cases hx : mayC (cT m (1 + v) (bitT (IntKind.u64.wrap b1)) 4) with
          | false => rfl
          | true => have h3 := KM.out.1 hx; have h4 : wrongV (cT m (1 + v) (bitT (IntKind.u64.wrap b1)) 4) = ⟨#[]⟩ := h3; rw [hw] at h4; cases h4
        go_wp2_with (first
          | (go_at_call 39; refine (told3_any _).mono ?_; rintro e w6 ⟨rfl, hg⟩; replace A' := A'.on hg; clear hg hk' hc; have hk' := A'.conf; have hc := A'.cell)
          | (go_at_call 40; refine (w_str _ hw _).mono ?_; rintro e w6 ⟨rfl, hg⟩; replace A' := A'.on hg; clear hg hk' hc; have hk' := A'.conf; have hc := A'.cell)
          | (go_at_call 41; refine (may_true_any _ hmm _).mono ?_; rintro e w6 ⟨rfl, hg⟩; replace A' := A'.on hg; clear hg hk' hc; have hk' := A'.conf; have hc := A'.cell))
        all_goals
          go_ret
          first | exact ⟨rfl, A'.gr⟩ | (refine ⟨ret_bool ?_, A'.gr⟩; simp [h1, h2])
end Go.Proofs.Ytjobicffdcnnlaa
