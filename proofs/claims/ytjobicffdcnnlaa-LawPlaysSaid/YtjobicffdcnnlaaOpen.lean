import Derived.Test.YtjobicffdcnnlaaC1
import Derived.OpenShut
import Derived.ChangeSame
/- A configuration by value, opened. -/
namespace Go.Proofs.Ytjobicffdcnnlaa
set_option maxRecDepth 100000
open Go Go.RowKit
set_option linter.unusedSimpArgs false
set_option linter.unusedVariables false

def intsC (c : CF) : List Int := [c.n, c.f, c.m, c.q, c.fresh, c.grace, c.window, c.t0, c.t1, c.t2, c.t3, c.tol, c.lo, c.hi, c.cup, c.cdn, c.pup, c.tup, c.pdn, c.tdn, c.per, c.far, c.str, c.pro, c.sec]
theorem cellInt {w : World} {b : Nat} {u : TypeId} {v : Value} {k : IntKind} (hu : Try.prog.underlying u = some (.int k)) (h : Cell.okWide Try.prog w .any b u v) : ∃ n, v = .int k n ∧ (Lit.int k n).wf = true := by
  simp only [Cell.okWide, hu] at h
  cases v <;> simp_all [Cell.ok, IntKind.has, Lit.wf]
theorem types36 : Try.prog.cellTypes Try.prog.depth 36 = some [3, 3, 3, 3, 3, 3, 3, 2, 2, 2, 2, 3, 3, 3, 3, 3, 3, 3, 3, 3, 3, 2, 3, 3, 3, 30] := by kernel_rfl
theorem cells36 : Try.prog.cellsOf 36 = 26 := by kernel_rfl
theorem conf_row {w : World} {b : Nat} {v : Value} (h : Value.okWide Try.prog w .any b 36 v) : ∃ c : CF, v = .agg #[.int .i64 c.n, .int .i64 c.f, .int .i64 c.m, .int .i64 c.q, .int .i64 c.fresh, .int .i64 c.grace, .int .i64 c.window, .int .i64 c.t0, .int .i64 c.t1, .int .i64 c.t2, .int .i64 c.t3, .int .i64 c.tol, .int .i64 c.lo, .int .i64 c.hi, .int .i64 c.cup, .int .i64 c.cdn, .int .i64 c.pup, .int .i64 c.tup, .int .i64 c.pdn, .int .i64 c.tdn, .int .i64 c.per, .int .i64 c.far, .int .i64 c.str, .int .i64 c.pro, .int .i64 c.sec, .int .u64 c.seed] ∧ (∀ x ∈ intsC c, (Lit.int .i64 x).wf = true) ∧ (Lit.int .u64 c.seed).wf = true := by
  unfold Value.okWide at h
  simp only [Try.underlying36] at h
  obtain ⟨cs, rfl, hsz, ts, hts, _, hc⟩ := h
  rw [types36] at hts
  cases hts
  rw [cells36] at hsz
  obtain ⟨l⟩ := cs
  have hl : l.length = 26 := hsz
  match l, hl with
  | [v0, v1, v2, v3, v4, v5, v6, v7, v8, v9, v10, v11, v12, v13, v14, v15, v16, v17, v18, v19, v20, v21, v22, v23, v24, v25], _ =>
    obtain ⟨u0, e0, k0⟩ := hc 0 v0 rfl
    cases e0
    obtain ⟨x0, rfl, w0⟩ := cellInt Try.underlying3 k0
    obtain ⟨u1, e1, k1⟩ := hc 1 v1 rfl
    cases e1
    obtain ⟨x1, rfl, w1⟩ := cellInt Try.underlying3 k1
    obtain ⟨u2, e2, k2⟩ := hc 2 v2 rfl
    cases e2
    obtain ⟨x2, rfl, w2⟩ := cellInt Try.underlying3 k2
    obtain ⟨u3, e3, k3⟩ := hc 3 v3 rfl
    cases e3
    obtain ⟨x3, rfl, w3⟩ := cellInt Try.underlying3 k3
    obtain ⟨u4, e4, k4⟩ := hc 4 v4 rfl
    cases e4
    obtain ⟨x4, rfl, w4⟩ := cellInt Try.underlying3 k4
    obtain ⟨u5, e5, k5⟩ := hc 5 v5 rfl
    cases e5
    obtain ⟨x5, rfl, w5⟩ := cellInt Try.underlying3 k5
    obtain ⟨u6, e6, k6⟩ := hc 6 v6 rfl
    cases e6
    obtain ⟨x6, rfl, w6⟩ := cellInt Try.underlying3 k6
    obtain ⟨u7, e7, k7⟩ := hc 7 v7 rfl
    cases e7
    obtain ⟨x7, rfl, w7⟩ := cellInt Try.underlying2 k7
    obtain ⟨u8, e8, k8⟩ := hc 8 v8 rfl
    cases e8
    obtain ⟨x8, rfl, w8⟩ := cellInt Try.underlying2 k8
    obtain ⟨u9, e9, k9⟩ := hc 9 v9 rfl
    cases e9
    obtain ⟨x9, rfl, w9⟩ := cellInt Try.underlying2 k9
    obtain ⟨u10, e10, k10⟩ := hc 10 v10 rfl
    cases e10
    obtain ⟨x10, rfl, w10⟩ := cellInt Try.underlying2 k10
    obtain ⟨u11, e11, k11⟩ := hc 11 v11 rfl
    cases e11
    obtain ⟨x11, rfl, w11⟩ := cellInt Try.underlying3 k11
    obtain ⟨u12, e12, k12⟩ := hc 12 v12 rfl
    cases e12
    obtain ⟨x12, rfl, w12⟩ := cellInt Try.underlying3 k12
    obtain ⟨u13, e13, k13⟩ := hc 13 v13 rfl
    cases e13
    obtain ⟨x13, rfl, w13⟩ := cellInt Try.underlying3 k13
    obtain ⟨u14, e14, k14⟩ := hc 14 v14 rfl
    cases e14
    obtain ⟨x14, rfl, w14⟩ := cellInt Try.underlying3 k14
    obtain ⟨u15, e15, k15⟩ := hc 15 v15 rfl
    cases e15
    obtain ⟨x15, rfl, w15⟩ := cellInt Try.underlying3 k15
    obtain ⟨u16, e16, k16⟩ := hc 16 v16 rfl
    cases e16
    obtain ⟨x16, rfl, w16⟩ := cellInt Try.underlying3 k16
    obtain ⟨u17, e17, k17⟩ := hc 17 v17 rfl
    cases e17
    obtain ⟨x17, rfl, w17⟩ := cellInt Try.underlying3 k17
    obtain ⟨u18, e18, k18⟩ := hc 18 v18 rfl
    cases e18
    obtain ⟨x18, rfl, w18⟩ := cellInt Try.underlying3 k18
    obtain ⟨u19, e19, k19⟩ := hc 19 v19 rfl
    cases e19
    obtain ⟨x19, rfl, w19⟩ := cellInt Try.underlying3 k19
    obtain ⟨u20, e20, k20⟩ := hc 20 v20 rfl
    cases e20
    obtain ⟨x20, rfl, w20⟩ := cellInt Try.underlying3 k20
    obtain ⟨u21, e21, k21⟩ := hc 21 v21 rfl
    cases e21
    obtain ⟨x21, rfl, w21⟩ := cellInt Try.underlying2 k21
    obtain ⟨u22, e22, k22⟩ := hc 22 v22 rfl
    cases e22
    obtain ⟨x22, rfl, w22⟩ := cellInt Try.underlying3 k22
    obtain ⟨u23, e23, k23⟩ := hc 23 v23 rfl
    cases e23
    obtain ⟨x23, rfl, w23⟩ := cellInt Try.underlying3 k23
    obtain ⟨u24, e24, k24⟩ := hc 24 v24 rfl
    cases e24
    obtain ⟨x24, rfl, w24⟩ := cellInt Try.underlying3 k24
    obtain ⟨u25, e25, k25⟩ := hc 25 v25 rfl
    cases e25
    obtain ⟨x25, rfl, w25⟩ := cellInt Try.underlying30 k25
    refine ⟨⟨x0, x1, x2, x3, x4, x5, x6, x7, x8, x9, x10, x11, x12, x13, x14, x15, x16, x17, x18, x19, x20, x21, x22, x23, x24, x25⟩, rfl, ?_, w25⟩
    simp only [intsC, List.forall_mem_cons]
    exact ⟨w0, w1, w2, w3, w4, w5, w6, w7, w8, w9, w10, w11, w12, w13, w14, w15, w16, w17, w18, w19, w20, w21, w22, w23, w24, fun x hx => by cases hx⟩
end Go.Proofs.Ytjobicffdcnnlaa
