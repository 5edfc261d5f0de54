import Derived.Test.YtjobicffdcnnlaaE
import Derived.Deep.WholeRow
namespace Go.Proofs.Ytjobicffdcnnlaa
open Go.RowKit
set_option linter.unusedSimpArgs false
set_option linter.unusedVariables false

theorem edgeW_19_0 : wrongV { c0 with str := 1 } = ⟨#[]⟩ := by decide +kernel
theorem edgeM_19_0 : mayC { c0 with str := 1 } = true := by decide +kernel
set_option maxHeartbeats 2000000 in
set_option maxRecDepth 100000 in
theorem edges_19_0 (a b1 : Int) (ha : IntKind.u64.wrap a % 22 = 19) (hb : IntKind.u64.wrap b1 % 4 = 0) (w : World) : Calls Try.prog 9 #[.int .i64 a, .int .i64 b1] w fun e w' => e = .returned (.bool true) ∧ Gr w w' := by
  have a0 := u64_nonneg a
  have b0 := u64_nonneg b1
  go_enter Try.func9, Try.ntmps9
  go_upto_region 1 with (fail)
  refine wp_region_lit ?_
  refine wpList_val (.slice (some ⟨w.heap.size, 0, none⟩) 22 22) (w.alloc (.cells namesA 9)) rfl (by kernel_rfl) ?_
  have g1 : Gr w (w.alloc (.cells namesA 9)) := (Gr.refl w).alloc _
  have n1 : (w.alloc (.cells namesA 9)).cell? ⟨w.heap.size, 19, none⟩ = some (.string ⟨#[115, 116, 114, 105, 107, 101, 115]⟩) := cell_in (heap_new rfl) rfl
  generalize w.alloc (.cells namesA 9) = x1 at *
  generalize w.heap.size = bn at *
  go_upto_region 2 with (fail)
  refine wp_region_lit ?_
  refine wpList_val (.slice (some ⟨x1.heap.size, 0, none⟩) 22 22) (x1.alloc (.cells leastA 2)) rfl (by kernel_rfl) ?_
  have g2 : Gr x1 (x1.alloc (.cells leastA 2)) := (Gr.refl x1).alloc _
  have n2 : (x1.alloc (.cells leastA 2)).cell? ⟨x1.heap.size, 19, none⟩ = some (.int .i64 1) := cell_in (heap_new rfl) rfl
  generalize x1.alloc (.cells leastA 2) = x2 at *
  generalize x1.heap.size = bl at *
  go_upto_region 3 with (fail)
  refine wp_region_lit ?_
  refine wpList_val (.slice (some ⟨x2.heap.size, 0, none⟩) 22 22) (x2.alloc (.cells mostA 2)) rfl (by kernel_rfl) ?_
  have g3 : Gr x2 (x2.alloc (.cells mostA 2)) := (Gr.refl x2).alloc _
  have n3 : (x2.alloc (.cells mostA 2)).cell? ⟨x2.heap.size, 19, none⟩ = some (.int .i64 100) := cell_in (heap_new rfl) rfl
  generalize x2.alloc (.cells mostA 2) = x3 at *
  generalize x2.heap.size = bm at *
  replace n1 := g3.cell_some (g2.cell_some n1)
  replace n2 := g3.cell_some n2
  replace g1 := (g1.trans g2).trans g3
  clear g2 g3
  go_upto_region 4 with (fail)
  refine wp_region_lit ?_
  refine wpList_enter 38 #[] _ rfl (by kernel_rfl) (default_any x3) fun w1 hg => ?_
  refine wpList_val (.pointer (some ⟨w1.heap.size, 0, none⟩)) (w1.alloc (.cells zero36 36)) rfl (xalloc36 ..) ?_
  refine wpList_skip' (w1.alloc (.cells #[.int .i64 dflt.n, .int .i64 dflt.f, .int .i64 dflt.m, .int .i64 dflt.q, .int .i64 dflt.fresh, .int .i64 dflt.grace, .int .i64 dflt.window, .int .i64 dflt.t0, .int .i64 dflt.t1, .int .i64 dflt.t2, .int .i64 dflt.t3, .int .i64 dflt.tol, .int .i64 dflt.lo, .int .i64 dflt.hi, .int .i64 dflt.cup, .int .i64 dflt.cdn, .int .i64 dflt.pup, .int .i64 dflt.tup, .int .i64 dflt.pdn, .int .i64 dflt.tdn, .int .i64 dflt.per, .int .i64 dflt.far, .int .i64 dflt.str, .int .i64 dflt.pro, .int .i64 dflt.sec, .int .u64 dflt.seed] 36)) rfl (xstore36_at rfl (by kernel_rfl) (by kernel_rfl) rfl rfl (by kernel_rfl)) ?_
  have A := start_at hg dflt
  generalize w1.alloc (.cells #[.int .i64 dflt.n, .int .i64 dflt.f, .int .i64 dflt.m, .int .i64 dflt.q, .int .i64 dflt.fresh, .int .i64 dflt.grace, .int .i64 dflt.window, .int .i64 dflt.t0, .int .i64 dflt.t1, .int .i64 dflt.t2, .int .i64 dflt.t3, .int .i64 dflt.tol, .int .i64 dflt.lo, .int .i64 dflt.hi, .int .i64 dflt.cup, .int .i64 dflt.cdn, .int .i64 dflt.pup, .int .i64 dflt.tup, .int .i64 dflt.pdn, .int .i64 dflt.tdn, .int .i64 dflt.per, .int .i64 dflt.far, .int .i64 dflt.str, .int .i64 dflt.pro, .int .i64 dflt.sec, .int .u64 dflt.seed] 36) = w2 at *
  generalize w1.heap.size = b at *
  clear hg
  have hc := A.cell
  have hz := A.froz
  go_upto_region 6 with (fail)
  replace A := ((((A.set 1 (.int .i64 0) { dflt with f := 0 } rfl).set 0 (.int .i64 4) { dflt with f := 0, n := 4 } rfl).set 3 (.int .i64 1) { dflt with f := 0, n := 4, q := 1 } rfl).set 13 (.int .i64 10000) c0 rfl)
  clear hc hz
  generalize World.setCell _ ⟨b, 13, none⟩ _ = w3 at *
  have m1 := A.gr.cell_some n1
  have m2 := A.gr.cell_some n2
  have m3 := A.gr.cell_some n3
  go_upto_region 7 with (fail)
  go_region
  generalize hw4 : World.drew (World.alloc w3 _) = w4
  replace A := A.on (show Gr w3 w4 by rw [← hw4]; exact ((Gr.refl w3).alloc _).drew)
  clear hw4 m1 m2 m3
  have m1 := A.gr.cell_some n1
  have hc := A.cell
  have hz := A.froz
  go_upto_region 58 with (fail)
  replace A := A.set 22 (.int .i64 1) { c0 with str := 1 } rfl
  clear hc hz m1
  generalize World.setCell _ _ _ = w5 at *
  have hk := A.conf
  go_wp2_with (first
    | (go_at_call 39; refine (told3_any _).mono ?_; rintro e w6 ⟨rfl, hg⟩; replace A := A.on hg; clear hg hk; have hk := A.conf)
    | (go_at_call 40; refine (wrongV_any _ edgeW_19_0 _).mono ?_; rintro e w6 ⟨rfl, hg⟩; replace A := A.on hg; clear hg hk; have hk := A.conf)
    | (go_at_call 41; refine (may_true_any _ edgeM_19_0 _).mono ?_; rintro e w6 ⟨rfl, hg⟩; replace A := A.on hg; clear hg hk; have hk := A.conf))
  go_ret
  exact ⟨rfl, g1.trans A.gr⟩

theorem edgeW_19_1 : wrongV { c0 with str := 100 } = ⟨#[]⟩ := by decide +kernel
theorem edgeM_19_1 : mayC { c0 with str := 100 } = true := by decide +kernel
set_option maxHeartbeats 2000000 in
set_option maxRecDepth 100000 in
theorem edges_19_1 (a b1 : Int) (ha : IntKind.u64.wrap a % 22 = 19) (hb : IntKind.u64.wrap b1 % 4 = 1) (w : World) : Calls Try.prog 9 #[.int .i64 a, .int .i64 b1] w fun e w' => e = .returned (.bool true) ∧ Gr w w' := by
  have a0 := u64_nonneg a
  have b0 := u64_nonneg b1
  go_enter Try.func9, Try.ntmps9
  go_upto_region 1 with (fail)
  refine wp_region_lit ?_
  refine wpList_val (.slice (some ⟨w.heap.size, 0, none⟩) 22 22) (w.alloc (.cells namesA 9)) rfl (by kernel_rfl) ?_
  have g1 : Gr w (w.alloc (.cells namesA 9)) := (Gr.refl w).alloc _
  have n1 : (w.alloc (.cells namesA 9)).cell? ⟨w.heap.size, 19, none⟩ = some (.string ⟨#[115, 116, 114, 105, 107, 101, 115]⟩) := cell_in (heap_new rfl) rfl
  generalize w.alloc (.cells namesA 9) = x1 at *
  generalize w.heap.size = bn at *
  go_upto_region 2 with (fail)
  refine wp_region_lit ?_
  refine wpList_val (.slice (some ⟨x1.heap.size, 0, none⟩) 22 22) (x1.alloc (.cells leastA 2)) rfl (by kernel_rfl) ?_
  have g2 : Gr x1 (x1.alloc (.cells leastA 2)) := (Gr.refl x1).alloc _
  have n2 : (x1.alloc (.cells leastA 2)).cell? ⟨x1.heap.size, 19, none⟩ = some (.int .i64 1) := cell_in (heap_new rfl) rfl
  generalize x1.alloc (.cells leastA 2) = x2 at *
  generalize x1.heap.size = bl at *
  go_upto_region 3 with (fail)
  refine wp_region_lit ?_
  refine wpList_val (.slice (some ⟨x2.heap.size, 0, none⟩) 22 22) (x2.alloc (.cells mostA 2)) rfl (by kernel_rfl) ?_
  have g3 : Gr x2 (x2.alloc (.cells mostA 2)) := (Gr.refl x2).alloc _
  have n3 : (x2.alloc (.cells mostA 2)).cell? ⟨x2.heap.size, 19, none⟩ = some (.int .i64 100) := cell_in (heap_new rfl) rfl
  generalize x2.alloc (.cells mostA 2) = x3 at *
  generalize x2.heap.size = bm at *
  replace n1 := g3.cell_some (g2.cell_some n1)
  replace n2 := g3.cell_some n2
  replace g1 := (g1.trans g2).trans g3
  clear g2 g3
  go_upto_region 4 with (fail)
  refine wp_region_lit ?_
  refine wpList_enter 38 #[] _ rfl (by kernel_rfl) (default_any x3) fun w1 hg => ?_
  refine wpList_val (.pointer (some ⟨w1.heap.size, 0, none⟩)) (w1.alloc (.cells zero36 36)) rfl (xalloc36 ..) ?_
  refine wpList_skip' (w1.alloc (.cells #[.int .i64 dflt.n, .int .i64 dflt.f, .int .i64 dflt.m, .int .i64 dflt.q, .int .i64 dflt.fresh, .int .i64 dflt.grace, .int .i64 dflt.window, .int .i64 dflt.t0, .int .i64 dflt.t1, .int .i64 dflt.t2, .int .i64 dflt.t3, .int .i64 dflt.tol, .int .i64 dflt.lo, .int .i64 dflt.hi, .int .i64 dflt.cup, .int .i64 dflt.cdn, .int .i64 dflt.pup, .int .i64 dflt.tup, .int .i64 dflt.pdn, .int .i64 dflt.tdn, .int .i64 dflt.per, .int .i64 dflt.far, .int .i64 dflt.str, .int .i64 dflt.pro, .int .i64 dflt.sec, .int .u64 dflt.seed] 36)) rfl (xstore36_at rfl (by kernel_rfl) (by kernel_rfl) rfl rfl (by kernel_rfl)) ?_
  have A := start_at hg dflt
  generalize w1.alloc (.cells #[.int .i64 dflt.n, .int .i64 dflt.f, .int .i64 dflt.m, .int .i64 dflt.q, .int .i64 dflt.fresh, .int .i64 dflt.grace, .int .i64 dflt.window, .int .i64 dflt.t0, .int .i64 dflt.t1, .int .i64 dflt.t2, .int .i64 dflt.t3, .int .i64 dflt.tol, .int .i64 dflt.lo, .int .i64 dflt.hi, .int .i64 dflt.cup, .int .i64 dflt.cdn, .int .i64 dflt.pup, .int .i64 dflt.tup, .int .i64 dflt.pdn, .int .i64 dflt.tdn, .int .i64 dflt.per, .int .i64 dflt.far, .int .i64 dflt.str, .int .i64 dflt.pro, .int .i64 dflt.sec, .int .u64 dflt.seed] 36) = w2 at *
  generalize w1.heap.size = b at *
  clear hg
  have hc := A.cell
  have hz := A.froz
  go_upto_region 6 with (fail)
  replace A := ((((A.set 1 (.int .i64 0) { dflt with f := 0 } rfl).set 0 (.int .i64 4) { dflt with f := 0, n := 4 } rfl).set 3 (.int .i64 1) { dflt with f := 0, n := 4, q := 1 } rfl).set 13 (.int .i64 10000) c0 rfl)
  clear hc hz
  generalize World.setCell _ ⟨b, 13, none⟩ _ = w3 at *
  have m1 := A.gr.cell_some n1
  have m2 := A.gr.cell_some n2
  have m3 := A.gr.cell_some n3
  go_upto_region 7 with (fail)
  go_region
  generalize hw4 : World.drew (World.alloc w3 _) = w4
  replace A := A.on (show Gr w3 w4 by rw [← hw4]; exact ((Gr.refl w3).alloc _).drew)
  clear hw4 m1 m2 m3
  have m1 := A.gr.cell_some n1
  have hc := A.cell
  have hz := A.froz
  go_upto_region 58 with (fail)
  replace A := A.set 22 (.int .i64 100) { c0 with str := 100 } rfl
  clear hc hz m1
  generalize World.setCell _ _ _ = w5 at *
  have hk := A.conf
  go_wp2_with (first
    | (go_at_call 39; refine (told3_any _).mono ?_; rintro e w6 ⟨rfl, hg⟩; replace A := A.on hg; clear hg hk; have hk := A.conf)
    | (go_at_call 40; refine (wrongV_any _ edgeW_19_1 _).mono ?_; rintro e w6 ⟨rfl, hg⟩; replace A := A.on hg; clear hg hk; have hk := A.conf)
    | (go_at_call 41; refine (may_true_any _ edgeM_19_1 _).mono ?_; rintro e w6 ⟨rfl, hg⟩; replace A := A.on hg; clear hg hk; have hk := A.conf))
  go_ret
  exact ⟨rfl, g1.trans A.gr⟩

theorem edgeW_19_2 : wrongV { c0 with str := 0 } = ⟨#[115, 116, 114, 105, 107, 101, 115]⟩ := by decide +kernel
theorem edgeM_19_2 : mayC { c0 with str := 0 } = false := by decide +kernel
set_option maxHeartbeats 2000000 in
set_option maxRecDepth 100000 in
theorem edges_19_2 (a b1 : Int) (ha : IntKind.u64.wrap a % 22 = 19) (hb : IntKind.u64.wrap b1 % 4 = 2) (w : World) : Calls Try.prog 9 #[.int .i64 a, .int .i64 b1] w fun e w' => e = .returned (.bool true) ∧ Gr w w' := by
  have a0 := u64_nonneg a
  have b0 := u64_nonneg b1
  go_enter Try.func9, Try.ntmps9
  go_upto_region 1 with (fail)
  refine wp_region_lit ?_
  refine wpList_val (.slice (some ⟨w.heap.size, 0, none⟩) 22 22) (w.alloc (.cells namesA 9)) rfl (by kernel_rfl) ?_
  have g1 : Gr w (w.alloc (.cells namesA 9)) := (Gr.refl w).alloc _
  have n1 : (w.alloc (.cells namesA 9)).cell? ⟨w.heap.size, 19, none⟩ = some (.string ⟨#[115, 116, 114, 105, 107, 101, 115]⟩) := cell_in (heap_new rfl) rfl
  generalize w.alloc (.cells namesA 9) = x1 at *
  generalize w.heap.size = bn at *
  go_upto_region 2 with (fail)
  refine wp_region_lit ?_
  refine wpList_val (.slice (some ⟨x1.heap.size, 0, none⟩) 22 22) (x1.alloc (.cells leastA 2)) rfl (by kernel_rfl) ?_
  have g2 : Gr x1 (x1.alloc (.cells leastA 2)) := (Gr.refl x1).alloc _
  have n2 : (x1.alloc (.cells leastA 2)).cell? ⟨x1.heap.size, 19, none⟩ = some (.int .i64 1) := cell_in (heap_new rfl) rfl
  generalize x1.alloc (.cells leastA 2) = x2 at *
  generalize x1.heap.size = bl at *
  go_upto_region 3 with (fail)
  refine wp_region_lit ?_
  refine wpList_val (.slice (some ⟨x2.heap.size, 0, none⟩) 22 22) (x2.alloc (.cells mostA 2)) rfl (by kernel_rfl) ?_
  have g3 : Gr x2 (x2.alloc (.cells mostA 2)) := (Gr.refl x2).alloc _
  have n3 : (x2.alloc (.cells mostA 2)).cell? ⟨x2.heap.size, 19, none⟩ = some (.int .i64 100) := cell_in (heap_new rfl) rfl
  generalize x2.alloc (.cells mostA 2) = x3 at *
  generalize x2.heap.size = bm at *
  replace n1 := g3.cell_some (g2.cell_some n1)
  replace n2 := g3.cell_some n2
  replace g1 := (g1.trans g2).trans g3
  clear g2 g3
  go_upto_region 4 with (fail)
  refine wp_region_lit ?_
  refine wpList_enter 38 #[] _ rfl (by kernel_rfl) (default_any x3) fun w1 hg => ?_
  refine wpList_val (.pointer (some ⟨w1.heap.size, 0, none⟩)) (w1.alloc (.cells zero36 36)) rfl (xalloc36 ..) ?_
  refine wpList_skip' (w1.alloc (.cells #[.int .i64 dflt.n, .int .i64 dflt.f, .int .i64 dflt.m, .int .i64 dflt.q, .int .i64 dflt.fresh, .int .i64 dflt.grace, .int .i64 dflt.window, .int .i64 dflt.t0, .int .i64 dflt.t1, .int .i64 dflt.t2, .int .i64 dflt.t3, .int .i64 dflt.tol, .int .i64 dflt.lo, .int .i64 dflt.hi, .int .i64 dflt.cup, .int .i64 dflt.cdn, .int .i64 dflt.pup, .int .i64 dflt.tup, .int .i64 dflt.pdn, .int .i64 dflt.tdn, .int .i64 dflt.per, .int .i64 dflt.far, .int .i64 dflt.str, .int .i64 dflt.pro, .int .i64 dflt.sec, .int .u64 dflt.seed] 36)) rfl (xstore36_at rfl (by kernel_rfl) (by kernel_rfl) rfl rfl (by kernel_rfl)) ?_
  have A := start_at hg dflt
  generalize w1.alloc (.cells #[.int .i64 dflt.n, .int .i64 dflt.f, .int .i64 dflt.m, .int .i64 dflt.q, .int .i64 dflt.fresh, .int .i64 dflt.grace, .int .i64 dflt.window, .int .i64 dflt.t0, .int .i64 dflt.t1, .int .i64 dflt.t2, .int .i64 dflt.t3, .int .i64 dflt.tol, .int .i64 dflt.lo, .int .i64 dflt.hi, .int .i64 dflt.cup, .int .i64 dflt.cdn, .int .i64 dflt.pup, .int .i64 dflt.tup, .int .i64 dflt.pdn, .int .i64 dflt.tdn, .int .i64 dflt.per, .int .i64 dflt.far, .int .i64 dflt.str, .int .i64 dflt.pro, .int .i64 dflt.sec, .int .u64 dflt.seed] 36) = w2 at *
  generalize w1.heap.size = b at *
  clear hg
  have hc := A.cell
  have hz := A.froz
  go_upto_region 6 with (fail)
  replace A := ((((A.set 1 (.int .i64 0) { dflt with f := 0 } rfl).set 0 (.int .i64 4) { dflt with f := 0, n := 4 } rfl).set 3 (.int .i64 1) { dflt with f := 0, n := 4, q := 1 } rfl).set 13 (.int .i64 10000) c0 rfl)
  clear hc hz
  generalize World.setCell _ ⟨b, 13, none⟩ _ = w3 at *
  have m1 := A.gr.cell_some n1
  have m2 := A.gr.cell_some n2
  have m3 := A.gr.cell_some n3
  go_upto_region 7 with (fail)
  go_region
  generalize hw4 : World.drew (World.alloc w3 _) = w4
  replace A := A.on (show Gr w3 w4 by rw [← hw4]; exact ((Gr.refl w3).alloc _).drew)
  clear hw4 m1 m2 m3
  have m1 := A.gr.cell_some n1
  have hc := A.cell
  have hz := A.froz
  go_upto_region 58 with (fail)
  replace A := A.set 22 (.int .i64 0) { c0 with str := 0 } rfl
  clear hc hz m1
  generalize World.setCell _ _ _ = w5 at *
  have hk := A.conf
  go_wp2_with (first
    | (go_at_call 39; refine (told3_any _).mono ?_; rintro e w6 ⟨rfl, hg⟩; replace A := A.on hg; clear hg hk; have hk := A.conf)
    | (go_at_call 40; refine (wrongV_any _ edgeW_19_2 _).mono ?_; rintro e w6 ⟨rfl, hg⟩; replace A := A.on hg; clear hg hk; have hk := A.conf)
    | (go_at_call 41; refine (may_true_any _ edgeM_19_2 _).mono ?_; rintro e w6 ⟨rfl, hg⟩; replace A := A.on hg; clear hg hk; have hk := A.conf))
  go_ret
  exact ⟨rfl, g1.trans A.gr⟩

theorem edgeW_19_3 : wrongV { c0 with str := 101 } = ⟨#[115, 116, 114, 105, 107, 101, 115]⟩ := by decide +kernel
theorem edgeM_19_3 : mayC { c0 with str := 101 } = false := by decide +kernel
set_option maxHeartbeats 2000000 in
set_option maxRecDepth 100000 in
theorem edges_19_3 (a b1 : Int) (ha : IntKind.u64.wrap a % 22 = 19) (hb : IntKind.u64.wrap b1 % 4 = 3) (w : World) : Calls Try.prog 9 #[.int .i64 a, .int .i64 b1] w fun e w' => e = .returned (.bool true) ∧ Gr w w' := by
  have a0 := u64_nonneg a
  have b0 := u64_nonneg b1
  go_enter Try.func9, Try.ntmps9
  go_upto_region 1 with (fail)
  refine wp_region_lit ?_
  refine wpList_val (.slice (some ⟨w.heap.size, 0, none⟩) 22 22) (w.alloc (.cells namesA 9)) rfl (by kernel_rfl) ?_
  have g1 : Gr w (w.alloc (.cells namesA 9)) := (Gr.refl w).alloc _
  have n1 : (w.alloc (.cells namesA 9)).cell? ⟨w.heap.size, 19, none⟩ = some (.string ⟨#[115, 116, 114, 105, 107, 101, 115]⟩) := cell_in (heap_new rfl) rfl
  generalize w.alloc (.cells namesA 9) = x1 at *
  generalize w.heap.size = bn at *
  go_upto_region 2 with (fail)
  refine wp_region_lit ?_
  refine wpList_val (.slice (some ⟨x1.heap.size, 0, none⟩) 22 22) (x1.alloc (.cells leastA 2)) rfl (by kernel_rfl) ?_
  have g2 : Gr x1 (x1.alloc (.cells leastA 2)) := (Gr.refl x1).alloc _
  have n2 : (x1.alloc (.cells leastA 2)).cell? ⟨x1.heap.size, 19, none⟩ = some (.int .i64 1) := cell_in (heap_new rfl) rfl
  generalize x1.alloc (.cells leastA 2) = x2 at *
  generalize x1.heap.size = bl at *
  go_upto_region 3 with (fail)
  refine wp_region_lit ?_
  refine wpList_val (.slice (some ⟨x2.heap.size, 0, none⟩) 22 22) (x2.alloc (.cells mostA 2)) rfl (by kernel_rfl) ?_
  have g3 : Gr x2 (x2.alloc (.cells mostA 2)) := (Gr.refl x2).alloc _
  have n3 : (x2.alloc (.cells mostA 2)).cell? ⟨x2.heap.size, 19, none⟩ = some (.int .i64 100) := cell_in (heap_new rfl) rfl
  generalize x2.alloc (.cells mostA 2) = x3 at *
  generalize x2.heap.size = bm at *
  replace n1 := g3.cell_some (g2.cell_some n1)
  replace n2 := g3.cell_some n2
  replace g1 := (g1.trans g2).trans g3
  clear g2 g3
  go_upto_region 4 with (fail)
  refine wp_region_lit ?_
  refine wpList_enter 38 #[] _ rfl (by kernel_rfl) (default_any x3) fun w1 hg => ?_
  refine wpList_val (.pointer (some ⟨w1.heap.size, 0, none⟩)) (w1.alloc (.cells zero36 36)) rfl (xalloc36 ..) ?_
  refine wpList_skip' (w1.alloc (.cells #[.int .i64 dflt.n, .int .i64 dflt.f, .int .i64 dflt.m, .int .i64 dflt.q, .int .i64 dflt.fresh, .int .i64 dflt.grace, .int .i64 dflt.window, .int .i64 dflt.t0, .int .i64 dflt.t1, .int .i64 dflt.t2, .int .i64 dflt.t3, .int .i64 dflt.tol, .int .i64 dflt.lo, .int .i64 dflt.hi, .int .i64 dflt.cup, .int .i64 dflt.cdn, .int .i64 dflt.pup, .int .i64 dflt.tup, .int .i64 dflt.pdn, .int .i64 dflt.tdn, .int .i64 dflt.per, .int .i64 dflt.far, .int .i64 dflt.str, .int .i64 dflt.pro, .int .i64 dflt.sec, .int .u64 dflt.seed] 36)) rfl (xstore36_at rfl (by kernel_rfl) (by kernel_rfl) rfl rfl (by kernel_rfl)) ?_
  have A := start_at hg dflt
  generalize w1.alloc (.cells #[.int .i64 dflt.n, .int .i64 dflt.f, .int .i64 dflt.m, .int .i64 dflt.q, .int .i64 dflt.fresh, .int .i64 dflt.grace, .int .i64 dflt.window, .int .i64 dflt.t0, .int .i64 dflt.t1, .int .i64 dflt.t2, .int .i64 dflt.t3, .int .i64 dflt.tol, .int .i64 dflt.lo, .int .i64 dflt.hi, .int .i64 dflt.cup, .int .i64 dflt.cdn, .int .i64 dflt.pup, .int .i64 dflt.tup, .int .i64 dflt.pdn, .int .i64 dflt.tdn, .int .i64 dflt.per, .int .i64 dflt.far, .int .i64 dflt.str, .int .i64 dflt.pro, .int .i64 dflt.sec, .int .u64 dflt.seed] 36) = w2 at *
  generalize w1.heap.size = b at *
  clear hg
  have hc := A.cell
  have hz := A.froz
  go_upto_region 6 with (fail)
  replace A := ((((A.set 1 (.int .i64 0) { dflt with f := 0 } rfl).set 0 (.int .i64 4) { dflt with f := 0, n := 4 } rfl).set 3 (.int .i64 1) { dflt with f := 0, n := 4, q := 1 } rfl).set 13 (.int .i64 10000) c0 rfl)
  clear hc hz
  generalize World.setCell _ ⟨b, 13, none⟩ _ = w3 at *
  have m1 := A.gr.cell_some n1
  have m2 := A.gr.cell_some n2
  have m3 := A.gr.cell_some n3
  go_upto_region 7 with (fail)
  go_region
  generalize hw4 : World.drew (World.alloc w3 _) = w4
  replace A := A.on (show Gr w3 w4 by rw [← hw4]; exact ((Gr.refl w3).alloc _).drew)
  clear hw4 m1 m2 m3
  have m1 := A.gr.cell_some n1
  have hc := A.cell
  have hz := A.froz
  go_upto_region 58 with (fail)
  replace A := A.set 22 (.int .i64 101) { c0 with str := 101 } rfl
  clear hc hz m1
  generalize World.setCell _ _ _ = w5 at *
  have hk := A.conf
  go_wp2_with (first
    | (go_at_call 39; refine (told3_any _).mono ?_; rintro e w6 ⟨rfl, hg⟩; replace A := A.on hg; clear hg hk; have hk := A.conf)
    | (go_at_call 40; refine (wrongV_any _ edgeW_19_3 _).mono ?_; rintro e w6 ⟨rfl, hg⟩; replace A := A.on hg; clear hg hk; have hk := A.conf)
    | (go_at_call 41; refine (may_true_any _ edgeM_19_3 _).mono ?_; rintro e w6 ⟨rfl, hg⟩; replace A := A.on hg; clear hg hk; have hk := A.conf))
  go_ret
  exact ⟨rfl, g1.trans A.gr⟩

theorem edgeW_20_0 : wrongV { c0 with pro := 1 } = ⟨#[]⟩ := by decide +kernel
theorem edgeM_20_0 : mayC { c0 with pro := 1 } = true := by decide +kernel
set_option maxHeartbeats 2000000 in
set_option maxRecDepth 100000 in
theorem edges_20_0 (a b1 : Int) (ha : IntKind.u64.wrap a % 22 = 20) (hb : IntKind.u64.wrap b1 % 4 = 0) (w : World) : Calls Try.prog 9 #[.int .i64 a, .int .i64 b1] w fun e w' => e = .returned (.bool true) ∧ Gr w w' := by
  have a0 := u64_nonneg a
  have b0 := u64_nonneg b1
  go_enter Try.func9, Try.ntmps9
  go_upto_region 1 with (fail)
  refine wp_region_lit ?_
  refine wpList_val (.slice (some ⟨w.heap.size, 0, none⟩) 22 22) (w.alloc (.cells namesA 9)) rfl (by kernel_rfl) ?_
  have g1 : Gr w (w.alloc (.cells namesA 9)) := (Gr.refl w).alloc _
  have n1 : (w.alloc (.cells namesA 9)).cell? ⟨w.heap.size, 20, none⟩ = some (.string ⟨#[112, 114, 111, 98, 101]⟩) := cell_in (heap_new rfl) rfl
  generalize w.alloc (.cells namesA 9) = x1 at *
  generalize w.heap.size = bn at *
  go_upto_region 2 with (fail)
  refine wp_region_lit ?_
  refine wpList_val (.slice (some ⟨x1.heap.size, 0, none⟩) 22 22) (x1.alloc (.cells leastA 2)) rfl (by kernel_rfl) ?_
  have g2 : Gr x1 (x1.alloc (.cells leastA 2)) := (Gr.refl x1).alloc _
  have n2 : (x1.alloc (.cells leastA 2)).cell? ⟨x1.heap.size, 20, none⟩ = some (.int .i64 1) := cell_in (heap_new rfl) rfl
  generalize x1.alloc (.cells leastA 2) = x2 at *
  generalize x1.heap.size = bl at *
  go_upto_region 3 with (fail)
  refine wp_region_lit ?_
  refine wpList_val (.slice (some ⟨x2.heap.size, 0, none⟩) 22 22) (x2.alloc (.cells mostA 2)) rfl (by kernel_rfl) ?_
  have g3 : Gr x2 (x2.alloc (.cells mostA 2)) := (Gr.refl x2).alloc _
  have n3 : (x2.alloc (.cells mostA 2)).cell? ⟨x2.heap.size, 20, none⟩ = some (.int .i64 100) := cell_in (heap_new rfl) rfl
  generalize x2.alloc (.cells mostA 2) = x3 at *
  generalize x2.heap.size = bm at *
  replace n1 := g3.cell_some (g2.cell_some n1)
  replace n2 := g3.cell_some n2
  replace g1 := (g1.trans g2).trans g3
  clear g2 g3
  go_upto_region 4 with (fail)
  refine wp_region_lit ?_
  refine wpList_enter 38 #[] _ rfl (by kernel_rfl) (default_any x3) fun w1 hg => ?_
  refine wpList_val (.pointer (some ⟨w1.heap.size, 0, none⟩)) (w1.alloc (.cells zero36 36)) rfl (xalloc36 ..) ?_
  refine wpList_skip' (w1.alloc (.cells #[.int .i64 dflt.n, .int .i64 dflt.f, .int .i64 dflt.m, .int .i64 dflt.q, .int .i64 dflt.fresh, .int .i64 dflt.grace, .int .i64 dflt.window, .int .i64 dflt.t0, .int .i64 dflt.t1, .int .i64 dflt.t2, .int .i64 dflt.t3, .int .i64 dflt.tol, .int .i64 dflt.lo, .int .i64 dflt.hi, .int .i64 dflt.cup, .int .i64 dflt.cdn, .int .i64 dflt.pup, .int .i64 dflt.tup, .int .i64 dflt.pdn, .int .i64 dflt.tdn, .int .i64 dflt.per, .int .i64 dflt.far, .int .i64 dflt.str, .int .i64 dflt.pro, .int .i64 dflt.sec, .int .u64 dflt.seed] 36)) rfl (xstore36_at rfl (by kernel_rfl) (by kernel_rfl) rfl rfl (by kernel_rfl)) ?_
  have A := start_at hg dflt
  generalize w1.alloc (.cells #[.int .i64 dflt.n, .int .i64 dflt.f, .int .i64 dflt.m, .int .i64 dflt.q, .int .i64 dflt.fresh, .int .i64 dflt.grace, .int .i64 dflt.window, .int .i64 dflt.t0, .int .i64 dflt.t1, .int .i64 dflt.t2, .int .i64 dflt.t3, .int .i64 dflt.tol, .int .i64 dflt.lo, .int .i64 dflt.hi, .int .i64 dflt.cup, .int .i64 dflt.cdn, .int .i64 dflt.pup, .int .i64 dflt.tup, .int .i64 dflt.pdn, .int .i64 dflt.tdn, .int .i64 dflt.per, .int .i64 dflt.far, .int .i64 dflt.str, .int .i64 dflt.pro, .int .i64 dflt.sec, .int .u64 dflt.seed] 36) = w2 at *
  generalize w1.heap.size = b at *
  clear hg
  have hc := A.cell
  have hz := A.froz
  go_upto_region 6 with (fail)
  replace A := ((((A.set 1 (.int .i64 0) { dflt with f := 0 } rfl).set 0 (.int .i64 4) { dflt with f := 0, n := 4 } rfl).set 3 (.int .i64 1) { dflt with f := 0, n := 4, q := 1 } rfl).set 13 (.int .i64 10000) c0 rfl)
  clear hc hz
  generalize World.setCell _ ⟨b, 13, none⟩ _ = w3 at *
  have m1 := A.gr.cell_some n1
  have m2 := A.gr.cell_some n2
  have m3 := A.gr.cell_some n3
  go_upto_region 7 with (fail)
  go_region
  generalize hw4 : World.drew (World.alloc w3 _) = w4
  replace A := A.on (show Gr w3 w4 by rw [← hw4]; exact ((Gr.refl w3).alloc _).drew)
  clear hw4 m1 m2 m3
  have m1 := A.gr.cell_some n1
  have hc := A.cell
  have hz := A.froz
  go_upto_region 58 with (fail)
  replace A := A.set 23 (.int .i64 1) { c0 with pro := 1 } rfl
  clear hc hz m1
  generalize World.setCell _ _ _ = w5 at *
  have hk := A.conf
  go_wp2_with (first
    | (go_at_call 39; refine (told3_any _).mono ?_; rintro e w6 ⟨rfl, hg⟩; replace A := A.on hg; clear hg hk; have hk := A.conf)
    | (go_at_call 40; refine (wrongV_any _ edgeW_20_0 _).mono ?_; rintro e w6 ⟨rfl, hg⟩; replace A := A.on hg; clear hg hk; have hk := A.conf)
    | (go_at_call 41; refine (may_true_any _ edgeM_20_0 _).mono ?_; rintro e w6 ⟨rfl, hg⟩; replace A := A.on hg; clear hg hk; have hk := A.conf))
  go_ret
  exact ⟨rfl, g1.trans A.gr⟩

theorem edgeW_20_1 : wrongV { c0 with pro := 100 } = ⟨#[]⟩ := by decide +kernel
theorem edgeM_20_1 : mayC { c0 with pro := 100 } = true := by decide +kernel
set_option maxHeartbeats 2000000 in
set_option maxRecDepth 100000 in
theorem edges_20_1 (a b1 : Int) (ha : IntKind.u64.wrap a % 22 = 20) (hb : IntKind.u64.wrap b1 % 4 = 1) (w : World) : Calls Try.prog 9 #[.int .i64 a, .int .i64 b1] w fun e w' => e = .returned (.bool true) ∧ Gr w w' := by
  have a0 := u64_nonneg a
  have b0 := u64_nonneg b1
  go_enter Try.func9, Try.ntmps9
  go_upto_region 1 with (fail)
  refine wp_region_lit ?_
  refine wpList_val (.slice (some ⟨w.heap.size, 0, none⟩) 22 22) (w.alloc (.cells namesA 9)) rfl (by kernel_rfl) ?_
  have g1 : Gr w (w.alloc (.cells namesA 9)) := (Gr.refl w).alloc _
  have n1 : (w.alloc (.cells namesA 9)).cell? ⟨w.heap.size, 20, none⟩ = some (.string ⟨#[112, 114, 111, 98, 101]⟩) := cell_in (heap_new rfl) rfl
  generalize w.alloc (.cells namesA 9) = x1 at *
  generalize w.heap.size = bn at *
  go_upto_region 2 with (fail)
  refine wp_region_lit ?_
  refine wpList_val (.slice (some ⟨x1.heap.size, 0, none⟩) 22 22) (x1.alloc (.cells leastA 2)) rfl (by kernel_rfl) ?_
  have g2 : Gr x1 (x1.alloc (.cells leastA 2)) := (Gr.refl x1).alloc _
  have n2 : (x1.alloc (.cells leastA 2)).cell? ⟨x1.heap.size, 20, none⟩ = some (.int .i64 1) := cell_in (heap_new rfl) rfl
  generalize x1.alloc (.cells leastA 2) = x2 at *
  generalize x1.heap.size = bl at *
  go_upto_region 3 with (fail)
  refine wp_region_lit ?_
  refine wpList_val (.slice (some ⟨x2.heap.size, 0, none⟩) 22 22) (x2.alloc (.cells mostA 2)) rfl (by kernel_rfl) ?_
  have g3 : Gr x2 (x2.alloc (.cells mostA 2)) := (Gr.refl x2).alloc _
  have n3 : (x2.alloc (.cells mostA 2)).cell? ⟨x2.heap.size, 20, none⟩ = some (.int .i64 100) := cell_in (heap_new rfl) rfl
  generalize x2.alloc (.cells mostA 2) = x3 at *
  generalize x2.heap.size = bm at *
  replace n1 := g3.cell_some (g2.cell_some n1)
  replace n2 := g3.cell_some n2
  replace g1 := (g1.trans g2).trans g3
  clear g2 g3
  go_upto_region 4 with (fail)
  refine wp_region_lit ?_
  refine wpList_enter 38 #[] _ rfl (by kernel_rfl) (default_any x3) fun w1 hg => ?_
  refine wpList_val (.pointer (some ⟨w1.heap.size, 0, none⟩)) (w1.alloc (.cells zero36 36)) rfl (xalloc36 ..) ?_
  refine wpList_skip' (w1.alloc (.cells #[.int .i64 dflt.n, .int .i64 dflt.f, .int .i64 dflt.m, .int .i64 dflt.q, .int .i64 dflt.fresh, .int .i64 dflt.grace, .int .i64 dflt.window, .int .i64 dflt.t0, .int .i64 dflt.t1, .int .i64 dflt.t2, .int .i64 dflt.t3, .int .i64 dflt.tol, .int .i64 dflt.lo, .int .i64 dflt.hi, .int .i64 dflt.cup, .int .i64 dflt.cdn, .int .i64 dflt.pup, .int .i64 dflt.tup, .int .i64 dflt.pdn, .int .i64 dflt.tdn, .int .i64 dflt.per, .int .i64 dflt.far, .int .i64 dflt.str, .int .i64 dflt.pro, .int .i64 dflt.sec, .int .u64 dflt.seed] 36)) rfl (xstore36_at rfl (by kernel_rfl) (by kernel_rfl) rfl rfl (by kernel_rfl)) ?_
  have A := start_at hg dflt
  generalize w1.alloc (.cells #[.int .i64 dflt.n, .int .i64 dflt.f, .int .i64 dflt.m, .int .i64 dflt.q, .int .i64 dflt.fresh, .int .i64 dflt.grace, .int .i64 dflt.window, .int .i64 dflt.t0, .int .i64 dflt.t1, .int .i64 dflt.t2, .int .i64 dflt.t3, .int .i64 dflt.tol, .int .i64 dflt.lo, .int .i64 dflt.hi, .int .i64 dflt.cup, .int .i64 dflt.cdn, .int .i64 dflt.pup, .int .i64 dflt.tup, .int .i64 dflt.pdn, .int .i64 dflt.tdn, .int .i64 dflt.per, .int .i64 dflt.far, .int .i64 dflt.str, .int .i64 dflt.pro, .int .i64 dflt.sec, .int .u64 dflt.seed] 36) = w2 at *
  generalize w1.heap.size = b at *
  clear hg
  have hc := A.cell
  have hz := A.froz
  go_upto_region 6 with (fail)
  replace A := ((((A.set 1 (.int .i64 0) { dflt with f := 0 } rfl).set 0 (.int .i64 4) { dflt with f := 0, n := 4 } rfl).set 3 (.int .i64 1) { dflt with f := 0, n := 4, q := 1 } rfl).set 13 (.int .i64 10000) c0 rfl)
  clear hc hz
  generalize World.setCell _ ⟨b, 13, none⟩ _ = w3 at *
  have m1 := A.gr.cell_some n1
  have m2 := A.gr.cell_some n2
  have m3 := A.gr.cell_some n3
  go_upto_region 7 with (fail)
  go_region
  generalize hw4 : World.drew (World.alloc w3 _) = w4
  replace A := A.on (show Gr w3 w4 by rw [← hw4]; exact ((Gr.refl w3).alloc _).drew)
  clear hw4 m1 m2 m3
  have m1 := A.gr.cell_some n1
  have hc := A.cell
  have hz := A.froz
  go_upto_region 58 with (fail)
  replace A := A.set 23 (.int .i64 100) { c0 with pro := 100 } rfl
  clear hc hz m1
  generalize World.setCell _ _ _ = w5 at *
  have hk := A.conf
  go_wp2_with (first
    | (go_at_call 39; refine (told3_any _).mono ?_; rintro e w6 ⟨rfl, hg⟩; replace A := A.on hg; clear hg hk; have hk := A.conf)
    | (go_at_call 40; refine (wrongV_any _ edgeW_20_1 _).mono ?_; rintro e w6 ⟨rfl, hg⟩; replace A := A.on hg; clear hg hk; have hk := A.conf)
    | (go_at_call 41; refine (may_true_any _ edgeM_20_1 _).mono ?_; rintro e w6 ⟨rfl, hg⟩; replace A := A.on hg; clear hg hk; have hk := A.conf))
  go_ret
  exact ⟨rfl, g1.trans A.gr⟩

theorem edgeW_20_2 : wrongV { c0 with pro := 0 } = ⟨#[112, 114, 111, 98, 101]⟩ := by decide +kernel
theorem edgeM_20_2 : mayC { c0 with pro := 0 } = false := by decide +kernel
set_option maxHeartbeats 2000000 in
set_option maxRecDepth 100000 in
theorem edges_20_2 (a b1 : Int) (ha : IntKind.u64.wrap a % 22 = 20) (hb : IntKind.u64.wrap b1 % 4 = 2) (w : World) : Calls Try.prog 9 #[.int .i64 a, .int .i64 b1] w fun e w' => e = .returned (.bool true) ∧ Gr w w' := by
  have a0 := u64_nonneg a
  have b0 := u64_nonneg b1
  go_enter Try.func9, Try.ntmps9
  go_upto_region 1 with (fail)
  refine wp_region_lit ?_
  refine wpList_val (.slice (some ⟨w.heap.size, 0, none⟩) 22 22) (w.alloc (.cells namesA 9)) rfl (by kernel_rfl) ?_
  have g1 : Gr w (w.alloc (.cells namesA 9)) := (Gr.refl w).alloc _
  have n1 : (w.alloc (.cells namesA 9)).cell? ⟨w.heap.size, 20, none⟩ = some (.string ⟨#[112, 114, 111, 98, 101]⟩) := cell_in (heap_new rfl) rfl
  generalize w.alloc (.cells namesA 9) = x1 at *
  generalize w.heap.size = bn at *
  go_upto_region 2 with (fail)
  refine wp_region_lit ?_
  refine wpList_val (.slice (some ⟨x1.heap.size, 0, none⟩) 22 22) (x1.alloc (.cells leastA 2)) rfl (by kernel_rfl) ?_
  have g2 : Gr x1 (x1.alloc (.cells leastA 2)) := (Gr.refl x1).alloc _
  have n2 : (x1.alloc (.cells leastA 2)).cell? ⟨x1.heap.size, 20, none⟩ = some (.int .i64 1) := cell_in (heap_new rfl) rfl
  generalize x1.alloc (.cells leastA 2) = x2 at *
  generalize x1.heap.size = bl at *
  go_upto_region 3 with (fail)
  refine wp_region_lit ?_
  refine wpList_val (.slice (some ⟨x2.heap.size, 0, none⟩) 22 22) (x2.alloc (.cells mostA 2)) rfl (by kernel_rfl) ?_
  have g3 : Gr x2 (x2.alloc (.cells mostA 2)) := (Gr.refl x2).alloc _
  have n3 : (x2.alloc (.cells mostA 2)).cell? ⟨x2.heap.size, 20, none⟩ = some (.int .i64 100) := cell_in (heap_new rfl) rfl
  generalize x2.alloc (.cells mostA 2) = x3 at *
  generalize x2.heap.size = bm at *
  replace n1 := g3.cell_some (g2.cell_some n1)
  replace n2 := g3.cell_some n2
  replace g1 := (g1.trans g2).trans g3
  clear g2 g3
  go_upto_region 4 with (fail)
  refine wp_region_lit ?_
  refine wpList_enter 38 #[] _ rfl (by kernel_rfl) (default_any x3) fun w1 hg => ?_
  refine wpList_val (.pointer (some ⟨w1.heap.size, 0, none⟩)) (w1.alloc (.cells zero36 36)) rfl (xalloc36 ..) ?_
  refine wpList_skip' (w1.alloc (.cells #[.int .i64 dflt.n, .int .i64 dflt.f, .int .i64 dflt.m, .int .i64 dflt.q, .int .i64 dflt.fresh, .int .i64 dflt.grace, .int .i64 dflt.window, .int .i64 dflt.t0, .int .i64 dflt.t1, .int .i64 dflt.t2, .int .i64 dflt.t3, .int .i64 dflt.tol, .int .i64 dflt.lo, .int .i64 dflt.hi, .int .i64 dflt.cup, .int .i64 dflt.cdn, .int .i64 dflt.pup, .int .i64 dflt.tup, .int .i64 dflt.pdn, .int .i64 dflt.tdn, .int .i64 dflt.per, .int .i64 dflt.far, .int .i64 dflt.str, .int .i64 dflt.pro, .int .i64 dflt.sec, .int .u64 dflt.seed] 36)) rfl (xstore36_at rfl (by kernel_rfl) (by kernel_rfl) rfl rfl (by kernel_rfl)) ?_
  have A := start_at hg dflt
  generalize w1.alloc (.cells #[.int .i64 dflt.n, .int .i64 dflt.f, .int .i64 dflt.m, .int .i64 dflt.q, .int .i64 dflt.fresh, .int .i64 dflt.grace, .int .i64 dflt.window, .int .i64 dflt.t0, .int .i64 dflt.t1, .int .i64 dflt.t2, .int .i64 dflt.t3, .int .i64 dflt.tol, .int .i64 dflt.lo, .int .i64 dflt.hi, .int .i64 dflt.cup, .int .i64 dflt.cdn, .int .i64 dflt.pup, .int .i64 dflt.tup, .int .i64 dflt.pdn, .int .i64 dflt.tdn, .int .i64 dflt.per, .int .i64 dflt.far, .int .i64 dflt.str, .int .i64 dflt.pro, .int .i64 dflt.sec, .int .u64 dflt.seed] 36) = w2 at *
  generalize w1.heap.size = b at *
  clear hg
  have hc := A.cell
  have hz := A.froz
  go_upto_region 6 with (fail)
  replace A := ((((A.set 1 (.int .i64 0) { dflt with f := 0 } rfl).set 0 (.int .i64 4) { dflt with f := 0, n := 4 } rfl).set 3 (.int .i64 1) { dflt with f := 0, n := 4, q := 1 } rfl).set 13 (.int .i64 10000) c0 rfl)
  clear hc hz
  generalize World.setCell _ ⟨b, 13, none⟩ _ = w3 at *
  have m1 := A.gr.cell_some n1
  have m2 := A.gr.cell_some n2
  have m3 := A.gr.cell_some n3
  go_upto_region 7 with (fail)
  go_region
  generalize hw4 : World.drew (World.alloc w3 _) = w4
  replace A := A.on (show Gr w3 w4 by rw [← hw4]; exact ((Gr.refl w3).alloc _).drew)
  clear hw4 m1 m2 m3
  have m1 := A.gr.cell_some n1
  have hc := A.cell
  have hz := A.froz
  go_upto_region 58 with (fail)
  replace A := A.set 23 (.int .i64 0) { c0 with pro := 0 } rfl
  clear hc hz m1
  generalize World.setCell _ _ _ = w5 at *
  have hk := A.conf
  go_wp2_with (first
    | (go_at_call 39; refine (told3_any _).mono ?_; rintro e w6 ⟨rfl, hg⟩; replace A := A.on hg; clear hg hk; have hk := A.conf)
    | (go_at_call 40; refine (wrongV_any _ edgeW_20_2 _).mono ?_; rintro e w6 ⟨rfl, hg⟩; replace A := A.on hg; clear hg hk; have hk := A.conf)
    | (go_at_call 41; refine (may_true_any _ edgeM_20_2 _).mono ?_; rintro e w6 ⟨rfl, hg⟩; replace A := A.on hg; clear hg hk; have hk := A.conf))
  go_ret
  exact ⟨rfl, g1.trans A.gr⟩

theorem edgeW_20_3 : wrongV { c0 with pro := 101 } = ⟨#[112, 114, 111, 98, 101]⟩ := by decide +kernel
theorem edgeM_20_3 : mayC { c0 with pro := 101 } = false := by decide +kernel
set_option maxHeartbeats 2000000 in
set_option maxRecDepth 100000 in
theorem edges_20_3 (a b1 : Int) (ha : IntKind.u64.wrap a % 22 = 20) (hb : IntKind.u64.wrap b1 % 4 = 3) (w : World) : Calls Try.prog 9 #[.int .i64 a, .int .i64 b1] w fun e w' => e = .returned (.bool true) ∧ Gr w w' := by
  have a0 := u64_nonneg a
  have b0 := u64_nonneg b1
  go_enter Try.func9, Try.ntmps9
  go_upto_region 1 with (fail)
  refine wp_region_lit ?_
  refine wpList_val (.slice (some ⟨w.heap.size, 0, none⟩) 22 22) (w.alloc (.cells namesA 9)) rfl (by kernel_rfl) ?_
  have g1 : Gr w (w.alloc (.cells namesA 9)) := (Gr.refl w).alloc _
  have n1 : (w.alloc (.cells namesA 9)).cell? ⟨w.heap.size, 20, none⟩ = some (.string ⟨#[112, 114, 111, 98, 101]⟩) := cell_in (heap_new rfl) rfl
  generalize w.alloc (.cells namesA 9) = x1 at *
  generalize w.heap.size = bn at *
  go_upto_region 2 with (fail)
  refine wp_region_lit ?_
  refine wpList_val (.slice (some ⟨x1.heap.size, 0, none⟩) 22 22) (x1.alloc (.cells leastA 2)) rfl (by kernel_rfl) ?_
  have g2 : Gr x1 (x1.alloc (.cells leastA 2)) := (Gr.refl x1).alloc _
  have n2 : (x1.alloc (.cells leastA 2)).cell? ⟨x1.heap.size, 20, none⟩ = some (.int .i64 1) := cell_in (heap_new rfl) rfl
  generalize x1.alloc (.cells leastA 2) = x2 at *
  generalize x1.heap.size = bl at *
  go_upto_region 3 with (fail)
  refine wp_region_lit ?_
  refine wpList_val (.slice (some ⟨x2.heap.size, 0, none⟩) 22 22) (x2.alloc (.cells mostA 2)) rfl (by kernel_rfl) ?_
  have g3 : Gr x2 (x2.alloc (.cells mostA 2)) := (Gr.refl x2).alloc _
  have n3 : (x2.alloc (.cells mostA 2)).cell? ⟨x2.heap.size, 20, none⟩ = some (.int .i64 100) := cell_in (heap_new rfl) rfl
  generalize x2.alloc (.cells mostA 2) = x3 at *
  generalize x2.heap.size = bm at *
  replace n1 := g3.cell_some (g2.cell_some n1)
  replace n2 := g3.cell_some n2
  replace g1 := (g1.trans g2).trans g3
  clear g2 g3
  go_upto_region 4 with (fail)
  refine wp_region_lit ?_
  refine wpList_enter 38 #[] _ rfl (by kernel_rfl) (default_any x3) fun w1 hg => ?_
  refine wpList_val (.pointer (some ⟨w1.heap.size, 0, none⟩)) (w1.alloc (.cells zero36 36)) rfl (xalloc36 ..) ?_
  refine wpList_skip' (w1.alloc (.cells #[.int .i64 dflt.n, .int .i64 dflt.f, .int .i64 dflt.m, .int .i64 dflt.q, .int .i64 dflt.fresh, .int .i64 dflt.grace, .int .i64 dflt.window, .int .i64 dflt.t0, .int .i64 dflt.t1, .int .i64 dflt.t2, .int .i64 dflt.t3, .int .i64 dflt.tol, .int .i64 dflt.lo, .int .i64 dflt.hi, .int .i64 dflt.cup, .int .i64 dflt.cdn, .int .i64 dflt.pup, .int .i64 dflt.tup, .int .i64 dflt.pdn, .int .i64 dflt.tdn, .int .i64 dflt.per, .int .i64 dflt.far, .int .i64 dflt.str, .int .i64 dflt.pro, .int .i64 dflt.sec, .int .u64 dflt.seed] 36)) rfl (xstore36_at rfl (by kernel_rfl) (by kernel_rfl) rfl rfl (by kernel_rfl)) ?_
  have A := start_at hg dflt
  generalize w1.alloc (.cells #[.int .i64 dflt.n, .int .i64 dflt.f, .int .i64 dflt.m, .int .i64 dflt.q, .int .i64 dflt.fresh, .int .i64 dflt.grace, .int .i64 dflt.window, .int .i64 dflt.t0, .int .i64 dflt.t1, .int .i64 dflt.t2, .int .i64 dflt.t3, .int .i64 dflt.tol, .int .i64 dflt.lo, .int .i64 dflt.hi, .int .i64 dflt.cup, .int .i64 dflt.cdn, .int .i64 dflt.pup, .int .i64 dflt.tup, .int .i64 dflt.pdn, .int .i64 dflt.tdn, .int .i64 dflt.per, .int .i64 dflt.far, .int .i64 dflt.str, .int .i64 dflt.pro, .int .i64 dflt.sec, .int .u64 dflt.seed] 36) = w2 at *
  generalize w1.heap.size = b at *
  clear hg
  have hc := A.cell
  have hz := A.froz
  go_upto_region 6 with (fail)
  replace A := ((((A.set 1 (.int .i64 0) { dflt with f := 0 } rfl).set 0 (.int .i64 4) { dflt with f := 0, n := 4 } rfl).set 3 (.int .i64 1) { dflt with f := 0, n := 4, q := 1 } rfl).set 13 (.int .i64 10000) c0 rfl)
  clear hc hz
  generalize World.setCell _ ⟨b, 13, none⟩ _ = w3 at *
  have m1 := A.gr.cell_some n1
  have m2 := A.gr.cell_some n2
  have m3 := A.gr.cell_some n3
  go_upto_region 7 with (fail)
  go_region
  generalize hw4 : World.drew (World.alloc w3 _) = w4
  replace A := A.on (show Gr w3 w4 by rw [← hw4]; exact ((Gr.refl w3).alloc _).drew)
  clear hw4 m1 m2 m3
  have m1 := A.gr.cell_some n1
  have hc := A.cell
  have hz := A.froz
  go_upto_region 58 with (fail)
  replace A := A.set 23 (.int .i64 101) { c0 with pro := 101 } rfl
  clear hc hz m1
  generalize World.setCell _ _ _ = w5 at *
  have hk := A.conf
  go_wp2_with (first
    | (go_at_call 39; refine (told3_any _).mono ?_; rintro e w6 ⟨rfl, hg⟩; replace A := A.on hg; clear hg hk; have hk := A.conf)
    | (go_at_call 40; refine (wrongV_any _ edgeW_20_3 _).mono ?_; rintro e w6 ⟨rfl, hg⟩; replace A := A.on hg; clear hg hk; have hk := A.conf)
    | (go_at_call 41; refine (may_true_any _ edgeM_20_3 _).mono ?_; rintro e w6 ⟨rfl, hg⟩; replace A := A.on hg; clear hg hk; have hk := A.conf))
  go_ret
  exact ⟨rfl, g1.trans A.gr⟩

theorem edgeW_21_0 : wrongV { c0 with sec := 64 } = ⟨#[]⟩ := by decide +kernel
theorem edgeM_21_0 : mayC { c0 with sec := 64 } = true := by decide +kernel
set_option maxHeartbeats 2000000 in
set_option maxRecDepth 100000 in
theorem edges_21_0 (a b1 : Int) (ha : IntKind.u64.wrap a % 22 = 21) (hb : IntKind.u64.wrap b1 % 4 = 0) (w : World) : Calls Try.prog 9 #[.int .i64 a, .int .i64 b1] w fun e w' => e = .returned (.bool true) ∧ Gr w w' := by
  have a0 := u64_nonneg a
  have b0 := u64_nonneg b1
  go_enter Try.func9, Try.ntmps9
  go_upto_region 1 with (fail)
  refine wp_region_lit ?_
  refine wpList_val (.slice (some ⟨w.heap.size, 0, none⟩) 22 22) (w.alloc (.cells namesA 9)) rfl (by kernel_rfl) ?_
  have g1 : Gr w (w.alloc (.cells namesA 9)) := (Gr.refl w).alloc _
  have n1 : (w.alloc (.cells namesA 9)).cell? ⟨w.heap.size, 21, none⟩ = some (.string ⟨#[115, 101, 99, 116, 111, 114, 115]⟩) := cell_in (heap_new rfl) rfl
  generalize w.alloc (.cells namesA 9) = x1 at *
  generalize w.heap.size = bn at *
  go_upto_region 2 with (fail)
  refine wp_region_lit ?_
  refine wpList_val (.slice (some ⟨x1.heap.size, 0, none⟩) 22 22) (x1.alloc (.cells leastA 2)) rfl (by kernel_rfl) ?_
  have g2 : Gr x1 (x1.alloc (.cells leastA 2)) := (Gr.refl x1).alloc _
  have n2 : (x1.alloc (.cells leastA 2)).cell? ⟨x1.heap.size, 21, none⟩ = some (.int .i64 64) := cell_in (heap_new rfl) rfl
  generalize x1.alloc (.cells leastA 2) = x2 at *
  generalize x1.heap.size = bl at *
  go_upto_region 3 with (fail)
  refine wp_region_lit ?_
  refine wpList_val (.slice (some ⟨x2.heap.size, 0, none⟩) 22 22) (x2.alloc (.cells mostA 2)) rfl (by kernel_rfl) ?_
  have g3 : Gr x2 (x2.alloc (.cells mostA 2)) := (Gr.refl x2).alloc _
  have n3 : (x2.alloc (.cells mostA 2)).cell? ⟨x2.heap.size, 21, none⟩ = some (.int .i64 4096) := cell_in (heap_new rfl) rfl
  generalize x2.alloc (.cells mostA 2) = x3 at *
  generalize x2.heap.size = bm at *
  replace n1 := g3.cell_some (g2.cell_some n1)
  replace n2 := g3.cell_some n2
  replace g1 := (g1.trans g2).trans g3
  clear g2 g3
  go_upto_region 4 with (fail)
  refine wp_region_lit ?_
  refine wpList_enter 38 #[] _ rfl (by kernel_rfl) (default_any x3) fun w1 hg => ?_
  refine wpList_val (.pointer (some ⟨w1.heap.size, 0, none⟩)) (w1.alloc (.cells zero36 36)) rfl (xalloc36 ..) ?_
  refine wpList_skip' (w1.alloc (.cells #[.int .i64 dflt.n, .int .i64 dflt.f, .int .i64 dflt.m, .int .i64 dflt.q, .int .i64 dflt.fresh, .int .i64 dflt.grace, .int .i64 dflt.window, .int .i64 dflt.t0, .int .i64 dflt.t1, .int .i64 dflt.t2, .int .i64 dflt.t3, .int .i64 dflt.tol, .int .i64 dflt.lo, .int .i64 dflt.hi, .int .i64 dflt.cup, .int .i64 dflt.cdn, .int .i64 dflt.pup, .int .i64 dflt.tup, .int .i64 dflt.pdn, .int .i64 dflt.tdn, .int .i64 dflt.per, .int .i64 dflt.far, .int .i64 dflt.str, .int .i64 dflt.pro, .int .i64 dflt.sec, .int .u64 dflt.seed] 36)) rfl (xstore36_at rfl (by kernel_rfl) (by kernel_rfl) rfl rfl (by kernel_rfl)) ?_
  have A := start_at hg dflt
  generalize w1.alloc (.cells #[.int .i64 dflt.n, .int .i64 dflt.f, .int .i64 dflt.m, .int .i64 dflt.q, .int .i64 dflt.fresh, .int .i64 dflt.grace, .int .i64 dflt.window, .int .i64 dflt.t0, .int .i64 dflt.t1, .int .i64 dflt.t2, .int .i64 dflt.t3, .int .i64 dflt.tol, .int .i64 dflt.lo, .int .i64 dflt.hi, .int .i64 dflt.cup, .int .i64 dflt.cdn, .int .i64 dflt.pup, .int .i64 dflt.tup, .int .i64 dflt.pdn, .int .i64 dflt.tdn, .int .i64 dflt.per, .int .i64 dflt.far, .int .i64 dflt.str, .int .i64 dflt.pro, .int .i64 dflt.sec, .int .u64 dflt.seed] 36) = w2 at *
  generalize w1.heap.size = b at *
  clear hg
  have hc := A.cell
  have hz := A.froz
  go_upto_region 6 with (fail)
  replace A := ((((A.set 1 (.int .i64 0) { dflt with f := 0 } rfl).set 0 (.int .i64 4) { dflt with f := 0, n := 4 } rfl).set 3 (.int .i64 1) { dflt with f := 0, n := 4, q := 1 } rfl).set 13 (.int .i64 10000) c0 rfl)
  clear hc hz
  generalize World.setCell _ ⟨b, 13, none⟩ _ = w3 at *
  have m1 := A.gr.cell_some n1
  have m2 := A.gr.cell_some n2
  have m3 := A.gr.cell_some n3
  go_upto_region 7 with (fail)
  go_region
  generalize hw4 : World.drew (World.alloc w3 _) = w4
  replace A := A.on (show Gr w3 w4 by rw [← hw4]; exact ((Gr.refl w3).alloc _).drew)
  clear hw4 m1 m2 m3
  have m1 := A.gr.cell_some n1
  have hc := A.cell
  have hz := A.froz
  go_upto_region 58 with (fail)
  replace A := A.set 24 (.int .i64 64) { c0 with sec := 64 } rfl
  clear hc hz m1
  generalize World.setCell _ _ _ = w5 at *
  have hk := A.conf
  go_wp2_with (first
    | (go_at_call 39; refine (told3_any _).mono ?_; rintro e w6 ⟨rfl, hg⟩; replace A := A.on hg; clear hg hk; have hk := A.conf)
    | (go_at_call 40; refine (wrongV_any _ edgeW_21_0 _).mono ?_; rintro e w6 ⟨rfl, hg⟩; replace A := A.on hg; clear hg hk; have hk := A.conf)
    | (go_at_call 41; refine (may_true_any _ edgeM_21_0 _).mono ?_; rintro e w6 ⟨rfl, hg⟩; replace A := A.on hg; clear hg hk; have hk := A.conf))
  go_ret
  exact ⟨rfl, g1.trans A.gr⟩

theorem edgeW_21_1 : wrongV { c0 with sec := 4096 } = ⟨#[]⟩ := by decide +kernel
theorem edgeM_21_1 : mayC { c0 with sec := 4096 } = true := by decide +kernel
set_option maxHeartbeats 2000000 in
set_option maxRecDepth 100000 in
theorem edges_21_1 (a b1 : Int) (ha : IntKind.u64.wrap a % 22 = 21) (hb : IntKind.u64.wrap b1 % 4 = 1) (w : World) : Calls Try.prog 9 #[.int .i64 a, .int .i64 b1] w fun e w' => e = .returned (.bool true) ∧ Gr w w' := by
  have a0 := u64_nonneg a
  have b0 := u64_nonneg b1
  go_enter Try.func9, Try.ntmps9
  go_upto_region 1 with (fail)
  refine wp_region_lit ?_
  refine wpList_val (.slice (some ⟨w.heap.size, 0, none⟩) 22 22) (w.alloc (.cells namesA 9)) rfl (by kernel_rfl) ?_
  have g1 : Gr w (w.alloc (.cells namesA 9)) := (Gr.refl w).alloc _
  have n1 : (w.alloc (.cells namesA 9)).cell? ⟨w.heap.size, 21, none⟩ = some (.string ⟨#[115, 101, 99, 116, 111, 114, 115]⟩) := cell_in (heap_new rfl) rfl
  generalize w.alloc (.cells namesA 9) = x1 at *
  generalize w.heap.size = bn at *
  go_upto_region 2 with (fail)
  refine wp_region_lit ?_
  refine wpList_val (.slice (some ⟨x1.heap.size, 0, none⟩) 22 22) (x1.alloc (.cells leastA 2)) rfl (by kernel_rfl) ?_
  have g2 : Gr x1 (x1.alloc (.cells leastA 2)) := (Gr.refl x1).alloc _
  have n2 : (x1.alloc (.cells leastA 2)).cell? ⟨x1.heap.size, 21, none⟩ = some (.int .i64 64) := cell_in (heap_new rfl) rfl
  generalize x1.alloc (.cells leastA 2) = x2 at *
  generalize x1.heap.size = bl at *
  go_upto_region 3 with (fail)
  refine wp_region_lit ?_
  refine wpList_val (.slice (some ⟨x2.heap.size, 0, none⟩) 22 22) (x2.alloc (.cells mostA 2)) rfl (by kernel_rfl) ?_
  have g3 : Gr x2 (x2.alloc (.cells mostA 2)) := (Gr.refl x2).alloc _
  have n3 : (x2.alloc (.cells mostA 2)).cell? ⟨x2.heap.size, 21, none⟩ = some (.int .i64 4096) := cell_in (heap_new rfl) rfl
  generalize x2.alloc (.cells mostA 2) = x3 at *
  generalize x2.heap.size = bm at *
  replace n1 := g3.cell_some (g2.cell_some n1)
  replace n2 := g3.cell_some n2
  replace g1 := (g1.trans g2).trans g3
  clear g2 g3
  go_upto_region 4 with (fail)
  refine wp_region_lit ?_
  refine wpList_enter 38 #[] _ rfl (by kernel_rfl) (default_any x3) fun w1 hg => ?_
  refine wpList_val (.pointer (some ⟨w1.heap.size, 0, none⟩)) (w1.alloc (.cells zero36 36)) rfl (xalloc36 ..) ?_
  refine wpList_skip' (w1.alloc (.cells #[.int .i64 dflt.n, .int .i64 dflt.f, .int .i64 dflt.m, .int .i64 dflt.q, .int .i64 dflt.fresh, .int .i64 dflt.grace, .int .i64 dflt.window, .int .i64 dflt.t0, .int .i64 dflt.t1, .int .i64 dflt.t2, .int .i64 dflt.t3, .int .i64 dflt.tol, .int .i64 dflt.lo, .int .i64 dflt.hi, .int .i64 dflt.cup, .int .i64 dflt.cdn, .int .i64 dflt.pup, .int .i64 dflt.tup, .int .i64 dflt.pdn, .int .i64 dflt.tdn, .int .i64 dflt.per, .int .i64 dflt.far, .int .i64 dflt.str, .int .i64 dflt.pro, .int .i64 dflt.sec, .int .u64 dflt.seed] 36)) rfl (xstore36_at rfl (by kernel_rfl) (by kernel_rfl) rfl rfl (by kernel_rfl)) ?_
  have A := start_at hg dflt
  generalize w1.alloc (.cells #[.int .i64 dflt.n, .int .i64 dflt.f, .int .i64 dflt.m, .int .i64 dflt.q, .int .i64 dflt.fresh, .int .i64 dflt.grace, .int .i64 dflt.window, .int .i64 dflt.t0, .int .i64 dflt.t1, .int .i64 dflt.t2, .int .i64 dflt.t3, .int .i64 dflt.tol, .int .i64 dflt.lo, .int .i64 dflt.hi, .int .i64 dflt.cup, .int .i64 dflt.cdn, .int .i64 dflt.pup, .int .i64 dflt.tup, .int .i64 dflt.pdn, .int .i64 dflt.tdn, .int .i64 dflt.per, .int .i64 dflt.far, .int .i64 dflt.str, .int .i64 dflt.pro, .int .i64 dflt.sec, .int .u64 dflt.seed] 36) = w2 at *
  generalize w1.heap.size = b at *
  clear hg
  have hc := A.cell
  have hz := A.froz
  go_upto_region 6 with (fail)
  replace A := ((((A.set 1 (.int .i64 0) { dflt with f := 0 } rfl).set 0 (.int .i64 4) { dflt with f := 0, n := 4 } rfl).set 3 (.int .i64 1) { dflt with f := 0, n := 4, q := 1 } rfl).set 13 (.int .i64 10000) c0 rfl)
  clear hc hz
  generalize World.setCell _ ⟨b, 13, none⟩ _ = w3 at *
  have m1 := A.gr.cell_some n1
  have m2 := A.gr.cell_some n2
  have m3 := A.gr.cell_some n3
  go_upto_region 7 with (fail)
  go_region
  generalize hw4 : World.drew (World.alloc w3 _) = w4
  replace A := A.on (show Gr w3 w4 by rw [← hw4]; exact ((Gr.refl w3).alloc _).drew)
  clear hw4 m1 m2 m3
  have m1 := A.gr.cell_some n1
  have hc := A.cell
  have hz := A.froz
  go_upto_region 58 with (fail)
  replace A := A.set 24 (.int .i64 4096) { c0 with sec := 4096 } rfl
  clear hc hz m1
  generalize World.setCell _ _ _ = w5 at *
  have hk := A.conf
  go_wp2_with (first
    | (go_at_call 39; refine (told3_any _).mono ?_; rintro e w6 ⟨rfl, hg⟩; replace A := A.on hg; clear hg hk; have hk := A.conf)
    | (go_at_call 40; refine (wrongV_any _ edgeW_21_1 _).mono ?_; rintro e w6 ⟨rfl, hg⟩; replace A := A.on hg; clear hg hk; have hk := A.conf)
    | (go_at_call 41; refine (may_true_any _ edgeM_21_1 _).mono ?_; rintro e w6 ⟨rfl, hg⟩; replace A := A.on hg; clear hg hk; have hk := A.conf))
  go_ret
  exact ⟨rfl, g1.trans A.gr⟩

theorem edgeW_21_2 : wrongV { c0 with sec := 63 } = ⟨#[115, 101, 99, 116, 111, 114, 115]⟩ := by decide +kernel
theorem edgeM_21_2 : mayC { c0 with sec := 63 } = false := by decide +kernel
set_option maxHeartbeats 2000000 in
set_option maxRecDepth 100000 in
theorem edges_21_2 (a b1 : Int) (ha : IntKind.u64.wrap a % 22 = 21) (hb : IntKind.u64.wrap b1 % 4 = 2) (w : World) : Calls Try.prog 9 #[.int .i64 a, .int .i64 b1] w fun e w' => e = .returned (.bool true) ∧ Gr w w' := by
  have a0 := u64_nonneg a
  have b0 := u64_nonneg b1
  go_enter Try.func9, Try.ntmps9
  go_upto_region 1 with (fail)
  refine wp_region_lit ?_
  refine wpList_val (.slice (some ⟨w.heap.size, 0, none⟩) 22 22) (w.alloc (.cells namesA 9)) rfl (by kernel_rfl) ?_
  have g1 : Gr w (w.alloc (.cells namesA 9)) := (Gr.refl w).alloc _
  have n1 : (w.alloc (.cells namesA 9)).cell? ⟨w.heap.size, 21, none⟩ = some (.string ⟨#[115, 101, 99, 116, 111, 114, 115]⟩) := cell_in (heap_new rfl) rfl
  generalize w.alloc (.cells namesA 9) = x1 at *
  generalize w.heap.size = bn at *
  go_upto_region 2 with (fail)
  refine wp_region_lit ?_
  refine wpList_val (.slice (some ⟨x1.heap.size, 0, none⟩) 22 22) (x1.alloc (.cells leastA 2)) rfl (by kernel_rfl) ?_
  have g2 : Gr x1 (x1.alloc (.cells leastA 2)) := (Gr.refl x1).alloc _
  have n2 : (x1.alloc (.cells leastA 2)).cell? ⟨x1.heap.size, 21, none⟩ = some (.int .i64 64) := cell_in (heap_new rfl) rfl
  generalize x1.alloc (.cells leastA 2) = x2 at *
  generalize x1.heap.size = bl at *
  go_upto_region 3 with (fail)
  refine wp_region_lit ?_
  refine wpList_val (.slice (some ⟨x2.heap.size, 0, none⟩) 22 22) (x2.alloc (.cells mostA 2)) rfl (by kernel_rfl) ?_
  have g3 : Gr x2 (x2.alloc (.cells mostA 2)) := (Gr.refl x2).alloc _
  have n3 : (x2.alloc (.cells mostA 2)).cell? ⟨x2.heap.size, 21, none⟩ = some (.int .i64 4096) := cell_in (heap_new rfl) rfl
  generalize x2.alloc (.cells mostA 2) = x3 at *
  generalize x2.heap.size = bm at *
  replace n1 := g3.cell_some (g2.cell_some n1)
  replace n2 := g3.cell_some n2
  replace g1 := (g1.trans g2).trans g3
  clear g2 g3
  go_upto_region 4 with (fail)
  refine wp_region_lit ?_
  refine wpList_enter 38 #[] _ rfl (by kernel_rfl) (default_any x3) fun w1 hg => ?_
  refine wpList_val (.pointer (some ⟨w1.heap.size, 0, none⟩)) (w1.alloc (.cells zero36 36)) rfl (xalloc36 ..) ?_
  refine wpList_skip' (w1.alloc (.cells #[.int .i64 dflt.n, .int .i64 dflt.f, .int .i64 dflt.m, .int .i64 dflt.q, .int .i64 dflt.fresh, .int .i64 dflt.grace, .int .i64 dflt.window, .int .i64 dflt.t0, .int .i64 dflt.t1, .int .i64 dflt.t2, .int .i64 dflt.t3, .int .i64 dflt.tol, .int .i64 dflt.lo, .int .i64 dflt.hi, .int .i64 dflt.cup, .int .i64 dflt.cdn, .int .i64 dflt.pup, .int .i64 dflt.tup, .int .i64 dflt.pdn, .int .i64 dflt.tdn, .int .i64 dflt.per, .int .i64 dflt.far, .int .i64 dflt.str, .int .i64 dflt.pro, .int .i64 dflt.sec, .int .u64 dflt.seed] 36)) rfl (xstore36_at rfl (by kernel_rfl) (by kernel_rfl) rfl rfl (by kernel_rfl)) ?_
  have A := start_at hg dflt
  generalize w1.alloc (.cells #[.int .i64 dflt.n, .int .i64 dflt.f, .int .i64 dflt.m, .int .i64 dflt.q, .int .i64 dflt.fresh, .int .i64 dflt.grace, .int .i64 dflt.window, .int .i64 dflt.t0, .int .i64 dflt.t1, .int .i64 dflt.t2, .int .i64 dflt.t3, .int .i64 dflt.tol, .int .i64 dflt.lo, .int .i64 dflt.hi, .int .i64 dflt.cup, .int .i64 dflt.cdn, .int .i64 dflt.pup, .int .i64 dflt.tup, .int .i64 dflt.pdn, .int .i64 dflt.tdn, .int .i64 dflt.per, .int .i64 dflt.far, .int .i64 dflt.str, .int .i64 dflt.pro, .int .i64 dflt.sec, .int .u64 dflt.seed] 36) = w2 at *
  generalize w1.heap.size = b at *
  clear hg
  have hc := A.cell
  have hz := A.froz
  go_upto_region 6 with (fail)
  replace A := ((((A.set 1 (.int .i64 0) { dflt with f := 0 } rfl).set 0 (.int .i64 4) { dflt with f := 0, n := 4 } rfl).set 3 (.int .i64 1) { dflt with f := 0, n := 4, q := 1 } rfl).set 13 (.int .i64 10000) c0 rfl)
  clear hc hz
  generalize World.setCell _ ⟨b, 13, none⟩ _ = w3 at *
  have m1 := A.gr.cell_some n1
  have m2 := A.gr.cell_some n2
  have m3 := A.gr.cell_some n3
  go_upto_region 7 with (fail)
  go_region
  generalize hw4 : World.drew (World.alloc w3 _) = w4
  replace A := A.on (show Gr w3 w4 by rw [← hw4]; exact ((Gr.refl w3).alloc _).drew)
  clear hw4 m1 m2 m3
  have m1 := A.gr.cell_some n1
  have hc := A.cell
  have hz := A.froz
  go_upto_region 58 with (fail)
  replace A := A.set 24 (.int .i64 63) { c0 with sec := 63 } rfl
  clear hc hz m1
  generalize World.setCell _ _ _ = w5 at *
  have hk := A.conf
  go_wp2_with (first
    | (go_at_call 39; refine (told3_any _).mono ?_; rintro e w6 ⟨rfl, hg⟩; replace A := A.on hg; clear hg hk; have hk := A.conf)
    | (go_at_call 40; refine (wrongV_any _ edgeW_21_2 _).mono ?_; rintro e w6 ⟨rfl, hg⟩; replace A := A.on hg; clear hg hk; have hk := A.conf)
    | (go_at_call 41; refine (may_true_any _ edgeM_21_2 _).mono ?_; rintro e w6 ⟨rfl, hg⟩; replace A := A.on hg; clear hg hk; have hk := A.conf))
  go_ret
  exact ⟨rfl, g1.trans A.gr⟩

theorem edgeW_21_3 : wrongV { c0 with sec := 4097 } = ⟨#[115, 101, 99, 116, 111, 114, 115]⟩ := by decide +kernel
theorem edgeM_21_3 : mayC { c0 with sec := 4097 } = false := by decide +kernel
set_option maxHeartbeats 2000000 in
set_option maxRecDepth 100000 in
theorem edges_21_3 (a b1 : Int) (ha : IntKind.u64.wrap a % 22 = 21) (hb : IntKind.u64.wrap b1 % 4 = 3) (w : World) : Calls Try.prog 9 #[.int .i64 a, .int .i64 b1] w fun e w' => e = .returned (.bool true) ∧ Gr w w' := by
  have a0 := u64_nonneg a
  have b0 := u64_nonneg b1
  go_enter Try.func9, Try.ntmps9
  go_upto_region 1 with (fail)
  refine wp_region_lit ?_
  refine wpList_val (.slice (some ⟨w.heap.size, 0, none⟩) 22 22) (w.alloc (.cells namesA 9)) rfl (by kernel_rfl) ?_
  have g1 : Gr w (w.alloc (.cells namesA 9)) := (Gr.refl w).alloc _
  have n1 : (w.alloc (.cells namesA 9)).cell? ⟨w.heap.size, 21, none⟩ = some (.string ⟨#[115, 101, 99, 116, 111, 114, 115]⟩) := cell_in (heap_new rfl) rfl
  generalize w.alloc (.cells namesA 9) = x1 at *
  generalize w.heap.size = bn at *
  go_upto_region 2 with (fail)
  refine wp_region_lit ?_
  refine wpList_val (.slice (some ⟨x1.heap.size, 0, none⟩) 22 22) (x1.alloc (.cells leastA 2)) rfl (by kernel_rfl) ?_
  have g2 : Gr x1 (x1.alloc (.cells leastA 2)) := (Gr.refl x1).alloc _
  have n2 : (x1.alloc (.cells leastA 2)).cell? ⟨x1.heap.size, 21, none⟩ = some (.int .i64 64) := cell_in (heap_new rfl) rfl
  generalize x1.alloc (.cells leastA 2) = x2 at *
  generalize x1.heap.size = bl at *
  go_upto_region 3 with (fail)
  refine wp_region_lit ?_
  refine wpList_val (.slice (some ⟨x2.heap.size, 0, none⟩) 22 22) (x2.alloc (.cells mostA 2)) rfl (by kernel_rfl) ?_
  have g3 : Gr x2 (x2.alloc (.cells mostA 2)) := (Gr.refl x2).alloc _
  have n3 : (x2.alloc (.cells mostA 2)).cell? ⟨x2.heap.size, 21, none⟩ = some (.int .i64 4096) := cell_in (heap_new rfl) rfl
  generalize x2.alloc (.cells mostA 2) = x3 at *
  generalize x2.heap.size = bm at *
  replace n1 := g3.cell_some (g2.cell_some n1)
  replace n2 := g3.cell_some n2
  replace g1 := (g1.trans g2).trans g3
  clear g2 g3
  go_upto_region 4 with (fail)
  refine wp_region_lit ?_
  refine wpList_enter 38 #[] _ rfl (by kernel_rfl) (default_any x3) fun w1 hg => ?_
  refine wpList_val (.pointer (some ⟨w1.heap.size, 0, none⟩)) (w1.alloc (.cells zero36 36)) rfl (xalloc36 ..) ?_
  refine wpList_skip' (w1.alloc (.cells #[.int .i64 dflt.n, .int .i64 dflt.f, .int .i64 dflt.m, .int .i64 dflt.q, .int .i64 dflt.fresh, .int .i64 dflt.grace, .int .i64 dflt.window, .int .i64 dflt.t0, .int .i64 dflt.t1, .int .i64 dflt.t2, .int .i64 dflt.t3, .int .i64 dflt.tol, .int .i64 dflt.lo, .int .i64 dflt.hi, .int .i64 dflt.cup, .int .i64 dflt.cdn, .int .i64 dflt.pup, .int .i64 dflt.tup, .int .i64 dflt.pdn, .int .i64 dflt.tdn, .int .i64 dflt.per, .int .i64 dflt.far, .int .i64 dflt.str, .int .i64 dflt.pro, .int .i64 dflt.sec, .int .u64 dflt.seed] 36)) rfl (xstore36_at rfl (by kernel_rfl) (by kernel_rfl) rfl rfl (by kernel_rfl)) ?_
  have A := start_at hg dflt
  generalize w1.alloc (.cells #[.int .i64 dflt.n, .int .i64 dflt.f, .int .i64 dflt.m, .int .i64 dflt.q, .int .i64 dflt.fresh, .int .i64 dflt.grace, .int .i64 dflt.window, .int .i64 dflt.t0, .int .i64 dflt.t1, .int .i64 dflt.t2, .int .i64 dflt.t3, .int .i64 dflt.tol, .int .i64 dflt.lo, .int .i64 dflt.hi, .int .i64 dflt.cup, .int .i64 dflt.cdn, .int .i64 dflt.pup, .int .i64 dflt.tup, .int .i64 dflt.pdn, .int .i64 dflt.tdn, .int .i64 dflt.per, .int .i64 dflt.far, .int .i64 dflt.str, .int .i64 dflt.pro, .int .i64 dflt.sec, .int .u64 dflt.seed] 36) = w2 at *
  generalize w1.heap.size = b at *
  clear hg
  have hc := A.cell
  have hz := A.froz
  go_upto_region 6 with (fail)
  replace A := ((((A.set 1 (.int .i64 0) { dflt with f := 0 } rfl).set 0 (.int .i64 4) { dflt with f := 0, n := 4 } rfl).set 3 (.int .i64 1) { dflt with f := 0, n := 4, q := 1 } rfl).set 13 (.int .i64 10000) c0 rfl)
  clear hc hz
  generalize World.setCell _ ⟨b, 13, none⟩ _ = w3 at *
  have m1 := A.gr.cell_some n1
  have m2 := A.gr.cell_some n2
  have m3 := A.gr.cell_some n3
  go_upto_region 7 with (fail)
  go_region
  generalize hw4 : World.drew (World.alloc w3 _) = w4
  replace A := A.on (show Gr w3 w4 by rw [← hw4]; exact ((Gr.refl w3).alloc _).drew)
  clear hw4 m1 m2 m3
  have m1 := A.gr.cell_some n1
  have hc := A.cell
  have hz := A.froz
  go_upto_region 58 with (fail)
  replace A := A.set 24 (.int .i64 4097) { c0 with sec := 4097 } rfl
  clear hc hz m1
  generalize World.setCell _ _ _ = w5 at *
  have hk := A.conf
  go_wp2_with (first
    | (go_at_call 39; refine (told3_any _).mono ?_; rintro e w6 ⟨rfl, hg⟩; replace A := A.on hg; clear hg hk; have hk := A.conf)
    | (go_at_call 40; refine (wrongV_any _ edgeW_21_3 _).mono ?_; rintro e w6 ⟨rfl, hg⟩; replace A := A.on hg; clear hg hk; have hk := A.conf)
    | (go_at_call 41; refine (may_true_any _ edgeM_21_3 _).mono ?_; rintro e w6 ⟨rfl, hg⟩; replace A := A.on hg; clear hg hk; have hk := A.conf))
  go_ret
  exact ⟨rfl, g1.trans A.gr⟩

end Go.Proofs.Ytjobicffdcnnlaa
