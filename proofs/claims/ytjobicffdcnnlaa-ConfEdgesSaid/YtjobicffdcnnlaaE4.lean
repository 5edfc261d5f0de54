import Derived.Test.YtjobicffdcnnlaaE
import Derived.Deep.WholeRow
namespace Go.Proofs.Ytjobicffdcnnlaa
open Go.RowKit
set_option linter.unusedSimpArgs false
set_option linter.unusedVariables false

theorem edgeW_16_0 : wrongV { c0 with tdn := 1 } = ⟨#[]⟩ := by decide +kernel
theorem edgeM_16_0 : mayC { c0 with tdn := 1 } = true := by decide +kernel
set_option maxHeartbeats 2000000 in
set_option maxRecDepth 100000 in
theorem edges_16_0 (a b1 : Int) (ha : IntKind.u64.wrap a % 22 = 16) (hb : IntKind.u64.wrap b1 % 4 = 0) (w : World) : Calls Try.prog 9 #[.int .i64 a, .int .i64 b1] w fun e w' => e = .returned (.bool true) ∧ Gr w w' := by
  have a0 := u64_nonneg a
  have b0 := u64_nonneg b1
  go_enter Try.func9, Try.ntmps9
  go_upto_region 1 with (fail)
  refine wp_region_lit ?_
  refine wpList_val (.slice (some ⟨w.heap.size, 0, none⟩) 22 22) (w.alloc (.cells namesA 9)) rfl (by kernel_rfl) ?_
  have g1 : Gr w (w.alloc (.cells namesA 9)) := (Gr.refl w).alloc _
  have n1 : (w.alloc (.cells namesA 9)).cell? ⟨w.heap.size, 16, none⟩ = some (.string ⟨#[112, 99, 116, 100, 111, 119, 110]⟩) := cell_in (heap_new rfl) rfl
  generalize w.alloc (.cells namesA 9) = x1 at *
  generalize w.heap.size = bn at *
  go_upto_region 2 with (fail)
  refine wp_region_lit ?_
  refine wpList_val (.slice (some ⟨x1.heap.size, 0, none⟩) 22 22) (x1.alloc (.cells leastA 2)) rfl (by kernel_rfl) ?_
  have g2 : Gr x1 (x1.alloc (.cells leastA 2)) := (Gr.refl x1).alloc _
  have n2 : (x1.alloc (.cells leastA 2)).cell? ⟨x1.heap.size, 16, none⟩ = some (.int .i64 1) := cell_in (heap_new rfl) rfl
  generalize x1.alloc (.cells leastA 2) = x2 at *
  generalize x1.heap.size = bl at *
  go_upto_region 3 with (fail)
  refine wp_region_lit ?_
  refine wpList_val (.slice (some ⟨x2.heap.size, 0, none⟩) 22 22) (x2.alloc (.cells mostA 2)) rfl (by kernel_rfl) ?_
  have g3 : Gr x2 (x2.alloc (.cells mostA 2)) := (Gr.refl x2).alloc _
  have n3 : (x2.alloc (.cells mostA 2)).cell? ⟨x2.heap.size, 16, none⟩ = some (.int .i64 100) := cell_in (heap_new rfl) rfl
  generalize x2.alloc (.cells mostA 2) = x3 at *
  generalize x2.heap.size = bm at *
  replace n1 := g3.cell_some (g2.cell_some n1)
  replace n2 := g3.cell_some n2
  replace g1 := (g1.trans g2).trans g3
  clear g2 g3
  go_upto_region 4 with (fail)
  refine wp_region_lit ?_
  refine wpList_enter 38 #[] _ rfl (by kernel_rfl) (default_any x3) fun w1 hg => ?_
  refine wpList_val (.pointer (some ⟨w1.heap.size, 0, none⟩)) (w1.alloc (.cells zero36 36)) rfl (xalloc36 ..) ?_
  refine wpList_skip' (w1.alloc (.cells #[.int .i64 dflt.n, .int .i64 dflt.f, .int .i64 dflt.m, .int .i64 dflt.q, .int .i64 dflt.fresh, .int .i64 dflt.grace, .int .i64 dflt.window, .int .i64 dflt.t0, .int .i64 dflt.t1, .int .i64 dflt.t2, .int .i64 dflt.t3, .int .i64 dflt.tol, .int .i64 dflt.lo, .int .i64 dflt.hi, .int .i64 dflt.cup, .int .i64 dflt.cdn, .int .i64 dflt.pup, .int .i64 dflt.tup, .int .i64 dflt.pdn, .int .i64 dflt.tdn, .int .i64 dflt.per, .int .i64 dflt.far, .int .i64 dflt.str, .int .i64 dflt.pro, .int .i64 dflt.sec, .int .u64 dflt.seed] 36)) rfl (xstore36_at rfl (by kernel_rfl) (by kernel_rfl) rfl rfl (by kernel_rfl)) ?_
  have A := start_at hg dflt
  generalize w1.alloc (.cells #[.int .i64 dflt.n, .int .i64 dflt.f, .int .i64 dflt.m, .int .i64 dflt.q, .int .i64 dflt.fresh, .int .i64 dflt.grace, .int .i64 dflt.window, .int .i64 dflt.t0, .int .i64 dflt.t1, .int .i64 dflt.t2, .int .i64 dflt.t3, .int .i64 dflt.tol, .int .i64 dflt.lo, .int .i64 dflt.hi, .int .i64 dflt.cup, .int .i64 dflt.cdn, .int .i64 dflt.pup, .int .i64 dflt.tup, .int .i64 dflt.pdn, .int .i64 dflt.tdn, .int .i64 dflt.per, .int .i64 dflt.far, .int .i64 dflt.str, .int .i64 dflt.pro, .int .i64 dflt.sec, .int .u64 dflt.seed] 36) = w2 at *
  generalize w1.heap.size = b at *
  clear hg
  have hc := A.cell
  have hz := A.froz
  go_upto_region 6 with (fail)
  replace A := ((((A.set 1 (.int .i64 0) { dflt with f := 0 } rfl).set 0 (.int .i64 4) { dflt with f := 0, n := 4 } rfl).set 3 (.int .i64 1) { dflt with f := 0, n := 4, q := 1 } rfl).set 13 (.int .i64 10000) c0 rfl)
  clear hc hz
  generalize World.setCell _ ⟨b, 13, none⟩ _ = w3 at *
  have m1 := A.gr.cell_some n1
  have m2 := A.gr.cell_some n2
  have m3 := A.gr.cell_some n3
  go_upto_region 7 with (fail)
  go_region
  generalize hw4 : World.drew (World.alloc w3 _) = w4
  replace A := A.on (show Gr w3 w4 by rw [← hw4]; exact ((Gr.refl w3).alloc _).drew)
  clear hw4 m1 m2 m3
  have m1 := A.gr.cell_some n1
  have hc := A.cell
  have hz := A.froz
  go_upto_region 58 with (fail)
  replace A := A.set 19 (.int .i64 1) { c0 with tdn := 1 } rfl
  clear hc hz m1
  generalize World.setCell _ _ _ = w5 at *
  have hk := A.conf
  go_wp2_with (first
    | (go_at_call 39; refine (told3_any _).mono ?_; rintro e w6 ⟨rfl, hg⟩; replace A := A.on hg; clear hg hk; have hk := A.conf)
    | (go_at_call 40; refine (wrongV_any _ edgeW_16_0 _).mono ?_; rintro e w6 ⟨rfl, hg⟩; replace A := A.on hg; clear hg hk; have hk := A.conf)
    | (go_at_call 41; refine (may_true_any _ edgeM_16_0 _).mono ?_; rintro e w6 ⟨rfl, hg⟩; replace A := A.on hg; clear hg hk; have hk := A.conf))
  go_ret
  exact ⟨rfl, g1.trans A.gr⟩

theorem edgeW_16_1 : wrongV { c0 with tdn := 100 } = ⟨#[]⟩ := by decide +kernel
theorem edgeM_16_1 : mayC { c0 with tdn := 100 } = true := by decide +kernel
set_option maxHeartbeats 2000000 in
set_option maxRecDepth 100000 in
theorem edges_16_1 (a b1 : Int) (ha : IntKind.u64.wrap a % 22 = 16) (hb : IntKind.u64.wrap b1 % 4 = 1) (w : World) : Calls Try.prog 9 #[.int .i64 a, .int .i64 b1] w fun e w' => e = .returned (.bool true) ∧ Gr w w' := by
  have a0 := u64_nonneg a
  have b0 := u64_nonneg b1
  go_enter Try.func9, Try.ntmps9
  go_upto_region 1 with (fail)
  refine wp_region_lit ?_
  refine wpList_val (.slice (some ⟨w.heap.size, 0, none⟩) 22 22) (w.alloc (.cells namesA 9)) rfl (by kernel_rfl) ?_
  have g1 : Gr w (w.alloc (.cells namesA 9)) := (Gr.refl w).alloc _
  have n1 : (w.alloc (.cells namesA 9)).cell? ⟨w.heap.size, 16, none⟩ = some (.string ⟨#[112, 99, 116, 100, 111, 119, 110]⟩) := cell_in (heap_new rfl) rfl
  generalize w.alloc (.cells namesA 9) = x1 at *
  generalize w.heap.size = bn at *
  go_upto_region 2 with (fail)
  refine wp_region_lit ?_
  refine wpList_val (.slice (some ⟨x1.heap.size, 0, none⟩) 22 22) (x1.alloc (.cells leastA 2)) rfl (by kernel_rfl) ?_
  have g2 : Gr x1 (x1.alloc (.cells leastA 2)) := (Gr.refl x1).alloc _
  have n2 : (x1.alloc (.cells leastA 2)).cell? ⟨x1.heap.size, 16, none⟩ = some (.int .i64 1) := cell_in (heap_new rfl) rfl
  generalize x1.alloc (.cells leastA 2) = x2 at *
  generalize x1.heap.size = bl at *
  go_upto_region 3 with (fail)
  refine wp_region_lit ?_
  refine wpList_val (.slice (some ⟨x2.heap.size, 0, none⟩) 22 22) (x2.alloc (.cells mostA 2)) rfl (by kernel_rfl) ?_
  have g3 : Gr x2 (x2.alloc (.cells mostA 2)) := (Gr.refl x2).alloc _
  have n3 : (x2.alloc (.cells mostA 2)).cell? ⟨x2.heap.size, 16, none⟩ = some (.int .i64 100) := cell_in (heap_new rfl) rfl
  generalize x2.alloc (.cells mostA 2) = x3 at *
  generalize x2.heap.size = bm at *
  replace n1 := g3.cell_some (g2.cell_some n1)
  replace n2 := g3.cell_some n2
  replace g1 := (g1.trans g2).trans g3
  clear g2 g3
  go_upto_region 4 with (fail)
  refine wp_region_lit ?_
  refine wpList_enter 38 #[] _ rfl (by kernel_rfl) (default_any x3) fun w1 hg => ?_
  refine wpList_val (.pointer (some ⟨w1.heap.size, 0, none⟩)) (w1.alloc (.cells zero36 36)) rfl (xalloc36 ..) ?_
  refine wpList_skip' (w1.alloc (.cells #[.int .i64 dflt.n, .int .i64 dflt.f, .int .i64 dflt.m, .int .i64 dflt.q, .int .i64 dflt.fresh, .int .i64 dflt.grace, .int .i64 dflt.window, .int .i64 dflt.t0, .int .i64 dflt.t1, .int .i64 dflt.t2, .int .i64 dflt.t3, .int .i64 dflt.tol, .int .i64 dflt.lo, .int .i64 dflt.hi, .int .i64 dflt.cup, .int .i64 dflt.cdn, .int .i64 dflt.pup, .int .i64 dflt.tup, .int .i64 dflt.pdn, .int .i64 dflt.tdn, .int .i64 dflt.per, .int .i64 dflt.far, .int .i64 dflt.str, .int .i64 dflt.pro, .int .i64 dflt.sec, .int .u64 dflt.seed] 36)) rfl (xstore36_at rfl (by kernel_rfl) (by kernel_rfl) rfl rfl (by kernel_rfl)) ?_
  have A := start_at hg dflt
  generalize w1.alloc (.cells #[.int .i64 dflt.n, .int .i64 dflt.f, .int .i64 dflt.m, .int .i64 dflt.q, .int .i64 dflt.fresh, .int .i64 dflt.grace, .int .i64 dflt.window, .int .i64 dflt.t0, .int .i64 dflt.t1, .int .i64 dflt.t2, .int .i64 dflt.t3, .int .i64 dflt.tol, .int .i64 dflt.lo, .int .i64 dflt.hi, .int .i64 dflt.cup, .int .i64 dflt.cdn, .int .i64 dflt.pup, .int .i64 dflt.tup, .int .i64 dflt.pdn, .int .i64 dflt.tdn, .int .i64 dflt.per, .int .i64 dflt.far, .int .i64 dflt.str, .int .i64 dflt.pro, .int .i64 dflt.sec, .int .u64 dflt.seed] 36) = w2 at *
  generalize w1.heap.size = b at *
  clear hg
  have hc := A.cell
  have hz := A.froz
  go_upto_region 6 with (fail)
  replace A := ((((A.set 1 (.int .i64 0) { dflt with f := 0 } rfl).set 0 (.int .i64 4) { dflt with f := 0, n := 4 } rfl).set 3 (.int .i64 1) { dflt with f := 0, n := 4, q := 1 } rfl).set 13 (.int .i64 10000) c0 rfl)
  clear hc hz
  generalize World.setCell _ ⟨b, 13, none⟩ _ = w3 at *
  have m1 := A.gr.cell_some n1
  have m2 := A.gr.cell_some n2
  have m3 := A.gr.cell_some n3
  go_upto_region 7 with (fail)
  go_region
  generalize hw4 : World.drew (World.alloc w3 _) = w4
  replace A := A.on (show Gr w3 w4 by rw [← hw4]; exact ((Gr.refl w3).alloc _).drew)
  clear hw4 m1 m2 m3
  have m1 := A.gr.cell_some n1
  have hc := A.cell
  have hz := A.froz
  go_upto_region 58 with (fail)
  replace A := A.set 19 (.int .i64 100) { c0 with tdn := 100 } rfl
  clear hc hz m1
  generalize World.setCell _ _ _ = w5 at *
  have hk := A.conf
  go_wp2_with (first
    | (go_at_call 39; refine (told3_any _).mono ?_; rintro e w6 ⟨rfl, hg⟩; replace A := A.on hg; clear hg hk; have hk := A.conf)
    | (go_at_call 40; refine (wrongV_any _ edgeW_16_1 _).mono ?_; rintro e w6 ⟨rfl, hg⟩; replace A := A.on hg; clear hg hk; have hk := A.conf)
    | (go_at_call 41; refine (may_true_any _ edgeM_16_1 _).mono ?_; rintro e w6 ⟨rfl, hg⟩; replace A := A.on hg; clear hg hk; have hk := A.conf))
  go_ret
  exact ⟨rfl, g1.trans A.gr⟩

theorem edgeW_16_2 : wrongV { c0 with tdn := 0 } = ⟨#[112, 99, 116, 100, 111, 119, 110]⟩ := by decide +kernel
theorem edgeM_16_2 : mayC { c0 with tdn := 0 } = false := by decide +kernel
set_option maxHeartbeats 2000000 in
set_option maxRecDepth 100000 in
theorem edges_16_2 (a b1 : Int) (ha : IntKind.u64.wrap a % 22 = 16) (hb : IntKind.u64.wrap b1 % 4 = 2) (w : World) : Calls Try.prog 9 #[.int .i64 a, .int .i64 b1] w fun e w' => e = .returned (.bool true) ∧ Gr w w' := by
  have a0 := u64_nonneg a
  have b0 := u64_nonneg b1
  go_enter Try.func9, Try.ntmps9
  go_upto_region 1 with (fail)
  refine wp_region_lit ?_
  refine wpList_val (.slice (some ⟨w.heap.size, 0, none⟩) 22 22) (w.alloc (.cells namesA 9)) rfl (by kernel_rfl) ?_
  have g1 : Gr w (w.alloc (.cells namesA 9)) := (Gr.refl w).alloc _
  have n1 : (w.alloc (.cells namesA 9)).cell? ⟨w.heap.size, 16, none⟩ = some (.string ⟨#[112, 99, 116, 100, 111, 119, 110]⟩) := cell_in (heap_new rfl) rfl
  generalize w.alloc (.cells namesA 9) = x1 at *
  generalize w.heap.size = bn at *
  go_upto_region 2 with (fail)
  refine wp_region_lit ?_
  refine wpList_val (.slice (some ⟨x1.heap.size, 0, none⟩) 22 22) (x1.alloc (.cells leastA 2)) rfl (by kernel_rfl) ?_
  have g2 : Gr x1 (x1.alloc (.cells leastA 2)) := (Gr.refl x1).alloc _
  have n2 : (x1.alloc (.cells leastA 2)).cell? ⟨x1.heap.size, 16, none⟩ = some (.int .i64 1) := cell_in (heap_new rfl) rfl
  generalize x1.alloc (.cells leastA 2) = x2 at *
  generalize x1.heap.size = bl at *
  go_upto_region 3 with (fail)
  refine wp_region_lit ?_
  refine wpList_val (.slice (some ⟨x2.heap.size, 0, none⟩) 22 22) (x2.alloc (.cells mostA 2)) rfl (by kernel_rfl) ?_
  have g3 : Gr x2 (x2.alloc (.cells mostA 2)) := (Gr.refl x2).alloc _
  have n3 : (x2.alloc (.cells mostA 2)).cell? ⟨x2.heap.size, 16, none⟩ = some (.int .i64 100) := cell_in (heap_new rfl) rfl
  generalize x2.alloc (.cells mostA 2) = x3 at *
  generalize x2.heap.size = bm at *
  replace n1 := g3.cell_some (g2.cell_some n1)
  replace n2 := g3.cell_some n2
  replace g1 := (g1.trans g2).trans g3
  clear g2 g3
  go_upto_region 4 with (fail)
  refine wp_region_lit ?_
  refine wpList_enter 38 #[] _ rfl (by kernel_rfl) (default_any x3) fun w1 hg => ?_
  refine wpList_val (.pointer (some ⟨w1.heap.size, 0, none⟩)) (w1.alloc (.cells zero36 36)) rfl (xalloc36 ..) ?_
  refine wpList_skip' (w1.alloc (.cells #[.int .i64 dflt.n, .int .i64 dflt.f, .int .i64 dflt.m, .int .i64 dflt.q, .int .i64 dflt.fresh, .int .i64 dflt.grace, .int .i64 dflt.window, .int .i64 dflt.t0, .int .i64 dflt.t1, .int .i64 dflt.t2, .int .i64 dflt.t3, .int .i64 dflt.tol, .int .i64 dflt.lo, .int .i64 dflt.hi, .int .i64 dflt.cup, .int .i64 dflt.cdn, .int .i64 dflt.pup, .int .i64 dflt.tup, .int .i64 dflt.pdn, .int .i64 dflt.tdn, .int .i64 dflt.per, .int .i64 dflt.far, .int .i64 dflt.str, .int .i64 dflt.pro, .int .i64 dflt.sec, .int .u64 dflt.seed] 36)) rfl (xstore36_at rfl (by kernel_rfl) (by kernel_rfl) rfl rfl (by kernel_rfl)) ?_
  have A := start_at hg dflt
  generalize w1.alloc (.cells #[.int .i64 dflt.n, .int .i64 dflt.f, .int .i64 dflt.m, .int .i64 dflt.q, .int .i64 dflt.fresh, .int .i64 dflt.grace, .int .i64 dflt.window, .int .i64 dflt.t0, .int .i64 dflt.t1, .int .i64 dflt.t2, .int .i64 dflt.t3, .int .i64 dflt.tol, .int .i64 dflt.lo, .int .i64 dflt.hi, .int .i64 dflt.cup, .int .i64 dflt.cdn, .int .i64 dflt.pup, .int .i64 dflt.tup, .int .i64 dflt.pdn, .int .i64 dflt.tdn, .int .i64 dflt.per, .int .i64 dflt.far, .int .i64 dflt.str, .int .i64 dflt.pro, .int .i64 dflt.sec, .int .u64 dflt.seed] 36) = w2 at *
  generalize w1.heap.size = b at *
  clear hg
  have hc := A.cell
  have hz := A.froz
  go_upto_region 6 with (fail)
  replace A := ((((A.set 1 (.int .i64 0) { dflt with f := 0 } rfl).set 0 (.int .i64 4) { dflt with f := 0, n := 4 } rfl).set 3 (.int .i64 1) { dflt with f := 0, n := 4, q := 1 } rfl).set 13 (.int .i64 10000) c0 rfl)
  clear hc hz
  generalize World.setCell _ ⟨b, 13, none⟩ _ = w3 at *
  have m1 := A.gr.cell_some n1
  have m2 := A.gr.cell_some n2
  have m3 := A.gr.cell_some n3
  go_upto_region 7 with (fail)
  go_region
  generalize hw4 : World.drew (World.alloc w3 _) = w4
  replace A := A.on (show Gr w3 w4 by rw [← hw4]; exact ((Gr.refl w3).alloc _).drew)
  clear hw4 m1 m2 m3
  have m1 := A.gr.cell_some n1
  have hc := A.cell
  have hz := A.froz
  go_upto_region 58 with (fail)
  replace A := A.set 19 (.int .i64 0) { c0 with tdn := 0 } rfl
  clear hc hz m1
  generalize World.setCell _ _ _ = w5 at *
  have hk := A.conf
  go_wp2_with (first
    | (go_at_call 39; refine (told3_any _).mono ?_; rintro e w6 ⟨rfl, hg⟩; replace A := A.on hg; clear hg hk; have hk := A.conf)
    | (go_at_call 40; refine (wrongV_any _ edgeW_16_2 _).mono ?_; rintro e w6 ⟨rfl, hg⟩; replace A := A.on hg; clear hg hk; have hk := A.conf)
    | (go_at_call 41; refine (may_true_any _ edgeM_16_2 _).mono ?_; rintro e w6 ⟨rfl, hg⟩; replace A := A.on hg; clear hg hk; have hk := A.conf))
  go_ret
  exact ⟨rfl, g1.trans A.gr⟩

theorem edgeW_16_3 : wrongV { c0 with tdn := 101 } = ⟨#[112, 99, 116, 100, 111, 119, 110]⟩ := by decide +kernel
theorem edgeM_16_3 : mayC { c0 with tdn := 101 } = false := by decide +kernel
set_option maxHeartbeats 2000000 in
set_option maxRecDepth 100000 in
theorem edges_16_3 (a b1 : Int) (ha : IntKind.u64.wrap a % 22 = 16) (hb : IntKind.u64.wrap b1 % 4 = 3) (w : World) : Calls Try.prog 9 #[.int .i64 a, .int .i64 b1] w fun e w' => e = .returned (.bool true) ∧ Gr w w' := by
  have a0 := u64_nonneg a
  have b0 := u64_nonneg b1
  go_enter Try.func9, Try.ntmps9
  go_upto_region 1 with (fail)
  refine wp_region_lit ?_
  refine wpList_val (.slice (some ⟨w.heap.size, 0, none⟩) 22 22) (w.alloc (.cells namesA 9)) rfl (by kernel_rfl) ?_
  have g1 : Gr w (w.alloc (.cells namesA 9)) := (Gr.refl w).alloc _
  have n1 : (w.alloc (.cells namesA 9)).cell? ⟨w.heap.size, 16, none⟩ = some (.string ⟨#[112, 99, 116, 100, 111, 119, 110]⟩) := cell_in (heap_new rfl) rfl
  generalize w.alloc (.cells namesA 9) = x1 at *
  generalize w.heap.size = bn at *
  go_upto_region 2 with (fail)
  refine wp_region_lit ?_
  refine wpList_val (.slice (some ⟨x1.heap.size, 0, none⟩) 22 22) (x1.alloc (.cells leastA 2)) rfl (by kernel_rfl) ?_
  have g2 : Gr x1 (x1.alloc (.cells leastA 2)) := (Gr.refl x1).alloc _
  have n2 : (x1.alloc (.cells leastA 2)).cell? ⟨x1.heap.size, 16, none⟩ = some (.int .i64 1) := cell_in (heap_new rfl) rfl
  generalize x1.alloc (.cells leastA 2) = x2 at *
  generalize x1.heap.size = bl at *
  go_upto_region 3 with (fail)
  refine wp_region_lit ?_
  refine wpList_val (.slice (some ⟨x2.heap.size, 0, none⟩) 22 22) (x2.alloc (.cells mostA 2)) rfl (by kernel_rfl) ?_
  have g3 : Gr x2 (x2.alloc (.cells mostA 2)) := (Gr.refl x2).alloc _
  have n3 : (x2.alloc (.cells mostA 2)).cell? ⟨x2.heap.size, 16, none⟩ = some (.int .i64 100) := cell_in (heap_new rfl) rfl
  generalize x2.alloc (.cells mostA 2) = x3 at *
  generalize x2.heap.size = bm at *
  replace n1 := g3.cell_some (g2.cell_some n1)
  replace n2 := g3.cell_some n2
  replace g1 := (g1.trans g2).trans g3
  clear g2 g3
  go_upto_region 4 with (fail)
  refine wp_region_lit ?_
  refine wpList_enter 38 #[] _ rfl (by kernel_rfl) (default_any x3) fun w1 hg => ?_
  refine wpList_val (.pointer (some ⟨w1.heap.size, 0, none⟩)) (w1.alloc (.cells zero36 36)) rfl (xalloc36 ..) ?_
  refine wpList_skip' (w1.alloc (.cells #[.int .i64 dflt.n, .int .i64 dflt.f, .int .i64 dflt.m, .int .i64 dflt.q, .int .i64 dflt.fresh, .int .i64 dflt.grace, .int .i64 dflt.window, .int .i64 dflt.t0, .int .i64 dflt.t1, .int .i64 dflt.t2, .int .i64 dflt.t3, .int .i64 dflt.tol, .int .i64 dflt.lo, .int .i64 dflt.hi, .int .i64 dflt.cup, .int .i64 dflt.cdn, .int .i64 dflt.pup, .int .i64 dflt.tup, .int .i64 dflt.pdn, .int .i64 dflt.tdn, .int .i64 dflt.per, .int .i64 dflt.far, .int .i64 dflt.str, .int .i64 dflt.pro, .int .i64 dflt.sec, .int .u64 dflt.seed] 36)) rfl (xstore36_at rfl (by kernel_rfl) (by kernel_rfl) rfl rfl (by kernel_rfl)) ?_
  have A := start_at hg dflt
  generalize w1.alloc (.cells #[.int .i64 dflt.n, .int .i64 dflt.f, .int .i64 dflt.m, .int .i64 dflt.q, .int .i64 dflt.fresh, .int .i64 dflt.grace, .int .i64 dflt.window, .int .i64 dflt.t0, .int .i64 dflt.t1, .int .i64 dflt.t2, .int .i64 dflt.t3, .int .i64 dflt.tol, .int .i64 dflt.lo, .int .i64 dflt.hi, .int .i64 dflt.cup, .int .i64 dflt.cdn, .int .i64 dflt.pup, .int .i64 dflt.tup, .int .i64 dflt.pdn, .int .i64 dflt.tdn, .int .i64 dflt.per, .int .i64 dflt.far, .int .i64 dflt.str, .int .i64 dflt.pro, .int .i64 dflt.sec, .int .u64 dflt.seed] 36) = w2 at *
  generalize w1.heap.size = b at *
  clear hg
  have hc := A.cell
  have hz := A.froz
  go_upto_region 6 with (fail)
  replace A := ((((A.set 1 (.int .i64 0) { dflt with f := 0 } rfl).set 0 (.int .i64 4) { dflt with f := 0, n := 4 } rfl).set 3 (.int .i64 1) { dflt with f := 0, n := 4, q := 1 } rfl).set 13 (.int .i64 10000) c0 rfl)
  clear hc hz
  generalize World.setCell _ ⟨b, 13, none⟩ _ = w3 at *
  have m1 := A.gr.cell_some n1
  have m2 := A.gr.cell_some n2
  have m3 := A.gr.cell_some n3
  go_upto_region 7 with (fail)
  go_region
  generalize hw4 : World.drew (World.alloc w3 _) = w4
  replace A := A.on (show Gr w3 w4 by rw [← hw4]; exact ((Gr.refl w3).alloc _).drew)
  clear hw4 m1 m2 m3
  have m1 := A.gr.cell_some n1
  have hc := A.cell
  have hz := A.froz
  go_upto_region 58 with (fail)
  replace A := A.set 19 (.int .i64 101) { c0 with tdn := 101 } rfl
  clear hc hz m1
  generalize World.setCell _ _ _ = w5 at *
  have hk := A.conf
  go_wp2_with (first
    | (go_at_call 39; refine (told3_any _).mono ?_; rintro e w6 ⟨rfl, hg⟩; replace A := A.on hg; clear hg hk; have hk := A.conf)
    | (go_at_call 40; refine (wrongV_any _ edgeW_16_3 _).mono ?_; rintro e w6 ⟨rfl, hg⟩; replace A := A.on hg; clear hg hk; have hk := A.conf)
    | (go_at_call 41; refine (may_true_any _ edgeM_16_3 _).mono ?_; rintro e w6 ⟨rfl, hg⟩; replace A := A.on hg; clear hg hk; have hk := A.conf))
  go_ret
  exact ⟨rfl, g1.trans A.gr⟩

theorem edgeW_17_0 : wrongV { c0 with per := 1 } = ⟨#[]⟩ := by decide +kernel
theorem edgeM_17_0 : mayC { c0 with per := 1 } = true := by decide +kernel
set_option maxHeartbeats 2000000 in
set_option maxRecDepth 100000 in
theorem edges_17_0 (a b1 : Int) (ha : IntKind.u64.wrap a % 22 = 17) (hb : IntKind.u64.wrap b1 % 4 = 0) (w : World) : Calls Try.prog 9 #[.int .i64 a, .int .i64 b1] w fun e w' => e = .returned (.bool true) ∧ Gr w w' := by
  have a0 := u64_nonneg a
  have b0 := u64_nonneg b1
  go_enter Try.func9, Try.ntmps9
  go_upto_region 1 with (fail)
  refine wp_region_lit ?_
  refine wpList_val (.slice (some ⟨w.heap.size, 0, none⟩) 22 22) (w.alloc (.cells namesA 9)) rfl (by kernel_rfl) ?_
  have g1 : Gr w (w.alloc (.cells namesA 9)) := (Gr.refl w).alloc _
  have n1 : (w.alloc (.cells namesA 9)).cell? ⟨w.heap.size, 17, none⟩ = some (.string ⟨#[112, 101, 114, 105, 111, 100]⟩) := cell_in (heap_new rfl) rfl
  generalize w.alloc (.cells namesA 9) = x1 at *
  generalize w.heap.size = bn at *
  go_upto_region 2 with (fail)
  refine wp_region_lit ?_
  refine wpList_val (.slice (some ⟨x1.heap.size, 0, none⟩) 22 22) (x1.alloc (.cells leastA 2)) rfl (by kernel_rfl) ?_
  have g2 : Gr x1 (x1.alloc (.cells leastA 2)) := (Gr.refl x1).alloc _
  have n2 : (x1.alloc (.cells leastA 2)).cell? ⟨x1.heap.size, 17, none⟩ = some (.int .i64 1) := cell_in (heap_new rfl) rfl
  generalize x1.alloc (.cells leastA 2) = x2 at *
  generalize x1.heap.size = bl at *
  go_upto_region 3 with (fail)
  refine wp_region_lit ?_
  refine wpList_val (.slice (some ⟨x2.heap.size, 0, none⟩) 22 22) (x2.alloc (.cells mostA 2)) rfl (by kernel_rfl) ?_
  have g3 : Gr x2 (x2.alloc (.cells mostA 2)) := (Gr.refl x2).alloc _
  have n3 : (x2.alloc (.cells mostA 2)).cell? ⟨x2.heap.size, 17, none⟩ = some (.int .i64 60) := cell_in (heap_new rfl) rfl
  generalize x2.alloc (.cells mostA 2) = x3 at *
  generalize x2.heap.size = bm at *
  replace n1 := g3.cell_some (g2.cell_some n1)
  replace n2 := g3.cell_some n2
  replace g1 := (g1.trans g2).trans g3
  clear g2 g3
  go_upto_region 4 with (fail)
  refine wp_region_lit ?_
  refine wpList_enter 38 #[] _ rfl (by kernel_rfl) (default_any x3) fun w1 hg => ?_
  refine wpList_val (.pointer (some ⟨w1.heap.size, 0, none⟩)) (w1.alloc (.cells zero36 36)) rfl (xalloc36 ..) ?_
  refine wpList_skip' (w1.alloc (.cells #[.int .i64 dflt.n, .int .i64 dflt.f, .int .i64 dflt.m, .int .i64 dflt.q, .int .i64 dflt.fresh, .int .i64 dflt.grace, .int .i64 dflt.window, .int .i64 dflt.t0, .int .i64 dflt.t1, .int .i64 dflt.t2, .int .i64 dflt.t3, .int .i64 dflt.tol, .int .i64 dflt.lo, .int .i64 dflt.hi, .int .i64 dflt.cup, .int .i64 dflt.cdn, .int .i64 dflt.pup, .int .i64 dflt.tup, .int .i64 dflt.pdn, .int .i64 dflt.tdn, .int .i64 dflt.per, .int .i64 dflt.far, .int .i64 dflt.str, .int .i64 dflt.pro, .int .i64 dflt.sec, .int .u64 dflt.seed] 36)) rfl (xstore36_at rfl (by kernel_rfl) (by kernel_rfl) rfl rfl (by kernel_rfl)) ?_
  have A := start_at hg dflt
  generalize w1.alloc (.cells #[.int .i64 dflt.n, .int .i64 dflt.f, .int .i64 dflt.m, .int .i64 dflt.q, .int .i64 dflt.fresh, .int .i64 dflt.grace, .int .i64 dflt.window, .int .i64 dflt.t0, .int .i64 dflt.t1, .int .i64 dflt.t2, .int .i64 dflt.t3, .int .i64 dflt.tol, .int .i64 dflt.lo, .int .i64 dflt.hi, .int .i64 dflt.cup, .int .i64 dflt.cdn, .int .i64 dflt.pup, .int .i64 dflt.tup, .int .i64 dflt.pdn, .int .i64 dflt.tdn, .int .i64 dflt.per, .int .i64 dflt.far, .int .i64 dflt.str, .int .i64 dflt.pro, .int .i64 dflt.sec, .int .u64 dflt.seed] 36) = w2 at *
  generalize w1.heap.size = b at *
  clear hg
  have hc := A.cell
  have hz := A.froz
  go_upto_region 6 with (fail)
  replace A := ((((A.set 1 (.int .i64 0) { dflt with f := 0 } rfl).set 0 (.int .i64 4) { dflt with f := 0, n := 4 } rfl).set 3 (.int .i64 1) { dflt with f := 0, n := 4, q := 1 } rfl).set 13 (.int .i64 10000) c0 rfl)
  clear hc hz
  generalize World.setCell _ ⟨b, 13, none⟩ _ = w3 at *
  have m1 := A.gr.cell_some n1
  have m2 := A.gr.cell_some n2
  have m3 := A.gr.cell_some n3
  go_upto_region 7 with (fail)
  go_region
  generalize hw4 : World.drew (World.alloc w3 _) = w4
  replace A := A.on (show Gr w3 w4 by rw [← hw4]; exact ((Gr.refl w3).alloc _).drew)
  clear hw4 m1 m2 m3
  have m1 := A.gr.cell_some n1
  have hc := A.cell
  have hz := A.froz
  go_upto_region 58 with (fail)
  replace A := A.set 20 (.int .i64 1) { c0 with per := 1 } rfl
  clear hc hz m1
  generalize World.setCell _ _ _ = w5 at *
  have hk := A.conf
  go_wp2_with (first
    | (go_at_call 39; refine (told3_any _).mono ?_; rintro e w6 ⟨rfl, hg⟩; replace A := A.on hg; clear hg hk; have hk := A.conf)
    | (go_at_call 40; refine (wrongV_any _ edgeW_17_0 _).mono ?_; rintro e w6 ⟨rfl, hg⟩; replace A := A.on hg; clear hg hk; have hk := A.conf)
    | (go_at_call 41; refine (may_true_any _ edgeM_17_0 _).mono ?_; rintro e w6 ⟨rfl, hg⟩; replace A := A.on hg; clear hg hk; have hk := A.conf))
  go_ret
  exact ⟨rfl, g1.trans A.gr⟩

theorem edgeW_17_1 : wrongV { c0 with per := 60 } = ⟨#[]⟩ := by decide +kernel
theorem edgeM_17_1 : mayC { c0 with per := 60 } = true := by decide +kernel
set_option maxHeartbeats 2000000 in
set_option maxRecDepth 100000 in
theorem edges_17_1 (a b1 : Int) (ha : IntKind.u64.wrap a % 22 = 17) (hb : IntKind.u64.wrap b1 % 4 = 1) (w : World) : Calls Try.prog 9 #[.int .i64 a, .int .i64 b1] w fun e w' => e = .returned (.bool true) ∧ Gr w w' := by
  have a0 := u64_nonneg a
  have b0 := u64_nonneg b1
  go_enter Try.func9, Try.ntmps9
  go_upto_region 1 with (fail)
  refine wp_region_lit ?_
  refine wpList_val (.slice (some ⟨w.heap.size, 0, none⟩) 22 22) (w.alloc (.cells namesA 9)) rfl (by kernel_rfl) ?_
  have g1 : Gr w (w.alloc (.cells namesA 9)) := (Gr.refl w).alloc _
  have n1 : (w.alloc (.cells namesA 9)).cell? ⟨w.heap.size, 17, none⟩ = some (.string ⟨#[112, 101, 114, 105, 111, 100]⟩) := cell_in (heap_new rfl) rfl
  generalize w.alloc (.cells namesA 9) = x1 at *
  generalize w.heap.size = bn at *
  go_upto_region 2 with (fail)
  refine wp_region_lit ?_
  refine wpList_val (.slice (some ⟨x1.heap.size, 0, none⟩) 22 22) (x1.alloc (.cells leastA 2)) rfl (by kernel_rfl) ?_
  have g2 : Gr x1 (x1.alloc (.cells leastA 2)) := (Gr.refl x1).alloc _
  have n2 : (x1.alloc (.cells leastA 2)).cell? ⟨x1.heap.size, 17, none⟩ = some (.int .i64 1) := cell_in (heap_new rfl) rfl
  generalize x1.alloc (.cells leastA 2) = x2 at *
  generalize x1.heap.size = bl at *
  go_upto_region 3 with (fail)
  refine wp_region_lit ?_
  refine wpList_val (.slice (some ⟨x2.heap.size, 0, none⟩) 22 22) (x2.alloc (.cells mostA 2)) rfl (by kernel_rfl) ?_
  have g3 : Gr x2 (x2.alloc (.cells mostA 2)) := (Gr.refl x2).alloc _
  have n3 : (x2.alloc (.cells mostA 2)).cell? ⟨x2.heap.size, 17, none⟩ = some (.int .i64 60) := cell_in (heap_new rfl) rfl
  generalize x2.alloc (.cells mostA 2) = x3 at *
  generalize x2.heap.size = bm at *
  replace n1 := g3.cell_some (g2.cell_some n1)
  replace n2 := g3.cell_some n2
  replace g1 := (g1.trans g2).trans g3
  clear g2 g3
  go_upto_region 4 with (fail)
  refine wp_region_lit ?_
  refine wpList_enter 38 #[] _ rfl (by kernel_rfl) (default_any x3) fun w1 hg => ?_
  refine wpList_val (.pointer (some ⟨w1.heap.size, 0, none⟩)) (w1.alloc (.cells zero36 36)) rfl (xalloc36 ..) ?_
  refine wpList_skip' (w1.alloc (.cells #[.int .i64 dflt.n, .int .i64 dflt.f, .int .i64 dflt.m, .int .i64 dflt.q, .int .i64 dflt.fresh, .int .i64 dflt.grace, .int .i64 dflt.window, .int .i64 dflt.t0, .int .i64 dflt.t1, .int .i64 dflt.t2, .int .i64 dflt.t3, .int .i64 dflt.tol, .int .i64 dflt.lo, .int .i64 dflt.hi, .int .i64 dflt.cup, .int .i64 dflt.cdn, .int .i64 dflt.pup, .int .i64 dflt.tup, .int .i64 dflt.pdn, .int .i64 dflt.tdn, .int .i64 dflt.per, .int .i64 dflt.far, .int .i64 dflt.str, .int .i64 dflt.pro, .int .i64 dflt.sec, .int .u64 dflt.seed] 36)) rfl (xstore36_at rfl (by kernel_rfl) (by kernel_rfl) rfl rfl (by kernel_rfl)) ?_
  have A := start_at hg dflt
  generalize w1.alloc (.cells #[.int .i64 dflt.n, .int .i64 dflt.f, .int .i64 dflt.m, .int .i64 dflt.q, .int .i64 dflt.fresh, .int .i64 dflt.grace, .int .i64 dflt.window, .int .i64 dflt.t0, .int .i64 dflt.t1, .int .i64 dflt.t2, .int .i64 dflt.t3, .int .i64 dflt.tol, .int .i64 dflt.lo, .int .i64 dflt.hi, .int .i64 dflt.cup, .int .i64 dflt.cdn, .int .i64 dflt.pup, .int .i64 dflt.tup, .int .i64 dflt.pdn, .int .i64 dflt.tdn, .int .i64 dflt.per, .int .i64 dflt.far, .int .i64 dflt.str, .int .i64 dflt.pro, .int .i64 dflt.sec, .int .u64 dflt.seed] 36) = w2 at *
  generalize w1.heap.size = b at *
  clear hg
  have hc := A.cell
  have hz := A.froz
  go_upto_region 6 with (fail)
  replace A := ((((A.set 1 (.int .i64 0) { dflt with f := 0 } rfl).set 0 (.int .i64 4) { dflt with f := 0, n := 4 } rfl).set 3 (.int .i64 1) { dflt with f := 0, n := 4, q := 1 } rfl).set 13 (.int .i64 10000) c0 rfl)
  clear hc hz
  generalize World.setCell _ ⟨b, 13, none⟩ _ = w3 at *
  have m1 := A.gr.cell_some n1
  have m2 := A.gr.cell_some n2
  have m3 := A.gr.cell_some n3
  go_upto_region 7 with (fail)
  go_region
  generalize hw4 : World.drew (World.alloc w3 _) = w4
  replace A := A.on (show Gr w3 w4 by rw [← hw4]; exact ((Gr.refl w3).alloc _).drew)
  clear hw4 m1 m2 m3
  have m1 := A.gr.cell_some n1
  have hc := A.cell
  have hz := A.froz
  go_upto_region 58 with (fail)
  replace A := A.set 20 (.int .i64 60) { c0 with per := 60 } rfl
  clear hc hz m1
  generalize World.setCell _ _ _ = w5 at *
  have hk := A.conf
  go_wp2_with (first
    | (go_at_call 39; refine (told3_any _).mono ?_; rintro e w6 ⟨rfl, hg⟩; replace A := A.on hg; clear hg hk; have hk := A.conf)
    | (go_at_call 40; refine (wrongV_any _ edgeW_17_1 _).mono ?_; rintro e w6 ⟨rfl, hg⟩; replace A := A.on hg; clear hg hk; have hk := A.conf)
    | (go_at_call 41; refine (may_true_any _ edgeM_17_1 _).mono ?_; rintro e w6 ⟨rfl, hg⟩; replace A := A.on hg; clear hg hk; have hk := A.conf))
  go_ret
  exact ⟨rfl, g1.trans A.gr⟩

theorem edgeW_17_2 : wrongV { c0 with per := 0 } = ⟨#[112, 101, 114, 105, 111, 100]⟩ := by decide +kernel
theorem edgeM_17_2 : mayC { c0 with per := 0 } = false := by decide +kernel
set_option maxHeartbeats 2000000 in
set_option maxRecDepth 100000 in
theorem edges_17_2 (a b1 : Int) (ha : IntKind.u64.wrap a % 22 = 17) (hb : IntKind.u64.wrap b1 % 4 = 2) (w : World) : Calls Try.prog 9 #[.int .i64 a, .int .i64 b1] w fun e w' => e = .returned (.bool true) ∧ Gr w w' := by
  have a0 := u64_nonneg a
  have b0 := u64_nonneg b1
  go_enter Try.func9, Try.ntmps9
  go_upto_region 1 with (fail)
  refine wp_region_lit ?_
  refine wpList_val (.slice (some ⟨w.heap.size, 0, none⟩) 22 22) (w.alloc (.cells namesA 9)) rfl (by kernel_rfl) ?_
  have g1 : Gr w (w.alloc (.cells namesA 9)) := (Gr.refl w).alloc _
  have n1 : (w.alloc (.cells namesA 9)).cell? ⟨w.heap.size, 17, none⟩ = some (.string ⟨#[112, 101, 114, 105, 111, 100]⟩) := cell_in (heap_new rfl) rfl
  generalize w.alloc (.cells namesA 9) = x1 at *
  generalize w.heap.size = bn at *
  go_upto_region 2 with (fail)
  refine wp_region_lit ?_
  refine wpList_val (.slice (some ⟨x1.heap.size, 0, none⟩) 22 22) (x1.alloc (.cells leastA 2)) rfl (by kernel_rfl) ?_
  have g2 : Gr x1 (x1.alloc (.cells leastA 2)) := (Gr.refl x1).alloc _
  have n2 : (x1.alloc (.cells leastA 2)).cell? ⟨x1.heap.size, 17, none⟩ = some (.int .i64 1) := cell_in (heap_new rfl) rfl
  generalize x1.alloc (.cells leastA 2) = x2 at *
  generalize x1.heap.size = bl at *
  go_upto_region 3 with (fail)
  refine wp_region_lit ?_
  refine wpList_val (.slice (some ⟨x2.heap.size, 0, none⟩) 22 22) (x2.alloc (.cells mostA 2)) rfl (by kernel_rfl) ?_
  have g3 : Gr x2 (x2.alloc (.cells mostA 2)) := (Gr.refl x2).alloc _
  have n3 : (x2.alloc (.cells mostA 2)).cell? ⟨x2.heap.size, 17, none⟩ = some (.int .i64 60) := cell_in (heap_new rfl) rfl
  generalize x2.alloc (.cells mostA 2) = x3 at *
  generalize x2.heap.size = bm at *
  replace n1 := g3.cell_some (g2.cell_some n1)
  replace n2 := g3.cell_some n2
  replace g1 := (g1.trans g2).trans g3
  clear g2 g3
  go_upto_region 4 with (fail)
  refine wp_region_lit ?_
  refine wpList_enter 38 #[] _ rfl (by kernel_rfl) (default_any x3) fun w1 hg => ?_
  refine wpList_val (.pointer (some ⟨w1.heap.size, 0, none⟩)) (w1.alloc (.cells zero36 36)) rfl (xalloc36 ..) ?_
  refine wpList_skip' (w1.alloc (.cells #[.int .i64 dflt.n, .int .i64 dflt.f, .int .i64 dflt.m, .int .i64 dflt.q, .int .i64 dflt.fresh, .int .i64 dflt.grace, .int .i64 dflt.window, .int .i64 dflt.t0, .int .i64 dflt.t1, .int .i64 dflt.t2, .int .i64 dflt.t3, .int .i64 dflt.tol, .int .i64 dflt.lo, .int .i64 dflt.hi, .int .i64 dflt.cup, .int .i64 dflt.cdn, .int .i64 dflt.pup, .int .i64 dflt.tup, .int .i64 dflt.pdn, .int .i64 dflt.tdn, .int .i64 dflt.per, .int .i64 dflt.far, .int .i64 dflt.str, .int .i64 dflt.pro, .int .i64 dflt.sec, .int .u64 dflt.seed] 36)) rfl (xstore36_at rfl (by kernel_rfl) (by kernel_rfl) rfl rfl (by kernel_rfl)) ?_
  have A := start_at hg dflt
  generalize w1.alloc (.cells #[.int .i64 dflt.n, .int .i64 dflt.f, .int .i64 dflt.m, .int .i64 dflt.q, .int .i64 dflt.fresh, .int .i64 dflt.grace, .int .i64 dflt.window, .int .i64 dflt.t0, .int .i64 dflt.t1, .int .i64 dflt.t2, .int .i64 dflt.t3, .int .i64 dflt.tol, .int .i64 dflt.lo, .int .i64 dflt.hi, .int .i64 dflt.cup, .int .i64 dflt.cdn, .int .i64 dflt.pup, .int .i64 dflt.tup, .int .i64 dflt.pdn, .int .i64 dflt.tdn, .int .i64 dflt.per, .int .i64 dflt.far, .int .i64 dflt.str, .int .i64 dflt.pro, .int .i64 dflt.sec, .int .u64 dflt.seed] 36) = w2 at *
  generalize w1.heap.size = b at *
  clear hg
  have hc := A.cell
  have hz := A.froz
  go_upto_region 6 with (fail)
  replace A := ((((A.set 1 (.int .i64 0) { dflt with f := 0 } rfl).set 0 (.int .i64 4) { dflt with f := 0, n := 4 } rfl).set 3 (.int .i64 1) { dflt with f := 0, n := 4, q := 1 } rfl).set 13 (.int .i64 10000) c0 rfl)
  clear hc hz
  generalize World.setCell _ ⟨b, 13, none⟩ _ = w3 at *
  have m1 := A.gr.cell_some n1
  have m2 := A.gr.cell_some n2
  have m3 := A.gr.cell_some n3
  go_upto_region 7 with (fail)
  go_region
  generalize hw4 : World.drew (World.alloc w3 _) = w4
  replace A := A.on (show Gr w3 w4 by rw [← hw4]; exact ((Gr.refl w3).alloc _).drew)
  clear hw4 m1 m2 m3
  have m1 := A.gr.cell_some n1
  have hc := A.cell
  have hz := A.froz
  go_upto_region 58 with (fail)
  replace A := A.set 20 (.int .i64 0) { c0 with per := 0 } rfl
  clear hc hz m1
  generalize World.setCell _ _ _ = w5 at *
  have hk := A.conf
  go_wp2_with (first
    | (go_at_call 39; refine (told3_any _).mono ?_; rintro e w6 ⟨rfl, hg⟩; replace A := A.on hg; clear hg hk; have hk := A.conf)
    | (go_at_call 40; refine (wrongV_any _ edgeW_17_2 _).mono ?_; rintro e w6 ⟨rfl, hg⟩; replace A := A.on hg; clear hg hk; have hk := A.conf)
    | (go_at_call 41; refine (may_true_any _ edgeM_17_2 _).mono ?_; rintro e w6 ⟨rfl, hg⟩; replace A := A.on hg; clear hg hk; have hk := A.conf))
  go_ret
  exact ⟨rfl, g1.trans A.gr⟩

theorem edgeW_17_3 : wrongV { c0 with per := 61 } = ⟨#[112, 101, 114, 105, 111, 100]⟩ := by decide +kernel
theorem edgeM_17_3 : mayC { c0 with per := 61 } = false := by decide +kernel
set_option maxHeartbeats 2000000 in
set_option maxRecDepth 100000 in
theorem edges_17_3 (a b1 : Int) (ha : IntKind.u64.wrap a % 22 = 17) (hb : IntKind.u64.wrap b1 % 4 = 3) (w : World) : Calls Try.prog 9 #[.int .i64 a, .int .i64 b1] w fun e w' => e = .returned (.bool true) ∧ Gr w w' := by
  have a0 := u64_nonneg a
  have b0 := u64_nonneg b1
  go_enter Try.func9, Try.ntmps9
  go_upto_region 1 with (fail)
  refine wp_region_lit ?_
  refine wpList_val (.slice (some ⟨w.heap.size, 0, none⟩) 22 22) (w.alloc (.cells namesA 9)) rfl (by kernel_rfl) ?_
  have g1 : Gr w (w.alloc (.cells namesA 9)) := (Gr.refl w).alloc _
  have n1 : (w.alloc (.cells namesA 9)).cell? ⟨w.heap.size, 17, none⟩ = some (.string ⟨#[112, 101, 114, 105, 111, 100]⟩) := cell_in (heap_new rfl) rfl
  generalize w.alloc (.cells namesA 9) = x1 at *
  generalize w.heap.size = bn at *
  go_upto_region 2 with (fail)
  refine wp_region_lit ?_
  refine wpList_val (.slice (some ⟨x1.heap.size, 0, none⟩) 22 22) (x1.alloc (.cells leastA 2)) rfl (by kernel_rfl) ?_
  have g2 : Gr x1 (x1.alloc (.cells leastA 2)) := (Gr.refl x1).alloc _
  have n2 : (x1.alloc (.cells leastA 2)).cell? ⟨x1.heap.size, 17, none⟩ = some (.int .i64 1) := cell_in (heap_new rfl) rfl
  generalize x1.alloc (.cells leastA 2) = x2 at *
  generalize x1.heap.size = bl at *
  go_upto_region 3 with (fail)
  refine wp_region_lit ?_
  refine wpList_val (.slice (some ⟨x2.heap.size, 0, none⟩) 22 22) (x2.alloc (.cells mostA 2)) rfl (by kernel_rfl) ?_
  have g3 : Gr x2 (x2.alloc (.cells mostA 2)) := (Gr.refl x2).alloc _
  have n3 : (x2.alloc (.cells mostA 2)).cell? ⟨x2.heap.size, 17, none⟩ = some (.int .i64 60) := cell_in (heap_new rfl) rfl
  generalize x2.alloc (.cells mostA 2) = x3 at *
  generalize x2.heap.size = bm at *
  replace n1 := g3.cell_some (g2.cell_some n1)
  replace n2 := g3.cell_some n2
  replace g1 := (g1.trans g2).trans g3
  clear g2 g3
  go_upto_region 4 with (fail)
  refine wp_region_lit ?_
  refine wpList_enter 38 #[] _ rfl (by kernel_rfl) (default_any x3) fun w1 hg => ?_
  refine wpList_val (.pointer (some ⟨w1.heap.size, 0, none⟩)) (w1.alloc (.cells zero36 36)) rfl (xalloc36 ..) ?_
  refine wpList_skip' (w1.alloc (.cells #[.int .i64 dflt.n, .int .i64 dflt.f, .int .i64 dflt.m, .int .i64 dflt.q, .int .i64 dflt.fresh, .int .i64 dflt.grace, .int .i64 dflt.window, .int .i64 dflt.t0, .int .i64 dflt.t1, .int .i64 dflt.t2, .int .i64 dflt.t3, .int .i64 dflt.tol, .int .i64 dflt.lo, .int .i64 dflt.hi, .int .i64 dflt.cup, .int .i64 dflt.cdn, .int .i64 dflt.pup, .int .i64 dflt.tup, .int .i64 dflt.pdn, .int .i64 dflt.tdn, .int .i64 dflt.per, .int .i64 dflt.far, .int .i64 dflt.str, .int .i64 dflt.pro, .int .i64 dflt.sec, .int .u64 dflt.seed] 36)) rfl (xstore36_at rfl (by kernel_rfl) (by kernel_rfl) rfl rfl (by kernel_rfl)) ?_
  have A := start_at hg dflt
  generalize w1.alloc (.cells #[.int .i64 dflt.n, .int .i64 dflt.f, .int .i64 dflt.m, .int .i64 dflt.q, .int .i64 dflt.fresh, .int .i64 dflt.grace, .int .i64 dflt.window, .int .i64 dflt.t0, .int .i64 dflt.t1, .int .i64 dflt.t2, .int .i64 dflt.t3, .int .i64 dflt.tol, .int .i64 dflt.lo, .int .i64 dflt.hi, .int .i64 dflt.cup, .int .i64 dflt.cdn, .int .i64 dflt.pup, .int .i64 dflt.tup, .int .i64 dflt.pdn, .int .i64 dflt.tdn, .int .i64 dflt.per, .int .i64 dflt.far, .int .i64 dflt.str, .int .i64 dflt.pro, .int .i64 dflt.sec, .int .u64 dflt.seed] 36) = w2 at *
  generalize w1.heap.size = b at *
  clear hg
  have hc := A.cell
  have hz := A.froz
  go_upto_region 6 with (fail)
  replace A := ((((A.set 1 (.int .i64 0) { dflt with f := 0 } rfl).set 0 (.int .i64 4) { dflt with f := 0, n := 4 } rfl).set 3 (.int .i64 1) { dflt with f := 0, n := 4, q := 1 } rfl).set 13 (.int .i64 10000) c0 rfl)
  clear hc hz
  generalize World.setCell _ ⟨b, 13, none⟩ _ = w3 at *
  have m1 := A.gr.cell_some n1
  have m2 := A.gr.cell_some n2
  have m3 := A.gr.cell_some n3
  go_upto_region 7 with (fail)
  go_region
  generalize hw4 : World.drew (World.alloc w3 _) = w4
  replace A := A.on (show Gr w3 w4 by rw [← hw4]; exact ((Gr.refl w3).alloc _).drew)
  clear hw4 m1 m2 m3
  have m1 := A.gr.cell_some n1
  have hc := A.cell
  have hz := A.froz
  go_upto_region 58 with (fail)
  replace A := A.set 20 (.int .i64 61) { c0 with per := 61 } rfl
  clear hc hz m1
  generalize World.setCell _ _ _ = w5 at *
  have hk := A.conf
  go_wp2_with (first
    | (go_at_call 39; refine (told3_any _).mono ?_; rintro e w6 ⟨rfl, hg⟩; replace A := A.on hg; clear hg hk; have hk := A.conf)
    | (go_at_call 40; refine (wrongV_any _ edgeW_17_3 _).mono ?_; rintro e w6 ⟨rfl, hg⟩; replace A := A.on hg; clear hg hk; have hk := A.conf)
    | (go_at_call 41; refine (may_true_any _ edgeM_17_3 _).mono ?_; rintro e w6 ⟨rfl, hg⟩; replace A := A.on hg; clear hg hk; have hk := A.conf))
  go_ret
  exact ⟨rfl, g1.trans A.gr⟩

theorem edgeW_18_0 : wrongV { c0 with far := 0 } = ⟨#[]⟩ := by decide +kernel
theorem edgeM_18_0 : mayC { c0 with far := 0 } = true := by decide +kernel
set_option maxHeartbeats 2000000 in
set_option maxRecDepth 100000 in
theorem edges_18_0 (a b1 : Int) (ha : IntKind.u64.wrap a % 22 = 18) (hb : IntKind.u64.wrap b1 % 4 = 0) (w : World) : Calls Try.prog 9 #[.int .i64 a, .int .i64 b1] w fun e w' => e = .returned (.bool true) ∧ Gr w w' := by
  have a0 := u64_nonneg a
  have b0 := u64_nonneg b1
  go_enter Try.func9, Try.ntmps9
  go_upto_region 1 with (fail)
  refine wp_region_lit ?_
  refine wpList_val (.slice (some ⟨w.heap.size, 0, none⟩) 22 22) (w.alloc (.cells namesA 9)) rfl (by kernel_rfl) ?_
  have g1 : Gr w (w.alloc (.cells namesA 9)) := (Gr.refl w).alloc _
  have n1 : (w.alloc (.cells namesA 9)).cell? ⟨w.heap.size, 18, none⟩ = some (.string ⟨#[102, 97, 114]⟩) := cell_in (heap_new rfl) rfl
  generalize w.alloc (.cells namesA 9) = x1 at *
  generalize w.heap.size = bn at *
  go_upto_region 2 with (fail)
  refine wp_region_lit ?_
  refine wpList_val (.slice (some ⟨x1.heap.size, 0, none⟩) 22 22) (x1.alloc (.cells leastA 2)) rfl (by kernel_rfl) ?_
  have g2 : Gr x1 (x1.alloc (.cells leastA 2)) := (Gr.refl x1).alloc _
  have n2 : (x1.alloc (.cells leastA 2)).cell? ⟨x1.heap.size, 18, none⟩ = some (.int .i64 0) := cell_in (heap_new rfl) rfl
  generalize x1.alloc (.cells leastA 2) = x2 at *
  generalize x1.heap.size = bl at *
  go_upto_region 3 with (fail)
  refine wp_region_lit ?_
  refine wpList_val (.slice (some ⟨x2.heap.size, 0, none⟩) 22 22) (x2.alloc (.cells mostA 2)) rfl (by kernel_rfl) ?_
  have g3 : Gr x2 (x2.alloc (.cells mostA 2)) := (Gr.refl x2).alloc _
  have n3 : (x2.alloc (.cells mostA 2)).cell? ⟨x2.heap.size, 18, none⟩ = some (.int .i64 1099511627776) := cell_in (heap_new rfl) rfl
  generalize x2.alloc (.cells mostA 2) = x3 at *
  generalize x2.heap.size = bm at *
  replace n1 := g3.cell_some (g2.cell_some n1)
  replace n2 := g3.cell_some n2
  replace g1 := (g1.trans g2).trans g3
  clear g2 g3
  go_upto_region 4 with (fail)
  refine wp_region_lit ?_
  refine wpList_enter 38 #[] _ rfl (by kernel_rfl) (default_any x3) fun w1 hg => ?_
  refine wpList_val (.pointer (some ⟨w1.heap.size, 0, none⟩)) (w1.alloc (.cells zero36 36)) rfl (xalloc36 ..) ?_
  refine wpList_skip' (w1.alloc (.cells #[.int .i64 dflt.n, .int .i64 dflt.f, .int .i64 dflt.m, .int .i64 dflt.q, .int .i64 dflt.fresh, .int .i64 dflt.grace, .int .i64 dflt.window, .int .i64 dflt.t0, .int .i64 dflt.t1, .int .i64 dflt.t2, .int .i64 dflt.t3, .int .i64 dflt.tol, .int .i64 dflt.lo, .int .i64 dflt.hi, .int .i64 dflt.cup, .int .i64 dflt.cdn, .int .i64 dflt.pup, .int .i64 dflt.tup, .int .i64 dflt.pdn, .int .i64 dflt.tdn, .int .i64 dflt.per, .int .i64 dflt.far, .int .i64 dflt.str, .int .i64 dflt.pro, .int .i64 dflt.sec, .int .u64 dflt.seed] 36)) rfl (xstore36_at rfl (by kernel_rfl) (by kernel_rfl) rfl rfl (by kernel_rfl)) ?_
  have A := start_at hg dflt
  generalize w1.alloc (.cells #[.int .i64 dflt.n, .int .i64 dflt.f, .int .i64 dflt.m, .int .i64 dflt.q, .int .i64 dflt.fresh, .int .i64 dflt.grace, .int .i64 dflt.window, .int .i64 dflt.t0, .int .i64 dflt.t1, .int .i64 dflt.t2, .int .i64 dflt.t3, .int .i64 dflt.tol, .int .i64 dflt.lo, .int .i64 dflt.hi, .int .i64 dflt.cup, .int .i64 dflt.cdn, .int .i64 dflt.pup, .int .i64 dflt.tup, .int .i64 dflt.pdn, .int .i64 dflt.tdn, .int .i64 dflt.per, .int .i64 dflt.far, .int .i64 dflt.str, .int .i64 dflt.pro, .int .i64 dflt.sec, .int .u64 dflt.seed] 36) = w2 at *
  generalize w1.heap.size = b at *
  clear hg
  have hc := A.cell
  have hz := A.froz
  go_upto_region 6 with (fail)
  replace A := ((((A.set 1 (.int .i64 0) { dflt with f := 0 } rfl).set 0 (.int .i64 4) { dflt with f := 0, n := 4 } rfl).set 3 (.int .i64 1) { dflt with f := 0, n := 4, q := 1 } rfl).set 13 (.int .i64 10000) c0 rfl)
  clear hc hz
  generalize World.setCell _ ⟨b, 13, none⟩ _ = w3 at *
  have m1 := A.gr.cell_some n1
  have m2 := A.gr.cell_some n2
  have m3 := A.gr.cell_some n3
  go_upto_region 7 with (fail)
  go_region
  generalize hw4 : World.drew (World.alloc w3 _) = w4
  replace A := A.on (show Gr w3 w4 by rw [← hw4]; exact ((Gr.refl w3).alloc _).drew)
  clear hw4 m1 m2 m3
  have m1 := A.gr.cell_some n1
  have hc := A.cell
  have hz := A.froz
  go_upto_region 58 with (fail)
  replace A := A.set 21 (.int .i64 0) { c0 with far := 0 } rfl
  clear hc hz m1
  generalize World.setCell _ _ _ = w5 at *
  have hk := A.conf
  go_wp2_with (first
    | (go_at_call 39; refine (told3_any _).mono ?_; rintro e w6 ⟨rfl, hg⟩; replace A := A.on hg; clear hg hk; have hk := A.conf)
    | (go_at_call 40; refine (wrongV_any _ edgeW_18_0 _).mono ?_; rintro e w6 ⟨rfl, hg⟩; replace A := A.on hg; clear hg hk; have hk := A.conf)
    | (go_at_call 41; refine (may_true_any _ edgeM_18_0 _).mono ?_; rintro e w6 ⟨rfl, hg⟩; replace A := A.on hg; clear hg hk; have hk := A.conf))
  go_ret
  exact ⟨rfl, g1.trans A.gr⟩

theorem edgeW_18_1 : wrongV { c0 with far := 1099511627776 } = ⟨#[]⟩ := by decide +kernel
theorem edgeM_18_1 : mayC { c0 with far := 1099511627776 } = true := by decide +kernel
set_option maxHeartbeats 2000000 in
set_option maxRecDepth 100000 in
theorem edges_18_1 (a b1 : Int) (ha : IntKind.u64.wrap a % 22 = 18) (hb : IntKind.u64.wrap b1 % 4 = 1) (w : World) : Calls Try.prog 9 #[.int .i64 a, .int .i64 b1] w fun e w' => e = .returned (.bool true) ∧ Gr w w' := by
  have a0 := u64_nonneg a
  have b0 := u64_nonneg b1
  go_enter Try.func9, Try.ntmps9
  go_upto_region 1 with (fail)
  refine wp_region_lit ?_
  refine wpList_val (.slice (some ⟨w.heap.size, 0, none⟩) 22 22) (w.alloc (.cells namesA 9)) rfl (by kernel_rfl) ?_
  have g1 : Gr w (w.alloc (.cells namesA 9)) := (Gr.refl w).alloc _
  have n1 : (w.alloc (.cells namesA 9)).cell? ⟨w.heap.size, 18, none⟩ = some (.string ⟨#[102, 97, 114]⟩) := cell_in (heap_new rfl) rfl
  generalize w.alloc (.cells namesA 9) = x1 at *
  generalize w.heap.size = bn at *
  go_upto_region 2 with (fail)
  refine wp_region_lit ?_
  refine wpList_val (.slice (some ⟨x1.heap.size, 0, none⟩) 22 22) (x1.alloc (.cells leastA 2)) rfl (by kernel_rfl) ?_
  have g2 : Gr x1 (x1.alloc (.cells leastA 2)) := (Gr.refl x1).alloc _
  have n2 : (x1.alloc (.cells leastA 2)).cell? ⟨x1.heap.size, 18, none⟩ = some (.int .i64 0) := cell_in (heap_new rfl) rfl
  generalize x1.alloc (.cells leastA 2) = x2 at *
  generalize x1.heap.size = bl at *
  go_upto_region 3 with (fail)
  refine wp_region_lit ?_
  refine wpList_val (.slice (some ⟨x2.heap.size, 0, none⟩) 22 22) (x2.alloc (.cells mostA 2)) rfl (by kernel_rfl) ?_
  have g3 : Gr x2 (x2.alloc (.cells mostA 2)) := (Gr.refl x2).alloc _
  have n3 : (x2.alloc (.cells mostA 2)).cell? ⟨x2.heap.size, 18, none⟩ = some (.int .i64 1099511627776) := cell_in (heap_new rfl) rfl
  generalize x2.alloc (.cells mostA 2) = x3 at *
  generalize x2.heap.size = bm at *
  replace n1 := g3.cell_some (g2.cell_some n1)
  replace n2 := g3.cell_some n2
  replace g1 := (g1.trans g2).trans g3
  clear g2 g3
  go_upto_region 4 with (fail)
  refine wp_region_lit ?_
  refine wpList_enter 38 #[] _ rfl (by kernel_rfl) (default_any x3) fun w1 hg => ?_
  refine wpList_val (.pointer (some ⟨w1.heap.size, 0, none⟩)) (w1.alloc (.cells zero36 36)) rfl (xalloc36 ..) ?_
  refine wpList_skip' (w1.alloc (.cells #[.int .i64 dflt.n, .int .i64 dflt.f, .int .i64 dflt.m, .int .i64 dflt.q, .int .i64 dflt.fresh, .int .i64 dflt.grace, .int .i64 dflt.window, .int .i64 dflt.t0, .int .i64 dflt.t1, .int .i64 dflt.t2, .int .i64 dflt.t3, .int .i64 dflt.tol, .int .i64 dflt.lo, .int .i64 dflt.hi, .int .i64 dflt.cup, .int .i64 dflt.cdn, .int .i64 dflt.pup, .int .i64 dflt.tup, .int .i64 dflt.pdn, .int .i64 dflt.tdn, .int .i64 dflt.per, .int .i64 dflt.far, .int .i64 dflt.str, .int .i64 dflt.pro, .int .i64 dflt.sec, .int .u64 dflt.seed] 36)) rfl (xstore36_at rfl (by kernel_rfl) (by kernel_rfl) rfl rfl (by kernel_rfl)) ?_
  have A := start_at hg dflt
  generalize w1.alloc (.cells #[.int .i64 dflt.n, .int .i64 dflt.f, .int .i64 dflt.m, .int .i64 dflt.q, .int .i64 dflt.fresh, .int .i64 dflt.grace, .int .i64 dflt.window, .int .i64 dflt.t0, .int .i64 dflt.t1, .int .i64 dflt.t2, .int .i64 dflt.t3, .int .i64 dflt.tol, .int .i64 dflt.lo, .int .i64 dflt.hi, .int .i64 dflt.cup, .int .i64 dflt.cdn, .int .i64 dflt.pup, .int .i64 dflt.tup, .int .i64 dflt.pdn, .int .i64 dflt.tdn, .int .i64 dflt.per, .int .i64 dflt.far, .int .i64 dflt.str, .int .i64 dflt.pro, .int .i64 dflt.sec, .int .u64 dflt.seed] 36) = w2 at *
  generalize w1.heap.size = b at *
  clear hg
  have hc := A.cell
  have hz := A.froz
  go_upto_region 6 with (fail)
  replace A := ((((A.set 1 (.int .i64 0) { dflt with f := 0 } rfl).set 0 (.int .i64 4) { dflt with f := 0, n := 4 } rfl).set 3 (.int .i64 1) { dflt with f := 0, n := 4, q := 1 } rfl).set 13 (.int .i64 10000) c0 rfl)
  clear hc hz
  generalize World.setCell _ ⟨b, 13, none⟩ _ = w3 at *
  have m1 := A.gr.cell_some n1
  have m2 := A.gr.cell_some n2
  have m3 := A.gr.cell_some n3
  go_upto_region 7 with (fail)
  go_region
  generalize hw4 : World.drew (World.alloc w3 _) = w4
  replace A := A.on (show Gr w3 w4 by rw [← hw4]; exact ((Gr.refl w3).alloc _).drew)
  clear hw4 m1 m2 m3
  have m1 := A.gr.cell_some n1
  have hc := A.cell
  have hz := A.froz
  go_upto_region 58 with (fail)
  replace A := A.set 21 (.int .i64 1099511627776) { c0 with far := 1099511627776 } rfl
  clear hc hz m1
  generalize World.setCell _ _ _ = w5 at *
  have hk := A.conf
  go_wp2_with (first
    | (go_at_call 39; refine (told3_any _).mono ?_; rintro e w6 ⟨rfl, hg⟩; replace A := A.on hg; clear hg hk; have hk := A.conf)
    | (go_at_call 40; refine (wrongV_any _ edgeW_18_1 _).mono ?_; rintro e w6 ⟨rfl, hg⟩; replace A := A.on hg; clear hg hk; have hk := A.conf)
    | (go_at_call 41; refine (may_true_any _ edgeM_18_1 _).mono ?_; rintro e w6 ⟨rfl, hg⟩; replace A := A.on hg; clear hg hk; have hk := A.conf))
  go_ret
  exact ⟨rfl, g1.trans A.gr⟩

theorem edgeW_18_2 : wrongV { c0 with far := (-1) } = ⟨#[102, 97, 114]⟩ := by decide +kernel
theorem edgeM_18_2 : mayC { c0 with far := (-1) } = false := by decide +kernel
set_option maxHeartbeats 2000000 in
set_option maxRecDepth 100000 in
theorem edges_18_2 (a b1 : Int) (ha : IntKind.u64.wrap a % 22 = 18) (hb : IntKind.u64.wrap b1 % 4 = 2) (w : World) : Calls Try.prog 9 #[.int .i64 a, .int .i64 b1] w fun e w' => e = .returned (.bool true) ∧ Gr w w' := by
  have a0 := u64_nonneg a
  have b0 := u64_nonneg b1
  go_enter Try.func9, Try.ntmps9
  go_upto_region 1 with (fail)
  refine wp_region_lit ?_
  refine wpList_val (.slice (some ⟨w.heap.size, 0, none⟩) 22 22) (w.alloc (.cells namesA 9)) rfl (by kernel_rfl) ?_
  have g1 : Gr w (w.alloc (.cells namesA 9)) := (Gr.refl w).alloc _
  have n1 : (w.alloc (.cells namesA 9)).cell? ⟨w.heap.size, 18, none⟩ = some (.string ⟨#[102, 97, 114]⟩) := cell_in (heap_new rfl) rfl
  generalize w.alloc (.cells namesA 9) = x1 at *
  generalize w.heap.size = bn at *
  go_upto_region 2 with (fail)
  refine wp_region_lit ?_
  refine wpList_val (.slice (some ⟨x1.heap.size, 0, none⟩) 22 22) (x1.alloc (.cells leastA 2)) rfl (by kernel_rfl) ?_
  have g2 : Gr x1 (x1.alloc (.cells leastA 2)) := (Gr.refl x1).alloc _
  have n2 : (x1.alloc (.cells leastA 2)).cell? ⟨x1.heap.size, 18, none⟩ = some (.int .i64 0) := cell_in (heap_new rfl) rfl
  generalize x1.alloc (.cells leastA 2) = x2 at *
  generalize x1.heap.size = bl at *
  go_upto_region 3 with (fail)
  refine wp_region_lit ?_
  refine wpList_val (.slice (some ⟨x2.heap.size, 0, none⟩) 22 22) (x2.alloc (.cells mostA 2)) rfl (by kernel_rfl) ?_
  have g3 : Gr x2 (x2.alloc (.cells mostA 2)) := (Gr.refl x2).alloc _
  have n3 : (x2.alloc (.cells mostA 2)).cell? ⟨x2.heap.size, 18, none⟩ = some (.int .i64 1099511627776) := cell_in (heap_new rfl) rfl
  generalize x2.alloc (.cells mostA 2) = x3 at *
  generalize x2.heap.size = bm at *
  replace n1 := g3.cell_some (g2.cell_some n1)
  replace n2 := g3.cell_some n2
  replace g1 := (g1.trans g2).trans g3
  clear g2 g3
  go_upto_region 4 with (fail)
  refine wp_region_lit ?_
  refine wpList_enter 38 #[] _ rfl (by kernel_rfl) (default_any x3) fun w1 hg => ?_
  refine wpList_val (.pointer (some ⟨w1.heap.size, 0, none⟩)) (w1.alloc (.cells zero36 36)) rfl (xalloc36 ..) ?_
  refine wpList_skip' (w1.alloc (.cells #[.int .i64 dflt.n, .int .i64 dflt.f, .int .i64 dflt.m, .int .i64 dflt.q, .int .i64 dflt.fresh, .int .i64 dflt.grace, .int .i64 dflt.window, .int .i64 dflt.t0, .int .i64 dflt.t1, .int .i64 dflt.t2, .int .i64 dflt.t3, .int .i64 dflt.tol, .int .i64 dflt.lo, .int .i64 dflt.hi, .int .i64 dflt.cup, .int .i64 dflt.cdn, .int .i64 dflt.pup, .int .i64 dflt.tup, .int .i64 dflt.pdn, .int .i64 dflt.tdn, .int .i64 dflt.per, .int .i64 dflt.far, .int .i64 dflt.str, .int .i64 dflt.pro, .int .i64 dflt.sec, .int .u64 dflt.seed] 36)) rfl (xstore36_at rfl (by kernel_rfl) (by kernel_rfl) rfl rfl (by kernel_rfl)) ?_
  have A := start_at hg dflt
  generalize w1.alloc (.cells #[.int .i64 dflt.n, .int .i64 dflt.f, .int .i64 dflt.m, .int .i64 dflt.q, .int .i64 dflt.fresh, .int .i64 dflt.grace, .int .i64 dflt.window, .int .i64 dflt.t0, .int .i64 dflt.t1, .int .i64 dflt.t2, .int .i64 dflt.t3, .int .i64 dflt.tol, .int .i64 dflt.lo, .int .i64 dflt.hi, .int .i64 dflt.cup, .int .i64 dflt.cdn, .int .i64 dflt.pup, .int .i64 dflt.tup, .int .i64 dflt.pdn, .int .i64 dflt.tdn, .int .i64 dflt.per, .int .i64 dflt.far, .int .i64 dflt.str, .int .i64 dflt.pro, .int .i64 dflt.sec, .int .u64 dflt.seed] 36) = w2 at *
  generalize w1.heap.size = b at *
  clear hg
  have hc := A.cell
  have hz := A.froz
  go_upto_region 6 with (fail)
  replace A := ((((A.set 1 (.int .i64 0) { dflt with f := 0 } rfl).set 0 (.int .i64 4) { dflt with f := 0, n := 4 } rfl).set 3 (.int .i64 1) { dflt with f := 0, n := 4, q := 1 } rfl).set 13 (.int .i64 10000) c0 rfl)
  clear hc hz
  generalize World.setCell _ ⟨b, 13, none⟩ _ = w3 at *
  have m1 := A.gr.cell_some n1
  have m2 := A.gr.cell_some n2
  have m3 := A.gr.cell_some n3
  go_upto_region 7 with (fail)
  go_region
  generalize hw4 : World.drew (World.alloc w3 _) = w4
  replace A := A.on (show Gr w3 w4 by rw [← hw4]; exact ((Gr.refl w3).alloc _).drew)
  clear hw4 m1 m2 m3
  have m1 := A.gr.cell_some n1
  have hc := A.cell
  have hz := A.froz
  go_upto_region 58 with (fail)
  replace A := A.set 21 (.int .i64 (-1)) { c0 with far := (-1) } rfl
  clear hc hz m1
  generalize World.setCell _ _ _ = w5 at *
  have hk := A.conf
  go_wp2_with (first
    | (go_at_call 39; refine (told3_any _).mono ?_; rintro e w6 ⟨rfl, hg⟩; replace A := A.on hg; clear hg hk; have hk := A.conf)
    | (go_at_call 40; refine (wrongV_any _ edgeW_18_2 _).mono ?_; rintro e w6 ⟨rfl, hg⟩; replace A := A.on hg; clear hg hk; have hk := A.conf)
    | (go_at_call 41; refine (may_true_any _ edgeM_18_2 _).mono ?_; rintro e w6 ⟨rfl, hg⟩; replace A := A.on hg; clear hg hk; have hk := A.conf))
  go_ret
  exact ⟨rfl, g1.trans A.gr⟩

theorem edgeW_18_3 : wrongV { c0 with far := 1099511627777 } = ⟨#[102, 97, 114]⟩ := by decide +kernel
theorem edgeM_18_3 : mayC { c0 with far := 1099511627777 } = false := by decide +kernel
set_option maxHeartbeats 2000000 in
set_option maxRecDepth 100000 in
theorem edges_18_3 (a b1 : Int) (ha : IntKind.u64.wrap a % 22 = 18) (hb : IntKind.u64.wrap b1 % 4 = 3) (w : World) : Calls Try.prog 9 #[.int .i64 a, .int .i64 b1] w fun e w' => e = .returned (.bool true) ∧ Gr w w' := by
  have a0 := u64_nonneg a
  have b0 := u64_nonneg b1
  go_enter Try.func9, Try.ntmps9
  go_upto_region 1 with (fail)
  refine wp_region_lit ?_
  refine wpList_val (.slice (some ⟨w.heap.size, 0, none⟩) 22 22) (w.alloc (.cells namesA 9)) rfl (by kernel_rfl) ?_
  have g1 : Gr w (w.alloc (.cells namesA 9)) := (Gr.refl w).alloc _
  have n1 : (w.alloc (.cells namesA 9)).cell? ⟨w.heap.size, 18, none⟩ = some (.string ⟨#[102, 97, 114]⟩) := cell_in (heap_new rfl) rfl
  generalize w.alloc (.cells namesA 9) = x1 at *
  generalize w.heap.size = bn at *
  go_upto_region 2 with (fail)
  refine wp_region_lit ?_
  refine wpList_val (.slice (some ⟨x1.heap.size, 0, none⟩) 22 22) (x1.alloc (.cells leastA 2)) rfl (by kernel_rfl) ?_
  have g2 : Gr x1 (x1.alloc (.cells leastA 2)) := (Gr.refl x1).alloc _
  have n2 : (x1.alloc (.cells leastA 2)).cell? ⟨x1.heap.size, 18, none⟩ = some (.int .i64 0) := cell_in (heap_new rfl) rfl
  generalize x1.alloc (.cells leastA 2) = x2 at *
  generalize x1.heap.size = bl at *
  go_upto_region 3 with (fail)
  refine wp_region_lit ?_
  refine wpList_val (.slice (some ⟨x2.heap.size, 0, none⟩) 22 22) (x2.alloc (.cells mostA 2)) rfl (by kernel_rfl) ?_
  have g3 : Gr x2 (x2.alloc (.cells mostA 2)) := (Gr.refl x2).alloc _
  have n3 : (x2.alloc (.cells mostA 2)).cell? ⟨x2.heap.size, 18, none⟩ = some (.int .i64 1099511627776) := cell_in (heap_new rfl) rfl
  generalize x2.alloc (.cells mostA 2) = x3 at *
  generalize x2.heap.size = bm at *
  replace n1 := g3.cell_some (g2.cell_some n1)
  replace n2 := g3.cell_some n2
  replace g1 := (g1.trans g2).trans g3
  clear g2 g3
  go_upto_region 4 with (fail)
  refine wp_region_lit ?_
  refine wpList_enter 38 #[] _ rfl (by kernel_rfl) (default_any x3) fun w1 hg => ?_
  refine wpList_val (.pointer (some ⟨w1.heap.size, 0, none⟩)) (w1.alloc (.cells zero36 36)) rfl (xalloc36 ..) ?_
  refine wpList_skip' (w1.alloc (.cells #[.int .i64 dflt.n, .int .i64 dflt.f, .int .i64 dflt.m, .int .i64 dflt.q, .int .i64 dflt.fresh, .int .i64 dflt.grace, .int .i64 dflt.window, .int .i64 dflt.t0, .int .i64 dflt.t1, .int .i64 dflt.t2, .int .i64 dflt.t3, .int .i64 dflt.tol, .int .i64 dflt.lo, .int .i64 dflt.hi, .int .i64 dflt.cup, .int .i64 dflt.cdn, .int .i64 dflt.pup, .int .i64 dflt.tup, .int .i64 dflt.pdn, .int .i64 dflt.tdn, .int .i64 dflt.per, .int .i64 dflt.far, .int .i64 dflt.str, .int .i64 dflt.pro, .int .i64 dflt.sec, .int .u64 dflt.seed] 36)) rfl (xstore36_at rfl (by kernel_rfl) (by kernel_rfl) rfl rfl (by kernel_rfl)) ?_
  have A := start_at hg dflt
  generalize w1.alloc (.cells #[.int .i64 dflt.n, .int .i64 dflt.f, .int .i64 dflt.m, .int .i64 dflt.q, .int .i64 dflt.fresh, .int .i64 dflt.grace, .int .i64 dflt.window, .int .i64 dflt.t0, .int .i64 dflt.t1, .int .i64 dflt.t2, .int .i64 dflt.t3, .int .i64 dflt.tol, .int .i64 dflt.lo, .int .i64 dflt.hi, .int .i64 dflt.cup, .int .i64 dflt.cdn, .int .i64 dflt.pup, .int .i64 dflt.tup, .int .i64 dflt.pdn, .int .i64 dflt.tdn, .int .i64 dflt.per, .int .i64 dflt.far, .int .i64 dflt.str, .int .i64 dflt.pro, .int .i64 dflt.sec, .int .u64 dflt.seed] 36) = w2 at *
  generalize w1.heap.size = b at *
  clear hg
  have hc := A.cell
  have hz := A.froz
  go_upto_region 6 with (fail)
  replace A := ((((A.set 1 (.int .i64 0) { dflt with f := 0 } rfl).set 0 (.int .i64 4) { dflt with f := 0, n := 4 } rfl).set 3 (.int .i64 1) { dflt with f := 0, n := 4, q := 1 } rfl).set 13 (.int .i64 10000) c0 rfl)
  clear hc hz
  generalize World.setCell _ ⟨b, 13, none⟩ _ = w3 at *
  have m1 := A.gr.cell_some n1
  have m2 := A.gr.cell_some n2
  have m3 := A.gr.cell_some n3
  go_upto_region 7 with (fail)
  go_region
  generalize hw4 : World.drew (World.alloc w3 _) = w4
  replace A := A.on (show Gr w3 w4 by rw [← hw4]; exact ((Gr.refl w3).alloc _).drew)
  clear hw4 m1 m2 m3
  have m1 := A.gr.cell_some n1
  have hc := A.cell
  have hz := A.froz
  go_upto_region 58 with (fail)
  replace A := A.set 21 (.int .i64 1099511627777) { c0 with far := 1099511627777 } rfl
  clear hc hz m1
  generalize World.setCell _ _ _ = w5 at *
  have hk := A.conf
  go_wp2_with (first
    | (go_at_call 39; refine (told3_any _).mono ?_; rintro e w6 ⟨rfl, hg⟩; replace A := A.on hg; clear hg hk; have hk := A.conf)
    | (go_at_call 40; refine (wrongV_any _ edgeW_18_3 _).mono ?_; rintro e w6 ⟨rfl, hg⟩; replace A := A.on hg; clear hg hk; have hk := A.conf)
    | (go_at_call 41; refine (may_true_any _ edgeM_18_3 _).mono ?_; rintro e w6 ⟨rfl, hg⟩; replace A := A.on hg; clear hg hk; have hk := A.conf))
  go_ret
  exact ⟨rfl, g1.trans A.gr⟩

end Go.Proofs.Ytjobicffdcnnlaa
