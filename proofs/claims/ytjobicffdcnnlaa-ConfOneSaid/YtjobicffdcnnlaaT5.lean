import Derived.Test.YtjobicffdcnnlaaT1
import Derived.Test.YtjobicffdcnnlaaE
import Derived.Test.YtjobicffdcnnlaaC12
import Derived.Deep.CutBlock
import Derived.Deep.DeepCutAuto
/- ConfOne. -/
namespace Go.Proofs.Ytjobicffdcnnlaa
open Go.RowKit
set_option linter.unusedSimpArgs false
set_option linter.unusedVariables false
set_option maxRecDepth 100000

def nameL : List ByteArray := [⟨#[110]⟩, ⟨#[102]⟩, ⟨#[109]⟩, ⟨#[113, 117, 111, 114, 117, 109]⟩, ⟨#[102, 114, 101, 115, 104]⟩, ⟨#[103, 114, 97, 99, 101]⟩, ⟨#[119, 105, 110, 100, 111, 119]⟩, ⟨#[116, 97, 114, 103, 101, 116]⟩, ⟨#[116, 111, 108]⟩, ⟨#[109, 105, 110]⟩, ⟨#[109, 97, 120]⟩, ⟨#[99, 97, 108, 109, 117, 112]⟩, ⟨#[99, 97, 108, 109, 100, 111, 119, 110]⟩, ⟨#[112, 111, 100, 115, 117, 112]⟩, ⟨#[112, 99, 116, 117, 112]⟩, ⟨#[112, 111, 100, 115, 100, 111, 119, 110]⟩, ⟨#[112, 99, 116, 100, 111, 119, 110]⟩, ⟨#[112, 101, 114, 105, 111, 100]⟩, ⟨#[102, 97, 114]⟩, ⟨#[115, 116, 114, 105, 107, 101, 115]⟩, ⟨#[112, 114, 111, 98, 101]⟩, ⟨#[115, 101, 99, 116, 111, 114, 115]⟩]
def nameK (k : Nat) : ByteArray := nameL.getD k ⟨#[]⟩
theorem namesA_at {k : Nat} (h : k < 22) : namesA[k]? = some (.string (nameK k)) := by
  rcases (show k = 0 ∨ k = 1 ∨ k = 2 ∨ k = 3 ∨ k = 4 ∨ k = 5 ∨ k = 6 ∨ k = 7 ∨ k = 8 ∨ k = 9 ∨ k = 10 ∨ k = 11 ∨ k = 12 ∨ k = 13 ∨ k = 14 ∨ k = 15 ∨ k = 16 ∨ k = 17 ∨ k = 18 ∨ k = 19 ∨ k = 20 ∨ k = 21 by omega) with rfl | rfl | rfl | rfl | rfl | rfl | rfl | rfl | rfl | rfl | rfl | rfl | rfl | rfl | rfl | rfl | rfl | rfl | rfl | rfl | rfl | rfl <;> rfl
theorem nameK_ne {k : Nat} (h : k < 22) : (nameK k).data.toList ≠ [] := by
  have : ∀ k, k < 22 → (nameK k).data.toList ≠ [] := by decide +kernel
  exact this k h
theorem bad_out {nm : ByteArray} {v lo hi : Int} (h : v = -1 ∨ v = 1048576) (h0 : 0 ≤ lo) (h1 : hi < 1048576) : badP ⟨nm, v, lo, hi⟩ = true := by
  rcases h with rfl | rfl
  · exact bad_lo (by show (-1 : Int) < lo; omega)
  · exact bad_hi (by show hi < 1048576; exact h1)
theorem fHi_le {c : CF} (h : Fits c) : fHi c.n ≤ 3 := by
  have := h.f0; have := h.f1; have := h.n0; have := h.n1
  unfold fHi
  rw [wrap64_id (x := c.n - 1) (by omega) (by omega), Int.tdiv_eq_ediv_of_nonneg (by omega), wrap64_id (by omega) (by omega)]
  omega

/-- What the parts ask of the value. -/
theorem one_target {c : CF} (h : Fits c) {x : Int} (hx : x < 1 ∨ 1099511627776 < x) : wrongV { c with t0 := x } = nameK 7 := by
  refine h.wrong 7 ⟨⟨#[116, 97, 114, 103, 101, 116]⟩, targetsV { c with t0 := x }, 1, 1⟩ rfl rfl ?_
  have : targetsB { c with t0 := x } = false := by
    unfold targetsB
    rw [okT_in (c := { c with t0 := x }) (x := x) (by show (0 : Int) < c.m; have := h.m0; omega)]
    rcases hx with hx | hx <;> simp <;> omega
  unfold targetsV b01
  rw [this]
  exact bad_lo (by decide)
theorem one_far {c : CF} (h : Fits c) {x : Int} (hx : x < 0 ∨ 1099511627776 < x) : wrongV { c with far := x } = nameK 18 := by
  refine h.wrong 18 ⟨⟨#[102, 97, 114]⟩, x, 0, 1099511627776⟩ rfl rfl ?_
  rcases hx with hx | hx
  · exact bad_lo hx
  · exact bad_hi hx

theorem one_0 {c : CF} (h : Fits c) {v : Int} (hv : v = -1 ∨ v = 1048576) : wrongV { c with n := v } = nameK 0 := by
  refine h.wrong 0 ⟨⟨#[110]⟩, v, 1, 16⟩ rfl rfl (bad_out hv ?_ ?_)
  · have := h.f0; have := h.lo0; have := h.clamp; omega
  · have := fHi_le h; have := h.n1; have := h.f1; omega

theorem one_1 {c : CF} (h : Fits c) {v : Int} (hv : v = -1 ∨ v = 1048576) : wrongV { c with f := v } = nameK 1 := by
  refine h.wrong 1 ⟨⟨#[102]⟩, v, 0, fHi c.n⟩ rfl rfl (bad_out hv ?_ ?_)
  · have := h.f0; have := h.lo0; have := h.clamp; omega
  · have := fHi_le h; have := h.n1; have := h.f1; omega

theorem one_2 {c : CF} (h : Fits c) {v : Int} (hv : v = -1 ∨ v = 1048576) : wrongV { c with m := v } = nameK 2 := by
  refine h.wrong 2 ⟨⟨#[109]⟩, v, 1, 4⟩ rfl rfl (bad_out hv ?_ ?_)
  · have := h.f0; have := h.lo0; have := h.clamp; omega
  · have := fHi_le h; have := h.n1; have := h.f1; omega

theorem one_3 {c : CF} (h : Fits c) {v : Int} (hv : v = -1 ∨ v = 1048576) : wrongV { c with q := v } = nameK 3 := by
  refine h.wrong 3 ⟨⟨#[113, 117, 111, 114, 117, 109]⟩, v, 2 * clampF c.f + 1, c.n⟩ rfl rfl (bad_out hv ?_ ?_)
  · have := h.f0; have := h.lo0; have := h.clamp; omega
  · have := fHi_le h; have := h.n1; have := h.f1; omega

theorem one_4 {c : CF} (h : Fits c) {v : Int} (hv : v = -1 ∨ v = 1048576) : wrongV { c with fresh := v } = nameK 4 := by
  refine h.wrong 4 ⟨⟨#[102, 114, 101, 115, 104]⟩, v, 1, 8⟩ rfl rfl (bad_out hv ?_ ?_)
  · have := h.f0; have := h.lo0; have := h.clamp; omega
  · have := fHi_le h; have := h.n1; have := h.f1; omega

theorem one_5 {c : CF} (h : Fits c) {v : Int} (hv : v = -1 ∨ v = 1048576) : wrongV { c with grace := v } = nameK 5 := by
  refine h.wrong 5 ⟨⟨#[103, 114, 97, 99, 101]⟩, v, 1, 100⟩ rfl rfl (bad_out hv ?_ ?_)
  · have := h.f0; have := h.lo0; have := h.clamp; omega
  · have := fHi_le h; have := h.n1; have := h.f1; omega

theorem one_6 {c : CF} (h : Fits c) {v : Int} (hv : v = -1 ∨ v = 1048576) : wrongV { c with window := v } = nameK 6 := by
  refine h.wrong 6 ⟨⟨#[119, 105, 110, 100, 111, 119]⟩, v, 1, 64⟩ rfl rfl (bad_out hv ?_ ?_)
  · have := h.f0; have := h.lo0; have := h.clamp; omega
  · have := fHi_le h; have := h.n1; have := h.f1; omega

theorem one_8 {c : CF} (h : Fits c) {v : Int} (hv : v = -1 ∨ v = 1048576) : wrongV { c with tol := v } = nameK 8 := by
  refine h.wrong 8 ⟨⟨#[116, 111, 108]⟩, v, 0, 1000⟩ rfl rfl (bad_out hv ?_ ?_)
  · have := h.f0; have := h.lo0; have := h.clamp; omega
  · have := fHi_le h; have := h.n1; have := h.f1; omega

theorem one_9 {c : CF} (h : Fits c) {v : Int} (hv : v = -1 ∨ v = 1048576) : wrongV { c with lo := v } = nameK 9 := by
  refine h.wrong 9 ⟨⟨#[109, 105, 110]⟩, v, 1, 10000⟩ rfl rfl (bad_out hv ?_ ?_)
  · have := h.f0; have := h.lo0; have := h.clamp; omega
  · have := fHi_le h; have := h.n1; have := h.f1; omega

theorem one_10 {c : CF} (h : Fits c) {v : Int} (hv : v = -1 ∨ v = 1048576) : wrongV { c with hi := v } = nameK 10 := by
  refine h.wrong 10 ⟨⟨#[109, 97, 120]⟩, v, c.lo, 10000⟩ rfl rfl (bad_out hv ?_ ?_)
  · have := h.f0; have := h.lo0; have := h.clamp; omega
  · have := fHi_le h; have := h.n1; have := h.f1; omega

theorem one_11 {c : CF} (h : Fits c) {v : Int} (hv : v = -1 ∨ v = 1048576) : wrongV { c with cup := v } = nameK 11 := by
  refine h.wrong 11 ⟨⟨#[99, 97, 108, 109, 117, 112]⟩, v, 0, 60⟩ rfl rfl (bad_out hv ?_ ?_)
  · have := h.f0; have := h.lo0; have := h.clamp; omega
  · have := fHi_le h; have := h.n1; have := h.f1; omega

theorem one_12 {c : CF} (h : Fits c) {v : Int} (hv : v = -1 ∨ v = 1048576) : wrongV { c with cdn := v } = nameK 12 := by
  refine h.wrong 12 ⟨⟨#[99, 97, 108, 109, 100, 111, 119, 110]⟩, v, 0, 60⟩ rfl rfl (bad_out hv ?_ ?_)
  · have := h.f0; have := h.lo0; have := h.clamp; omega
  · have := fHi_le h; have := h.n1; have := h.f1; omega

theorem one_13 {c : CF} (h : Fits c) {v : Int} (hv : v = -1 ∨ v = 1048576) : wrongV { c with pup := v } = nameK 13 := by
  refine h.wrong 13 ⟨⟨#[112, 111, 100, 115, 117, 112]⟩, v, 1, 1000⟩ rfl rfl (bad_out hv ?_ ?_)
  · have := h.f0; have := h.lo0; have := h.clamp; omega
  · have := fHi_le h; have := h.n1; have := h.f1; omega

theorem one_14 {c : CF} (h : Fits c) {v : Int} (hv : v = -1 ∨ v = 1048576) : wrongV { c with tup := v } = nameK 14 := by
  refine h.wrong 14 ⟨⟨#[112, 99, 116, 117, 112]⟩, v, 1, 1000⟩ rfl rfl (bad_out hv ?_ ?_)
  · have := h.f0; have := h.lo0; have := h.clamp; omega
  · have := fHi_le h; have := h.n1; have := h.f1; omega

theorem one_15 {c : CF} (h : Fits c) {v : Int} (hv : v = -1 ∨ v = 1048576) : wrongV { c with pdn := v } = nameK 15 := by
  refine h.wrong 15 ⟨⟨#[112, 111, 100, 115, 100, 111, 119, 110]⟩, v, 1, 1000⟩ rfl rfl (bad_out hv ?_ ?_)
  · have := h.f0; have := h.lo0; have := h.clamp; omega
  · have := fHi_le h; have := h.n1; have := h.f1; omega

theorem one_16 {c : CF} (h : Fits c) {v : Int} (hv : v = -1 ∨ v = 1048576) : wrongV { c with tdn := v } = nameK 16 := by
  refine h.wrong 16 ⟨⟨#[112, 99, 116, 100, 111, 119, 110]⟩, v, 1, 100⟩ rfl rfl (bad_out hv ?_ ?_)
  · have := h.f0; have := h.lo0; have := h.clamp; omega
  · have := fHi_le h; have := h.n1; have := h.f1; omega

theorem one_17 {c : CF} (h : Fits c) {v : Int} (hv : v = -1 ∨ v = 1048576) : wrongV { c with per := v } = nameK 17 := by
  refine h.wrong 17 ⟨⟨#[112, 101, 114, 105, 111, 100]⟩, v, 1, 60⟩ rfl rfl (bad_out hv ?_ ?_)
  · have := h.f0; have := h.lo0; have := h.clamp; omega
  · have := fHi_le h; have := h.n1; have := h.f1; omega

theorem one_19 {c : CF} (h : Fits c) {v : Int} (hv : v = -1 ∨ v = 1048576) : wrongV { c with str := v } = nameK 19 := by
  refine h.wrong 19 ⟨⟨#[115, 116, 114, 105, 107, 101, 115]⟩, v, 1, 100⟩ rfl rfl (bad_out hv ?_ ?_)
  · have := h.f0; have := h.lo0; have := h.clamp; omega
  · have := fHi_le h; have := h.n1; have := h.f1; omega

theorem one_20 {c : CF} (h : Fits c) {v : Int} (hv : v = -1 ∨ v = 1048576) : wrongV { c with pro := v } = nameK 20 := by
  refine h.wrong 20 ⟨⟨#[112, 114, 111, 98, 101]⟩, v, 1, 100⟩ rfl rfl (bad_out hv ?_ ?_)
  · have := h.f0; have := h.lo0; have := h.clamp; omega
  · have := fHi_le h; have := h.n1; have := h.f1; omega

theorem one_21 {c : CF} (h : Fits c) {v : Int} (hv : v = -1 ∨ v = 1048576) : wrongV { c with sec := v } = nameK 21 := by
  refine h.wrong 21 ⟨⟨#[115, 101, 99, 116, 111, 114, 115]⟩, v, 64, 4096⟩ rfl rfl (bad_out hv ?_ ?_)
  · have := h.f0; have := h.lo0; have := h.clamp; omega
  · have := fHi_le h; have := h.n1; have := h.f1; omega

theorem run_valw {P : Program} {m : Sem Value} {w w' : World} {v : Value} (h : m.run P w = .ok v w') : (do let x ← m; pure (Next.value x) : Sem Next).run P w = .ok (.value v) w' := by
  simp [h]
theorem names_build (w : World) : (Instr.buildSlice 41 22 #[(0, .string ⟨#[110]⟩), (1, .string ⟨#[102]⟩), (2, .string ⟨#[109]⟩), (3, .string ⟨#[113, 117, 111, 114, 117, 109]⟩), (4, .string ⟨#[102, 114, 101, 115, 104]⟩), (5, .string ⟨#[103, 114, 97, 99, 101]⟩), (6, .string ⟨#[119, 105, 110, 100, 111, 119]⟩), (7, .string ⟨#[116, 97, 114, 103, 101, 116]⟩), (8, .string ⟨#[116, 111, 108]⟩), (9, .string ⟨#[109, 105, 110]⟩), (10, .string ⟨#[109, 97, 120]⟩), (11, .string ⟨#[99, 97, 108, 109, 117, 112]⟩), (12, .string ⟨#[99, 97, 108, 109, 100, 111, 119, 110]⟩), (13, .string ⟨#[112, 111, 100, 115, 117, 112]⟩), (14, .string ⟨#[112, 99, 116, 117, 112]⟩), (15, .string ⟨#[112, 111, 100, 115, 100, 111, 119, 110]⟩), (16, .string ⟨#[112, 99, 116, 100, 111, 119, 110]⟩), (17, .string ⟨#[112, 101, 114, 105, 111, 100]⟩), (18, .string ⟨#[102, 97, 114]⟩), (19, .string ⟨#[115, 116, 114, 105, 107, 101, 115]⟩), (20, .string ⟨#[112, 114, 111, 98, 101]⟩), (21, .string ⟨#[115, 101, 99, 116, 111, 114, 115]⟩)]).run Try.prog w = .ok (.slice (some ⟨w.heap.size, 0, none⟩) 22 22) (w.alloc (.cells namesA 9)) := by kernel_rfl
set_option maxHeartbeats 4000000 in
theorem confOne_any (A0 : Option Addr) (n0 cap0 : Nat) (z0 : List Int) (a1 : Int) (b2 : Bool) (w : World) (h0 : RI w A0 n0 z0) : Calls Try.prog 11 #[.slice A0 n0 cap0, .int .i64 a1, .bool b2] w fun e w' => e = .returned (.bool true) ∧ Gr w w' := by
  have hf := fit_new A0 n0 cap0 z0 w h0
  have HF := Lib.hid hf
  clear hf h0
  have u1 := u64_nonneg a1
  obtain ⟨k, hk, k0, k1⟩ := u64_mod a1 22 (by omega)
  obtain ⟨K, rfl⟩ : ∃ K : Nat, k = (K : Int) := ⟨k.toNat, by omega⟩
  have hK : K < 22 := by omega
  go_enter Try.func11, Try.ntmps11
  go_upto_region 1 with (fail)
  refine wp_region_lit ?_
  refine wpList_val (.slice A0 n0 cap0) w rfl (by kernel_rfl) ?_
  refine wpList_new 44 #[.slice A0 n0 cap0] rfl (by kernel_rfl) HF.out fun v w1 hv => ?_
  obtain ⟨c, hc, rfl, hg⟩ := hv
  refine wpList_val (.pointer (some ⟨w1.heap.size, 0, none⟩)) (w1.alloc (.cells zero36 36)) rfl (xalloc36 ..) ?_
  refine wpList_skip' (w1.alloc (.cells #[.int .i64 c.n, .int .i64 c.f, .int .i64 c.m, .int .i64 c.q, .int .i64 c.fresh, .int .i64 c.grace, .int .i64 c.window, .int .i64 c.t0, .int .i64 c.t1, .int .i64 c.t2, .int .i64 c.t3, .int .i64 c.tol, .int .i64 c.lo, .int .i64 c.hi, .int .i64 c.cup, .int .i64 c.cdn, .int .i64 c.pup, .int .i64 c.tup, .int .i64 c.pdn, .int .i64 c.tdn, .int .i64 c.per, .int .i64 c.far, .int .i64 c.str, .int .i64 c.pro, .int .i64 c.sec, .int .u64 c.seed] 36)) rfl (xstore36_at rfl (by kernel_rfl) (by kernel_rfl) rfl rfl (by kernel_rfl)) ?_
  have A := start_at hg c
  generalize w1.alloc (.cells #[.int .i64 c.n, .int .i64 c.f, .int .i64 c.m, .int .i64 c.q, .int .i64 c.fresh, .int .i64 c.grace, .int .i64 c.window, .int .i64 c.t0, .int .i64 c.t1, .int .i64 c.t2, .int .i64 c.t3, .int .i64 c.tol, .int .i64 c.lo, .int .i64 c.hi, .int .i64 c.cup, .int .i64 c.cdn, .int .i64 c.pup, .int .i64 c.tup, .int .i64 c.pdn, .int .i64 c.tdn, .int .i64 c.per, .int .i64 c.far, .int .i64 c.str, .int .i64 c.pro, .int .i64 c.sec, .int .u64 c.seed] 36) = w2 at *
  generalize w1.heap.size = b at *
  clear hg HF
  as_aux_lemma =>
    have hkc := A.conf
    go_wp2_with fail
    refine (may_true_any c hc.may _).mono ?_
    rintro e w3 ⟨rfl, hg⟩
    replace A := A.on hg
    clear hg hkc
    go_upto_region 4 with (fail)
    refine wp_region_lit ?_
    have hbn : b ≠ w3.heap.size := by have := (Array.getElem?_eq_some_iff.1 A.box).1; omega
    refine wpList_val (.slice (some ⟨w3.heap.size, 0, none⟩) 22 22) (w3.alloc (.cells namesA 9)) rfl ?_ ?_
    · show (do let y ← Instr.buildSlice 41 22 _; pure (Next.value y) : Sem Next).run Try.prog w3 = _
      refine run_valw (Eq.trans (congrArg (fun q => (Instr.buildSlice 41 22 q).run Try.prog w3) ?_) (names_build w3))
      simp [Act.eval]
    replace A := A.on ((Gr.refl w3).alloc (.cells namesA 9))
    have hn : (w3.alloc (.cells namesA 9)).cell? ⟨w3.heap.size, K, none⟩ = some (.string (nameK K)) := cell_in (heap_new rfl) (namesA_at hK)
    have hnb : w3.heap.size < (w3.alloc (.cells namesA 9)).heap.size := by simp
    generalize w3.alloc (.cells namesA 9) = w4 at *
    generalize w3.heap.size = bn at *
    go_upto_if 23 with (fail)
    go_cut [10] (fun s10 wc => ∃ v : Int, (v = -1 ∨ v = 1048576) ∧ s10 = .int .i64 v ∧ wc = w4)
    case first =>
      cases b2
      · go_wp2
        go_meet
        case rel => exact ⟨1048576, Or.inr rfl, rfl, rfl⟩
      · go_wp2
        go_meet
        case rel => exact ⟨-1, Or.inl rfl, rfl, rfl⟩
    case rest =>
      obtain ⟨v, hv, rfl, rfl⟩ := hcut
      as_aux_lemma =>
        go_upto_block 0 with (fail)
        go_cut [] (fun wc => ∃ c' : CF, wrongV c' = nameK K ∧ At w wc b c' ∧ wc.cell? ⟨bn, K, none⟩ = some (.string (nameK K)))
        case first =>
          have hcc := A.cell
          have hz := A.froz
          have HV := Lib.hid hv
          clear hv
          have far : ∀ u : Value, ∀ off, (World.setCell _ ⟨b, off, none⟩ u).cell? ⟨bn, K, none⟩ = some (.string (nameK K)) := fun u off => (World.cell?_setCell_other _ ⟨b, off, none⟩ ⟨bn, K, none⟩ u (by intro e; simp at e <;> exact hbn e.1.symm)).trans hn
          have FAR := Lib.hid far
          clear far hn
          rcases (show K = 0 ∨ K = 1 ∨ K = 2 ∨ K = 3 ∨ K = 4 ∨ K = 5 ∨ K = 6 ∨ K = 7 ∨ K = 8 ∨ K = 9 ∨ K = 10 ∨ K = 11 ∨ K = 12 ∨ K = 13 ∨ K = 14 ∨ K = 15 ∨ K = 16 ∨ K = 17 ∨ K = 18 ∨ K = 19 ∨ K = 20 ∨ K = 21 by omega) with rfl | rfl | rfl | rfl | rfl | rfl | rfl | rfl | rfl | rfl | rfl | rfl | rfl | rfl | rfl | rfl | rfl | rfl | rfl | rfl | rfl | rfl

          · as_aux_lemma =>
            rw [show nameK 0 = ⟨#[110]⟩ from rfl]
            go_wp2
            go_meet
            case rel => exact ⟨{ c with n := v }, one_0 hc HV.out, A.set 0 (.int .i64 v) _ rfl, FAR.out _ _⟩
          · as_aux_lemma =>
            rw [show nameK 1 = ⟨#[102]⟩ from rfl]
            go_wp2
            go_meet
            case rel => exact ⟨{ c with f := v }, one_1 hc HV.out, A.set 1 (.int .i64 v) _ rfl, FAR.out _ _⟩
          · as_aux_lemma =>
            rw [show nameK 2 = ⟨#[109]⟩ from rfl]
            go_wp2
            go_meet
            case rel => exact ⟨{ c with m := v }, one_2 hc HV.out, A.set 2 (.int .i64 v) _ rfl, FAR.out _ _⟩
          · as_aux_lemma =>
            rw [show nameK 3 = ⟨#[113, 117, 111, 114, 117, 109]⟩ from rfl]
            go_wp2
            go_meet
            case rel => exact ⟨{ c with q := v }, one_3 hc HV.out, A.set 3 (.int .i64 v) _ rfl, FAR.out _ _⟩
          · as_aux_lemma =>
            rw [show nameK 4 = ⟨#[102, 114, 101, 115, 104]⟩ from rfl]
            go_wp2
            go_meet
            case rel => exact ⟨{ c with fresh := v }, one_4 hc HV.out, A.set 4 (.int .i64 v) _ rfl, FAR.out _ _⟩
          · as_aux_lemma =>
            rw [show nameK 5 = ⟨#[103, 114, 97, 99, 101]⟩ from rfl]
            go_wp2
            go_meet
            case rel => exact ⟨{ c with grace := v }, one_5 hc HV.out, A.set 5 (.int .i64 v) _ rfl, FAR.out _ _⟩
          · as_aux_lemma =>
            rw [show nameK 6 = ⟨#[119, 105, 110, 100, 111, 119]⟩ from rfl]
            go_wp2
            go_meet
            case rel => exact ⟨{ c with window := v }, one_6 hc HV.out, A.set 6 (.int .i64 v) _ rfl, FAR.out _ _⟩
          · as_aux_lemma =>
            rw [show nameK 7 = ⟨#[116, 97, 114, 103, 101, 116]⟩ from rfl]
            have hv1 : -1 ≤ v := by have := HV.out; omega
            have hv2 : v ≤ 1048576 := by have := HV.out; omega
            go_wp2
            go_meet
            case rel => exact ⟨{ c with t0 := v * 1073741824 }, one_target hc (by have := HV.out; omega), A.set 7 (.int .i64 (v * 1073741824)) _ rfl, FAR.out _ _⟩
          · as_aux_lemma =>
            rw [show nameK 8 = ⟨#[116, 111, 108]⟩ from rfl]
            go_wp2
            go_meet
            case rel => exact ⟨{ c with tol := v }, one_8 hc HV.out, A.set 11 (.int .i64 v) _ rfl, FAR.out _ _⟩
          · as_aux_lemma =>
            rw [show nameK 9 = ⟨#[109, 105, 110]⟩ from rfl]
            go_wp2
            go_meet
            case rel => exact ⟨{ c with lo := v }, one_9 hc HV.out, A.set 12 (.int .i64 v) _ rfl, FAR.out _ _⟩
          · as_aux_lemma =>
            rw [show nameK 10 = ⟨#[109, 97, 120]⟩ from rfl]
            go_wp2
            go_meet
            case rel => exact ⟨{ c with hi := v }, one_10 hc HV.out, A.set 13 (.int .i64 v) _ rfl, FAR.out _ _⟩
          · as_aux_lemma =>
            rw [show nameK 11 = ⟨#[99, 97, 108, 109, 117, 112]⟩ from rfl]
            go_wp2
            go_meet
            case rel => exact ⟨{ c with cup := v }, one_11 hc HV.out, A.set 14 (.int .i64 v) _ rfl, FAR.out _ _⟩
          · as_aux_lemma =>
            rw [show nameK 12 = ⟨#[99, 97, 108, 109, 100, 111, 119, 110]⟩ from rfl]
            go_wp2
            go_meet
            case rel => exact ⟨{ c with cdn := v }, one_12 hc HV.out, A.set 15 (.int .i64 v) _ rfl, FAR.out _ _⟩
          · as_aux_lemma =>
            rw [show nameK 13 = ⟨#[112, 111, 100, 115, 117, 112]⟩ from rfl]
            go_wp2
            go_meet
            case rel => exact ⟨{ c with pup := v }, one_13 hc HV.out, A.set 16 (.int .i64 v) _ rfl, FAR.out _ _⟩
          · as_aux_lemma =>
            rw [show nameK 14 = ⟨#[112, 99, 116, 117, 112]⟩ from rfl]
            go_wp2
            go_meet
            case rel => exact ⟨{ c with tup := v }, one_14 hc HV.out, A.set 17 (.int .i64 v) _ rfl, FAR.out _ _⟩
          · as_aux_lemma =>
            rw [show nameK 15 = ⟨#[112, 111, 100, 115, 100, 111, 119, 110]⟩ from rfl]
            go_wp2
            go_meet
            case rel => exact ⟨{ c with pdn := v }, one_15 hc HV.out, A.set 18 (.int .i64 v) _ rfl, FAR.out _ _⟩
          · as_aux_lemma =>
            rw [show nameK 16 = ⟨#[112, 99, 116, 100, 111, 119, 110]⟩ from rfl]
            go_wp2
            go_meet
            case rel => exact ⟨{ c with tdn := v }, one_16 hc HV.out, A.set 19 (.int .i64 v) _ rfl, FAR.out _ _⟩
          · as_aux_lemma =>
            rw [show nameK 17 = ⟨#[112, 101, 114, 105, 111, 100]⟩ from rfl]
            go_wp2
            go_meet
            case rel => exact ⟨{ c with per := v }, one_17 hc HV.out, A.set 20 (.int .i64 v) _ rfl, FAR.out _ _⟩
          · as_aux_lemma =>
            rw [show nameK 18 = ⟨#[102, 97, 114]⟩ from rfl]
            have hv1 : -1 ≤ v := by have := HV.out; omega
            have hv2 : v ≤ 1048576 := by have := HV.out; omega
            go_wp2
            go_meet
            case rel => exact ⟨{ c with far := v * 1073741824 }, one_far hc (by have := HV.out; omega), A.set 21 (.int .i64 (v * 1073741824)) _ rfl, FAR.out _ _⟩
          · as_aux_lemma =>
            rw [show nameK 19 = ⟨#[115, 116, 114, 105, 107, 101, 115]⟩ from rfl]
            go_wp2
            go_meet
            case rel => exact ⟨{ c with str := v }, one_19 hc HV.out, A.set 22 (.int .i64 v) _ rfl, FAR.out _ _⟩
          · as_aux_lemma =>
            rw [show nameK 20 = ⟨#[112, 114, 111, 98, 101]⟩ from rfl]
            go_wp2
            go_meet
            case rel => exact ⟨{ c with pro := v }, one_20 hc HV.out, A.set 23 (.int .i64 v) _ rfl, FAR.out _ _⟩
          · as_aux_lemma =>
            rw [show nameK 21 = ⟨#[115, 101, 99, 116, 111, 114, 115]⟩ from rfl]
            go_wp2
            go_meet
            case rel => exact ⟨{ c with sec := v }, one_21 hc HV.out, A.set 24 (.int .i64 v) _ rfl, FAR.out _ _⟩
        case rest =>
          clear A hn
          obtain ⟨c', hW, A, hn⟩ := hcut
          have hM : mayC c' = false := not_may_of_wrong hW (nameK_ne hK)
          as_aux_lemma =>
            generalize nameK K = r at *
            go_upto_region 53 with (fail)
            rename World => wz
            have hkc := fun s : Gw wz => A.confG s
            have hns : ∀ s : Gw wz, s.val.cell? ⟨bn, K, none⟩ = some (.string r) := fun s => s.gr.cell_some hn
            have HW := Lib.hid hW
            have HM := Lib.hid hM
            clear hW hM hn
            refine wp_region_quiet_gw (by kernel_rfl) (by kernel_rfl) ?_
            repeat (go_big_quiet_step (first | (go_at_call 39; exact q_gr (told3_any _)) | (go_at_call 40; exact q_gr (wrongV_any _ HW.out _)) | (go_at_call 41; exact q_gr (may_true_any _ HM.out _))))
            refine wpQuiet_nil fun s => ?_
            replace A := A.on s.gr
            clear hkc hns
            go_wp2
            go_ret
            exact ⟨rfl, A.gr⟩
theorem confOne_walk (A0 : Option Addr) (n0 cap0 : Nat) (z0 : List Int) (a1 : Int) (b2 : Bool) (W : World) (h0 : RI W A0 n0 z0) (_ : ∀ x ∈ z0, (Lit.int .i64 x).wf = true) (_ : (Lit.int .i64 a1).wf = true) :
    Calls Try.prog 11 #[.slice A0 n0 cap0, .int .i64 a1, .bool b2] W fun e w' => e = .returned (.bool true) ∧ Below W.heap.size W w' := (confOne_any A0 n0 cap0 z0 a1 b2 W h0).mono fun _ _ h => ⟨h.1, h.2.out⟩
end Go.Proofs.Ytjobicffdcnnlaa
