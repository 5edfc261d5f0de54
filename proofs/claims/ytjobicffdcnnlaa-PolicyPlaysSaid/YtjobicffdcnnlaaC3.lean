import Derived.Test.YtjobicffdcnnlaaC2
namespace Go.Proofs.Ytjobicffdcnnlaa
open Go.RowKit
set_option linter.unusedSimpArgs false
set_option linter.unusedVariables false

def badP (p : Part) : Bool := decide (p.is < p.lo) || decide (p.hi < p.is)
def wrongL : List Part → ByteArray
  | [] => ⟨#[]⟩
  | p :: r => if badP p = true then p.name else wrongL r
def wrongV (c : CF) : ByteArray := wrongL (partsL c)

theorem partCells_at : ∀ (l : List Part) (k : Nat) (p : Part), l[k]? = some p → (partCells l)[k * 4]? = some (.string p.name) ∧ (partCells l)[k * 4 + 1]? = some (.int .i64 p.is) ∧ (partCells l)[k * 4 + 2]? = some (.int .i64 p.lo) ∧ (partCells l)[k * 4 + 3]? = some (.int .i64 p.hi)
  | [], k, p, h => by simp at h
  | x :: r, 0, p, h => by
    have hx : x = p := by simpa using h
    subst hx
    exact ⟨rfl, rfl, rfl, rfl⟩
  | x :: r, k + 1, p, h => by
    have ih := partCells_at r k p (by simpa using h)
    have e : ∀ j, (partCells (x :: r))[j + 4]? = (partCells r)[j]? := fun j => rfl
    refine ⟨?_, ?_, ?_, ?_⟩
    · rw [show (k + 1) * 4 = k * 4 + 4 by omega, e]; exact ih.1
    · rw [show (k + 1) * 4 + 1 = k * 4 + 1 + 4 by omega, e]; exact ih.2.1
    · rw [show (k + 1) * 4 + 2 = k * 4 + 2 + 4 by omega, e]; exact ih.2.2.1
    · rw [show (k + 1) * 4 + 3 = k * 4 + 3 + 4 by omega, e]; exact ih.2.2.2
theorem cell_of_block {w : World} {B : Nat} {cs : List Value} {t : TypeId} {i : Nat} {v : Value} (h : w.heap[B]? = some (.cells cs.toArray t (0, 0))) (hv : cs[i]? = some v) : w.cell? ⟨B, i, none⟩ = some v := by
  unfold World.cell?
  rw [h]
  simpa using hv
theorem partsL_length (c : CF) : (partsL c).length = 22 := rfl
theorem part_at {w : World} {B : Nat} {c : CF} (h : w.heap[B]? = some (.cells (partCells (partsL c)).toArray 104 (0, 0))) {k : Nat} (hk : k < 22) :
    ∃ p, (partsL c)[k]? = some p ∧ (partsL c).drop k = p :: (partsL c).drop (k + 1) ∧ w.cell? ⟨B, k * 4, none⟩ = some (.string p.name) ∧ w.cell? ⟨B, k * 4 + 1, none⟩ = some (.int .i64 p.is) ∧ w.cell? ⟨B, k * 4 + 2, none⟩ = some (.int .i64 p.lo) ∧ w.cell? ⟨B, k * 4 + 3, none⟩ = some (.int .i64 p.hi) := by
  have hl : k < (partsL c).length := hk
  obtain ⟨h0, h1, h2, h3⟩ := partCells_at (partsL c) k _ (List.getElem?_eq_getElem hl)
  exact ⟨_, List.getElem?_eq_getElem hl, List.drop_eq_getElem_cons hl, cell_of_block h h0, cell_of_block h h1, cell_of_block h h2, cell_of_block h h3⟩

set_option maxHeartbeats 1000000 in
set_option maxRecDepth 100000 in
theorem wrong_core (c : CF) (r : ByteArray) (hr : wrongV c = r) (w : World) : Calls Try.prog 40 #[.agg #[.int .i64 c.n, .int .i64 c.f, .int .i64 c.m, .int .i64 c.q, .int .i64 c.fresh, .int .i64 c.grace, .int .i64 c.window, .int .i64 c.t0, .int .i64 c.t1, .int .i64 c.t2, .int .i64 c.t3, .int .i64 c.tol, .int .i64 c.lo, .int .i64 c.hi, .int .i64 c.cup, .int .i64 c.cdn, .int .i64 c.pup, .int .i64 c.tup, .int .i64 c.pdn, .int .i64 c.tdn, .int .i64 c.per, .int .i64 c.far, .int .i64 c.str, .int .i64 c.pro, .int .i64 c.sec, .int .u64 c.seed]] w fun e w' => e = .returned (.string r) ∧ Gr w w' := by
  have HR : Hid (wrongL ((partsL c).drop 0) = r) := by rw [List.drop_zero]; exact hr
  clear hr
  have hpa := fun w => parts_any c w
  have HP := Lib.hid hpa; clear hpa
  go_enter Try.func40, Try.ntmps40
  go_wp2_with fail
  refine (HP.out _).mono ?_
  rintro e w1 ⟨B, rfl, hB, hblk, hgr0⟩
  have hgr : Gr w w1 := ((Gr.refl w).alloc _).trans hgr0
  clear hgr0
  go_wp2_with fail
  go_loopw [8] (fun i wr => ∃ k : Nat, k ≤ 22 ∧ i = .int .i64 k ∧ Gr w1 wr ∧ Hid (wrongL ((partsL c).drop k) = r)) (fun i _ => 22 - (intOf i).toNat)
  case atStart => exact ⟨0, by omega, rfl, Gr.refl _, HR⟩
  case round =>
    obtain ⟨k, hk, rfl, hg, hw⟩ := hrel
    by_cases hlt : k < 22
    · have hblk' := hg.block hblk
      obtain ⟨p, hp, hd, c0, c1, c2, c3⟩ := part_at hblk' hlt
      have hw' := hw.out
      rw [hd] at hw'
      clear hw hd hp hblk' HP
      cases hb : badP p with
      | true =>
        have hr : r = p.name := by rw [← hw']; simp [wrongL, hb]
        clear hw'
        subst hr
        have hb' : ¬ (p.lo ≤ p.is ∧ p.is ≤ p.hi) := by unfold badP at hb; simp at hb; omega
        clear hb
        by_cases h1 : p.is < p.lo
        · go_wp2
          go_ret
          exact ⟨rfl, (hgr.trans hg).alloc _⟩
        · go_wp2
          go_ret
          exact ⟨rfl, (hgr.trans hg).alloc _⟩
      | false =>
        have hn : Hid (wrongL ((partsL c).drop (k + 1)) = r) := by rw [← hw']; simp [wrongL, hb, Hid]
        have hb1 : p.lo ≤ p.is := by unfold badP at hb; simp at hb; omega
        have hb2 : p.is ≤ p.hi := by unfold badP at hb; simp at hb; omega
        clear hw' hb
        go_wp2
        go_roundw
        case rel => exact ⟨k + 1, by omega, by go_num, hg.alloc _, hn⟩
        case measure => simp [intOf]; omega
    · have hr : r = ⟨#[]⟩ := by rw [← hw.out, List.drop_eq_nil_of_le (by rw [partsL_length]; omega)]; rfl
      clear hw HP
      subst hr
      go_wp2
      go_ret
      exact ⟨rfl, hgr.trans hg⟩
end Go.Proofs.Ytjobicffdcnnlaa
